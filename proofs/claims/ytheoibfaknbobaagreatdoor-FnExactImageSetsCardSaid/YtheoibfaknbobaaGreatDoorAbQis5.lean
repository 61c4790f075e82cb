/- Merged texts (5 of 16) of the proof that ends in Isy: Sz Sm Sl Su R. -/
import Derived.Test.YtheoibfaknbobaaGreatDoorAbQis4
import Derived.Lib.SlicesCompact
import Derived.ProofKit
import Derived.LaidMore
import Derived.OpenShut
import Derived.Lay
import Derived.Stop.Joined
set_option linter.unusedSectionVars false
set_option linter.unusedSimpArgs false
set_option linter.unusedVariables false
namespace Go.Ab
theorem bc.focus {R:List au->List au->List Id->Prop}:∀ {as1 bs:List (List au)} {S:List Id} {k:Nat},bc R as1 bs S->k<as1.length ->
  ∃ A e B A' f B' S1 T S2,as1=A++e::B/\bs=A'++f::B'/\A.length=k/\A'.length=k/\bc R A A' S1/\R e f T/\bc R B B' S2/\S=S1++(T++S2)/\(∀ i ∈ S1,i ∉ T++S2)/\∀ i ∈ T,i ∉ S2
 | [],_,_,_,_,hk=>by simp at hk
 | _::_,[],_,_,h,_=>h.elim
 | a::as1,b::bs,S,0,h,_=>by
  obtain⟨T1,T2,h1,h2,h3,h4⟩:=h;exact⟨[],a,as1,[],b,bs,[],T1,T2,rfl,rfl,rfl,rfl,rfl,h1,h2,h3,by simp,h4⟩
 | a::as1,b::bs,S,k+1,h,hk=>by
  obtain⟨T1,T2,h1,h2,rfl,h4⟩:=h;obtain⟨A,e,B,A',f,B',S1,T,S2,rfl,rfl,l1,l2,r1,r2,r3,rfl,d1,d2⟩:=bc.focus h2 (by simpa using hk);refine⟨a::A,e,B,b::A',f,B',T1++S1,T,S2,rfl,rfl,by simp[l1],by simp[l2],⟨T1,S1,h1,r1,rfl,fun i hi hm=>h4 i hi (by simp[hm])⟩,r2,r3,by simp,fun i hi hm=>?_,d2⟩;rcases List.mem_append.1 hi with hi | hi
  ·exact h4 i hi (by simp only[List.mem_append] at hm ⊢;exact .inr hm)
  ·exact d1 i hi hm
section
variable {H:az} {n:Nat} {K K1 K2:List bf} {ids:List Id} {l:List Sh} {v:au} {es:List (List au)} {q:Nat}
theorem Sep.qM {x:bf} (h:Sep H n (x::(K1++K2)) ids):Sep H n (K1++x::K2) ids:=by
 have h1:Sep H n (K1++(K2++[x])) ids:=by
  have:=Sep.swap (K1:=[x]) (K2:=K1++K2) h;simpa using this
 have h2:Sep H n (K2++x::K1) ids:=by
  have:=Sep.swap h1;simpa using this
 have h3:Sep H n ((x::K2)++K1) ids:=by
  have:=Sep.front h2;simpa using this
 exact Sep.swap h3
theorem qf:∀ {l1 l2:List Sh} {r1 r2 b1 b2:List au},r1.length=l1.length->b1.length=l1.length->fu (l1++l2) (r1++r2) (b1++b2)=fu l1 r1 b1++fu l2 r2 b2
 | [],_,[],_,[],_,_,_=>rfl
 | t::l1,l2,a::r1,r2,b::b1,b2,h1,h2=>by simp only[List.cons_append,fu,qf (l1:=l1) (by simpa using h1) (by simpa using h2)]
 | [],_,_::_,_,_,_,h,_=>by simp at h
 | [],_,_,_,_::_,_,_,h=>by simp at h
 | _::_,_,[],_,_,_,h,_=>by simp at h
 | _::_,_,_,_,[],_,_,h=>by simp at h
theorem Sep.row {bs:List au} (h:Sep H n ((.s l,v,.list true es)::K) ids) (he:es[q]?=some bs) :
  ∃ id els row W,v = .arr id es.length 0 es.length/\H id=some ⟨l.length,els⟩/\els.length=es.length/\els[q]?=some row/\row.length=l.length/\bs.length=l.length/\id ∈ W/\(∀ i ∈ ids,i ∈ W)/\id ∉ ids/\Sep H n (fu l row bs) W /\
   ∀ H1 U row' bs',Sep H1 U (fu l row' bs') W->row'.length=l.length->bs'.length=l.length->(∀ i ∈ W,i ≠ id->H1 i=H i)->H1 id=some ⟨l.length,els.set q row'⟩->n<=U->Sep H1 U ((.s l,v,.list true (es.set q bs'))::K) ids:=by
 obtain⟨h0,S,h1,h2⟩:=h;simp only[List.map_cons,Go.Ab.Row,Go.Ab.Tr] at h1;obtain⟨S1,S2,h3,h4,rfl,h5⟩:=h1;have hq:q<es.length:=(List.getElem?_eq_some_iff.1 he).1;rcases h3 with ⟨rfl,E,rfl⟩ | ⟨id,els,es',T,rfl,E,q3,q4,q5,rfl⟩
 ·injection E with _ E
  subst E;simp at hq
 ·injection E with _ E
  subst E;have hel:=q4.len;obtain⟨A,row,B,A',f,B',SA,SR,SB,rfl,rfl,lA,lA',rA,rR,rB,rfl,d1,d2⟩:=bc.focus (k:=q) q4 (by omega);have hf:f=bs:=by
   rw[List.getElem?_append_right (by omega),lA',Nat.sub_self] at he;simpa using he
  subst hf;have hrl:=rR.len;obtain⟨z1,z2,z3⟩:=mE hrl.1 hrl.2;simp only[List.mem_append,List.mem_cons,not_or] at h2 h5 q5 d1 d2;refine⟨id,A++row::B,row,ids++(id::(SA++(SB++S2))),by simp only[hel],q3,hel,by rw[List.getElem?_append_right (by omega),lA,Nat.sub_self];rfl,hrl.1,hrl.2,by simp,fun i hi=>by simp[hi],(h2 id (.inl (.inl rfl))).2,?_,?_⟩
  ·refine⟨fun i hi=>?_,SR,by rw[z1,z2,z3];exact rR,fun i hi=>⟨(h2 i (.inl (.inr (.inr (.inl hi))))).1,?_⟩⟩
   ·simp only[List.mem_append,List.mem_cons] at hi;rcases hi with hi | hi | hi | hi | hi
    ·exact h0 i hi
    ·exact (h2 i (.inl (.inl hi))).1
    ·exact (h2 i (.inl (.inr (.inl hi)))).1
    ·exact (h2 i (.inl (.inr (.inr (.inr hi))))).1
    ·exact (h2 i (.inr hi)).1
   ·simp only[List.mem_append,List.mem_cons,not_or];refine⟨(h2 i (.inl (.inr (.inr (.inl hi))))).2,?_,fun hm=>(d1 i hm).1 hi,fun hm=>d2 i hi hm,fun hm=>h5 i (.inr (.inr (.inl hi))) hm⟩;rintro rfl;exact q5.2.1 hi
  ·intro H1 U row' bs' hs lr lb hfr hid hn;obtain⟨y1,y2,y3⟩:=mE lr lb;obtain⟨k0,X,k1,k2⟩:=hs;rw[y1,y2,y3] at k1;simp only[List.mem_append,List.mem_cons,not_or] at k2 hfr;have nid:∀ i,i ∈ SA\/i ∈ SB\/i ∈ S2->i ≠ id:=by
    rintro i (hi | hi | hi) rfl
    ·exact q5.1 hi
    ·exact q5.2.2 hi
    ·exact h5 i (.inl rfl) hi
   have fr:∀ i,i ∈ SA\/i ∈ SB\/i ∈ S2->H1 i=H i:=fun i hi=>hfr i (.inr (.inr hi)) (nid i hi)
   have hrows:bc (Row H1 l) (A++row'::B) (A'++bs'::B') (SA++(X++SB)):=by
    refine bc.append (rA.mono fun e f T hr hs=>hr.frame fun i hi=>fr i (.inl (hs i hi))) ⟨X,SB,k1,rB.mono fun e f T hr hs=>hr.frame fun i hi=>fr i (.inr (.inl (hs i hi))),rfl,fun i hi hm=>(k2 i hi).2.2.2.2.1 hm⟩ (fun i hi hm=>?_);rcases List.mem_append.1 hm with hm | hm
    ·exact (k2 i hm).2.2.2.1 hi
    ·exact (d1 i hi).2 hm
   have hset:(A++row::B).set q row'=A++row'::B:=by
    rw[List.set_append_right _ _ (by omega),lA,Nat.sub_self];rfl
   have hset':(A'++f::B').set q bs'=A'++bs'::B':=by
    rw[List.set_append_right _ _ (by omega),lA',Nat.sub_self];rfl
   rw[hset] at hid;refine⟨fun i hi=>by have:=h0 i hi;omega,(id::(SA++(X++SB)))++S2,?_,fun i hi=>?_⟩
   ·simp only[List.map_cons,Go.Ab.Row,Go.Ab.Tr];refine⟨id::(SA++(X++SB)),S2,.inr ⟨id,A++row'::B,A'++bs'::B',SA++(X++SB),by simp,by rw[hset'],hid,hrows,?_,rfl⟩,h4.frame fun i hi=>fr i (.inr (.inr hi)),rfl,fun i hi hm=>?_⟩
    ·simp only[List.mem_append,not_or];exact⟨q5.1,fun hm=>(k2 id hm).2.2.1 rfl,q5.2.2⟩
    ·simp only[List.mem_cons,List.mem_append] at hi;rcases hi with rfl | hi | hi | hi
     ·exact h5 _ (.inl rfl) hm
     ·exact h5 i (.inr (.inl hi)) hm
     ·exact (k2 i hi).2.2.2.2.2 hm
     ·exact h5 i (.inr (.inr (.inr hi))) hm
   ·simp only[List.mem_cons,List.mem_append] at hi;rcases hi with (rfl | hi | hi | hi) | hi
    ·have:=h2 _ (.inl (.inl rfl));exact⟨by omega,this.2⟩
    ·have:=h2 i (.inl (.inr (.inl hi)));exact⟨by omega,this.2⟩
    ·exact⟨(k2 i hi).1,(k2 i hi).2.1⟩
    ·have:=h2 i (.inl (.inr (.inr (.inr hi))));exact⟨by omega,this.2⟩
    ·have:=h2 i (.inr hi);exact⟨by omega,this.2⟩
theorem Sep.setCell {i:TI} {lpre lpost:List Sh} {pre post:List au} {a:au} {b:Value} (h:Sep H n ((.s (lpre++.c::lpost),v,.list true es)::K) ids) (he:es[q]?=some (pre++a::post)) (hp:pre.length=lpre.length) (hi:i.size=1) (hb:Ab.aT (.v b)=true) :
  ∃ id H',v = .arr id es.length 0 es.length/\bL (some i) (.ptr id es.length q lpre.length) (some [.v b]) H=some H'/\Sep H' n ((.s (lpre++.c::lpost),v,.list true (es.set q (pre++.v b::post)))::K) ids/\∀ i ∈ ids,H' i=H i:=by
 obtain⟨id,els,row,W,h1,h2,h3,h4,h5,h6,h7,h8,h9,h10,h11⟩:=h.row he;have hq:q<es.length:=(List.getElem?_eq_some_iff.1 he).1;have db:lpre.length<row.length:=by rw[h5];simp
 have hw:Ob.write ⟨(lpre++.c::lpost).length,els⟩ q lpre.length [.v b]=⟨(lpre++.c::lpost).length,els.set q (row.take lpre.length++.v b::row.drop (lpre.length+1))⟩:=by
  simp[Ob.write,List.getD,h4,dx]
 have hrow:row=row.take lpre.length++row[lpre.length]::row.drop (lpre.length+1):=by
  rw[List.getElem_cons_drop,List.take_append_drop]
 have hl':(row.take lpre.length++.v b::row.drop (lpre.length+1)).length=(lpre++.c::lpost).length:=by
  rw[<- h5];simp;omega
 refine⟨id,H.set id (Ob.write ⟨(lpre++.c::lpost).length,els⟩ q lpre.length [.v b]),h1,?_,?_,fun j hj=>az.aJ _ _ (by rintro rfl;exact h9 hj)⟩
 ·simp only[bL,live,h2,h3,↓reduceIte];rw[if_pos ⟨by simp[hi],by omega,by simp,by simp only[List.all_cons,List.all_nil,hb,Bool.and_true]⟩]
 ·refine h11 _ n _ _ ?_ hl' (by simpa using h6) (fun j _ hj=>az.aJ _ _ hj) (by rw[hw,az.bJ]) (Nat.le_refl n);refine Sep.eG ?_ h7;rw[hrow] at h10;rw[qf (by simp;omega) hp] at h10 ⊢;simp only[fu] at h10 ⊢;have:=Sep.front h10;exact Sep.qM (Sep.BV b (Sep.right (K1:=[_]) this))
theorem Sep.FI {a:au} {b:Value} (h:Sep H n (K1++(.c,a,.v b)::K2) ids):a = .v b:=(Sep.scalar (Sep.front h)).1
theorem EC {α:Type} {l:List α} {k:Nat} {x:α} (h:l[k]?=some x):l.set k x=l:=by
 obtain⟨hk,rfl⟩:=List.getElem?_eq_some_iff.1 h;exact List.set_getElem_self hk
theorem w6 {α:Type} [Inhabited α] {f:α->List au} {xs:List α} {i:Int} {x:α} {q:Nat} (hb:0<=i/\i<xs.length) (hx:x=at' xs i) (hq:q=i.toNat):(xs.map f)[q]?=some (f x):=by
 obtain⟨hlt,hg⟩:=pg hb hx;subst hq;simp[hlt,hg]
theorem Sep.D5 {α:Type} [Inhabited α] {f:α->List au} {xs:List α} {x:α} {i:Int} (h:Sep H n ((.s l,v,.list true (xs.map f))::K) ids) (hb:0<=i/\i<xs.length) (hx:x=at' xs i) (hq:q=i.toNat) :
  ∃ id els row W,v = .arr id xs.length 0 xs.length/\H id=some ⟨l.length,els⟩/\els.length=xs.length/\els[q]?=some row/\row.length=l.length/\id ∈ W/\(∀ i ∈ ids,i ∈ W)/\id ∉ ids/\Sep H n (fu l row (f x)) W /\
   ∀ H1 U y,Sep H1 U (fu l row (f y)) W->(f y).length=l.length->(∀ i ∈ W,H1 i=H i)->n<=U->Sep H1 U ((.s l,v,.list true ((xs.set q y).map f))::K) ids:=by
 obtain⟨id,els,row,W,h1,h2,h3,h4,h5,h6,h7,h8,h9,h10,h11⟩:=h.row (w6 hb hx hq);refine⟨id,els,row,W,by simpa using h1,h2,by simpa using h3,h4,h5,h7,h8,h9,h10,fun H1 U y k1 k2 k3 k4=>?_⟩;rw[List.map_set];exact h11 H1 U row (f y) k1 h5 k2 (fun i hi _=>k3 i hi) (by rw[k3 id h7,h2,EC h4]) k4
end
section
variable {P:Program} {f':FuncId} {N:Nat} {k:List Item} {Q:au->az->Nat->Prop} {Ty:Types} {ops:Array Oper} {L:List Oper} {O:Env} {H:az} {n:Nat} {K:List bf} {ids:List Id} {l:List Sh} {o:Oper}
variable {α:Type} [Inhabited α] {id:Id} {g q off:Nat} {ix:Int} {i:TI} {b:Value} {xs:List α} {f:α->List au} {x y:α}
theorem y8 (lpre lpost:List Sh) (pre post:List au) {a:au} (h:Sep H n ((.s l,.arr id g 0 g,.list true (xs.map f))::K) ids) (hl:l=lpre++.c::lpost) (hi:i.size=1) (hb:0<=ix/\ix<xs.length) (hx:x=at' xs ix) (hq:q=ix.toNat) (hg:g=xs.length)
  (hf:f x=pre++a::post) (hy:f y=pre++.v b::post) (hp:pre.length=lpre.length) (ho:off=lpre.length) (h1:Ab.aT (.v b)=true) :
  ∃ H',bL (some i) (.ptr id g q off) (some [.v b]) H=some H'/\Sep H' n ((.s l,.arr id g 0 g,.list true ((xs.set q y).map f))::K) ids/\∀ i ∈ ids,H' i=H i:=by
 subst hl ho;obtain⟨id',H',e,h2,h3,h4⟩:=Sep.setCell (i:=i) (b:=b) h ((w6 hb hx hq).trans (congrArg some hf)) hp hi h1
 injection e with e1 e2 e3 e4
 subst e1;rw[List.length_map] at h2;subst hg;refine⟨H',h2,?_,h4⟩;rw[List.map_set,hy];exact h3
theorem ue (lpre lpost:List Sh) (pre post:List au) {a:au} (h:Sep H n ((.s l,.arr id g 0 g,.list true (xs.map f))::K) ids) (hl:l=lpre++.c::lpost) (hi:i.size=1) (hb:0<=ix/\ix<xs.length) (hx:x=at' xs ix) (hq:q=ix.toNat) (hg:g=xs.length)
  (hf:f x=pre++a::post) (hy:f y=pre++.v b::post) (hp:pre.length=lpre.length) (ho:off=lpre.length) (h1:Ab.aT (.v b)=true)
  (hc:∀ H',Sep H' n ((.s l,.arr id g 0 g,.list true ((xs.set q y).map f))::K) ids->(∀ i ∈ ids,H' i=H i)->bR P f' N k Q Ty ops L (O.put o.dst .undef) H' n) :
  jB P f' N k Q Ty ops (match bL (some i) (.ptr id g q off) (some [.v b]) H with | some H'=>some (au.undef,H',n) | none=>none) o L O H n:=by
 obtain⟨H',e,h2,h3⟩:=y8 (i:=i) (b:=b) (y:=y) lpre lpost pre post h hl hi hb hx hq hg hf hy hp ho h1;rw[e];exact (eU (v:=au.undef) (H':=H') (n':=n)).symm ▸ hc H' h2 h3
end
end Go.Ab
namespace Go.Ab
def Fx (H:az) (n:Nat):Prop:=∀ i o,H i=some o->i.1<n
def Ext (H H':az):Prop:=∀ i o,H i=some o->H' i=some o
def Dx:Op->Nat
 | .buildSlice _ len _=>if len=0 then 2 else 3
 | op=>ek op
def ownF (Ty:Types) (d:Option Nat) (op:Op) (O:Env) (H:az) (n:Nat):Option (au × az × Nat):=
 match op with
 | .buildSlice t len ps=>match kd Ty t,d with
  | .slice j,some d=>
   if len ≠ 0/\len * j.size<=16777216/\j.size ≠ 0/\j.zero.length=j.size then
    (gP (fun k=>some (k * j.size,j.size)) ((List.replicate len (j.zero.map au.v)).flatten) (ps.toList.map fun p=>(p.1,O.ev p.2))).map fun cs=>(.arr (n,d) len 0 len,H.set (n,d) ⟨j.size,chunks j.size len cs⟩,n+1)
   else none
  | _,_=>none
 | _=>none
section
variable {P:Program} {N:Nat} {Ty:Types} {O:Env} {H H':az} {n n':Nat} {d:Option Nat} {ty:TypeId} {pos:String} {af:Array Edge} {gu:Option (Nat × Bool)}
end
section
variable (P:Program) (N:Nat) (ops:Array Oper)
def StepX (o:Oper) (s s':AS):Prop:=
 (fp ops o s.1=some true/\∃ v,s'.1=s.1.put o.dst v/\(Dx o.op=0->s'.2=s.2/\∀ H n,aO P N o (loc o.op s.1) H n (tO v H n))/\(Dx o.op=1->s'.2=s.2/\∀ H n,Ext s.2.1 H->s.2.2<=n->aO P N o (loc o.op s.1) H n (tO v H n)) /\
   (Fx s.2.1 s.2.2->Fx s'.2.1 s'.2.2/\(Dx o.op=3->Ext s.2.1 s'.2.1/\s.2.2<=s'.2.2))/\aO P N o (loc o.op s.1) s.2.1 s.2.2 (tO v s'.2.1 s'.2.2)) \/
 (fp ops o s.1=some false/\s'=(s.1.put o.dst nh,s.2))
def RunX (R:AS->Prop):List Oper->AS->Prop
 | [],s=>R s
 | o::l,s=>∃ s',StepX P N ops o s s'/\RunX R l s'
end
section
variable {P:Program} {N:Nat} {ops:Array Oper}
end
section
variable {P:Program} {f:FuncId} {N:Nat} {k:List Item} {O:Env} {H:az} {n:Nat} {Q:au->az->Nat->Prop}
end
def stepM (Ty:Types) (ai:List Nat) (d:Option Nat) (op:Op) (O:Env) (H:az) (n:Nat):Option (au × az × Nat):=
 match d with
 | some t=>if ai.contains t then ownF Ty d op O H n else a6 Ty d op O H n
 | none=>a6 Ty d op O H n
section
variable (P:Program) (f:FuncId) (N:Nat) (k:List Item) (Q:au->az->Nat->Prop) (Ty:Types) (ai:List Nat) (ops:Array Oper)
def RunXK (l:List Oper) (O:Env) (H:az) (n:Nat):Prop:=RunX P N ops (fun s=>J P f N k s.1 s.2.1 s.2.2 Q) l (O,H,n)
mutual
def evalM:List Oper->Env->az->Nat->Prop
 | [],O,H,n=>J P f N k O H n Q
 | o::l,O,H,n=>o.guard=none/\bindM (stepM Ty ai o.dst o.op O H n) o l O H n
 termination_by l=>(l.length,0)
def bindM:Option (au × az × Nat)->Oper->List Oper->Env->az->Nat->Prop
 | some (v,H',n'),o,l,O,_,_=>evalM l (O.put o.dst v) H' n'
 | none,o,l,O,H,n=>RunXK P f N k Q ops (o::l) O H n
 termination_by _ _ l=>(l.length,1)
end
end
section
variable {P:Program} {f:FuncId} {N:Nat} {k:List Item} {Q:au->az->Nat->Prop} {Ty:Types} {ai:List Nat} {ops:Array Oper} {o:Oper} {L:List Oper} {O:Env} {H:az} {n:Nat}
end
section
variable {P:Program} {f f':FuncId} {N:Nat} {k:List Item} {Q:au->az->Nat->Prop} {Ty:Types} {ai:List Nat} {ops:Array Oper} {L:List Oper} {O:Env} {H H':az} {n n':Nat} {K K1 K2:List bf} {ids:List Id} {t:TypeId} {j:TI} {l:List Sh} {v:au} {es:List (List au)} {o:Oper}
end
end Go.Ab
namespace Go.Ab
open Go.Proofs Go.RowKit
def xB (P:Program) (f:FuncId) (args:au->List au) (h:Sh) (e:au) (h':Sh) (R:au->Prop):Prop:=
 ∀ (H:az) (n:Nat) (v:au) (K:List bf) (ids:List Id),Sep H n ((h,v,e)::K) ids->bl P f (args v) H n fun r H1 U=>∃ e',R e'/\Sep H1 U ((h',r,e')::K) ids/\(∀ i ∈ ids,H1 i=H i)/\n<=U
section
variable {P:Program} {f:FuncId} {N:Nat} {k:List Item} {Q:au->az->Nat->Prop} {Ty:Types} {l:List Oper} {O:Env} {H:az} {n:Nat} {K:List bf} {ids:List Id}
theorem bE.callT' (hT:aX P Ty) {d:Option Tmp} {g:Operand} {args:Array Operand} {ats:Array TypeId} {ty:TypeId} {pos:String} {af:Array Edge} {R:au->Prop} {f':FuncId} {ops:List Oper} {sh sh':Sh} {argf:au->List au} {v e:au}
  (h:xB P f' argf sh e sh' R) (cK:aW P f') (hs:Sep H n ((sh,v,e)::K) ids)
  (hN:ops.all (fun o=>dM N o.dst)=true) (hl:(⟨d,.call ⟨.value g,args,ats⟩,ty,pos,af,none⟩::l:List Oper).all (fun o=>dM N o.dst)=true) (hg:O.ev g = .fn (.func f') [] []) (has:args.toList.map O.ev=argf v)
  (hk:∀ r H1 U e',R e'->Sep H1 U ((sh',r,e')::K) ids->n<=U->(∀ i ∈ ids,H1 i=H i)->bR P f N k Q Ty ops.toArray l (O.put d r) H1 U) :
  bE P f N k Q ops.toArray (⟨d,.call ⟨.value g,args,ats⟩,ty,pos,af,none⟩::l) O H n:=
 bE.op hT hN hl rfl (aO.call (post:=fun r H1 U=>∃ e',R e'/\Sep H1 U ((sh',r,e')::K) ids/\(∀ i ∈ ids,H1 i=H i)/\n<=U) hg cK (by rw[has,List.nil_append,List.append_nil];exact h H n v K ids hs)) fun r H' n' ⟨e',h1,h2,h3,h4⟩=>hk r H' n' e' h1 h2 h4 h3
end
theorem Fj {c:Ctx} (g:Good c) {id:Id} {o:Ob} (ho:c.H id=some o) (m d:Nat) (hm:m<=o.els.length) :
  let c':Ctx:={ c with H:=fun j=>if j=(c.n,d) then some ⟨o.size,o.els.take m⟩ else if j=id then none else c.H j,β:=fun j=>if j=(c.n,d) then c.β id else c.β j,n:=c.n+1 }
  bh c c'/\Good c':=by
 intro c';have hne:∀ j o',c.H j=some o'->j ≠ (c.n,d):=fun j o' h he=>by have:=g.stamp j o' h;rw[he] at this;simp at this
 have hH:∀ j o',c'.H j=some o'->(j=(c.n,d)/\o'=⟨o.size,o.els.take m⟩)\/(j ≠ (c.n,d)/\j ≠ id/\c.H j=some o'):=fun j o' h=>by
  simp only[c'] at h
  split at h
  ·rename_i hj;cases h;exact .inl ⟨hj,rfl⟩
  ·split at h
   ·cases h
   ·exact .inr ⟨by assumption,by assumption,h⟩
 have hβ:∀ j,j ≠ (c.n,d)->c'.β j=c.β j:=fun j hj=>by simp only[c',if_neg hj]
 have hβ0:c'.β (c.n,d)=c.β id:=by simp[c']
 have hk:bh c c':=by
  refine⟨Nat.le_succ _,rfl,Nat.le_refl _,rfl,rfl,rfl,fun k _ hmu=>⟨rfl,?_⟩,fun j o' hj hn=>?_⟩
  ·rintro⟨j,o',hj,hb⟩;rcases hH j o' hj with ⟨rfl,_⟩ | ⟨h1,_,h3⟩
   ·rw[hβ0] at hb;exact hmu ⟨id,o,ho,hb⟩
   ·rw[hβ j h1] at hb;exact hmu ⟨j,o',h3,hb⟩
  ·rcases hH j o' hj with ⟨rfl,_⟩ | ⟨h1,_,h3⟩
   ·simp at hn
   ·exact⟨o',h3,rfl,Nat.le_refl _,fun _=>⟨hβ j h1,fun cl el fz h=>⟨cl,el,fz,h,Nat.le_refl _⟩⟩⟩
 refine⟨hk,⟨fun j o' hj=>?_,fun j j' o1 o2 h1 h2 hb=>?_,g.Bsize,fun j o' hj=>?_⟩⟩
 ·rcases hH j o' hj with ⟨rfl,_⟩ | ⟨_,_,h3⟩
  ·exact Nat.lt_succ_self _
  ·have:=g.stamp j o' h3;show j.1<c.n+1;omega
 ·rcases hH j o1 h1 with ⟨rfl,_⟩ | ⟨a1,a2,a3⟩<;>rcases hH j' o2 h2 with ⟨rfl,_⟩ | ⟨b1,b2,b3⟩
  ·rfl
  ·rw[hβ0,hβ j' b1] at hb;exact absurd (g.inj _ _ _ _ ho b3 hb).symm b2
  ·rw[hβ0,hβ j a1] at hb;exact absurd (g.inj _ _ _ _ a3 ho hb) a2
  ·rw[hβ j a1,hβ j' b1] at hb;exact g.inj _ _ _ _ a3 b3 hb
 ·rcases hH j o' hj with ⟨rfl,rfl⟩ | ⟨a1,a2,a3⟩
  ·obtain⟨p1,cl,el,p2,p3,p4⟩:=g.obj id o ho;rw[hβ0];refine⟨p1,cl,el,p2,?_,fun i e he=>?_⟩
   ·have:(o.els.take m).length<=o.els.length:=by simp;omega
    exact Nat.le_trans (Nat.mul_le_mul_right _ this) p3
   ·have he':o.els[i]?=some e:=by
     simp only[List.getElem?_take] at he
     split at he
     ·exact he
     ·cases he
    exact⟨(p4 i e he').1,fun j a ha=>let ⟨x,hx,hr⟩:=(p4 i e he').2 j a ha;⟨x,hx,hr.keeps hk⟩⟩
  ·obtain⟨p1,cl,el,p2,p3,p4⟩:=g.obj j o' a3;rw[hβ j a1];exact⟨p1,cl,el,p2,p3,fun i e he=>⟨(p4 i e he).1,fun q a ha=>let ⟨x,hx,hr⟩:=(p4 i e he).2 q a ha;⟨x,hx,hr.keeps hk⟩⟩⟩
end Go.Ab
namespace Go.Ab
section
variable (P:Program) (N:Nat) (ops:Array Oper) (W:List Id)
end
section
variable {P:Program} {N:Nat} {ops:Array Oper} {W:List Id}
end
section
variable {P:Program} {f:FuncId} {N:Nat} {k:List Item} {O:Env} {H:az} {n:Nat} {Q:au->az->Nat->Prop}
end
section
variable (P:Program) (f:FuncId) (N:Nat) (k:List Item) (Q:au->az->Nat->Prop) (Ty:Types) (W:List Id) (ops:Array Oper)
end
section
variable {P:Program} {f:FuncId} {N:Nat} {k:List Item} {Q:au->az->Nat->Prop} {Ty:Types} {W:List Id} {ops:Array Oper} {o:Oper} {L:List Oper} {O:Env} {H:az} {n:Nat}
section
variable {H2:az} (hw:∀ i ∈ W,H2 i=H i)
include hw
end
end
section
variable {P:Program} {f f':FuncId} {N:Nat} {k:List Item} {Q:au->az->Nat->Prop} {Ty:Types} {W:List Id} {L:List Oper} {O:Env} {H:az} {n:Nat} {K K1 K2:List bf} {ids:List Id} {t:TypeId} {j:TI} {l:List Sh} {v:au} {es:List (List au)} {o:Oper}
end
end Go.Ab
namespace Go.Ab
open Go.RowKit Go.ChangeAt Go.WideShapes Go.ChangeShapes
def pr (w:World) (as1:List au) (cs:List Value):Prop:=
 as1.length=cs.length/\∀ (c:Ctx),c.w=w->(∀ id,c.H id=none)->∀ (j:Nat) (a:au) (x:Value),as1[j]?=some a->cs[j]?=some x->bF c a x
def Reader (P:Program) (t:TypeId) {α:Type} (e:α->List au) (ok:α->Prop):Prop:=
 ∀ (H:Type) (enc:TypeId × Value->H) (w:World) (base:Nat) (spare:Nat->Bool) (held:Bool) (fuel:Nat) (cs:List Value) (x:DataW H × List MemPlace),DataW.trod enc P w base spare held fuel t cs=some x->∃ a,ok a/\pr w (e a) cs
section
variable {P:Program} {t:TypeId}
theorem pr.v (w:World) (x:Value):pr w [.v x] [x]:=⟨rfl,fun _ _ _ j a y ha hy=>by
 match j with
 | 0=>simp at ha hy;subst ha hy;exact .v _
 | j+1=>simp at ha⟩
theorem Reader.int (hu:P.underlying t=some (.int .i64)):Reader P t (fun n:Int=>[int n]) (fun n => -9223372036854775808<=n/\n<=9223372036854775807):=by
 intro H enc w base spare held fuel cs x h;obtain⟨n,rfl,_,hw⟩:=DataW.trod_int hu h;refine⟨n,?_,pr.v w _⟩;simp[Lit.wf] at hw;have h1:IntKind.i64.min = -9223372036854775808:=by decide
 have h2:IntKind.i64.max=9223372036854775807:=by decide
 omega
theorem Reader.str (hu:P.underlying t=some .string):Reader P t (fun s:cB=>[Ab.str s]) (fun s=>s.length<=9223372036854775807):=by
 intro H enc w base spare held fuel cs x h;obtain⟨s,rfl,_,hs⟩:=DataW.trod_string hu h;have hm:maxLen=9223372036854775807:=by decide
 refine⟨s.data.toList,?_,?_⟩
 ·have:s.data.toList.length=s.size:=rfl;omega
 exact pr.v w (.string s)
theorem Reader.map {α β:Type} {e:α->List au} {ok:α->Prop} {e':β->List au} {ok':β->Prop} (h:Reader P t e ok) (f:α->β) (he:∀ a,e' (f a)=e a) (hok:∀ a,ok a->ok' (f a)):Reader P t e' ok':=by
 intro H enc w base spare held fuel cs x hx;obtain⟨a,h1,h2⟩:=h H enc w base spare held fuel cs x hx;exact⟨f a,hok a h1,by rw[he];exact h2⟩
def b4 (P:Program) (fs:List Field) (off total:Nat) {α:Type} (e:α->List au) (ok:α->Prop):Prop:=
 ∀ (H:Type) (enc:TypeId × Value->H) (w:World) (base:Nat) (spare:Nat->Bool) (held:Bool) (fuel:Nat) (cs:List Value),cs.length=total->(∀ f ∈ fs,∃ x,DataW.trod enc P w base spare held fuel f.type ((cs.drop f.offset).take (P.cellsOf f.type))=some x)->∃ a,ok a/\pr w (e a) (cs.drop off)
theorem b4.nil (n:Nat):b4 P [] n n (fun _:Unit=>[]) (fun _=>True):=by
 intro H enc w base spare held fuel cs hl _;refine⟨(),trivial,?_⟩;rw[List.drop_of_length_le (by omega)];exact⟨rfl,fun _ _ _ j a x ha=>by simp at ha⟩
theorem pr.append {w:World} {as1 bs:List au} {cs ds:List Value} (h:pr w as1 cs) (k:pr w bs ds):pr w (as1++bs) (cs++ds):=by
 refine⟨by simp[h.1,k.1],fun c hw hH j a x ha hx=>?_⟩;rcases Nat.lt_or_ge j as1.length with hj | hj
 ·rw[List.getElem?_append_left hj] at ha;rw[List.getElem?_append_left (by rw[<- h.1];exact hj)] at hx;exact h.2 c hw hH j a x ha hx
 ·rw[List.getElem?_append_right hj] at ha;rw[List.getElem?_append_right (by rw[<- h.1];exact hj),<- h.1] at hx;exact k.2 c hw hH _ a x ha hx
theorem b4.cons {f:Field} {fs:List Field} {off n total:Nat} {α β:Type} {e:α->List au} {ok:α->Prop} {e':β->List au} {ok':β->Prop} (ho:f.offset=off) (hn:P.cellsOf f.type=n) (h:Reader P f.type e ok) (k:b4 P fs (off+n) total e' ok') :
  b4 P (f::fs) off total (fun p:α × β=>e p.1++e' p.2) (fun p=>ok p.1/\ok' p.2):=by
 intro H enc w base spare held fuel cs hl hx;obtain⟨x,h1⟩:=hx f (by simp);obtain⟨a,ha,hra⟩:=h H enc w base spare held fuel _ x h1;obtain⟨b,hb,hrb⟩:=k H enc w base spare held fuel cs hl (fun g hg=>hx g (by simp[hg]));refine⟨(a,b),⟨ha,hb⟩,?_⟩;have:=pr.append hra hrb;rw[ho,hn,<- List.drop_drop,List.take_append_drop] at this;exact this
theorem Reader.struct {fs:Array Field} {α:Type} {e:α->List au} {ok:α->Prop} {n:Nat} (hu:P.underlying t=some (.struct fs)) (hn:P.cellsOf t=n) (h:b4 P fs.toList 0 n e ok):Reader P t e ok:=by
 intro H enc w base spare held fuel cs x hx;obtain⟨xs,m,_,_,hl,hxl,hf⟩:=DataW.trod_struct hu hx;obtain⟨a,ha,hr⟩:=h H enc w base spare held m cs (hl.trans hn) (fun f hm=>by
  obtain⟨i,hi⟩:=List.getElem?_of_mem hm;have hlt:i<xs.length:=by rw[hxl];simpa using (List.getElem?_eq_some_iff.1 hi).1
  exact⟨xs[i],by rw[hf i f (by simpa using hi)];exact List.getElem?_eq_getElem hlt⟩)
 exact⟨a,ha,hr⟩
theorem pX {α:Type} {Q:Nat->α->Prop}:∀ n,(∀ i,i<n->∃ a,Q i a)->∃ l:List α,l.length=n/\∀ i a,l[i]?=some a->Q i a
 | 0,_=>⟨[],rfl,by simp⟩
 | n+1,h=>by
  obtain⟨l,hl,hq⟩:=pX n fun i hi=>h i (by omega)
  obtain⟨a,ha⟩:=h n (by omega);refine⟨l++[a],by simp[hl],fun i b hb=>?_⟩;rcases Nat.lt_or_ge i n with hi | hi
  ·rw[List.getElem?_append_left (by omega)] at hb;exact hq i b hb
  ·rw[List.getElem?_append_right (by omega)] at hb;have:i - l.length=0:=by
    rcases Nat.eq_zero_or_pos (i - l.length) with h | h
    ·exact h
    ·rw[List.getElem?_eq_none (by simp;omega)] at hb;cases hb
   rw[this] at hb;simp at hb;subst hb;rw[show i=n by omega];exact ha
theorem Ck {w:World} {base n:Nat} {a:Addr} {cs:List Value} (h:w.cells? base a n=some cs):cs.length=n/\∀ (j:Nat) x,cs[j]?=some x->w.cell? (a.add j)=some x:=by
 unfold World.cells? at h
 split at h
 ·have hl:=mapM_some_length h;simp at hl;refine⟨hl,fun j x hx=>?_⟩;have hj:j<n:=by rw[<- hl];exact (List.getElem?_eq_some_iff.1 hx).1
  rw[mapM_some_get h j j (by simp[hj]),hx]
 ·cases h
theorem Reader.slice {t':TypeId} {α:Type} {e:α->List au} {ok:α->Prop} (hu:P.underlying t=some (.slice t')) (hpos:0<P.cellsOf t') (h:Reader P t' e ok) :
  Reader P t (fun l:List α=>[.list false (l.map e)]) (fun l=>l.length<=9223372036854775807/\∀ a ∈ l,ok a):=by
 intro H enc w base spare held fuel cs x hx;rcases DataW.trod_slice hu hx with ⟨rfl,_⟩ | ⟨a,len,cap,elems,rest,n,_,rfl,_,_,hlc,hcm,hel,hat,_,_⟩
 ·refine⟨[],⟨by simp,by simp⟩,rfl,fun c hw hH j y z hy hz=>?_⟩
  match j with
  | 0=>simp at hy hz;subst hy hz;exact .lnil false
  | j+1=>simp at hy
 ·have bu:∀ i,i<len->∃ b,ok b/\∃ ci,w.cells? base (a.add (i * P.cellsOf t')) (P.cellsOf t')=some ci/\pr w (e b) ci:=by
   intro i hi;have:=hat i hi;rw[List.getElem?_eq_getElem (by omega)] at this;cases hc:w.cells? base (a.add (i * P.cellsOf t')) (P.cellsOf t') with
   | none=>rw[hc] at this;cases this
   | some ci=>
    rw[hc] at this;obtain⟨b,hb,hr⟩:=h H enc w base spare held n ci _ this;exact⟨b,hb,ci,rfl,hr⟩
  obtain⟨l,hl,hq⟩:=pX len bu;have hm:maxLen=9223372036854775807:=by decide
  have hl9:l.length<=9223372036854775807:=by omega
  refine⟨l,⟨hl9,fun b hb=>?_⟩,rfl,fun c hw hH j y z hy hz=>?_⟩
  ·obtain⟨i,hi⟩:=List.getElem?_of_mem hb;exact (hq i b hi).1
  match j with
  | j+1=>simp at hy
  | 0=>
  simp at hy hz;subst hy hz;have hcell:∀ (i:Nat) b,l[i]?=some b->∃ ci,pr w (e b) ci/\ci.length=P.cellsOf t'/\∀ (q:Nat) x,ci[q]?=some x->w.cell? ((a.add (i * P.cellsOf t')).add q)=some x:=by
   intro i b hb;obtain⟨_,ci,h1,h2⟩:=hq i b hb;obtain⟨h3,h4⟩:=Ck h1;exact⟨ci,h2,h3,h4⟩
  have hfirst:l ≠ []->a.spot=none/\a.block<w.heap.size:=by
   intro hne;obtain⟨b,hb⟩:∃ b,l[0]?=some b:=a8 (List.length_pos_iff.2 hne);obtain⟨ci,_,h3,h4⟩:=hcell 0 b hb;obtain⟨x,hx⟩:∃ x,ci[0]?=some x:=a8 (by omega);have:=h4 0 x hx
   constructor
   ·simpa[Addr.add] using World.cell?_spot this
   ·have h5:=this;unfold World.cell? at h5;rcases Nat.lt_or_ge a.block w.heap.size with hlt | hge
    ·exact hlt
    ·have:w.heap[a.block]?=none:=Array.getElem?_eq_none hge;simp[Addr.add,this] at h5
  have key:∀ (i:Nat) (b:α) (q:Nat) (y:au),l[i]?=some b->(e b)[q]?=some y->∃ x,w.cell? ⟨a.block,a.off+(i * P.cellsOf t'+q),none⟩=some x/\bF c y x:=by
   intro i b q y hb hy;obtain⟨ci,hr,h3,h4⟩:=hcell i b hb;have hql:q<ci.length:=by rw[<- hr.1];exact (List.getElem?_eq_some_iff.1 hy).1
   obtain⟨x,hx⟩:=a8 hql;refine⟨x,?_,hr.2 c hw hH q y x hy hx⟩;have h5:=h4 q x hx;have hsp:=(hfirst (by intro h0;subst h0;simp at hb)).1;obtain⟨b0,o0,s0⟩:=a;simp only at hsp;subst hsp;simp only[Addr.add_lit] at h5;rw[<- Nat.add_assoc];exact h5
  have:=bF.list (c:=c) false (l.map e) a cap (P.cellsOf t') (fun i q=>(w.cell? ⟨a.block,a.off+(i * P.cellsOf t'+q),none⟩).getD Go.undef) (fun hne=>(hfirst (by intro h0;subst h0;simp at hne)).1) (by simp;omega)
   (fun hne=>⟨EG hH _,by rw[hw];exact (hfirst (by intro h0;subst h0;simp at hne)).2,fun h=>by cases h⟩)
   (fun i el he=>by
    obtain⟨b,hb,rfl⟩:=bt he;obtain⟨ci,hr,h3,_⟩:=hcell i b hb;rw[hr.1,h3])
   (fun i el q y he hy=>by
    obtain⟨b,hb,rfl⟩:=bt he;obtain⟨x,hx,_⟩:=key i b q y hb hy;rw[hw,hx]
    rfl)
   (fun i el q y he hy=>by
    obtain⟨b,hb,rfl⟩:=bt he;obtain⟨x,hx,hr⟩:=key i b q y hb hy;rw[hx];exact hr)
  rw[List.length_map,hl] at this;exact this
def uY (P:Program) (t:TypeId) {α:Type} (e:α->au) (ok:α->Prop):Prop:=
 ∀ (H:Type) (enc:TypeId × Value->H) (W:World) (base:Nat) (v:Value) (d:DataW H) (p:List MemPlace),Value.okWide P W .any base t v->DataW.Trod enc P W 0 (fun _=>true) true t v d p ->
  ∃ a,ok a/\∀ c:Ctx,c.w=W->(∀ id,c.H id=none)->bF c (e a) v
theorem uY.struct {fs:Array Field} {α:Type} {e:α->List au} {ok:α->Prop} (hu:P.underlying t=some (.struct fs)) (h:Reader P t e ok):uY P t (fun a=>.agg (e a)) ok:=by
 intro H enc W base v d p hv ⟨fuel,hd⟩;obtain⟨a,ha,hl,hr⟩:=h H enc W 0 _ true fuel _ _ hd;refine⟨a,ha,fun c hw hH=>?_⟩;simp only[Value.okWide,hu] at hv;obtain⟨cs,rfl,_,_⟩:=hv;have:=bF.agg (c:=c) (e a) cs.toList (by simpa[Value.cells] using hl) (fun i b x hb hx=>hr c hw hH i b x hb (by simpa[Value.cells] using hx));simpa using this
theorem uY.cell {α:Type} {x:α->au} {ok:α->Prop} (hc:∀ (W:World) (base:Nat) (v:Value),Value.okWide P W .any base t v->v.cells=#[v]) (h:Reader P t (fun a=>[x a]) ok):uY P t x ok:=by
 intro H enc W base v d p hv ⟨fuel,hd⟩;obtain⟨a,ha,hl,hr⟩:=h H enc W 0 _ true fuel _ _ hd;refine⟨a,ha,fun c hw hH=>?_⟩;exact hr c hw hH 0 _ v rfl (by rw[hc W base v hv];rfl)
theorem Ae {e:TypeId} (hu:P.underlying t=some (.slice e)) (W:World) (base:Nat) (v:Value) (h:Value.okWide P W .any base t v):v.cells=#[v]:=by
 simp only[Value.okWide,hu,Cell.okWide] at h;cases v<;>first | rfl | (simp[Cell.ok,hu] at h)
def ng (P:Program) (ts:List TypeId) {α:Type} (e:α->List au) (ok:α->Prop):Prop:=
 ∀ (H:Type) (enc:TypeId × Value->H) (W:World) (base:Nat) (vs:List Value) (ds:List (DataW H)) (p:List MemPlace),(∀ (j:Nat) t v,ts[j]?=some t->vs[j]?=some v->Value.okWide P W .any base t v) ->
  DataW.TrodAll enc P W 0 (fun _=>true) true ts vs ds p->∃ a,ok a/\∀ c:Ctx,c.w=W->(∀ id,c.H id=none)->dW c (e a) vs
theorem ng.nil:ng P [] (fun _:Unit=>[]) (fun _=>True):=by
 intro H enc W base vs ds p _ h;obtain⟨rfl,_,_⟩:=ChangeShapes.trodAll_nil h;exact⟨(),trivial,fun c _ _=>⟨rfl,fun i a x ha=>by simp at ha⟩⟩
theorem ng.cons {ts:List TypeId} {α β:Type} {e:α->au} {ok:α->Prop} {e':β->List au} {ok':β->Prop} (h:uY P t e ok) (k:ng P ts e' ok'):ng P (t::ts) (fun p:α × β=>e p.1::e' p.2) (fun p=>ok p.1/\ok' p.2):=by
 intro H enc W base vs ds p hv hA;obtain⟨v,vs',d,ds',q1,q2,rfl,rfl,rfl,h1,h2⟩:=ChangeShapes.trodAll_cons hA;obtain⟨a,ha,hr⟩:=h H enc W base v d q1 (hv 0 t v rfl rfl) h1;obtain⟨b,hb,hs⟩:=k H enc W base vs' ds' q2 (fun j u x hu hx=>hv (j+1) u x (by simpa using hu) (by simpa using hx)) h2;refine⟨(a,b),⟨ha,hb⟩,fun c hw hH=>?_⟩;have r1:=hr c hw hH;obtain⟨r2,r3⟩:=hs c hw hH;refine⟨by simp[r2],fun i y x hy hx=>?_⟩
 match i with
 | 0=>simp at hy hx;subst hy hx;exact r1
 | i+1=>exact r3 i y x (by simpa using hy) (by simpa using hx)
theorem aB.calls {f:FuncId} {args:List au} {x:Value} (h:aB P f args (fun r=>r = .v x)) (W:World) (xs:List Value) (hr:∀ c:Ctx,c.w=W->(∀ id,c.H id=none)->dW c args xs) :
  Calls P f xs.toArray W fun e W'=>e = .returned x/\Below W.heap.size W W':=by
 refine (h ⟨W.heap.size,fun _=>0,bA,0,W⟩ xs rfl rfl (pB W) (hr _ rfl (fun _=>rfl))).mono ?_;rintro e w' ⟨y,v,c',he,hw,⟨r,hres,hR⟩,hv,hg,hk⟩;subst hw hR;have hy:=(hres c' y rfl rfl hg hv ⟨0,fun _=>0,bA,0,c'.w⟩ rfl (fun k hk=>by obtain⟨id,o,ho,_⟩:=hk;cases ho) (Nat.zero_le _)).bS;subst hy;exact⟨he,hk.os,hk.tape,hk.output,hk.size,fun k V=>(hk.imm k V (by rintro⟨id,o,ho,_⟩;cases ho)).1⟩
theorem Below.trodAll {H:Type} {enc:TypeId × Value->H} (hl:laidOutB P=true) {W W':World} (hb:Below W.heap.size W W'):∀ {ts:List TypeId} {vs:List Value} {ds:List (DataW H)} {ps:List MemPlace},
  ts.all (fun t=>P.readableRec t && decide (t<P.types.size))=true->DataW.TrodAll enc P W 0 (fun _=>true) true ts vs ds ps->(∀ x ∈ ps,x.block<W.heap.size)->DataW.TrodAll enc P W' 0 (fun b=>decide (b<W.heap.size)) true ts vs ds ps
 | [],vs,ds,ps,_,h,_=>by
  obtain⟨rfl,rfl,rfl⟩:=ChangeShapes.trodAll_nil h;exact rfl
 | t::ts,vs,ds,ps,hr,h,hp=>by
  obtain⟨v,vs',d,ds',q1,q2,rfl,rfl,rfl,h1,h2⟩:=ChangeShapes.trodAll_cons h;simp only[List.all_cons,Bool.and_eq_true,decide_eq_true_eq] at hr;exact⟨q1,q2,Go.RowKit.Below.trod hl hr.1.1 hr.1.2 h1 hb (fun x hx=>hp x (by simp[hx])),Below.trodAll hl hb (by simpa using hr.2) h2 (fun x hx=>hp x (by simp[hx])),rfl⟩
theorem Bw {H:Type} {enc:TypeId × Value->H} {fn:Func} {s:ChangeSpec} {fresh handsOn:Bool} {W W':World} {args:Array Value} {ds gs:List (DataW H)} {before:List MemPlace} {tb:TypeId}
  (hl:laidOutB P=true) (hvars:s.vars=[]) (hrt:fn.resultTypes=#[tb]) (htb:P.underlying tb=some .bool) (hread:fn.params.toList.all (fun t=>P.readableRec t && decide (t<P.types.size))=true)
  (hres:(s.fn H ds).results=[.lit (.bool true)]) (hargs:(s.fn H ds).args=ds) (hvs:(s.fn H ds).vars=[]) (hW:DataW.Whole enc P fn.params.toList s.vars false W args.toList ds gs before) (hb:Below W.heap.size W W') :
  s.post enc P fn false fresh handsOn false W args (.bool true) W':=by
 have hlt:∀ x ∈ before,x.block<W.heap.size:=fun x hx=>by simpa using hW.lt x hx
 have hW0:=hW;obtain⟨p,q,hA,hV,rfl,_,_⟩:=hW0;rw[hvars] at hV;obtain⟨hgs,hq⟩:=ChangeShapes.trodVars_none hV;subst hgs hq;refine⟨ds,[],p++[],[],p,[],hW,?_,?_,?_,hb.frame _,fun h=>by cases h⟩
 ·rw[List.append_nil,hres,hrt];exact ChangeShapes.trodAll_mk1 (shut_bool htb true)
 ·rw[List.append_nil,hargs];exact Below.trodAll hl hb hread hA (fun x hx=>hlt x (by simp[hx]))
 ·rw[List.append_nil,hvs,hvars];exact rfl
theorem qc {H:Type} {enc:TypeId × Value->H} {w:World} {base:Nat} {M:Nat->Bool} {hd:Bool}:∀ {ts:List TypeId} {vs:List Value} {ds:List (DataW H)} {ps:List MemPlace},DataW.TrodAll enc P w base M hd ts vs ds ps->ds.length=ts.length
 | [],vs,ds,ps,h=>by obtain⟨_,rfl,_⟩:=ChangeShapes.trodAll_nil h;rfl
 | t::ts,vs,ds,ps,h=>by
  obtain⟨v,vs',d,ds',q1,q2,rfl,rfl,rfl,h1,h2⟩:=ChangeShapes.trodAll_cons h;simp[qc h2]
end
theorem Dq {C:Checked} {os:Os} {f:FuncId} {fn:Func} {s:ChangeSpec} {laid:List (String × DataW Unit)} {α:Type} {e:α->List au} {ok:α->Prop} {tb:TypeId} {H:Type} {enc:TypeId × Value->H}
  (own:ownKnob C.prog.godebug=none) (started:os.Started) (hinit:C.prog.inits.idxOf? f=none) (hfn:C.prog.funcs[f]?=some fn) (hl:laidOutB C.prog=true)
  (wit:∃ (w:World) (tape:Tape) (i:Input),w.os=os/\(w.forCall tape i).Shaped C.prog/\i.vars=[]/\Input.okWide C.prog (w.forCall tape i) .any w.heap.size f i /\
   ((s.pre enc C.prog fn [] false (w.forCall tape i).memory i.args/\laidMetH C.prog laid (w.forCall tape i).memory)/\sizedMet enc C.prog fn (OpenSpec.ofChange s) false (w.forCall tape i).memory i.args)/\({}:Assume).holds C.prog (lone (Frame.enter C.prog f i.args .normal) [] (w.forCall tape i)))
  (hR:ng C.prog fn.params.toList e ok) (hlaw:∀ a,ok a->aB C.prog f (e a) (fun r=>r = .v (.bool true)))
  (hvars:s.vars=[]) (hrt:fn.resultTypes=#[tb]) (htb:C.prog.underlying tb=some .bool) (hread:fn.params.toList.all (fun t=>C.prog.readableRec t && decide (t<C.prog.types.size))=true)
  (hs:∀ ds:List (DataW H),ds.length=fn.params.toList.length->(s.fn H ds).results=[.lit (.bool true)]/\(s.fn H ds).args=ds/\(s.fn H ds).vars=[]) :
  ReturnsInHanded {} C os f .any (fun w args=>(s.pre enc C.prog fn [] false w args/\laidMetH C.prog laid w)/\sizedMet enc C.prog fn (OpenSpec.ofChange s) false w args)
   (s.post enc C.prog fn false true false false):=by
 refine returnsInHanded_of_change_and (C:=C) (X:=fun w _=>laidMetH C.prog laid w) (fun _ _ _ E h=>h.of_heap E) own started hinit hfn wit ?_;intro W base args ds gs before hval hW _ _ _ _;have hW0:=hW;obtain⟨p,q,hA,_,_,_,_⟩:=hW0;have hlen:=qc hA;obtain⟨a,ha,hr⟩:=hR H enc W base args.toList ds p (fun j t v ht hv=>hval j t v (by simpa using ht) (by simpa using hv)) hA;obtain⟨h1,h2,h3⟩:=hs ds hlen;have hc:=aB.calls (hlaw a ha) W args.toList hr;rw[Array.toArray_toList] at hc;apply hc.mono;rintro e W' ⟨he,hb⟩;exact⟨_,he,Bw hl hvars hrt htb hread h1 h2 h3 hW hb⟩
end Go.Ab
