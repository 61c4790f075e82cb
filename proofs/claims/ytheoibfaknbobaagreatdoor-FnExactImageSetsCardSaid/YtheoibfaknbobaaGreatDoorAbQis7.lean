/- Merged texts (7 of 16) of the proof that ends in Isy: Sg Sj Sb ShelfS Nj W Gb Gc Gd Ge Gf Gg. -/
import Derived.Test.YtheoibfaknbobaaGreatDoorAbQis6
import Derived.Shelf.SlSortCmp.NoneTotal
import Derived.WalkKit
import Derived.Deep.QuietTactic
import Derived.Deep.LoopGhost
import Derived.Deep.Draws
import Derived.Lib.SlicesCompact
import Derived.Lib.SlicesS
import Derived.Lib.SliceRun
import Derived.Sort.WalkB12
import Derived.Test.YtheoibfaknbobaaGreatDoorProg
open Go.Proofs.Tryz
set_option linter.unusedSectionVars false
set_option linter.unusedSimpArgs false
set_option linter.unusedVariables false
namespace Go.Ab
open Go.Proofs Go.RowKit
abbrev EA (l:List Int):au:=.list true (l.map fun s=>[int s])
theorem w0 {c:Ctx} (g:Good c) {id:Id} {ss ss':List Int} (ho:c.H id=some ⟨1,ss.map fun s=>[int s]⟩) (hl:ss'.length=ss.length) (off:Nat) (db:off=0\/ss'=[]) (m:Nat) (os:Array Obj) :
  let c':Ctx:={ c with H:=c.H.set id ⟨1,ss'.map fun s=>[int s]⟩,w:=Sort.grow (Sort.putRow (Value.int .i64) (Sort.ahead c.w m) (c.β id) off ss'.toArray) os }
  bh c c'/\Good c':=by
 intro c';obtain⟨hB,cl,el,E,hsz,hel⟩:=g.obj id _ ho;simp only[List.length_map,Nat.mul_one] at hsz;have hnew:(Sort.putRow (Value.int .i64) (Sort.ahead c.w m) (c.β id) off ss'.toArray).heap[c.β id]?=some (.cells (Sort.putCells (Value.int .i64) off ss'.toArray cl) el (0,0)):=by
  simp only[Sort.putRow,Sort.mapBlock,Sort.ahead,Array.getElem?_modify,E];simp[Sort.onCells]
 have hoth:∀ k,k ≠ c.β id->(Sort.putRow (Value.int .i64) (Sort.ahead c.w m) (c.β id) off ss'.toArray).heap[k]?=c.w.heap[k]?:=fun k hk=>by
  simp only[Sort.putRow,Sort.mapBlock,Sort.ahead,Array.getElem?_modify];rw[if_neg (Ne.symm hk)]
 obtain⟨k1,g1⟩:=mg g ho ⟨1,ss'.map fun s=>[int s]⟩ (Sort.putRow (Value.int .i64) (Sort.ahead c.w m) (c.β id) off ss'.toArray) cl (Sort.putCells (Value.int .i64) off ss'.toArray cl) el el ⟨rfl,rfl,rfl⟩ (by simp[Sort.ahead]) E hoth hnew
  (by simp[Sort.putCells]) rfl (by simp[hl]) (by
   refine⟨by simp[Sort.putCells];omega,fun i e he=>?_⟩;rw[List.getElem?_map] at he;obtain⟨s,hs,rfl⟩:=Option.map_eq_some_iff.1 he;refine⟨rfl,fun j a ha=>?_⟩;have hi:i<ss'.length:=(List.getElem?_eq_some_iff.1 hs).1;have ho0:off=0:=db.elim (fun h=>h) fun h=>by subst h;simp at hi
   subst ho0
   match j,ha with
   | 0,ha=>
    simp only[List.getElem?_cons_zero,Option.some.injEq] at ha;subst ha;refine⟨(Value.int .i64) s,?_,.v _⟩;rw[oH];have hic:i<cl.size:=by omega
    simp only[Nat.mul_one,Nat.add_zero,Array.getElem?_eq_getElem hic,Option.map_some,Nat.zero_le,true_and,Nat.zero_add,Nat.sub_zero,List.size_toArray,hi,if_true,Option.some.injEq];have:ss'.toArray[i]! = s:=by
     obtain⟨h1,h2⟩:=List.getElem?_eq_some_iff.1 hs;simp[h1,h2]
    rw[this]
   | j+1,ha=>simp at ha)
 obtain⟨k2,g2⟩:=df g1 c'.w ⟨rfl,rfl,rfl⟩ (by simp[c']) fun k hk=>Sort.heap_grow_old _ _ hk
 exact⟨k1.trans k2,g2⟩
theorem ej.sortI {P:Program} {f:FuncId} {ss:List Int} (hlen:ss.length<4611686018427387904)
  (hs:∀ (blk off cap:Nat) (w:World),Sort.Holds (Value.int .i64) w blk off ss.toArray->blk<w.heap.size->Calls P f #[.slice (some ⟨blk,off,none⟩) ss.length cap] w fun e w'=>
   e = .returned (.tuple #[])/\∃ n os,w'=Sort.grow (Sort.putRow (Value.int .i64) (Sort.ahead w n) blk off (ss.mergeSort fun x y=>decide (x<=y)).toArray) os)
  (hnil:∀ w:World,Calls P f #[.slice none 0 0] w fun e w'=>e = .returned (.tuple #[])/\Below w.heap.size w w') :
  ej P f (fun v=>[v]) (.s [.c]) (EA ss) (fun e r=>e=EA (ss.mergeSort fun x y=>decide (x<=y))/\r = .tup []):=by
 intro H n v K ids hsep c xs hH hn g r;subst hH hn;obtain⟨x,rfl,hx⟩:∃ x,xs=[x]/\bF c v x:=by
  obtain⟨hl,hr⟩:=r
  match xs,hl with
  | [x],_=>exact⟨x,rfl,hr 0 v x rfl rfl⟩
 obtain⟨h0,S,h1,h2⟩:=hsep;simp only[List.map_cons,Row,Tr] at h1;obtain⟨S1,S2,h3,h4,rfl,h5⟩:=h1;rcases h3 with ⟨rfl,e,rfl⟩ | ⟨id,els,es',T,rfl,he,q3,q4,q5,rfl⟩
 ·have hss:ss=[]:=by simpa[EA] using e
  subst hss;rw[hx.bS];refine (hnil c.w).mono ?_;rintro e w' ⟨rfl,hb⟩;obtain⟨hk,hg⟩:=df g w' ⟨hb.os,hb.tape,hb.output⟩ hb.size hb.block;refine⟨_,.tup [],{ c with w:=w' },rfl,rfl,⟨_,⟨rfl,rfl⟩,⟨h0,_,?_,h2⟩,fun _ _=>rfl,Nat.le_refl _⟩,.tup [] [] rfl (by simp),hg,hk⟩;simp only[List.map_cons,Row,Tr];exact⟨[],S2,.inl (by simp[EA]),h4,rfl,by simp⟩
 ·simp only[EA,au.list.injEq,true_and] at he;subst he;obtain⟨rfl,rfl⟩:=sf (by simp) q4;have hm:(ss.mergeSort fun x y=>decide (x<=y)).length=ss.length:=List.length_mergeSort ss;have q3':c.H id=some ⟨1,ss.map fun s=>[int s]⟩:=q3;have hcell:∀ i s,ss[i]?=some s->c.w.cell? ⟨c.β id,i,none⟩=some ((Value.int .i64) s):=fun i s hi=>by
   obtain⟨x,h1,h2⟩:=g.cell q3' (i:=i) (j:=0) (e:=[int s]) (a:=int s) (by rw[List.getElem?_map,hi];rfl) rfl;rw[h2.bS] at h1;simpa using h1
  cases hx with
  | arr _ _ _ _ _ _ hn hg h=>
   obtain⟨hle,a,cap,rfl,hab,hsp,hlc,db,hcl⟩:=h _ q3' (by simp);obtain⟨bk,off,M⟩:=a;simp only at hab hsp;subst hab hsp;have hz:off=0\/ss=[]:=by
    rcases db with h | h
    ·left;simpa using h
    ·right;simpa[h] using hlc
   have hz':off=0\/(ss.mergeSort fun x y=>decide (x<=y))=[]:=hz.imp_right fun h=>by subst h;simp
   have hbk:c.β id<c.w.heap.size:=g.lt q3';have key:=hs (c.β id) off cap c.w (fun j hj=>by
    have hj':j<ss.length:=by simpa using hj
    have h0:off=0:=hz.elim (fun h=>h) fun h=>by subst h;simp at hj'
    subst h0;refine⟨?_,g.frozen q3' _⟩;rw[Nat.zero_add,hcell j ss[j] (List.getElem?_eq_getElem hj')];simp[hj']) hbk
   simp only[List.length_map] at *;apply key.mono;rintro e w' ⟨rfl,m,os,rfl⟩;obtain⟨hk,hg'⟩:=w0 g q3' hm off hz' m os;refine⟨_,.tup [],{ c with H:=c.H.set id ⟨1,(ss.mergeSort fun x y=>decide (x<=y)).map fun s=>[int s]⟩,w:=Sort.grow (Sort.putRow (Value.int .i64) (Sort.ahead c.w m) (c.β id) off (ss.mergeSort fun x y=>decide (x<=y)).toArray) os },rfl,rfl,⟨_,⟨rfl,rfl⟩,⟨h0,id::S2,?_,?_⟩,fun i hi=>?_,Nat.le_refl _⟩,.tup [] [] rfl (by simp),hg',hk⟩
   ·simp only[List.map_cons,Row,Tr];refine⟨[id],S2,.inr ⟨id,(ss.mergeSort fun x y=>decide (x<=y)).map fun s=>[int s],(ss.mergeSort fun x y=>decide (x<=y)).map fun s=>[int s],[],by simp[hm],rfl,?_,?_,by simp,rfl⟩,h4.frame fun i hi=>?_,rfl,?_⟩
    ·exact az.bJ _ _ _
    ·exact bc.FB (by simp[int,flat]) (by simp)
    ·exact az.aJ _ _ (by rintro rfl;exact h5 i (by simp) hi)
    ·intro i hi;exact h5 i (by simpa using hi)
   ·intro i hi;exact h2 i (by simpa using hi)
   ·exact az.aJ _ _ (by rintro rfl;exact (h2 i (by simp)).2 hi)
def runeS (n:Int):cB:=(Utf8.encode n).data.toList
section
variable {P:Program} {f:FuncId} {N:Nat} {k:List Item} {Q:au->az->Nat->Prop} {Ty:Types} {l:List Oper} {O:Env} {H:az} {n:Nat} {d:Option Tmp} {ty:TypeId} {pos:String} {af:Array Edge} {gu:Option (Nat × Bool)}
end
end Go.Ab
namespace Go.Ab
open Go.Proofs Go.RowKit
section
variable {α:Type} [Inhabited α] {enc:α->List Value} {k:Nat}
end
end Go.Ab
namespace Go.Ab
open Go.Proofs Go.RowKit
def cI (w:World) (v:Value) (l:List Int):Prop:=∃ p cap,v = .slice p l.length cap/\∀ j,j<l.length->∃ b o,p=some ⟨b,o,none⟩/\w.cell? ⟨b,o+j,none⟩=some (.int .i64 l[j]!)
def eD (v:Value) (blk:Nat):Prop:=∀ b o,∀ n c,v = .slice (some ⟨b,o,none⟩) n c->b ≠ blk
theorem bc.perm {R:List au->List au->List Id->Prop} {ps qs:List (List au × List au)} (h:ps.Perm qs):∀ {S:List Id},bc R (ps.map Prod.fst) (ps.map Prod.snd) S->∃ S',bc R (qs.map Prod.fst) (qs.map Prod.snd) S'/\S'.Perm S:=by
 induction h with
 | nil=>exact fun h=>⟨_,h,.refl _⟩
 | cons x _ ih=>
  rintro S ⟨T1,T2,h1,h2,rfl,h4⟩;obtain⟨T3,h5,h6⟩:=ih h2;exact⟨T1++T3,⟨T1,T3,h1,h5,rfl,fun i hi hm=>h4 i hi (h6.mem_iff.1 hm)⟩,h6.append_left T1⟩
 | swap x y l=>
  rintro S ⟨T1,T2,h1,⟨T3,T4,h2,h3,rfl,h5⟩,rfl,h4⟩;refine⟨T3++(T1++T4),⟨T3,T1++T4,h2,⟨T1,T4,h1,h3,rfl,fun i hi hm=>h4 i hi (by simp[hm])⟩,rfl,fun i hi hm=>?_⟩,?_⟩
  ·rcases List.mem_append.1 hm with hm | hm
   ·exact h4 i hm (by simp[hi])
   ·exact h5 i hi hm
  ·rw[<- List.append_assoc,<- List.append_assoc];exact List.perm_append_comm.append_right T4
 | trans _ _ ih1 ih2=>
  intro S h;obtain⟨T,h1,h2⟩:=ih1 h;obtain⟨ah,h3,h4⟩:=ih2 h1;exact⟨ah,h3,h4.trans h2⟩
section
variable {α:Type} [Inhabited α] {enc:α->Value}
theorem qa {c:Ctx} (g:Good c) {id:Id} {els els':List (List au)} {d:List α} (ho:c.H id=some ⟨1,els⟩) (hl:els'.length=els.length) (hd:d.length=els.length)
  (hv:∀ (i:Nat) (e:List au),els'[i]?=some e->∃ a y,e=[a]/\d[i]?=some y/\bF c a (enc y)) (off:Nat) (db:off=0\/els=[]) (m:Nat) (os:Array Obj) :
  let c':Ctx:={ c with H:=c.H.set id ⟨1,els'⟩,w:=sortWorld enc c.w (c.β id) off m d.toArray os }
  bh c c'/\Good c':=by
 intro c';obtain⟨hB,cl,el,E,hsz,hel⟩:=g.obj id _ ho;simp only[Nat.mul_one] at hsz;have hnew:(Sort.putRow enc (Sort.ahead c.w m) (c.β id) off d.toArray).heap[c.β id]?=some (.cells (Sort.putCells enc off d.toArray cl) el (0,0)):=by
  simp only[Sort.putRow,Sort.mapBlock,Sort.ahead,Array.getElem?_modify,E];simp[Sort.onCells]
 have hoth:∀ k,k ≠ c.β id->(Sort.putRow enc (Sort.ahead c.w m) (c.β id) off d.toArray).heap[k]?=c.w.heap[k]?:=fun k hk=>by
  simp only[Sort.putRow,Sort.mapBlock,Sort.ahead,Array.getElem?_modify];rw[if_neg (Ne.symm hk)]
 obtain⟨k1,g1⟩:=mg g ho ⟨1,els'⟩ (Sort.putRow enc (Sort.ahead c.w m) (c.β id) off d.toArray) cl (Sort.putCells enc off d.toArray cl) el el ⟨rfl,rfl,rfl⟩ (by simp[Sort.ahead,Sort.putRow,Sort.mapBlock]) E hoth hnew
  (by simp[Sort.putCells]) rfl (by simp[hl]) (by
   refine⟨by simp[Sort.putCells,hl];omega,fun i e he=>?_⟩;obtain⟨a,y,rfl,hy,hr⟩:=hv i e he;refine⟨rfl,fun j b hb=>?_⟩;have hi:i<els.length:=by have h9:i<els'.length:=(List.getElem?_eq_some_iff.1 he).1;omega
   have ho0:off=0:=db.elim (fun h=>h) fun h=>by subst h;simp at hi
   subst ho0
   match j,hb with
   | 0,hb=>
    simp only[List.getElem?_cons_zero,Option.some.injEq] at hb;subst hb;refine⟨enc y,?_,hr⟩;rw[oH];have hic:i<cl.size:=by omega
    have hid:i<d.length:=by omega
    simp only[Nat.mul_one,Nat.add_zero,Array.getElem?_eq_getElem hic,Option.map_some,Nat.zero_le,true_and,Nat.zero_add,Nat.sub_zero,List.size_toArray,hid,if_true,Option.some.injEq];have:d.toArray[i]! = y:=by
     obtain⟨h1,h2⟩:=List.getElem?_eq_some_iff.1 hy;simp[h1,h2]
    rw[this]
   | j+1,hb=>simp at hb)
 obtain⟨k2,g2⟩:=df g1 c'.w ⟨rfl,rfl,rfl⟩ (by simp[c',sortWorld]) fun k hk=>Sort.heap_grow_old _ _ hk
 exact⟨k1.trans k2,g2⟩
end
abbrev kf (r:List Int):List au:=[.list true (r.map ay)]
theorem Tr.DS {c:Ctx} (g:Good c) {a:au} {r:List Int} {T:List Id} {x:Value} (h:Tr c.H (.s [.c]) a (.list true (r.map ay)) T) (hx:bF c a x):cI c.w x r/\x.oneCell'=true/\∀ {id:Id} {o:Ob},c.H id=some o->id ∉ T->eD x (c.β id):=by
 simp only[Tr] at h;rcases h with ⟨rfl,e,rfl⟩ | ⟨id,els,es,ah,rfl,e,q3,q4,q5,rfl⟩
 ·have:r=[]:=by simpa using e
  subst this;rw[hx.bS];exact⟨⟨none,0,rfl,fun j hj=>by simp at hj⟩,rfl,fun _ _ b o n c E=>by cases E⟩
 ·simp only[au.list.injEq,true_and] at e;subst e;obtain⟨rfl,rfl⟩:=sf (by simp) q4;have q3':c.H id=some ⟨1,r.map ay⟩:=q3;cases hx with
  | arr _ _ _ _ _ _ hn hg h=>
   obtain⟨hle,a,cap,rfl,hab,hsp,hlc,db,hcl⟩:=h _ q3' (by simp);obtain⟨bk,off,M⟩:=a;simp only at hab hsp;subst hab hsp;refine⟨⟨some ⟨c.β id,off,none⟩,cap,by simp,fun j hj=>⟨_,_,rfl,?_⟩⟩,rfl,fun {id'} {o} ho hni b o' n c' E=>?_⟩
   ·have h0:off=0:=by
     rcases db with h | h
     ·simpa using h
     ·simp at hlc;omega
    subst h0;obtain⟨y,h1,h2⟩:=g.cell q3' (i:=j) (j:=0) (e:=ay r[j]) (a:=int r[j]) (by rw[List.getElem?_map,List.getElem?_eq_getElem hj];rfl) rfl;rw[h2.bS] at h1;simpa[hj] using h1
   ·cases E;intro e;have:=g.inj _ _ _ _ q3' ho e;subst this;simp at hni
theorem bc.nth {R:List au->List au->List Id->Prop}:∀ {as1 bs:List (List au)} {S:List Id},bc R as1 bs S->∀ (i:Nat) (e:List au),as1[i]?=some e->∃ f T,bs[i]?=some f/\R e f T/\∀ j ∈ T,j ∈ S
 | [],[],_,_,i,e,h=>by simp at h
 | a::as1,b::bs,S,⟨T1,T2,h1,h2,h3,h4⟩,0,e,h=>by
  simp only[List.getElem?_cons_zero,Option.some.injEq] at h;subst h;exact⟨b,T1,rfl,h1,fun j hj=>by simp[h3,hj]⟩
 | a::as1,b::bs,S,⟨T1,T2,h1,h2,h3,h4⟩,i+1,e,h=>by
  obtain⟨f,T,e1,e2,e3⟩:=bc.nth h2 i e (by simpa using h);exact⟨f,T,by simpa using e1,e2,fun j hj=>by simp[h3,e3 j hj]⟩
 | [],_::_,_,h,_,_,_=>h.elim
 | _::_,[],_,h,_,_,_=>h.elim
theorem ej.sortN {P:Program} {f:FuncId} {fv:au} {fx:Value} {l l':List (List Int)} (hfv:∀ (c:Ctx) (x:Value),bF c fv x->x=fx)
  (hs:∀ (K:Nat) (hK:l.length=K+1) (vs:Fin (K+1)->Value) (blk off cap:Nat) (w:World),(∀ i,(vs i).oneCell'=true)->(∀ i,cI w (vs i) (l[i.1]'(by omega)))->(∀ i,eD (vs i) blk)->Sort.Holds vs w blk off (List.finRange (K+1)).toArray->blk<w.heap.size ->
   Calls P f #[.slice (some ⟨blk,off,none⟩) (K+1) cap,fx] w fun e w'=>e = .returned (.tuple #[])/\∃ (d':List (Fin (K+1))) (n:Nat) (os:Array Obj),d'.Perm (List.finRange (K+1))/\d'.map (fun i=>l[i.1]'(by omega))=l'/\w'=sortWorld vs w blk off n d'.toArray os)
  (hnil:l=[]->∀ (p:Option Addr) (cap:Nat) (w:World),Calls P f #[.slice p 0 cap,fx] w fun e w'=>e = .returned (.tuple #[])/\w'=w) (hl0:l=[]->l'=[]) :
  ej P f (fun v=>[v,fv]) (.s [.s [.c]]) (.list true (l.map kf)) (fun e r=>e = .list true (l'.map kf)/\r = .tup []):=by
 intro H n v K ids hsep c xs hH hn g r;subst hH hn;obtain⟨x,rfl,hx⟩:∃ x,xs=[x,fx]/\bF c v x:=by
  obtain⟨hl,hr⟩:=r
  match xs,hl with
  | [x,y],_=>exact⟨x,by rw[hfv c y (hr 1 fv y rfl rfl)],hr 0 v x rfl rfl⟩
 obtain⟨h0,S,h1,h2⟩:=hsep;simp only[List.map_cons,Row,Tr] at h1;obtain⟨S1,S2,h3,h4,rfl,h5⟩:=h1;rcases h3 with ⟨rfl,e,rfl⟩ | ⟨id,els,es',T,rfl,he,q3,q4,q5,rfl⟩
 ·have hss:l=[]:=by simpa using e
  have hss':=hl0 hss;subst hss hss';rw[hx.bS];refine (hnil rfl none 0 c.w).mono ?_;rintro e w' ⟨rfl,rfl⟩;refine⟨_,.tup [],c,rfl,rfl,⟨_,⟨rfl,rfl⟩,⟨h0,_,?_,h2⟩,fun _ _=>rfl,Nat.le_refl _⟩,.tup [] [] rfl (by simp),g,bh.refl c⟩;simp only[List.map_cons,Row,Tr];exact⟨[],S2,.inl (by simp),h4,rfl,by simp⟩
 ·simp only[au.list.injEq,true_and] at he;subst he;have hlen:els.length=l.length:=by have:=q4.len;simpa using this
  have q3':c.H id=some ⟨1,els⟩:=by simpa using q3
  cases hx with
  | arr _ _ _ _ _ _ hn hg h=>
   obtain⟨hle,a,cap,rfl,hab,hsp,hlc,db,hcl⟩:=h _ q3' rfl;obtain⟨bk,off,M⟩:=a;simp only at hab hsp;subst hab hsp;have hz:off=0\/els=[]:=by
    rcases db with h | h
    ·left;simpa using h
    ·right;exact List.eq_nil_of_length_eq_zero (by omega)
   have hbk:c.β id<c.w.heap.size:=g.lt q3';cases hK:l.length with
   | zero=>
    have hss:l=[]:=List.eq_nil_of_length_eq_zero hK;have hss':=hl0 hss;subst hss hss';have he0:els=[]:=List.eq_nil_of_length_eq_zero hlen;subst he0;refine (hnil rfl (some ⟨c.β id,off,none⟩) cap c.w).mono ?_;rintro e w' ⟨rfl,rfl⟩;refine⟨_,.tup [],c,rfl,rfl,⟨_,⟨rfl,rfl⟩,⟨h0,_,?_,h2⟩,fun _ _=>rfl,Nat.le_refl _⟩,.tup [] [] rfl (by simp),g,bh.refl c⟩;simp only[List.map_cons,Row,Tr];exact⟨id::T,S2,.inr ⟨id,[],[],T,rfl,rfl,q3,q4,q5,rfl⟩,h4,rfl,h5⟩
   | succ N=>
    rw[hK] at hlen;have hrow:∀ i:Fin (N+1),∃ (a:au) (x:Value) (ah:List Id),els[i.1]?=some [a]/\c.w.cell? ⟨c.β id,i.1,none⟩=some x/\bF c a x/\Tr c.H (.s [.c]) a (.list true ((l[i.1]'(by omega)).map ay)) ah/\∀ j ∈ ah,j ∈ T:=fun i=>by
     have hi:i.1<els.length:=by omega
     obtain⟨fe,ah,e1,e2,e3⟩:=bc.nth q4 i.1 _ (List.getElem?_eq_getElem hi);rw[List.getElem?_map,List.getElem?_eq_getElem (by omega)] at e1;simp only[Option.map_some,Option.some.injEq] at e1;subst e1;generalize hq:els[i.1]=q at e2
     match q,e2 with
     | [a],e2=>
      simp only[Row] at e2;obtain⟨U1,U2,e4,e5,e6,e7⟩:=e2;subst e5;obtain⟨x,hx1,hx2⟩:=g.cell q3' (i:=i.1) (j:=0) (e:=[a]) (a:=a) (by rw[List.getElem?_eq_getElem hi,hq]) rfl;exact⟨a,x,U1,by rw[List.getElem?_eq_getElem hi,hq],by simpa using hx1,hx2,e4,fun j hj=>e3 j (by simp[e6,hj])⟩
     | [],e2=>simp[Row] at e2
     | _::_::_,e2=>simp[Row] at e2
    obtain⟨av,hrow⟩:=Classical.axiomOfChoice hrow;obtain⟨vs,hrow⟩:=Classical.axiomOfChoice hrow;have hT:∀ i,cI c.w (vs i) (l[i.1]'(by omega))/\(vs i).oneCell'=true/\eD (vs i) (c.β id):=fun i=>by
     obtain⟨ah,e1,e2,e3,e4,e5⟩:=hrow i;obtain⟨t1,t2,t3⟩:=e4.DS g e3;exact⟨t1,t2,t3 q3' fun hm=>q5 (e5 _ hm)⟩
    have h00:off=0:=hz.elim (fun h=>h) fun h=>by subst h;simp at hlen
    subst h00;have key:=hs N hK vs (c.β id) 0 cap c.w (fun i=>(hT i).2.1) (fun i=>(hT i).1) (fun i=>(hT i).2.2) (fun j hj=>by
     have hj':j<N+1:=by simpa using hj
     obtain⟨ah,e1,e2,_⟩:=hrow ⟨j,hj'⟩;refine⟨?_,g.frozen q3' _⟩;rw[Nat.zero_add,e2];simp[hj']) hbk
    rw[hlen];apply key.mono;rintro e w' ⟨rfl,d',m,os,hp,hd,rfl⟩;have hdl:d'.length=N+1:=by rw[hp.length_eq];simp
    obtain⟨hk2,hg'⟩:=qa (enc:=vs) (els':=d'.map fun i=>[av i]) (d:=d') g q3' (by simp[hdl,hlen]) (by rw[hdl,hlen]) (fun i e he=>by
     rw[List.getElem?_map] at he;obtain⟨y,hy,rfl⟩:=Option.map_eq_some_iff.1 he;obtain⟨ah,_,_,e3,_⟩:=hrow y;exact⟨_,y,rfl,hy,e3⟩) 0 (.inl rfl) m os
    have hels:els=(List.finRange (N+1)).map fun i=>[av i]:=by
     refine List.ext_getElem? fun i=>?_
     rw[List.getElem?_map];rcases Nat.lt_or_ge i (N+1) with hi | hi
     ·obtain⟨ah,e1,_⟩:=hrow ⟨i,hi⟩;rw[e1];simp[hi]
     ·rw[List.getElem?_eq_none (by omega),List.getElem?_eq_none (by simpa using hi)];rfl
    have hles:l.map kf=(List.finRange (N+1)).map fun i=>kf (l[i.1]'(by omega)):=by
     refine List.ext_getElem? fun i=>?_
     rw[List.getElem?_map,List.getElem?_map];rcases Nat.lt_or_ge i (N+1) with hi | hi
     ·rw[List.getElem?_eq_getElem (by omega)];simp[hi]
     ·rw[List.getElem?_eq_none (by omega),List.getElem?_eq_none (by simpa using hi)];rfl
    have q4':bc (Row c.H [.s [.c]]) (((List.finRange (N+1)).map fun i=>([av i],kf (l[i.1]'(by omega)))).map Prod.fst) (((List.finRange (N+1)).map fun i=>([av i],kf (l[i.1]'(by omega)))).map Prod.snd) T:=by
     rw[List.map_map,List.map_map];have:=q4;rw[hles] at this;rw[hels] at this;exact this
    obtain⟨T',q6,q7⟩:=bc.perm (hp.symm.map fun i=>([av i],kf (l[i.1]'(by omega)))) q4';rw[List.map_map,List.map_map] at q6;have hl':l'.map kf=d'.map fun i=>kf (l[i.1]'(by omega)):=by rw[<- hd,List.map_map];rfl
    refine⟨_,.tup [],{ c with H:=c.H.set id ⟨1,d'.map fun i=>[av i]⟩,w:=sortWorld vs c.w (c.β id) 0 m d'.toArray os },rfl,rfl,⟨_,⟨rfl,rfl⟩,⟨h0,(id::T')++S2,?_,?_⟩,fun i hi=>?_,Nat.le_refl _⟩,.tup [] [] rfl (by simp),hg',hk2⟩
    ·simp only[List.map_cons,Row,Tr];refine⟨id::T',S2,.inr ⟨id,d'.map fun i=>[av i],d'.map fun i=>kf (l[i.1]'(by omega)),T',by simp[hdl,hlen],by rw[hl'],?_,?_,fun hm=>q5 (q7.mem_iff.1 hm),rfl⟩,h4.frame fun i hi=>?_,rfl,?_⟩
     ·exact az.bJ _ _ _
     ·exact bc.mono q6 fun e f ah hr hu=>hr.frame fun i hi=>az.aJ _ _ (by rintro rfl;exact q5 (q7.mem_iff.1 (hu _ hi)))
     ·exact az.aJ _ _ (by rintro rfl;exact h5 i (by simp) hi)
     ·intro i hi hm;refine h5 i ?_ hm;rcases List.mem_cons.1 hi with rfl | hi
      ·simp
      ·simp[q7.mem_iff.1 hi]
    ·intro i hi;refine h2 i ?_;simp only[List.cons_append,List.mem_cons,List.mem_append] at hi ⊢;rcases hi with hi | hi | hi
     ·exact .inl hi
     ·exact .inr (.inl (q7.mem_iff.1 hi))
     ·exact .inr (.inr hi)
    ·exact az.aJ _ _ (by rintro rfl;exact (h2 i (by simp)).2 hi)
theorem bc.sub {R:List au->List au->List Id->Prop} {ps qs:List (List au × List au)} (h:qs.Sublist ps):∀ {S:List Id},bc R (ps.map Prod.fst) (ps.map Prod.snd) S->∃ S',bc R (qs.map Prod.fst) (qs.map Prod.snd) S'/\∀ i ∈ S',i ∈ S:=by
 induction h with
 | slnil=>exact fun h=>⟨_,h,fun _ hi=>hi⟩
 | cons x _ ih=>
  rintro S ⟨T1,T2,h1,h2,rfl,h4⟩;obtain⟨T3,h5,h6⟩:=ih h2;exact⟨T3,h5,fun i hi=>by simp[h6 i hi]⟩
 | cons_cons x _ ih=>
  rintro S ⟨T1,T2,h1,h2,rfl,h4⟩;obtain⟨T3,h5,h6⟩:=ih h2;refine⟨T1++T3,⟨T1,T3,h1,h5,rfl,fun i hi hm=>h4 i hi (h6 i hm)⟩,fun i hi=>?_⟩;rcases List.mem_append.1 hi with hi | hi
  ·simp[hi]
  ·simp[h6 i hi]
theorem xB.D9 {P:Program} {f:FuncId} {fv:au} {fx:Value} {l l':List (List Int)} (hfv:∀ (c:Ctx) (x:Value),bF c fv x->x=fx)
  (hs:∀ (K:Nat) (hK:l.length=K+1) (enc:Option (Fin (K+1))->Value) (blk off cap:Nat) (w:World),enc none = .slice none 0 0->(∀ i,cI w (enc (some i)) (l[i.1]'(by omega)))->(∀ x,eD (enc x) blk)->Sort.Holds enc w blk off ((List.finRange (K+1)).map some).toArray->K+1<=cap ->
   Calls P f #[.slice (some ⟨blk,off,none⟩) (K+1) cap,fx] w fun e w'=>∃ (q':List (Fin (K+1))) (m:Nat),e = .returned (.slice (some ⟨blk,off,none⟩) q'.length cap)/\q'.Sublist (List.finRange (K+1))/\q'.map (fun i=>l[i.1]'(by omega))=l'/\w'=Sort.putRow enc (Sort.ahead w m) blk off (q'.map some++List.replicate (K+1 - q'.length) none).toArray)
  (hnil:l=[]->∀ (p:Option Addr) (cap:Nat) (w:World),Calls P f #[.slice p 0 cap,fx] w fun e w'=>e = .returned (.slice p 0 cap)/\w'=w) (hl0:l=[]->l'=[]) :
  xB P f (fun v=>[v,fv]) (.s [.s [.c]]) (.list true (l.map kf)) (.s [.s [.c]]) (fun e=>e = .list true (l'.map kf)):=by
 intro H n v K ids hsep c xs hH hn g r;subst hH hn;obtain⟨x,rfl,hx⟩:∃ x,xs=[x,fx]/\bF c v x:=by
  obtain⟨hl,hr⟩:=r
  match xs,hl with
  | [x,y],_=>exact⟨x,by rw[hfv c y (hr 1 fv y rfl rfl)],hr 0 v x rfl rfl⟩
 obtain⟨h0,S,h1,h2⟩:=hsep;have h1':=h1;simp only[List.map_cons,Row,Tr] at h1;obtain⟨S1,S2,h3,h4,rfl,h5⟩:=h1;rcases h3 with ⟨rfl,e,rfl⟩ | ⟨id,els,es',T,rfl,he,q3,q4,q5,rfl⟩
 ·have hss:l=[]:=by simpa using e
  have hss':=hl0 hss;subst hss hss';rw[hx.bS];refine (hnil rfl none 0 c.w).mono ?_;rintro e w' ⟨rfl,rfl⟩;refine⟨_,.v (.slice none 0 0),c,rfl,rfl,⟨_,rfl,⟨h0,_,?_,h2⟩,fun _ _=>rfl,Nat.le_refl _⟩,.v _,g,bh.refl c⟩;simp only[List.map_cons,Row,Tr];exact⟨[],S2,.inl (by simp),h4,rfl,by simp⟩
 ·simp only[au.list.injEq,true_and] at he;subst he;have hlen:els.length=l.length:=by have:=q4.len;simpa using this
  have q3':c.H id=some ⟨1,els⟩:=by simpa using q3
  have hx0:=hx;cases hx with
  | arr _ _ _ _ _ _ hn hg h=>
   obtain⟨hle,a,cap,rfl,hab,hsp,hlc,db,hcl⟩:=h _ q3' rfl;obtain⟨bk,off,M⟩:=a;simp only at hab hsp;subst hab hsp;have hz:off=0\/els=[]:=by
    rcases db with h | h
    ·left;simpa using h
    ·right;exact List.eq_nil_of_length_eq_zero (by omega)
   cases hK:l.length with
   | zero=>
    have hss:l=[]:=List.eq_nil_of_length_eq_zero hK;have hss':=hl0 hss;subst hss hss';have he0:els=[]:=List.eq_nil_of_length_eq_zero hlen;subst he0;refine (hnil rfl (some ⟨c.β id,off,none⟩) cap c.w).mono ?_;rintro e w' ⟨rfl,rfl⟩;refine⟨_,.arr id 0 0 0,c,rfl,rfl,⟨_,rfl,⟨h0,_,?_,h2⟩,fun _ _=>rfl,Nat.le_refl _⟩,hx0,g,bh.refl c⟩;simp only[List.map_cons,Row,Tr];exact⟨id::T,S2,.inr ⟨id,[],[],T,rfl,rfl,q3,q4,q5,rfl⟩,h4,rfl,h5⟩
   | succ N=>
    rw[hK] at hlen;have hrow:∀ i:Fin (N+1),∃ (a:au) (x:Value) (ah:List Id),els[i.1]?=some [a]/\c.w.cell? ⟨c.β id,i.1,none⟩=some x/\bF c a x/\Tr c.H (.s [.c]) a (.list true ((l[i.1]'(by omega)).map ay)) ah/\∀ j ∈ ah,j ∈ T:=fun i=>by
     have hi:i.1<els.length:=by omega
     obtain⟨fe,ah,e1,e2,e3⟩:=bc.nth q4 i.1 _ (List.getElem?_eq_getElem hi);rw[List.getElem?_map,List.getElem?_eq_getElem (by omega)] at e1;simp only[Option.map_some,Option.some.injEq] at e1;subst e1;generalize hq:els[i.1]=q at e2
     match q,e2 with
     | [a],e2=>
      simp only[Row] at e2;obtain⟨U1,U2,e4,e5,e6,e7⟩:=e2;subst e5;obtain⟨x,hx1,hx2⟩:=g.cell q3' (i:=i.1) (j:=0) (e:=[a]) (a:=a) (by rw[List.getElem?_eq_getElem hi,hq]) rfl;exact⟨a,x,U1,by rw[List.getElem?_eq_getElem hi,hq],by simpa using hx1,hx2,e4,fun j hj=>e3 j (by simp[e6,hj])⟩
     | [],e2=>simp[Row] at e2
     | _::_::_,e2=>simp[Row] at e2
    obtain⟨av,hrow⟩:=Classical.axiomOfChoice hrow;obtain⟨vs,hrow⟩:=Classical.axiomOfChoice hrow;have hT:∀ i,cI c.w (vs i) (l[i.1]'(by omega))/\(vs i).oneCell'=true/\eD (vs i) (c.β id):=fun i=>by
     obtain⟨ah,e1,e2,e3,e4,e5⟩:=hrow i;obtain⟨t1,t2,t3⟩:=e4.DS g e3;exact⟨t1,t2,t3 q3' fun hm=>q5 (e5 _ hm)⟩
    have h00:off=0:=hz.elim (fun h=>h) fun h=>by subst h;simp at hlen
    subst h00
    let enc:Option (Fin (N+1))->Value:=fun o=>o.elim (.slice none 0 0) vs
    let ao:Option (Fin (N+1))->au:=fun o=>o.elim (.v (.slice none 0 0)) av
    have hao:∀ o,bF c (ao o) (enc o):=fun o=>by
     cases o with
     | none=>exact .v _
     | some i=>obtain⟨ah,_,_,e3,_⟩:=hrow i;exact e3
    have key:=hs N hK enc (c.β id) 0 cap c.w rfl (fun i=>(hT i).1) (fun o=>by
     cases o with
     | none=>intro b o n c' E;cases E
     | some i=>exact (hT i).2.2) (fun j hj=>by
     have hj':j<N+1:=by simpa using hj
     obtain⟨ah,e1,e2,_⟩:=hrow ⟨j,hj'⟩;refine⟨?_,g.frozen q3' _⟩;rw[Nat.zero_add,e2];simp[hj',enc]) (by omega)
    rw[hlen];apply key.mono;rintro e w' ⟨q',m,rfl,hsub,hd,rfl⟩;have hql:q'.length<=N+1:=by simpa using hsub.length_le
    have hdl:(q'.map some++List.replicate (N+1 - q'.length) none:List (Option (Fin (N+1)))).length=N+1:=by simp;omega
    obtain⟨hk,hg'⟩:=qa (enc:=enc) (els':=(q'.map some++List.replicate (N+1 - q'.length) none).map fun o=>[ao o]) (d:=q'.map some++List.replicate (N+1 - q'.length) none) g q3' (by rw[List.length_map,hdl,hlen]) (by rw[hdl,hlen]) (fun i e he=>by
     rw[List.getElem?_map] at he;obtain⟨y,hy,rfl⟩:=Option.map_eq_some_iff.1 he;exact⟨_,y,rfl,hy,hao y⟩) 0 (.inl rfl) m #[]
    have hgr:sortWorld enc c.w (c.β id) 0 m (q'.map some++List.replicate (N+1 - q'.length) none).toArray #[]=Sort.putRow enc (Sort.ahead c.w m) (c.β id) 0 (q'.map some++List.replicate (N+1 - q'.length) none).toArray:=by simp[sortWorld]
    rw[hgr] at hk hg';have hels:els=(List.finRange (N+1)).map fun i=>[av i]:=by
     refine List.ext_getElem? fun i=>?_
     rw[List.getElem?_map];rcases Nat.lt_or_ge i (N+1) with hi | hi
     ·obtain⟨ah,e1,_⟩:=hrow ⟨i,hi⟩;rw[e1];simp[hi]
     ·rw[List.getElem?_eq_none (by omega),List.getElem?_eq_none (by simpa using hi)];rfl
    have hles:l.map kf=(List.finRange (N+1)).map fun i=>kf (l[i.1]'(by omega)):=by
     refine List.ext_getElem? fun i=>?_
     rw[List.getElem?_map,List.getElem?_map];rcases Nat.lt_or_ge i (N+1) with hi | hi
     ·rw[List.getElem?_eq_getElem (by omega)];simp[hi]
     ·rw[List.getElem?_eq_none (by omega),List.getElem?_eq_none (by simpa using hi)];rfl
    have q4':bc (Row c.H [.s [.c]]) (((List.finRange (N+1)).map fun i=>([av i],kf (l[i.1]'(by omega)))).map Prod.fst) (((List.finRange (N+1)).map fun i=>([av i],kf (l[i.1]'(by omega)))).map Prod.snd) T:=by
     rw[List.map_map,List.map_map];have:=q4;rw[hles] at this;rw[hels] at this;exact this
    obtain⟨T',q6,q7⟩:=bc.sub (hsub.map fun i=>([av i],kf (l[i.1]'(by omega)))) q4';rw[List.map_map,List.map_map] at q6;have hl':l'.map kf=q'.map fun i=>kf (l[i.1]'(by omega)):=by rw[<- hd,List.map_map];rfl
    have htk:((q'.map some++List.replicate (N+1 - q'.length) none).map fun o=>[ao o]).take q'.length=q'.map fun i=>[av i]:=by
     rw[<- List.map_take,List.take_left' (by simp),List.map_map]
     rfl
    generalize hc1:({ c with H:=c.H.set id ⟨1,(q'.map some++List.replicate (N+1 - q'.length) none).map fun o=>[ao o]⟩,w:=Sort.putRow enc (Sort.ahead c.w m) (c.β id) 0 (q'.map some++List.replicate (N+1 - q'.length) none).toArray }:Ctx)=c1 at hk hg';have hH1:c1.H id=some ⟨1,(q'.map some++List.replicate (N+1 - q'.length) none).map fun o=>[ao o]⟩:=by rw[<- hc1];exact az.bJ _ _ _
    have hHo:∀ j,j ≠ id->c1.H j=c.H j:=fun j hj=>by rw[<- hc1];exact az.aJ _ _ hj
    have hn1:c1.n=c.n:=by rw[<- hc1]
    have hb1:c1.β=c.β:=by rw[<- hc1]
    have hw1:c1.w=Sort.putRow enc (Sort.ahead c.w m) (c.β id) 0 (q'.map some++List.replicate (N+1 - q'.length) none).toArray:=by rw[<- hc1]
    obtain⟨hk2,hg2⟩:=Fj hg' hH1 q'.length 0 (by simp);simp only[htk] at hk2 hg2;generalize hc2:({ c1 with H:=fun j=>if j=(c1.n,0) then some ⟨1,q'.map fun i=>[av i]⟩ else if j=id then none else c1.H j,β:=fun j=>if j=(c1.n,0) then c1.β id else c1.β j,n:=c1.n+1 }:Ctx)=c2 at hk2 hg2;have hH2:c2.H (c.n,0)=some ⟨1,q'.map fun i=>[av i]⟩:=by rw[<- hc2,<- hn1];simp
    have hidn:id.1<c.n:=hn;have hHo2:∀ j:Id,j ≠ id->j.1<c.n->c2.H j=c.H j:=fun j hj hlt=>by
     rw[<- hc2,<- hHo j hj];simp only;rw[if_neg (by rintro rfl;rw[hn1] at hlt;simp at hlt),if_neg hj]
    have hn2:c2.n=c.n+1:=by rw[<- hc2,<- hn1]
    have hb2:c2.β (c.n,0)=c.β id:=by rw[<- hc2,<- hn1];simp[hb1]
    have hw2:c2.w=c1.w:=by rw[<- hc2]
    have hTn:∀ i ∈ T',i.1<c.n:=fun i hi=>(h2 i (by simp[q7 i hi])).1
    refine⟨_,.arr (c.n,0) q'.length 0 q'.length,c2,rfl,by rw[hw2,hw1],⟨_,rfl,⟨fun i hi=>by have:=h0 i hi;omega,((c.n,0)::T')++S2,?_,fun i hi=>?_⟩,fun i hi=>hHo2 i (by rintro rfl;exact (h2 i (by simp)).2 hi) (h0 i hi),by omega⟩,?_,hg2,hk.trans hk2⟩
    ·simp only[List.map_cons,Row,Tr];refine⟨(c.n,0)::T',S2,.inr ⟨(c.n,0),q'.map fun i=>[av i],l'.map kf,T',by simp,rfl,hH2,?_,fun hm=>by have:=hTn _ hm;simp at this,rfl⟩,h4.frame fun i hi=>?_,rfl,?_⟩
     ·rw[hl'];exact bc.mono q6 fun e f ah hr hu=>hr.frame fun i hi=>hHo2 i (by rintro rfl;exact q5 (q7 _ (hu _ hi))) (hTn _ (hu _ hi))
     ·exact hHo2 i (by rintro rfl;exact h5 i (by simp) hi) (h2 i (by simp[hi])).1
     ·intro i hi hm;rcases List.mem_cons.1 hi with rfl | hi
      ·have:=(h2 _ (show (c.n,0) ∈ id::T++S2 by simp[hm])).1;simp at this
      ·exact h5 i (by simp[q7 i hi]) hm
    ·rcases List.mem_append.1 hi with hi | hi
     ·rcases List.mem_cons.1 hi with rfl | hi
      ·exact⟨by show c.n<c2.n;omega,fun hm=>by have:=h0 _ hm;simp at this⟩
      ·have:=h2 i (by simp[q7 i hi]);exact⟨by omega,this.2⟩
     ·have:=h2 i (by simp[hi]);exact⟨by omega,this.2⟩
    ·refine .arr _ _ _ _ _ rfl (by show c.n<c2.n;omega) ?_ ?_
     ·intro o ho;rw[hH2] at ho;cases ho;simp
     ·intro o ho _;rw[hH2] at ho;cases ho;refine⟨by omega,_,_,rfl,by simp[hb2],rfl,by omega,.inl (by simp),fun cl el fz E=>?_⟩;rw[hb2,hw2,hw1] at E;obtain⟨_,cl0,el0,hh0,_⟩:=g.obj id _ q3';have hnew:(Sort.putRow enc (Sort.ahead c.w m) (c.β id) 0 (q'.map some++List.replicate (N+1 - q'.length) none).toArray).heap[c.β id]?=some (.cells (Sort.putCells enc 0 (q'.map some++List.replicate (N+1 - q'.length) none).toArray cl0) el0 (0,0)):=by
       simp only[Sort.putRow,Sort.mapBlock,Sort.ahead,Array.getElem?_modify,hh0];simp[Sort.onCells]
      rw[hnew] at E;cases E;have:=hcl cl0 _ (0,0) hh0;simpa[Sort.putCells] using this
theorem J.lit0 {P:Program} {f:FuncId} {N:Nat} {k:List Item} {O:Env} {H:az} {n:Nat} {Q:au->az->Nat->Prop} {t:Nat} {id:Id} {sz:Nat} (hm:H id=some ⟨sz,[]⟩) (ht:O t = .arr id 0 0 0)
  (h:J P f N k (fun s=>if s=t then .list true [] else O s) H n Q):J P f N k O H n Q:=by
 intro c a hH hn g r b cs hf hk;refine h c a hH hn g ⟨r.defers,r.size,fun s=>?_⟩ b cs hf hk
 by_cases hs:s=t
 ·subst hs;rw[if_pos rfl];have hr:=r.rep s;rw[ht] at hr;cases hr with
  | arr _ _ _ _ _ _ hn hg h=>
   obtain⟨_,a',cap,e,_⟩:=h _ (by rw[hH];exact hm) rfl;rw[e];exact bF.list true [] a' cap 0 (fun _ _=>undef) (fun h=>absurd rfl h) (Nat.zero_le _) (fun h=>absurd rfl h) (fun i e he=>by simp at he) (fun i e j x he=>by simp at he) (fun i e j x he=>by simp at he)
 ·rw[if_neg hs];exact r.rep s
section
variable {P:Program} {f:FuncId} {N:Nat} {k:List Item} {Q:au->az->Nat->Prop} {Ty:Types} {o:Oper} {L:List Oper} {O:Env} {H:az}
@[simp] theorem bindV_none {v : au} {H' : az} {n' : Nat} : oO P f N k Q Ty [] (some (v, H', n')) o L O H = ((∀ t x lo hi mx, o.op = .slice t x lo hi mx -> ∀ id g a b, O.ev x = .arr id g a b -> id ∈ ([] : List Id)) /\ jJ P f N k Q Ty [] L (O.put o.dst v) H' n') := by
 simp[oO,okV]
end
theorem dy (t:Bool) (l:List (List Int)):old (.list t (l.map (aI t ay))) = .list false (l.map (aI false ay)):=by
 rw[fE,List.map_map]
 congr 1
 refine List.map_congr_left fun x _=>?_
 have h:=oq t x;simp only[encI] at h;simp only[Function.comp,aI,List.map_cons,List.map_nil,h]
theorem aM.ic {H:az} {n:Nat} (t:Bool) (l:List (List Int)):aM H n (.list t (l.map (aI t ay))) (.list false (l.map (aI false ay))):=by
 refine aM.tu (.list _ _ fun e he a ha=>?_) (dy t l);obtain⟨x,_,rfl⟩:=List.mem_map.1 he;simp only[aI,List.mem_singleton] at ha;subst ha;exact oT t x
end Go.Ab
namespace Go.Proofs
open Go.Shelf
def Tryz.vn:Go.Shelf.Ren:=⟨fun | 6=>34 | 15=>60 | 14=>61 | 28=>82 | 29=>83 | 20=>84 | 21=>85 | 22=>86 | 23=>87 | 24=>88 | 25=>89 | 26=>90 | 27=>91 | 46=>122 | 47=>118 | 48=>119 | 49=>123 | 50=>124 | 57=>154 | n=>n,fun | 22=>31 | 24=>24 | 25=>70 | 3=>3 | 39=>94 | 0=>0 | 53=>115 | 55=>117 | 4=>4 | 46=>107 | 45=>106 | 50=>112 | 5=>5 | 9=>9 | 66=>140 | 70=>144 | 76=>166 | 77=>167 | n=>n,fun | n=>n⟩
theorem Tryz.wT:Go.Proofs.SlLaysF.n6 prog Tryz.vn:={
 mixed:=by kernel_rfl
 f6:=⟨Tryz.f34.name,by decide,Tryz.func34.trans (congrArg some (by kernel_rfl))⟩
 f14:=⟨Tryz.f61.name,by decide,Tryz.func61.trans (congrArg some (by kernel_rfl))⟩
 f15:=Tryz.func60.trans (congrArg some (by kernel_rfl))
 f20:=⟨Tryz.f84.name,by decide,Tryz.func84.trans (congrArg some (by kernel_rfl))⟩
 f21:=⟨Tryz.f85.name,by decide,Tryz.func85.trans (congrArg some (by kernel_rfl))⟩
 f22:=⟨Tryz.f86.name,by decide,Tryz.func86.trans (congrArg some (by kernel_rfl))⟩
 f23:=⟨Tryz.f87.name,by decide,Tryz.func87.trans (congrArg some (by kernel_rfl))⟩
 f24:=⟨Tryz.f88.name,by decide,Tryz.func88.trans (congrArg some (by kernel_rfl))⟩
 f25:=⟨Tryz.f89.name,by decide,Tryz.func89.trans (congrArg some (by kernel_rfl))⟩
 f26:=⟨Tryz.f90.name,by decide,Tryz.func90.trans (congrArg some (by kernel_rfl))⟩
 f27:=⟨Tryz.f91.name,by decide,Tryz.func91.trans (congrArg some (by kernel_rfl))⟩
 f28:=Tryz.func82.trans (congrArg some (by kernel_rfl))
 f29:=Tryz.func83.trans (congrArg some (by kernel_rfl))
 f46:=⟨Tryz.f122.name,by decide,Tryz.func122.trans (congrArg some (by kernel_rfl))⟩
 f47:=Tryz.func118.trans (congrArg some (by kernel_rfl))
 f48:=Tryz.func119.trans (congrArg some (by kernel_rfl))
 f49:=⟨Tryz.f123.name,by decide,Tryz.func123.trans (congrArg some (by kernel_rfl))⟩
 f50:=⟨Tryz.f124.name,by decide,Tryz.func124.trans (congrArg some (by kernel_rfl))⟩
 f57:=⟨Tryz.f154.name,by decide,Tryz.func154.trans (congrArg some (by kernel_rfl))⟩
 t0:=Tryz.underlying0
 a0:=Tryz.isAgg0
 z0:=Tryz.sizeOf0
 v0:=Tryz.zeroValue0
 t3:=Tryz.underlying3
 a3:=Tryz.isAgg3
 z3:=Tryz.sizeOf3
 v3:=Tryz.zeroValue3
 t4:=Tryz.underlying4
 a4:=Tryz.isAgg4
 z4:=Tryz.sizeOf4
 v4:=Tryz.zeroValue4
 t5:=Tryz.underlying5
 a5:=Tryz.isAgg5
 z5:=Tryz.sizeOf5
 v5:=Tryz.zeroValue5
 t9:=Tryz.underlying9
 a9:=Tryz.isAgg9
 z9:=Tryz.sizeOf9
 v9:=Tryz.zeroValue9
 t22:=Tryz.underlying31
 a22:=Tryz.isAgg31
 z22:=Tryz.sizeOf31
 v22:=Tryz.zeroValue31
 a24:=Tryz.isAgg24
 z24:=Tryz.sizeOf24
 t25:=Tryz.underlying70
 a25:=Tryz.isAgg70
 z25:=Tryz.sizeOf70
 v25:=Tryz.zeroValue70
 t39:=Tryz.underlying94
 a39:=Tryz.isAgg94
 z39:=Tryz.sizeOf94
 v39:=Tryz.zeroValue94
 t45:=Tryz.underlying106
 a45:=Tryz.isAgg106
 z45:=Tryz.sizeOf106
 v45:=Tryz.zeroValue106
 t46:=Tryz.underlying107
 a46:=Tryz.isAgg107
 z46:=Tryz.sizeOf107
 v46:=Tryz.zeroValue107
 t50:=Tryz.underlying112
 a50:=Tryz.isAgg112
 z50:=Tryz.sizeOf112
 v50:=Tryz.zeroValue112
 t53:=Tryz.underlying115
 a53:=Tryz.isAgg115
 z53:=Tryz.sizeOf115
 v53:=Tryz.zeroValue115
 t55:=Tryz.underlying117
 a55:=Tryz.isAgg117
 z55:=Tryz.sizeOf117
 v55:=Tryz.zeroValue117
 t66:=Tryz.underlying140
 a66:=Tryz.isAgg140
 z66:=Tryz.sizeOf140
 v66:=Tryz.zeroValue140
 t70:=Tryz.underlying144
 a70:=Tryz.isAgg144
 z70:=Tryz.sizeOf144
 v70:=Tryz.zeroValue144
 t76:=Tryz.underlying166
 a76:=Tryz.isAgg166
 z76:=Tryz.sizeOf166
 v76:=Tryz.zeroValue166
 t77:=Tryz.underlying167
 a77:=Tryz.isAgg167
 z77:=Tryz.sizeOf167
 v77:=Tryz.zeroValue167 }
end Go.Proofs
namespace Go.Ab.Vg
open Go.Proofs Go.RowKit
theorem e34:aW prog 34:=aW.of func34 (by kernel_rfl) rfl
theorem e37:aW prog 37:=aW.of func37 (by kernel_rfl) rfl
theorem DO:∀ args w,(callFunc 92 args).run prog w = .ok (.enter 92 args) w:=enters_of func92 (by kernel_rfl) rfl
theorem Ez:∀ args w,(callFunc 62 args).run prog w = .ok (.enter 62 args) w:=enters_of func62 (by kernel_rfl) rfl
set_option maxHeartbeats 1000000 in
theorem uJ (x:Int) (w:World):Calls prog 92 #[.int .i64 x] w fun e w'=>e = .returned (.bool false)/\w'=w:=by
 go_enter func92,ntmps92
 go_wp2
 go_ret
 exact⟨by simp,rfl⟩
set_option maxHeartbeats 1000000 in
theorem yx (x y:Int) (w:World):Calls prog 62 #[.int .i64 x,.int .i64 y] w fun e w'=>e = .returned (.int .i64 (if x<y then -1 else if y<x then 1 else 0))/\w'=w:=by
 have e0:=DO
 go_enter func62,ntmps62
 by_cases h1:x<y
 ·go_wp2_with (go_at_fn 92;refine (uJ _ _).mono ?_;rintro e w' ⟨rfl,rfl⟩)
  go_ret
  exact⟨by simp[h1],rfl⟩
 ·by_cases h2:y<x
  ·go_wp2_with (go_at_fn 92;refine (uJ _ _).mono ?_;rintro e w' ⟨rfl,rfl⟩)
   go_ret
   exact⟨by simp[h1,h2],rfl⟩
  ·go_wp2_with (go_at_fn 92;refine (uJ _ _).mono ?_;rintro e w' ⟨rfl,rfl⟩)
   go_ret
   exact⟨by simp[h1,h2],rfl⟩
theorem EV {x y:Int} (h:x<y) (w:World):Calls prog 62 #[.int .i64 x,.int .i64 y] w fun e w'=>e = .returned (.int .i64 (-1))/\w'=w:=by have:=yx x y w;rwa [if_pos h] at this
theorem EY {x y:Int} (h:x=y) (w:World):Calls prog 62 #[.int .i64 x,.int .i64 y] w fun e w'=>e = .returned (.int .i64 0)/\w'=w:=by have:=yx x y w;rwa [if_neg (by omega),if_neg (by omega)] at this
theorem EU {x y:Int} (h:y<x) (w:World):Calls prog 62 #[.int .i64 x,.int .i64 y] w fun e w'=>e = .returned (.int .i64 1)/\w'=w:=by have:=yx x y w;rwa [if_neg (by omega),if_pos h] at this
theorem mU:∀ {a b:List Int} {k:Nat},k<a.length->k<b.length->(∀ j,j<k->a[j]! = b[j]!)->a[k]! ≠ b[k]!->cmpL a b=if a[k]!<b[k]! then -1 else 1
 | x::_,y::_,0,_,_,_,h=>by
  simp only[List.getElem!_cons_zero] at h ⊢;simp only[cmpL]
  repeat' split
  all_goals first | rfl | omega
 | x::a,y::b,k+1,h1,h2,he,h=>by
  have e0:=he 0 (by omega);simp only[List.getElem!_cons_zero] at e0;subst e0;simp only[cmpL,Int.lt_irrefl,if_false,List.getElem!_cons_succ] at h ⊢;exact mU (by simpa using h1) (by simpa using h2) (fun j hj=>by have:=he (j+1) (by omega);simpa using this) h
theorem lY:∀ {a b:List Int},(∀ j,j<a.length->j<b.length->a[j]! = b[j]!)->cmpL a b=if a.length<b.length then -1 else if b.length<a.length then 1 else 0
 | [],[],_=>rfl
 | [],_::_,_=>by simp[cmpL]
 | _::_,[],_=>by simp[cmpL]
 | x::a,y::b,he=>by
  have e0:=he 0 (by simp) (by simp);simp only[List.getElem!_cons_zero] at e0;subst e0;simp only[cmpL,Int.lt_irrefl,if_false,List.length_cons];rw[lY fun j h1 h2=>by have:=he (j+1) (by simpa using h1) (by simpa using h2);simpa using this]
  repeat' split
  all_goals first | rfl | omega
set_option maxHeartbeats 2000000 in
set_option maxRecDepth 100000 in
theorem Cm (xs ys:List Int) (u v:Value) (w:World) (hu:cI w u xs) (hv:cI w v ys) (hx:xs.length<=9223372036854775806) (hy:ys.length<=9223372036854775806) :
  Calls prog 36 #[u,v] w fun e w'=>e = .returned (.int .i64 (cmpL xs ys))/\w'=w:=by
 have e0:=Ez;obtain⟨p,c,rfl,h1⟩:=hu;obtain⟨q,d,rfl,h2⟩:=hv;obtain⟨n,hn⟩:∃ n,xs.length=n:=⟨_,rfl⟩
 obtain⟨m,hm⟩:∃ m,ys.length=m:=⟨_,rfl⟩
 have HN:Aside (xs.length=n/\ys.length=m):=⟨hn,hm⟩
 rw[hn] at h1 hx ⊢;rw[hm] at h2 hy ⊢;clear hn hm
 go_enter func36,ntmps36
 go_wp2
 go_loopg [11] n (fun g s11 wr=>∃ k:Nat,k<=n/\n - k<=g/\s11 = .int .i64 k/\wr=w/\Aside (∀ j,j<k->j<m/\xs[j]! = ys[j]!))
 case atStart=>exact⟨0,Nat.zero_le _,by omega,rfl,rfl,fun j hj=>absurd hj (Nat.not_lt_zero _)⟩
 case round=>
  obtain⟨k,hk,hg,rfl,rfl,A⟩:=hrel
  by_cases hlt:k<n
  ·obtain⟨b,o,rfl,g1⟩:=h1 k hlt
   by_cases hly:k<m
   ·obtain⟨b',o',rfl,g2⟩:=h2 k hly;clear h1 h2;generalize hxk:xs[k]! = x at g1;generalize hyk:ys[k]! = y at g2;have B:Aside (xs[k]! = x/\ys[k]! = y):=⟨hxk,hyk⟩
    clear hxk hyk;rcases Int.lt_trichotomy x y with hc | hc | hc
    ·go_wp2_with (go_at_fn 62;refine (EV hc _).mono ?_;rintro e w' ⟨rfl,rfl⟩)
     go_ret
     refine⟨?_,rfl⟩;rw[mU (k:=k) (by rw[HN.out.1];exact hlt) (by rw[HN.out.2];exact hly) (fun j hj=>(A.out j hj).2) (by rw[B.out.1,B.out.2];omega),B.out.1,B.out.2,if_pos hc]
     rfl
    ·subst hc
     go_wp2_with (go_at_fn 62;refine (EY rfl _).mono ?_;rintro e w' ⟨rfl,rfl⟩)
     go_roundg (n - (k+1))
     case measure=>omega
     case rel=>
      refine⟨k+1,by omega,by omega,by go_num,rfl,(show Aside _ from fun j hj=>?_)⟩
      by_cases e:j=k
      ·subst e;exact⟨hly,by rw[B.out.1,B.out.2]⟩
      ·exact A.out j (by omega)
    ·go_wp2_with (go_at_fn 62;refine (EU hc _).mono ?_;rintro e w' ⟨rfl,rfl⟩)
     go_ret
     refine⟨?_,rfl⟩;rw[mU (k:=k) (by rw[HN.out.1];exact hlt) (by rw[HN.out.2];exact hly) (fun j hj=>(A.out j hj).2) (by rw[B.out.1,B.out.2];omega),B.out.1,B.out.2,if_neg (by omega)]
     rfl
   ·clear h1 h2;have C:Aside (∀ j,j<xs.length->j<ys.length->xs[j]! = ys[j]!):=fun j a1 a2=>by
     rw[HN.out.2] at a2;exact (A.out j (by omega)).2
    have al:Aside (¬ xs.length<ys.length/\ys.length<xs.length):=by rw[HN.out.1,HN.out.2];exact⟨by omega,by omega⟩
    clear A
    go_wp2
    go_ret
    refine⟨?_,rfl⟩;rw[lY C.out,if_neg al.out.1,if_pos al.out.2]
    rfl
  ·have:k=n:=by omega
   subst this;clear h1 h2;have C:Aside (∀ j,j<xs.length->j<ys.length->xs[j]! = ys[j]!):=fun j a1 a2=>by
    rw[HN.out.1] at a1;exact (A.out j a1).2
   have an:Aside (k<=m):=by
    rcases Nat.lt_or_ge m k with h | h
    ·exact absurd (A.out m h).1 (Nat.lt_irrefl m)
    ·exact h
   clear A
   by_cases hc:k<m
   ·have al:Aside (xs.length<ys.length):=by rw[HN.out.1,HN.out.2];exact hc
    go_wp2
    go_ret
    refine⟨?_,rfl⟩;rw[lY C.out,if_pos al.out]
    rfl
   ·have al:Aside (¬ xs.length<ys.length/\¬ ys.length<xs.length):=by have:=an.out;rw[HN.out.1,HN.out.2];exact⟨by omega,by omega⟩
    clear an
    go_wp2
    go_ret
    refine⟨?_,rfl⟩;rw[lY C.out,if_neg al.out.1,if_neg al.out.2]
    rfl
theorem Ey:∀ args w,(callFunc 36 args).run prog w = .ok (.enter 36 args) w:=enters_of func36 (by kernel_rfl) rfl
set_option maxHeartbeats 1000000 in
theorem Bu (xs ys:List Int) (u v:Value) (w:World) (hu:cI w u xs) (hv:cI w v ys) (hx:xs.length<=9223372036854775806) (hy:ys.length<=9223372036854775806) :
  Calls prog 35 #[u,v] w fun e w'=>e = .returned (.int .i64 (cmpL xs ys))/\w'=w:=by
 have e0:=Ey;have hc:=Cm xs ys u v w hu hv hx hy;clear hu hv
 go_enter func35,ntmps35
 go_wp2_with (go_at_fn 36;apply hc.mono;rintro e w' ⟨rfl,rfl⟩)
 go_ret
 exact⟨rfl,rfl⟩
theorem AR {β:Type} (a:Array β) {n:Nat} (h:a.size=n):a.extract 0 n=a:=by subst h;exact Array.extract_size
theorem cI.sorted {α:Type} [Inhabited α] {enc:α->Value} {w:World} {v:Value} {l:List Int} {blk:Nat} (h:cI w v l) (he:eD v blk) (off m:Nat) (dk:Array α) (os:Array Obj):cI (sortWorld enc w blk off m dk os) v l:=by
 obtain⟨p,cap,rfl,h⟩:=h;refine⟨p,cap,rfl,fun j hj=>?_⟩;obtain⟨b,o,rfl,hc⟩:=h j hj;have hb:=he b o _ _ rfl;refine⟨b,o,rfl,?_⟩;have hlt:b<w.heap.size:=by
  rcases Nat.lt_or_ge b w.heap.size with h1 | h1
  ·exact h1
  ·simp only[World.cell?,Array.getElem?_eq_none h1] at hc;cases hc
 rw[sortWorld,Sort.cell?_grow _ _ _ (by simpa[Sort.putRow,Sort.mapBlock,Sort.ahead] using hlt)];simp only[World.cell?,Sort.putRow,Sort.mapBlock,Sort.ahead,Array.getElem?_modify];rw[if_neg (Ne.symm hb)];simpa only [World.cell?] using hc
theorem ltR {K:Nat} (rows:Fin K->List Int) (x y:Fin K):ltOf (fun i j=>cmpL (rows i) (rows j)) x y=decide (cmpL (rows x) (rows y)<0):=rfl
theorem swoR {K:Nat} (rows:Fin K->List Int):Sort.SWO (ltOf fun i j:Fin K=>cmpL (rows i) (rows j)) where
 irrefl x:=by rw[ltR,mF];rfl
 trans x y z h1 h2:=by rw[ltR] at *;simp only[decide_eq_true_eq] at *;exact iK h1 h2
 ntrans x y z h1 h2:=by
  rw[ltR] at *;simp only[decide_eq_false_iff_not] at *;exact fun h=>h2 (rh h1 h)
set_option maxHeartbeats 1000000 in
theorem Ax {K:Nat} (rows:Fin (K+1)->List Int) (vs:Fin (K+1)->Value) (h1:∀ i,(vs i).oneCell'=true) {blk off cap:Nat} {w:World} (hr:∀ i,cI w (vs i) (rows i)) (he:∀ i,eD (vs i) blk) (hl:∀ i,(rows i).length<=9223372036854775806)
  (hH:Sort.Holds vs w blk off (List.finRange (K+1)).toArray) (hb:blk<w.heap.size) (hK:K+1<4611686018427387904) :
  Calls prog 34 #[.slice (some ⟨blk,off,none⟩) (K+1) cap,.func (.func 35) #[] #[]] w fun e w'=>e = .returned (.tuple #[])/\∃ (d':List (Fin (K+1))) (n:Nat) (os:Array Obj),d'.Perm (List.finRange (K+1))/\Up (d'.map rows)/\w'=sortWorld vs w blk off n d'.toArray os:=by
 have eg:∀ args w,(callFunc 35 args).run prog w = .ok (.enter 35 args) w:=enters_of func35 (by kernel_rfl) rfl;have hs:(List.finRange (K+1)).toArray.size=K+1:=by simp
 have hcon:=Any.slices_SortFunc Tryz.wT vs h1 (fun i j=>cmpL (rows i) (rows j)) (swoR rows) 35 #[] blk off cap (List.finRange (K+1)).toArray w eg
  (fun m os dk _ x y=>(Bu (rows x) (rows y) (vs x) (vs y) _ (cI.sorted (hr x) (he x) off m dk os) (cI.sorted (hr y) (he y) off m dk os) (hl x) (hl y)).mono fun e w' ⟨h2,h3⟩=>⟨h2,0,#[],by rw[h3];simp[Sort.grow];rfl⟩) hH hb (by rw[hs];exact hK)
 rw[hs] at hcon;refine (show Calls prog 34 _ _ _ from hcon).mono ?_;rintro e w' ⟨rfl,d',n,os,hp,hso,rfl⟩;obtain⟨hsz,_,hperm⟩:=hp;rw[hs] at hsz;have e1:d'.extract 0 (K+1)=d':=AR d' hsz;have e2:(List.finRange (K+1)).toArray.extract 0 (K+1)=(List.finRange (K+1)).toArray:=AR _ hs;rw[e1,e2] at hperm;refine⟨rfl,d'.toList,n,os,hperm,?_,rfl⟩;rw[Up,List.pairwise_map];refine List.pairwise_iff_getElem.2 fun i j hi hj hij=>?_
 have hi':i<d'.size:=by simpa using hi
 have hj':j<d'.size:=by simpa using hj
 have:=hso i j (Nat.zero_le _) hij (by omega);rw[ltR] at this;simpa[hi',hj'] using this
set_option maxHeartbeats 2000000 in
set_option maxRecDepth 100000 in
theorem E7 (xs ys:List Int) (u v:Value) (w:World) (hu:cI w u xs) (hv:cI w v ys) (hx:xs.length<=9223372036854775806) (hy:ys.length<=9223372036854775806) :
  Calls prog 39 #[u,v] w fun e w'=>e = .returned (.bool (decide (xs=ys)))/\∃ q,w'=w.drewN q:=by
 have mixed:(prog).follows .mixedOrders=true:=by kernel_rfl
 obtain⟨p,c,rfl,h1⟩:=hu;obtain⟨q,d,rfl,h2⟩:=hv;obtain⟨n,hn⟩:∃ n,xs.length=n:=⟨_,rfl⟩
 obtain⟨m,hm⟩:∃ m,ys.length=m:=⟨_,rfl⟩
 have HN:Aside (xs.length=n/\ys.length=m):=⟨hn,hm⟩
 rw[hn] at h1 hx ⊢;rw[hm] at h2 hy ⊢;clear hn hm
 by_cases hnm:n=m
 ·subst hnm
  go_enter func39,ntmps39
  go_wp2
  go_loopg [13] n (fun g s13 wr=>∃ k q:Nat,k<=n/\n - k<=g/\s13 = .int .i64 k/\wr=w.drewN q/\Aside (∀ j,j<k->xs[j]! = ys[j]!))
  case atStart=>exact⟨0,0,Nat.zero_le _,by omega,rfl,rfl,fun j hj=>absurd hj (Nat.not_lt_zero _)⟩
  case round=>
   obtain⟨k,q,hk,hg,rfl,rfl,A⟩:=hrel
   by_cases hlt:k<n
   ·obtain⟨b,o,rfl,g1⟩:=h1 k hlt;obtain⟨b',o',rfl,g2⟩:=h2 k hlt;clear h1 h2;generalize hxk:xs[k]! = x at g1;generalize hyk:ys[k]! = y at g2;have B:Aside (xs[k]! = x/\ys[k]! = y):=⟨hxk,hyk⟩
    clear hxk hyk
    by_cases hxy:x=y
    ·subst hxy
     go_wp2_with fail
     go_region_o
     go_wp2
     go_roundg (n - (k+1))
     case measure=>omega
     case rel=>
      refine⟨k+1,q+1,by omega,by omega,by go_num,rfl,(show Aside _ from fun j hj=>?_)⟩
      by_cases e:j=k
      ·subst e;rw[B.out.1,B.out.2]
      ·exact A.out j (by omega)
    ·go_wp2_with fail
     go_region_o
     go_wp2
     go_ret
     refine⟨?_,q+1,rfl⟩;rw[decide_eq_false (fun e=>hxy (by rw[<- B.out.1,<- B.out.2,e]))]
     rfl
   ·have:k=n:=by omega
    subst this;clear h1 h2;have C:Aside (xs=ys):=by
     refine List.ext_getElem (by rw[HN.out.1,HN.out.2]) fun j a1 a2=>?_
     have:=A.out j (by rw[<- HN.out.1];exact a1);simpa[a1,a2] using this
    clear A
    go_wp2
    go_ret
    refine⟨?_,q,rfl⟩;rw[decide_eq_true C.out]
    rfl
 ·have hnm':¬ (n:Int)=(m:Int):=by omega
  have C:Aside (¬ xs=ys):=fun e=>hnm (by rw[<- HN.out.1,<- HN.out.2,e])
  clear h1 h2
  go_enter func39,ntmps39
  go_wp2
  go_ret
  refine⟨?_,0,rfl⟩;rw[decide_eq_false C.out]
  rfl
theorem Ej:∀ args w,(callFunc 39 args).run prog w = .ok (.enter 39 args) w:=enters_of func39 (by kernel_rfl) rfl
set_option maxHeartbeats 1000000 in
theorem DK (xs ys:List Int) (u v:Value) (w:World) (hu:cI w u xs) (hv:cI w v ys) (hx:xs.length<=9223372036854775806) (hy:ys.length<=9223372036854775806) :
  Calls prog 38 #[u,v] w fun e w'=>e = .returned (.bool (decide (xs=ys)))/\∃ q,w'=w.drewN q:=by
 have e0:=Ej;have hc:=E7 xs ys u v w hu hv hx hy;clear hu hv
 go_enter func38,ntmps38
 go_wp2_with (go_at_fn 39;apply hc.mono;rintro e w' ⟨rfl,q,rfl⟩)
 go_ret
 exact⟨rfl,q,rfl⟩
section
variable {α:Type} [Inhabited α] (key:α->List Int)
def dh (d:Array α) (j:Nat):Bool:=decide (j=0\/key d[j]! ≠ key d[j - 1]!)
def dY (d:Array α) (m:Nat):List α:=((List.range m).filter (dh key d)).map (d[·]!)
variable {key}
theorem qY (d:Array α):∀ j,j<1->dh key d j=true:=by
 intro j hj;have:j=0:=by omega
 subst this;simp[dh]
theorem nY {d:Array α} {m:Nat} (h:key d[m]! ≠ key d[m - 1]!):dh key d m=true:=by simp[dh,h]
theorem nw {d:Array α} {m:Nat} (hm:0<m) (h:key d[m]! = key d[m - 1]!):dh key d m=false:=by
 have:m ≠ 0:=by omega
 simp[dh,h,this]
theorem eP (d:Array α) (m:Nat):dY key d (m+1)=dY key d m++(if dh key d m then [d[m]!] else []):=by
 unfold dY;rw[List.range_succ,List.filter_append,List.map_append]
 congr 1
 by_cases h:dh key d m<;>simp[h]
theorem pM (d:Array α) (m:Nat) (h:∀ j,j<m->dh key d j=true):dY key d m=(List.range m).map (d[·]!):=by
 unfold dY;rw[List.filter_eq_self.2 (fun j hj=>h j (List.mem_range.1 hj))]
variable (key)
structure pD (d:Array α) (m k:Nat) (dk:Array α):Prop where
 size:dk.size=d.size
 len:(dY key d m).length=k
 lt:k<m
 low:∀ j,j<k->(dY key d m)[j]?=some dk[j]!
 high:∀ j,k<=j->dk[j]! = d[j]!
variable {key}
theorem pD.start {d:Array α} {k0:Nat} (bu:∀ j,j<k0->dh key d j=true) (hdup:dh key d k0=false):pD key d (k0+1) k0 d where
 size:=rfl
 len:=by rw[eP,hdup,pM d k0 bu];simp
 lt:=Nat.lt_succ_self _
 low:=fun j hj=>by rw[eP,hdup,pM d k0 bu];simp[hj]
 high:=fun _ _=>rfl
theorem pD.keep {d dk:Array α} {m k:Nat} (h:pD key d m k dk) (hm:m<d.size) (hk:dh key d m=true):pD key d (m+1) (k+1) (dk.setIfInBounds k d[m]!) where
 size:=by simp[h.size]
 len:=by rw[eP,hk];simp[h.len]
 lt:=by have:=h.lt;omega
 low:=fun j hj=>by
  rw[eP,hk,if_pos rfl]
  by_cases e:j=k
  ·subst e;rw[List.getElem?_append_right (by rw[h.len];exact Nat.le_refl _),h.len,Nat.sub_self,Sort.getElem!_set_same dk j _ (by have:=h.lt;have:=h.size;omega)]
   rfl
  ·rw[List.getElem?_append_left (by rw[h.len];omega),h.low j (by omega),Sort.getElem!_set_other dk k j _ e]
 high:=fun j hj=>by rw[Sort.getElem!_set_other dk k j _ (by omega),h.high j (by omega)]
theorem pD.skip {d dk:Array α} {m k:Nat} (h:pD key d m k dk) (hk:dh key d m=false):pD key d (m+1) k dk where
 size:=h.size
 len:=by rw[eP,hk];simpa using h.len
 lt:=by have:=h.lt;omega
 low:=fun j hj=>by rw[eP,hk];simpa using h.low j hj
 high:=h.high
theorem pD.done {d dk:Array α} {k:Nat} (h:pD key d d.size k dk) (z:α) :
  Lib.lay dk k (List.replicate (d.size - k) z)=(dY key d d.size++List.replicate (d.size - k) z).toArray:=by
 have hk:=h.lt;have hs:=h.size;apply Array.ext_getElem?;intro j;rw[Lib.lay_get? _ _ _ _ (by simp;omega),show (dY key d d.size++List.replicate (d.size - k) z).toArray[j]?=(dY key d d.size++List.replicate (d.size - k) z)[j]? from List.getElem?_toArray];simp only[List.length_replicate]
 by_cases c:j<k
 ·rw[if_neg (by omega),List.getElem?_append_left (by rw[h.len];exact c),h.low j c,getElem!_pos dk j (by omega),Array.getElem?_eq_getElem]
 ·rw[List.getElem?_append_right (by rw[h.len];omega),h.len]
  by_cases c2:j<d.size
  ·rw[if_pos (by omega)]
  ·rw[if_neg (by omega),Array.getElem?_eq_none (by omega),List.getElem?_eq_none (by simp;omega)]
theorem cI.put {enc:α->Value} {w:World} {v:Value} {l:List Int} {blk:Nat} (h:cI w v l) (he:eD v blk) (off m n:Nat) (dk:Array α):cI ((Sort.putRow enc (Sort.ahead w m) blk off dk).drewN n) v l:=by
 obtain⟨p,cap,rfl,h⟩:=h;refine⟨p,cap,rfl,fun j hj=>?_⟩;obtain⟨b,o,rfl,hc⟩:=h j hj;have hb:=he b o _ _ rfl;refine⟨b,o,rfl,?_⟩;show (Sort.putRow enc (Sort.ahead w m) blk off dk).cell? _=_;simp only[World.cell?,Sort.putRow,Sort.mapBlock,Sort.ahead,Array.getElem?_modify];rw[if_neg (Ne.symm hb)];simpa only [World.cell?] using hc
end
theorem jM {α:Type} [Inhabited α] (enc:α->Value) (w:World) (m q blk off:Nat) (d:Array α):(Sort.putRow enc (Sort.ahead w m) blk off d).drewN q=Sort.putRow enc (Sort.ahead w (m+q)) blk off d:=by
 simp only[Sort.putRow,Sort.mapBlock,Sort.ahead,World.drewN,Nat.add_assoc]
theorem uv {α:Type} [Inhabited α] {enc:α->Value} {w wr:World} {n blk off:Nat} {dk:Array α} {i:Nat} (hi:i<dk.size) (hwr:wr=Sort.putRow enc (Sort.ahead w n) blk off dk) (x:α) :
  (wr.setCell ⟨blk,off+i,none⟩ (enc x))=Sort.putRow enc (Sort.ahead w n) blk off (dk.setIfInBounds i x):=by
 subst hwr;rw[Sort.putRow_set enc _ blk off dk i x hi]
set_option maxHeartbeats 4000000 in
set_option maxRecDepth 1000000 in
theorem sQ {α:Type} [Inhabited α] (enc:α->Value) (key:α->List Int) (hz:enc default = .slice none 0 0) {blk off cap:Nat} {d:Array α} {w:World} (hr:∀ x,cI w (enc x) (key x)) (he:∀ x,eD (enc x) blk) (hl:∀ x,(key x).length<=9223372036854775806)
  (hH:Sort.Holds enc w blk off d) (hsz:d.size<=4611686018427387904) (ez:d.size<=cap) :
  Calls prog 37 #[.slice (some ⟨blk,off,none⟩) d.size cap,.func (.func 38) #[] #[]] w fun e w'=>e = .returned (.slice (some ⟨blk,off,none⟩) (dY key d d.size).length cap)/\∃ q,w'=Sort.putRow enc (Sort.ahead w q) blk off (dY key d d.size++List.replicate (d.size - (dY key d d.size).length) default).toArray:=by
 have mixed:(prog).follows .mixedOrders=true:=by kernel_rfl
 have eg:∀ args w,(callFunc 38 args).run prog w = .ok (.enter 38 args) w:=enters_of func38 (by kernel_rfl) rfl;have same:∀ q,(∀ j,j<d.size->dh key d j=true)->(dY key d d.size).length=d.size/\w.drewN q=Sort.putRow enc (Sort.ahead w q) blk off (dY key d d.size++List.replicate (d.size - (dY key d d.size).length) default).toArray:=by
  intro q bu;have e:dY key d d.size=d.toList:=by rw[pM d _ bu,Lib.range_map_get]
  rw[e];refine⟨by simp,?_⟩;simp only[Array.length_toList,Nat.sub_self,List.replicate_zero,List.append_nil,Array.toArray_toList];exact (Sort.putRow_self enc (Sort.ahead w q) blk off d (Sort.holds_ahead enc w q blk off d hH)).symm
 have HS:Aside (∀ q,(∀ j,j<d.size->dh key d j=true)->(dY key d d.size).length=d.size/\w.drewN q=Sort.putRow enc (Sort.ahead w q) blk off (dY key d d.size++List.replicate (d.size - (dY key d d.size).length) default).toArray):=same;have call:∀ (x y:α) (q:Nat) (dk:Array α),Calls prog 38 #[enc x,enc y] (Sort.putRow enc (Sort.ahead w q) blk off dk) fun e w'=>e = .returned (.bool (decide (key x=key y)))/\∃ m,w'=(Sort.putRow enc (Sort.ahead w q) blk off dk).drewN m:=fun x y q dk=>
  DK (key x) (key y) (enc x) (enc y) _ (cI.put (hr x) (he x) off q 0 dk) (cI.put (hr y) (he y) off q 0 dk) (hl x) (hl y)
 have call0:∀ (x y:α) (q:Nat),Calls prog 38 #[enc x,enc y] (w.drewN q) fun e w'=>e = .returned (.bool (decide (key x=key y)))/\∃ m,w'=(w.drewN q).drewN m:=fun x y q=>by
  have:=call x y q d
  rwa [Sort.putRow_self enc (Sort.ahead w q) blk off d (Sort.holds_ahead enc w q blk off d hH)] at this
 have HC:Aside _:=call;have HC0:Aside _:=call0;have HZ:Aside (enc default = .slice none 0 0):=hz;have form:∀ x,∃ p n c,enc x = .slice p n c:=fun x=>by obtain⟨p,c,h,_⟩:=hr x;exact⟨p,_,c,h⟩
 have HF:Aside (∀ x,∃ p n c,enc x = .slice p n c):=form;clear same call call0 hr he hl hz form
 by_cases h2:d.size<2
 ·clear hH HC HC0
  go_enter func37,ntmps37
  go_wp2
  go_ret
  obtain⟨e1,e2⟩:=HS.out 0 (fun j hj=>qY d j (by omega));exact⟨by rw[e1];rfl,0,e2⟩
 ·go_enter func37,ntmps37
  go_wp2
  go_loopg [5] d.size (fun g s3 wr=>∃ k q:Nat,1<=k/\k<=d.size/\d.size - k<=g/\s3 = .int .i64 k/\wr=w.drewN q/\∀ j,j<k->dh key d j=true)
  case atStart=>exact⟨1,0,Nat.le_refl _,by omega,by omega,rfl,rfl,qY d⟩
  case round=>
   obtain⟨k,q,hk1,hk,hg,rfl,hwr,bu⟩:=hrel;have W1:Aside (wr=w.drewN q):=hwr
   by_cases hlt:k<d.size
   ·have c1:wr.cell? ⟨blk,off+k,none⟩=some (enc d[k]!):=by rw[hwr];exact (hH k hlt).1
    have c0:wr.cell? ⟨blk,off+(k - 1),none⟩=some (enc d[k - 1]!):=by rw[hwr];exact (hH (k - 1) (by omega)).1
    have A:Aside (∀ j,j<k->dh key d j=true):=bu;have HH:Aside (Sort.Holds enc w blk off d):=hH;clear bu hH;have hcc:∀ n,Calls prog 38 #[enc d[k]!,enc d[k - 1]!] (wr.drewN n) fun e w'=>e = .returned (.bool (decide (key d[k]! = key d[k - 1]!)))/\∃ m,w'=(wr.drewN n).drewN m:=fun n=>by rw[hwr,World.drewN_drewN];exact HC0.out d[k]! d[k - 1]! (q+n)
    clear hwr;obtain⟨p1,U,m1,e1⟩:=HF.out d[k]!;obtain⟨p0,n0,m0,e0⟩:=HF.out d[k - 1]!;rw[e1] at c1;rw[e0] at c0;simp only[e1,e0] at hcc;have w1:IntKind.i64.wrap ((k:Int) - 1)=((k - 1:Nat):Int):=by rw[IntKind.wrap_i64];omega
    have w2:((k - 1:Nat):Int).toNat=k - 1:=by omega
    have w3:(0:Int)<=((k - 1:Nat):Int):=by omega
    have w4:((k - 1:Nat):Int)<(d.size:Int):=by omega
    have ag:Aside (enc d[k]! = .slice p1 U m1/\enc d[k - 1]! = .slice p0 n0 m0):=⟨e1,e0⟩
    clear e1 e0
    by_cases hdup:key d[k]! = key d[k - 1]!
    ·simp only[hdup,decide_true] at hcc
     go_wp2_with fail
     go_quiet (first | (go_at_fn 38;refine Calls.quiet_of (hcc _)))
     have W2:Aside (wr.drewN nq=Sort.putRow enc (Sort.ahead w (q+nq)) blk off d):=by
      show _=_;rw[W1.out,World.drewN_drewN];exact (Sort.putRow_self enc (Sort.ahead w (q+nq)) blk off d (Sort.holds_ahead enc w (q+nq) blk off d HH.out)).symm
     clear c0 c1 hcc w1 w2 w3 w4 W1;generalize wr.drewN nq=wr2 at W2 ⊢
     go_wp2
     go_loopg [5,7] d.size (fun g s3 s5 wr=>∃ (kk k2 q2:Nat) (dk:Array α),s3 = .int .i64 kk/\s5 = .int .i64 k2/\1<=k2/\k+k2<=d.size/\d.size - (k+k2)<=g/\wr=Sort.putRow enc (Sort.ahead w q2) blk off dk/\pD key d (k+k2) kk dk)
     case atStart=>exact⟨k,1,q+nq,d,rfl,rfl,Nat.le_refl _,by omega,by omega,W2.out,pD.start A.out (nw (by omega) hdup)⟩
     case round=>
      clear W2;obtain⟨kk,k2,q2,dk,rfl,rfl,h1,hle,hg2,hwr,hI⟩:=hrel;have hkk:=hI.lt;have hds:=hI.size;have hHk:Sort.Holds enc wr blk off dk:=by rw[hwr];exact Sort.holds_putRow enc _ blk off d dk (Sort.holds_ahead enc w q2 blk off d HH.out) hds
      have W2:Aside (wr=Sort.putRow enc (Sort.ahead w q2) blk off dk):=hwr;have I2:Aside (pD key d (k+k2) kk dk):=hI
      by_cases hlt2:k+k2<d.size
      ·have cm:wr.cell? ⟨blk,off+k+k2,none⟩=some (enc d[k+k2]!):=by
        have:=(hHk (k+k2) (by omega)).1
        rwa [hI.high (k+k2) (by omega),show off+(k+k2)=off+k+k2 by omega] at this
       have cp:wr.cell? ⟨blk,off+k+(k2 - 1),none⟩=some (enc d[k+k2 - 1]!):=by
        have:=(hHk (k+k2 - 1) (by omega)).1
        rwa [hI.high (k+k2 - 1) (by omega),show off+(k+k2 - 1)=off+k+(k2 - 1) by omega] at this
       obtain⟨ck,fk⟩:=hHk kk (by omega);have hcc:∀ n,Calls prog 38 #[enc d[k+k2]!,enc d[k+k2 - 1]!] (wr.drewN n) fun e w'=>e = .returned (.bool (decide (key d[k+k2]! = key d[k+k2 - 1]!)))/\∃ m,w'=(wr.drewN n).drewN m:=fun n=>by
        rw[hwr,jM];exact HC.out d[k+k2]! d[k+k2 - 1]! (q2+n) dk
       clear hHk hI hwr;obtain⟨p1,U,m1,e1⟩:=HF.out d[k+k2]!;obtain⟨p0,n0,m0,e0⟩:=HF.out d[k+k2 - 1]!;obtain⟨p3,n3,m3,e3⟩:=HF.out dk[kk]!;rw[e1] at cm;rw[e0] at cp;rw[e3] at ck;simp only[e1,e0] at hcc;have E2:Aside (enc d[k+k2]! = .slice p1 U m1):=e1;clear e1 e0 e3;have w1:IntKind.i64.wrap ((k2:Int) - 1)=((k2 - 1:Nat):Int):=by rw[IntKind.wrap_i64];omega
       have w2:((k2 - 1:Nat):Int).toNat=k2 - 1:=by omega
       have w3:(0:Int)<=((k2 - 1:Nat):Int):=by omega
       have w4:((k2 - 1:Nat):Int)<((d.size - k:Nat):Int):=by omega
       by_cases huv:key d[k+k2]! = key d[k+k2 - 1]!
       ·simp only[huv,decide_true] at hcc
        go_wp2_with fail
        go_quiet (first | (go_at_fn 38;refine Calls.quiet_of (hcc _)))
        go_wp2
        go_roundg (d.size - (k+(k2+1)))
        case measure=>omega
        case rel=>exact⟨kk,k2+1,q2+nq,dk,rfl,by go_num,by omega,by omega,Nat.le_refl _,by rw[W2.out,jM],I2.out.skip (nw (by omega) huv)⟩
       ·simp only[huv,decide_false] at hcc
        go_wp2_with fail
        go_quiet (first | (go_at_fn 38;refine Calls.quiet_of (hcc _)))
        have W3:Aside (wr.drewN nq=Sort.putRow enc (Sort.ahead w (q2+nq)) blk off dk):=by
         show _=_;rw[W2.out,jM]
        have cm':(wr.drewN nq).cell? ⟨blk,off+k+k2,none⟩=some (.slice p1 U m1):=cm;have ck':(wr.drewN nq).cell? ⟨blk,off+kk,none⟩=some (.slice p3 n3 m3):=ck;have fk':(wr.drewN nq).frozen? ⟨blk,off+kk,none⟩=false:=fk;clear cm cp ck fk hcc w1 w2 w3 w4 W2;generalize wr.drewN nq=wr3 at W3 cm' ck' fk' ⊢
        go_wp2
        go_roundg (d.size - (k+(k2+1)))
        case measure=>omega
        case rel=>exact⟨kk+1,k2+1,q2+nq,dk.setIfInBounds kk d[k+k2]!,by go_num,by go_num,by omega,by omega,Nat.le_refl _,by rw[<- E2.out];exact uv (by omega) W3.out _,I2.out.keep hlt2 (nY huv)⟩
      ·have hend:k+k2=d.size:=by omega
       have hcl:∀ ty,(Builtin.clear_ #[31] ty #[.slice (some ⟨blk,off+kk,none⟩) (d.size - kk) (cap - kk)]).run prog wr = .ok (.tuple #[]) (wr.setCells blk (off+kk) (List.replicate (d.size - kk) (.slice none 0 0))):=
        fun ty=>Lib.run_clear_slice wr _ _ ty _ Tryz.underlying31 Tryz.zeroValue24 rfl rfl blk (off+kk) _ _ (by omega) (fun j hj=>by rw[show off+kk+j=off+(kk+j) by omega,(hHk (kk+j) (by omega)).1];rfl) (fun j hj=>by rw[show off+kk+j=off+(kk+j) by omega];exact (hHk (kk+j) (by omega)).2)
       clear hHk hI hwr
       go_wp2
       go_ret
       have hI:=I2.out;rw[hend] at hI;refine⟨by rw[hI.len];rfl,q2,?_⟩;rw[hI.len,<- hI.done default,<- Lib.putRow_setCells enc _ blk off _ dk kk (by simp;omega),<- W2.out,List.map_replicate,HZ.out]
    ·simp only[hdup,decide_false] at hcc
     go_wp2_with fail
     go_quiet (first | (go_at_fn 38;refine Calls.quiet_of (hcc _)))
     go_wp2
     go_roundg (d.size - (k+1))
     case measure=>omega
     case rel=>
      refine⟨k+1,q+nq,by omega,by omega,Nat.le_refl _,by go_num,by rw[W1.out,World.drewN_drewN],fun j hj=>?_⟩
      by_cases e:j=k
      ·subst e;exact nY hdup
      ·exact A.out j (by omega)
   ·have:k=d.size:=by omega
    subst this;have HH:Aside (Sort.Holds enc w blk off d):=hH;clear hH hwr
    go_wp2
    go_ret
    obtain⟨e1,e2⟩:=HS.out q bu;exact⟨by rw[e1];rfl,q,by rw[W1.out];exact e2⟩
theorem Bc {c:Ctx} {f:Fn} {x:Value} (r:bF c (.fn f [] []) x):x = .func f #[] #[]:=by
 cases r with
 | fn _ _ _ vs us hl hl' h h'=>
  rw[List.eq_nil_of_length_eq_zero (l:=vs) hl.symm,List.eq_nil_of_length_eq_zero (l:=us) hl'.symm]
def nB (l:List (List Int)):List (List Int):=l.mergeSort fun a b => !decide (cmpL b a<0)
theorem tL (l:List (List Int)):Up (nB l):=by
 have:=List.pairwise_mergeSort (le:=fun a b:List Int => !decide (cmpL b a<0)) (fun a b c h1 h2=>by
  simp only[Bool.not_eq_true',decide_eq_false_iff_not] at *;exact fun h=>h2 (by
   rcases Int.lt_trichotomy (cmpL c b) 0 with h3 | h3 | h3
   ·exact h3
   ·rw[cmpL_eq h3] at h;exact absurd h h1
   ·exact absurd (rh (a:=b) (b:=c) (c:=a) (by omega) h) h1)) (fun a b=>by
  simp only[Bool.or_eq_true,Bool.not_eq_true',decide_eq_false_iff_not];have:=gF a b;omega) l
 refine this.imp fun h=>?_
 simpa using h
theorem jG (l:List (List Int)):(nB l).Perm l:=List.mergeSort_perm l _
abbrev FH (l:List (List Int)):List (List Int) × Unit:=(nB l,())
abbrev yf (l:List (List Int)):Prop:=l.length<=1048576/\∀ r ∈ l,r.length<=1048576
theorem A8 {K:Nat} {l:List (List Int)} (hK:l.length=K+1):(List.finRange (K+1)).map (fun i=>l[i.1]'(by omega))=l:=by
 refine List.ext_getElem (by simp[hK]) fun i h1 h2=>?_
 simp
theorem DQ (l:List (List Int)) (h:yf l):ej prog 34 (fun v=>[v,.fn (.func 35) [] []]) (.s [.s [.c]]) (.list true (l.map (aI true ay))) (fun e r=>e = .list true ((FH l).1.map (aI true ay))/\r = .tup []):=
 ej.sortN (l:=l) (l':=nB l) (fx:=.func (.func 35) #[] #[]) (fun c x r=>Bc r) (fun K hK vs blk off cap w h1 hr he hH hb=>by
  refine (Ax (fun i=>l[i.1]'(by omega)) vs h1 hr he (fun i=>by have:=h.2 _ (List.getElem_mem (show i.1<l.length by omega));omega) hH hb (by have:=h.1;omega)).mono ?_;rintro e w' ⟨rfl,d',n,os,hp,hu,rfl⟩;refine⟨rfl,d',n,os,hp,A6 hu (tL l) ?_,rfl⟩;have:=hp.map fun i=>l[i.1]'(by omega)
  rw[A8 hK] at this;exact this.trans (jG l).symm) (fun _ p cap w=>AnyF.slices_SortFunc_none { Tryz.wT with } p cap _ w) (fun h=>by subst h;simp[nB])
theorem rj (x:List Int):∀ l:List (List Int),dQ (l++[x])=if l.getLast?=some x then dQ l else dQ l++[x]
 | []=>by simp[dQ]
 | [y]=>by
  simp only[List.singleton_append,dQ,List.getLast?_singleton,Option.some.injEq]
  split<;>simp_all
 | y::z::t=>by
  have:=rj x (z::t);simp only[List.cons_append,dQ] at this ⊢;rw[this,List.getLast?_cons_cons]
  repeat' split
  all_goals first | rfl | simp
theorem qR {α:Type} [Inhabited α] {key:α->List Int} {d:Array α} {l:List (List Int)} (hd:d.toList.map key=l):∀ m,m<=d.size->(dY key d m).map key=dQ (l.take m)
 | 0,_=>by simp[dY,dQ]
 | m+1,h=>by
  have hl:l.length=d.size:=by rw[<- hd];simp
  have hg:∀ j,j<d.size->key d[j]! = l[j]!:=fun j hj=>by
   subst hd;simp[hj]
  rw[eP,List.map_append,qR hd m (by omega),<- List.take_append_getElem (show m<l.length by omega),rj];have e1:l[m]=key d[m]!:=by rw[hg m (by omega)];simp[show m<l.length by omega]
  rcases Nat.eq_zero_or_pos m with h0 | h0
  ·subst h0;simp[dh,dQ,e1]
  ·have e2:(l.take m).getLast?=some (key d[m - 1]!):=by
    rw[List.getLast?_eq_getElem?,List.length_take,Nat.min_eq_left (by omega),List.getElem?_take,if_pos (by omega),hg (m - 1) (by omega)];simp[show m - 1<l.length by omega]
   rw[e2,e1]
   by_cases hk:key d[m]! = key d[m - 1]!
   ·simp[nw h0 hk,hk]
   ·simp[nY hk,Ne.symm hk]
set_option maxHeartbeats 1000000 in
theorem uK (p:Option Addr) (cap:Nat) (fx:Value) (w:World):Calls prog 37 #[.slice p 0 cap,fx] w fun e w'=>e = .returned (.slice p 0 cap)/\w'=w:=by
 go_enter func37,ntmps37
 go_wp2
 go_ret
 exact⟨rfl,rfl⟩
theorem DG (l:List (List Int)) (h:yf l):xB prog 37 (fun v=>[v,.fn (.func 38) [] []]) (.s [.s [.c]]) (.list true (l.map (aI true ay))) (.s [.s [.c]]) (fun e=>e = .list true ((dQ l).map (aI true ay))):=
 xB.D9 (l:=l) (l':=dQ l) (fx:=.func (.func 38) #[] #[]) (fun c x r=>Bc r) (fun K hK enc blk off cap w hz hr he hH ez=>by
  have hsz:((List.finRange (K+1)).map some).toArray.size=K+1:=by simp
  let key:Option (Fin (K+1))->List Int:=fun o=>o.elim [] fun i=>l[i.1]'(by omega)
  have hkl:((List.finRange (K+1)).map some).toArray.toList.map key=l:=by
   simp only[List.map_map];exact A8 hK
  have hget:∀ j,(hj:j<K+1)->((List.finRange (K+1)).map some).toArray[j]! = some ⟨j,hj⟩:=fun j hj=>by simp[hj]
  refine (show Calls prog 37 #[.slice (some ⟨blk,off,none⟩) (K+1) cap,_] w _ from (hsz ▸ sQ enc key hz (cap:=cap) (fun o=>by
   cases o with
   | none=>rw[hz];exact⟨none,0,rfl,fun j hj=>by simp[key] at hj⟩
   | some i=>exact hr i) he (fun o=>by
   cases o with
   | none=>simp[key]
   | some i=>have:=h.2 _ (List.getElem_mem (show i.1<l.length by omega));simp only[key,Option.elim];omega) hH (by rw[hsz];have:=h.1;omega) (by rw[hsz];exact ez))).mono ?_
  rintro e w' ⟨he1,q,hw1⟩;have hc:=qR hkl (K+1) (by rw[hsz];exact Nat.le_refl _);rw[List.take_of_length_le (by omega)] at hc;have hq:dY key ((List.finRange (K+1)).map some).toArray (K+1)=(((List.finRange (K+1)).filter fun i=>dh key ((List.finRange (K+1)).map some).toArray i.1)).map some:=by
   unfold dY;rw[show List.range (K+1)=(List.finRange (K+1)).map fun i=>i.1 by refine List.ext_getElem (by simp) fun i h1 h2=>?_;simp];rw[List.filter_map,List.map_map];refine List.map_congr_left fun i hi=>?_
   exact hget i.1 i.2
  rw[hq] at hc he1 hw1;refine⟨(List.finRange (K+1)).filter fun i=>dh key ((List.finRange (K+1)).map some).toArray i.1,q,?_,List.filter_sublist,?_,?_⟩
  ·rw[he1];simp
  ·rw[<- hc,List.map_map];rfl
  ·rw[hw1];simp;rfl) (fun h0 p cap w=>uK p cap _ w) (fun h=>by subst h;rfl)
end Go.Ab.Vg
namespace Go.Ab
open Go.Proofs
theorem sk:aW prog 126:=aW.of func126 (by kernel_rfl) rfl
theorem e155:aW prog 155:=aW.of func155 (by kernel_rfl) rfl
theorem fB (n lo hi:Int):aB prog 126 [int n,int lo,int hi] (fun r=>r=bool (within n lo hi)):=by
 refine aB.of func126 rfl ntmps126 (by simp) fun Q hQ=>?_
 refine zE fun _ V=>?_
 simp;refine V _ _ _ (zE fun _ V=>?_);simp
 by_cases h:lo<=n
 all_goals
  simp[h];refine V _ _ _ (J.ret func126 (aN.one results126) (hQ _ _ _ _ (ov.v _ _ _) ?_));simp[within,h]
theorem wA {s:cB} {k:Nat} (hk:k<s.length) (h:lower s[k]=false):ow s=false:=by
 have:s.all lower=false:=by
  rw[List.all_eq_false];exact⟨s[k],List.getElem_mem hk,by simp[h]⟩
 simp[ow,this]
theorem tK (s:cB) (hs:s.length<=4294967296):aB prog 155 [str s] (fun r=>r=bool (ow s)):=by
 refine aB.of func155 rfl ntmps155 (by simp) fun Q hQ=>?_
 refine zE fun _ V=>?_
 simp;apply V;refine zS fun _ V=>?_
 simp;apply V;refine J.block (J.bV s.length (fun k O H n=>O 0=str s/\O 3=int k/\(s.take k).all lower=true) ?_ ?_)
 ·simp
 ·rintro k O H n hk ⟨h0,h3,bu⟩ IH;refine zS fun _ V=>?_
  simp [h0, h3];apply V;refine J.ite rfl (fun hc1 => ?_) (fun hc1 => ?_)
  ·simp at hc1;apply zK;apply J.block;refine zE fun _ V=>?_
   simp [h0, h3, hc1]
   by_cases ha:(s[k].toNat:Int)<97
   ·simp[ha];apply V;refine J.ite rfl (fun _=>?_) (fun h=>by simp at h);refine zE fun _ V=>?_
    simp;apply V;refine J.ret func155 (aN.one results155) (hQ _ _ _ _ (.v _ _ _) ?_);rw[wA hc1 (by simp[lower];omega)]
   ·by_cases hz:(122:Int)<s[k].toNat
    ·simp[ha,hz,h0,h3,hc1];apply V;refine J.ite rfl (fun _=>?_) (fun h=>by simp at h);refine zE fun _ V=>?_
     simp;apply V;refine J.ret func155 (aN.one results155) (hQ _ _ _ _ (.v _ _ _) ?_);rw[wA hc1 (by simp[lower];omega)]
    ·simp[ha,hz,h0,h3,hc1];apply V;refine J.ite rfl (fun h=>by simp at h) (fun _=>?_);apply J.skip;refine zI fun _ V=>?_
     simp [h3, ba (show k < 4611686018427387904 by omega)];apply V;refine IH hc1 _ _ _ ?_;rw[List.take_succ_eq_append_getElem hc1,List.all_append,bu];simp[h0,lower];omega
  ·simp at hc1;refine J.exit rfl ?_;refine zE fun _ V=>?_
   simp [h0];refine zA (fB s.length 1 4) sk (.cons (.v _ _ _) (.cons (.v _ _ _) (.cons (.v _ _ _) .nil))) (by simp) ?_;rintro _ rfl;simp;apply V;refine J.ret func155 (aN.one results155) (hQ _ _ _ _ (.v _ _ _) ?_);rw[List.take_of_length_le hc1] at bu;simp only[ow,bu,Bool.and_true]
end Go.Ab
namespace Go.Ab
open Go.Proofs
theorem e106:aW prog 106:=aW.of func106 (by kernel_rfl) rfl
theorem e131:aW prog 131:=aW.of func131 (by kernel_rfl) rfl
theorem e103:aW prog 103:=aW.of func103 (by kernel_rfl) rfl
theorem e130:aW prog 130:=aW.of func130 (by kernel_rfl) rfl
theorem e147:aW prog 147:=aW.of func147 (by kernel_rfl) rfl
theorem e158:aW prog 158:=aW.of func158 (by kernel_rfl) rfl
theorem tY (b:aD) (l:Int) (he:0<=b.edges/\b.edges<=8) (ho:b.outer.length<=1048576):aB prog 106 [cw false b,int l] (fun r=>r=bool (dm b l)):=by
 have hw1:IntKind.i64.wrap (b.edges+b.outer.length)=b.edges+b.outer.length:=by rw[wrap64]<;>omega
 have hw2:IntKind.i64.wrap (b.edges+b.outer.length - 1)=b.edges+b.outer.length - 1:=by rw[wrap64]<;>omega
 refine aB.of func106 rfl ntmps106 (by simp) fun Q hQ=>?_
 refine zE fun _ V=>?_
 simp [cw, aD.cells];apply V;refine zE fun _ V=>?_
 simp [encS, hw1, hw2];refine zA (dT l 0 (b.edges+b.outer.length - 1)) te (.cons (.v _ _ _) (.cons (.v _ _ _) (.cons (.v _ _ _) .nil))) (by simp) ?_;rintro _ rfl;simp;apply V;exact J.ret func106 (aN.one results106) (hQ _ _ _ _ (.v _ _ _) rfl)
theorem tS (b:aD) (l:Int) (he:0<=b.edges/\b.edges<=8) (ho:b.outer.length<=1048576):aB prog 131 [cw false b,int l] (fun r=>r=bool (dm b l)):=by
 have hw1:IntKind.i64.wrap (b.edges+b.outer.length)=b.edges+b.outer.length:=by rw[wrap64]<;>omega
 have hw2:IntKind.i64.wrap (b.edges+b.outer.length - 1)=b.edges+b.outer.length - 1:=by rw[wrap64]<;>omega
 refine aB.of func131 rfl ntmps131 (by simp) fun Q hQ=>?_
 refine zE fun _ V=>?_
 simp [cw, aD.cells];apply V;refine zE fun _ V=>?_
 simp [encS, hw1, hw2];refine zA (fB l 0 (b.edges+b.outer.length - 1)) sk (.cons (.v _ _ _) (.cons (.v _ _ _) (.cons (.v _ _ _) .nil))) (by simp) ?_;rintro _ rfl;simp;apply V;exact J.ret func131 (aN.one results131) (hQ _ _ _ _ (.v _ _ _) rfl)
def ec (b:aD) (x:Int):Bool:=within x 0 ((b.nodes.length:Int) - 1)
theorem yI (b:aD) (x:Int) (hn:b.nodes.length<=1048576):aB prog 147 [cw false b,int x] (fun r=>r=bool (ec b x)):=by
 have hw2:IntKind.i64.wrap ((b.nodes.length:Int) - 1)=(b.nodes.length:Int) - 1:=by rw[wrap64]<;>omega
 refine aB.of func147 rfl ntmps147 (by simp) fun Q hQ=>?_
 refine zE fun _ V=>?_
 simp [cw, aD.cells];apply V;refine zE fun _ V=>?_
 simp [bP, hw2];refine zA (dT x 0 ((b.nodes.length:Int) - 1)) te (.cons (.v _ _ _) (.cons (.v _ _ _) (.cons (.v _ _ _) .nil))) (by simp) ?_;rintro _ rfl;simp;apply V;exact J.ret func147 (aN.one results147) (hQ _ _ _ _ (.v _ _ _) rfl)
theorem EM (b:aD) (x:Int) (hn:b.nodes.length<=1048576):aB prog 158 [cw false b,int x] (fun r=>r=bool (ec b x)):=by
 have hw2:IntKind.i64.wrap ((b.nodes.length:Int) - 1)=(b.nodes.length:Int) - 1:=by rw[wrap64]<;>omega
 refine aB.of func158 rfl ntmps158 (by simp) fun Q hQ=>?_
 refine zE fun _ V=>?_
 simp [cw, aD.cells];apply V;refine zE fun _ V=>?_
 simp [bP, hw2];refine zA (fB x 0 ((b.nodes.length:Int) - 1)) sk (.cons (.v _ _ _) (.cons (.v _ _ _) (.cons (.v _ _ _) .nil))) (by simp) ?_;rintro _ rfl;simp;apply V;exact J.ret func158 (aN.one results158) (hQ _ _ _ _ (.v _ _ _) rfl)
def qe (sig:dE) (b:aD) (below:Nat):Prop:=∀ i,i<below->0<=(b.nodes.getD i default).control/\(b.nodes.getD i default).control<sig.length
theorem pS (sig:dE) (b:aD) (parent:Int) (below:Nat) (hr:0<=b.roots/\b.roots<=4) (hb:below<=b.nodes.length) (hc:qe sig b below) :
  aB prog 103 [cw false b,bj false sig,int parent,int below] (fun r=>r=bool (bM sig b parent below)):=by
 refine aB.of func103 rfl ntmps103 (by simp) fun Q hQ=>?_
 refine zE fun _ V=>?_
 simp [cw, aD.cells];apply V;refine zS fun _ V=>?_
 simp;apply V;refine J.ite rfl (fun hc1 => ?_) (fun hc1 => ?_)
 ·have hc1:parent<0:=by simpa using hc1
  have hw:IntKind.i64.wrap (0 - b.roots) = -b.roots:=by rw[wrap64]<;>omega
  refine zE fun _ V=>?_
  have hw':IntKind.i64.wrap (-b.roots) = -b.roots:=by rw[wrap64]<;>omega
  simp [hw, hw'];apply V;exact J.ret func103 (aN.one results103) (hQ _ _ _ _ (.v _ _ _) (by simp[bM,hc1]))
 ·have hc1:¬ parent<0:=by simpa using hc1
  apply J.skip;refine zE fun _ V=>?_
  by_cases hlt:parent<(below:Int)
  ·obtain⟨q,rfl⟩:∃ q:Nat,parent=q:=⟨parent.toNat,by omega⟩
   have hq:q<b.nodes.length:=by omega
   have hcq:=hc q (by omega);have hg:b.nodes.getD q default=b.nodes[q]:=by simp[hq]
   rw[hg] at hcq;obtain⟨c,hcc⟩:∃ c:Nat,b.nodes[q].control=c:=⟨b.nodes[q].control.toNat,by omega⟩
   have hcl:c<sig.length:=by omega
   simp [hlt, bP, bj, hq, aA.cells, hcc, hcl, Control.cells, guardOf];apply V;refine J.ret func103 (aN.one results103) (hQ _ _ _ _ (.v _ _ _) ?_);have hlt':q<below:=by omega
   simp[bM,hlt',hq,hcc,hcl]
   rfl
  ·simp [hlt, guardOf];apply V;exact J.ret func103 (aN.one results103) (hQ _ _ _ _ (.v _ _ _) (by simp[bM,hc1,hlt]))
theorem rK (sig:dE) (b:aD) (parent:Int) (below:Nat) (hp:bp parent) (hr:0<=b.roots/\b.roots<=4) (hb:below<=b.nodes.length) (hc:qe sig b below) :
  aB prog 130 [bj false sig,cw false b,int parent,int below] (fun r=>r=bool (bM sig b parent below)):=by
 obtain⟨hp1,hp2⟩:=hp;refine aB.of func130 rfl ntmps130 (by simp) fun Q hQ=>?_
 refine zE fun _ V=>?_
 simp [cw, aD.cells];apply V;refine zS fun _ V=>?_
 simp;apply V;refine J.ite rfl (fun hc1 => ?_) (fun hc1 => ?_)
 ·have hc1:parent<0:=by simpa using hc1
  have hw:IntKind.i64.wrap (-1 - parent) = -1 - parent:=by rw[wrap64]<;>omega
  have hw2:IntKind.i64.wrap (b.roots - 1)=b.roots - 1:=by rw[wrap64]<;>omega
  refine zE fun _ V=>?_
  simp [hw, hw2];refine zA (fB (-1 - parent) 0 (b.roots - 1)) sk (.cons (.v _ _ _) (.cons (.v _ _ _) (.cons (.v _ _ _) .nil))) (by simp) ?_;rintro _ rfl;simp;apply V;refine J.ret func130 (aN.one results130) (hQ _ _ _ _ (.v _ _ _) ?_);have:within (-1 - parent) 0 (b.roots - 1)=decide (-b.roots<=parent):=by
   simp only[within]
   by_cases h : -b.roots<=parent
   ·simp[h];omega
   ·simp[h];omega
  simp[bM,hc1,this]
 ·have hc1:¬ parent<0:=by simpa using hc1
  apply J.skip;refine zE fun _ V=>?_
  by_cases hlt:parent<(below:Int)
  ·obtain⟨q,rfl⟩:∃ q:Nat,parent=q:=⟨parent.toNat,by omega⟩
   have hq:q<b.nodes.length:=by omega
   have hcq:=hc q (by omega);have hg:b.nodes.getD q default=b.nodes[q]:=by simp[hq]
   rw[hg] at hcq;obtain⟨c,hcc⟩:∃ c:Nat,b.nodes[q].control=c:=⟨b.nodes[q].control.toNat,by omega⟩
   have hcl:c<sig.length:=by omega
   simp [hlt, bP, bj, hq, aA.cells, hcc, hcl, Control.cells, guardOf];apply V;refine J.ret func130 (aN.one results130) (hQ _ _ _ _ (.v _ _ _) ?_);have hlt':q<below:=by omega
   simp[bM,hlt',hq,hcc,hcl]
   rfl
  ·simp [hlt, guardOf];apply V;exact J.ret func130 (aN.one results130) (hQ _ _ _ _ (.v _ _ _) (by simp[bM,hc1,hlt]))
end Go.Ab
namespace Go.Ab
open Go.Proofs
theorem e101:aW prog 101:=aW.of func101 (by kernel_rfl) rfl
theorem e127:aW prog 127:=aW.of func127 (by kernel_rfl) rfl
theorem wU:∀ (s p:cB),(Op.bytesLess s p || s == p) = !Op.bytesLess p s
 | [],[]=>by simp[Op.bytesLess]
 | [],_::_=>by simp[Op.bytesLess]
 | _::_,[]=>by simp[Op.bytesLess]
 | a::x,b::y=>by
  have ih:=wU x y;simp only[Op.bytesLess];rcases Nat.lt_trichotomy a.toNat b.toNat with h | h | h
  ·have h1:a<b:=h;have h2:¬ b<a:=fun h'=>by have h':b.toNat<a.toNat:=h';omega
   have h3:(b == a)=false:=by
    rw[beq_eq_false_iff_ne];rintro rfl;omega
   simp[h1,h2,h3]
  ·have h0:a=b:=UInt8.toNat_inj.1 h;subst h0;have h2:¬ a<a:=fun h'=>by have h':a.toNat<a.toNat:=h';omega
   simp[h2];rw[<- ih];try (cases Op.bytesLess x y<;>simp)
   try (by_cases hxy:x=y<;>simp[hxy])
  ·have h1:b<a:=h;have h2:¬ a<b:=fun h'=>by have h':a.toNat<b.toNat:=h';omega
   have h3:(a == b)=false:=by
    rw[beq_eq_false_iff_ne];rintro rfl;omega
   have h4:¬ a=b:=by simpa using h3
   simp[h1,h2,h4]
theorem dS {n k:Nat} {q:Nat->Bool} (hk:k<n) (h:q k=false):(List.range n).all q=false:=by
 rw[List.all_eq_false];exact⟨k,by simpa using hk,by simp[h]⟩
theorem dR {n:Nat} {q:Nat->Bool} (h:∀ i,i<n->q i=true):(List.range n).all q=true:=by
 simpa[List.all_eq_true] using h
def eS (l:List cB) (i:Nat):Bool:=ow (l.getD i []) && mQ l i
theorem fC (l:List cB):cT l=(decide (l.length<=16) && (List.range l.length).all (eS l)):=rfl
theorem pT (l:List cB) (hl:l.length<=1048576) (hs:∀ s ∈ l,s.length<=1048576):aB prog 101 [encS false l] (fun r=>r=bool (cT l)):=by
 refine aB.of func101 rfl ntmps101 (by simp) fun Q hQ=>?_
 refine zE fun k' V=>?_
 simp [encS];apply V;refine zS fun k' V=>?_
 simp;apply V;refine J.block (J.bV l.length (fun k O H n=>O 0 = .list false (l.map bm)/\O 5 = .list false (l.map bm)/\O 6=int l.length/\O 7=int k/\∀ i,i<k->eS l i=true) ?_ ?_)
 ·simp
 ·rintro k O H n hk ⟨h0,h5,h6,h7,bu⟩ IH;refine zE fun k' V=>?_
  simp [h6, h7];apply V;apply J.seq;refine J.ite rfl (fun hc1 => ?_) (fun hc1 => ?_)
  ·have hc1:k<l.length:=by simpa using hc1
   apply zK;apply J.block;refine zE fun k' V=>?_
   simp [h5, h7, hc1, bm];apply V;refine zE fun k' V=>?_
   have fin:∀ O:Env,O 0 = .list false (l.map bm)->O 5 = .list false (l.map bm)->O 6=int l.length->O 7=int k->O 27=bool (!eS l k)->J prog 101 32 k' O H n Q:=by
    intro O h0 h5 h6 h7 h27;apply V;refine J.ite h27 (fun hc2 => ?_) (fun hc2 => ?_)
    ·have hb:eS l k=false:=by simpa using hc2
     refine zE fun k' V=>?_
     simp;apply V;exact J.ret func101 (aN.one results101) (hQ _ _ _ _ (.v _ _ _) (by rw[fC,dS hc1 hb,Bool.and_false]))
    ·have hb:eS l k=true:=by simpa using hc2
     apply J.skip;refine zI fun k' V=>?_
     simp [h7, ba (show k < 4611686018427387904 by omega)];apply V;refine IH hc1 _ _ _ ⟨by simp[h0],by simp[h5],by simp[h6],by simp,fun i hi=>?_⟩;rcases Nat.lt_or_ge i k with h | h
     ·exact bu i h
     ·rw[show i=k by omega];exact hb
   have hgk:l.getD k []=l[k]:=by simp[hc1]
   simp;refine zA (tF l[k] (Nat.le_trans (hs _ (List.getElem_mem hc1)) (by decide))) e141 (.cons (.v _ _ _) .nil) (by simp) ?_;rintro _ rfl;cases hnm:ow l[k]
   ·simp[guardOf];exact fin _ (by simp[h0]) (by simp[h5]) (by simp[h6]) (by simp[h7]) (by simp[eS,hc1,hnm])
   ·by_cases hk0:k=0
    ·subst hk0;simp[guardOf];exact fin _ (by simp[h0]) (by simp[h5]) (by simp[h6]) (by simp[h7]) (by simp[eS,hc1,hnm,mQ])
    ·have hk1:0<k:=by omega
     have hw:IntKind.i64.wrap ((k:Int) - 1)=((k - 1:Nat):Int):=by rw[wrap64]<;>omega
     have hkl:k - 1<l.length:=by omega
     have hgk1:l.getD (k - 1) []=l[k - 1]:=by simp[hkl]
     have hp:=wU l[k] l[k - 1];simp[guardOf,hk1,h0,hw,hkl,bm];refine fin _ (by simp[h0]) (by simp[h5]) (by simp[h6]) (by simp[h7]) ?_;simp only[eS,hgk,hnm,mQ,hgk1,hk0,decide_false,Bool.false_or,Bool.true_and];rw[<- hp];simp
  ·have hc1:¬ k<l.length:=by simpa using hc1
   have hke:k=l.length:=by omega
   subst hke;refine J.exit rfl ?_;refine zE fun k' V=>?_
   simp [h0];apply V;refine J.ret func101 (aN.one results101) (hQ _ _ _ _ (.v _ _ _) ?_);rw[fC,dR bu];simp;omega
end Go.Ab
namespace Go.Ab
open Go.Proofs
theorem e102:aW prog 102:=aW.of func102 (by kernel_rfl) rfl
theorem e128:aW prog 128:=aW.of func128 (by kernel_rfl) rfl
theorem rD (l:List cB) (hl:l.length<=1048576) (hs:∀ s ∈ l,s.length<=1048576):aB prog 127 [encS false l] (fun r=>r=bool (cT l)):=by
 refine aB.of func127 rfl ntmps127 (by simp) fun Q hQ=>?_
 refine zE fun k' V=>?_
 simp [encS];apply V;refine zS fun k' V=>?_
 simp;apply V;refine J.block (J.bV l.length (fun k O H n=>O 0 = .list false (l.map bm)/\O 3=int k/\∀ i,i<k->eS l i=true) ?_ ?_)
 ·simp
 ·rintro k O H n hk ⟨h0,h3,bu⟩ IH;refine zS fun k' V=>?_
  simp [h0, h3];apply V;refine J.ite rfl (fun hc1 => ?_) (fun hc1 => ?_)
  ·have hc1:k<l.length:=by simpa using hc1
   apply zK;apply J.block;refine J.ed aH aF bN (by decide) (by kernel_rfl) fun k' V=>?_
   have fin:∀ O:Env,O 0 = .list false (l.map bm)->O 3=int k->O 31=bool (!eS l k)->J prog 127 35 k' O H n Q:=by
    intro O h0 h3 h31;apply V;refine J.ite h31 (fun hc2=>?_) (fun hc2=>?_)
    ·have hb:eS l k=false:=by simpa using hc2
     refine zE fun k' V=>?_
     simp;apply V;exact J.ret func127 (aN.one results127) (hQ _ _ _ _ (.v _ _ _) (by rw[fC,dS hc1 hb,Bool.and_false]))
    ·have hb:eS l k=true:=by simpa using hc2
     apply J.skip;refine zI fun k' V=>?_
     simp [h3, ba (show k < 4611686018427387904 by omega)];apply V;refine IH hc1 _ _ _ ⟨by simp[h0],by simp,fun i hi=>?_⟩;rcases Nat.lt_or_ge i k with h | h
     ·exact bu i h
     ·rw[show i=k by omega];exact hb
   have hgk:l.getD k []=l[k]:=by simp[hc1]
   simp [h0, h3, hc1, bm];refine bw.cd aH aF (tK l[k] (Nat.le_trans (hs _ (List.getElem_mem hc1)) (by decide))) e155 (.cons (.v _ _ _) .nil) (by decide) rfl (by simp) ?_;cases hnm:ow l[k]
   ·simp[guardOf];exact fin _ (by simp[h0,bm]) (by simp[h3]) (by simp[eS,hc1,hnm])
   ·by_cases hk0:k=0
    ·subst hk0;simp[h3,guardOf];exact fin _ (by simp[h0,bm]) (by simp[h3]) (by simp[eS,hc1,hnm,mQ])
    ·have hk1:0<k:=by omega
     have hw:IntKind.i64.wrap ((k:Int) - 1)=((k - 1:Nat):Int):=by rw[wrap64]<;>omega
     have hkl:k - 1<l.length:=by omega
     have hgk1:l.getD (k - 1) []=l[k - 1]:=by simp[hkl]
     simp[guardOf,hk1,h0,h3,hw,hkl,hc1,bm];refine fin _ (by simp[h0,bm]) (by simp[h3]) ?_;simp only[eS,hgk,hnm,mQ,hgk1,hk0,decide_false,Bool.false_or,Bool.true_and];simp
  ·have hc1:¬ k<l.length:=by simpa using hc1
   have hke:k=l.length:=by omega
   subst hke;refine J.exit rfl ?_;refine zE fun k' V=>?_
   simp [h0];apply V;refine J.ret func127 (aN.one results127) (hQ _ _ _ _ (.v _ _ _) ?_);rw[fC,dR bu];simp;omega
def names (b:aD):List cB:=b.inner.map (·.name)
theorem tz (b:aD) (hl:b.inner.length<=1048576):aB prog 102 [cw false b] (fun r=>r=encS true (names b)):=by
 refine aB.of func102 rfl ntmps102 (by simp) fun Q hQ=>?_
 refine zE fun _ V=>?_
 simp [cw, aD.cells];apply V;refine zE fun _ V=>?_
 simp;apply V;refine zS fun _ V=>?_
 simp [bX];apply V;refine J.block (J.bV b.inner.length (fun k O H n=>O 8 = .list false (b.inner.map aQ.cells)/\O 9=int b.inner.length/\O 10=int k/\O 3 = .arr (1,6) k 0 k/\H (1,6)=some ⟨1,((names b).take k).map bm⟩) ?_ ?_)
 ·simp
 ·rintro k O H n hk ⟨h8,h9,h10,h3,hH⟩ IH;refine zE fun _ V=>?_
  simp [h9, h10];apply V;apply J.seq;refine J.ite rfl (fun hc1 => ?_) (fun hc1 => ?_)
  ·have hc1:k<b.inner.length:=by simpa using hc1
   have htk:(((names b).take k).map bm).length=k:=by simp[names];omega
   have hts:(names b).take (k+1)=(names b).take k++[b.inner[k].name]:=by
    rw[List.take_succ_eq_append_getElem (by simpa[names] using hc1)];simp[names]
   apply zK;apply J.block;refine zE fun _ V=>?_
   simp [h8, h10, hc1, aQ.cells];apply V;refine zF fun _ V=>?_
   generalize hels:((names b).take k).map bm=els at hH htk;simp [h3, hH, htk, live, show k <= 1073741823 by omega];apply V;refine zI fun _ V=>?_
   simp [h10, ba (show k < 4611686018427387904 by omega)];apply V;refine IH hc1 _ _ _ ⟨by simp[h8],by simp[h9],by simp,by simp,?_⟩;simp[hts,<- hels,bm]
  ·have hc1:¬ k<b.inner.length:=by simpa using hc1
   have hke:k=b.inner.length:=by omega
   subst hke;refine J.exit rfl ?_;refine zE fun _ V=>?_
   simp [h3];apply V;have he:(names b).take b.inner.length=names b:=List.take_of_length_le (by simp[names]);rw[he] at hH;exact J.ret func102 (aN.one results102) (hQ _ _ _ _ (.of (kz.qZ (by simp[live,hH,names];rfl) (by simp[bm]))) rfl)
theorem Au (b:aD) (hl:b.inner.length<=1048576):aB prog 128 [cw false b] (fun r=>r=encS true (names b)):=by
 refine aB.of func128 rfl ntmps128 (by simp) fun Q hQ=>?_
 refine zE fun _ V=>?_
 simp [cw, aD.cells];apply V;refine zE fun _ V=>?_
 simp;apply V;refine zS fun _ V=>?_
 simp [bX];apply V;refine J.block (J.bV b.inner.length (fun k O H n=>O 1 = .ptr (0,1) 1 0 0/\H (0,1)=some ⟨6,[b.cells false]⟩/\O 4=int k/\O 3 = .arr (1,5) k 0 k/\H (1,5)=some ⟨1,((names b).take k).map bm⟩) ?_ ?_)
 ·simp[aD.cells,bX]
 ·rintro k O H n hk ⟨h1,hb,h4,h3,hH⟩ IH;refine zS fun _ V=>?_
  simp [h1, hb, h4, aD.cells, bX];apply V;refine J.ite rfl (fun hc1 => ?_) (fun hc1 => ?_)
  ·have hc1:k<b.inner.length:=by simpa using hc1
   have htk:(((names b).take k).map bm).length=k:=by simp[names];omega
   have hts:(names b).take (k+1)=(names b).take k++[b.inner[k].name]:=by
    rw[List.take_succ_eq_append_getElem (by simpa[names] using hc1)];simp[names]
   apply zK;apply J.block;refine zF fun _ V=>?_
   generalize hels:((names b).take k).map bm=els at hH htk;simp [h1, hb, h3, h4, hH, htk, hc1, live, aD.cells, bX, aQ.cells, show k <= 1073741823 by omega];apply V;refine zI fun _ V=>?_
   simp [h4, ba (show k < 4611686018427387904 by omega)];apply V;refine IH hc1 _ _ _ ⟨by simp[h1],by simp[hb,aD.cells,bX],by simp,by simp,?_⟩;simp[hts,<- hels,bm]
  ·have hc1:¬ k<b.inner.length:=by simpa using hc1
   have hke:k=b.inner.length:=by omega
   subst hke;refine J.exit rfl ?_;refine zE fun _ V=>?_
   simp [h3];apply V;have he:(names b).take b.inner.length=names b:=List.take_of_length_le (by simp[names]);rw[he] at hH;exact J.ret func128 (aN.one results128) (hQ _ _ _ _ (.of (kz.qZ (by simp[live,hH,names];rfl) (by simp[bm]))) rfl)
end Go.Ab
namespace Go.Ab
open Go.Proofs
def tn {α:Type} (l:List α) (p:α->Bool):Int:=if l.findIdx p<l.length then (l.findIdx p:Int) else -1
theorem qy {α:Type} {l:List α} {p:α->Bool} {k:Nat} (hk:k<l.length) (h:p l[k]=true) (hno:∀ i (h:i<l.length),i<k->p l[i]=false):tn l p=k:=by
 have:l.findIdx p=k:=(List.findIdx_eq hk).2 ⟨h,fun j hj=>hno j (by omega) hj⟩;rw[tn,this,if_pos hk]
theorem qI {α:Type} {l:List α} {p:α->Bool} (hno:∀ i (h:i<l.length),p l[i]=false):tn l p = -1:=by
 have:l.findIdx p=l.length:=List.findIdx_eq_length.2 fun x hx=>by
  obtain⟨i,hi,rfl⟩:=List.getElem_of_mem hx;exact hno i hi
 rw[tn,this,if_neg (Nat.lt_irrefl _)]
theorem o6 {α:Type} (l:List α) (p:α->Bool):decide (0<=tn l p)=l.any p:=by
 unfold tn;cases h:l.any p
 ·have:l.findIdx p=l.length:=List.findIdx_eq_length.2 fun x hx=>by
   rw[List.any_eq_false] at h;simpa using h x hx
  rw[if_neg (by omega)];simp
 ·have:l.findIdx p<l.length:=by
   rw[List.findIdx_lt_length];simpa[List.any_eq_true] using h
  rw[if_pos this];simp
theorem e144:aW prog 144:=aW.of func144 (by kernel_rfl) rfl
theorem Dt:aW prog 104:=aW.of func104 (by kernel_rfl) rfl
theorem sM {H:az} {n:Nat} {cl:au} (t:Bool) (l:List (Int)) (p:Int->Bool) (hl:l.length<=1048576) (hcl:∀ x ∈ l,fL prog H n cl [int x] (fun r=>r=bool (p x))) :
  cJ prog 144 [.list t (l.map ay),cl] H n (fun r=>r=int (tn l p)):=by
 refine cJ.of func144 rfl ntmps144 (by simp) fun Q _ hQ=>?_
 refine zE fun _ V=>?_
 simp;apply V;refine zS fun _ V=>?_
 simp;apply V;refine J.block (J.bV l.length (fun k O H' n'=>O 0 = .list t (l.map ay)/\O 1=cl/\O 7=int l.length/\O 8=int k/\H'=H/\n'=n/\∀ i (h:i<l.length),i<k->p l[i]=false) ?_ ?_)
 ·simp
 ·rintro k O H' n' hk ⟨h0,h1,h7,h8,rfl,rfl,hno⟩ IH;refine zE fun _ V=>?_
  simp [h7, h8];apply V;apply J.seq;refine J.ite rfl (fun hc1 => ?_) (fun hc1 => ?_)
  ·have hc1:k<l.length:=by simpa using hc1
   apply zK;apply J.block;refine zE fun _ V=>?_
   simp [h8];apply V;refine zE fun _ V=>?_
   simp [h0, h1, hc1, ay];refine bE.DL aH (hcl l[k] (List.getElem_mem hc1)) (by decide) (by decide) (by simp[h1]) (by simp) ?_;rintro _ rfl;simp;apply V;refine J.ite rfl (fun hc2 => ?_) (fun hc2 => ?_)
   ·have hc2:p l[k]=true:=by simpa using hc2
    refine zE fun _ V=>?_
    simp;apply V;refine J.ret func144 (aN.one results144) (hQ _ _ _ _ (.pN (.v _)) (Frame.refl _ _) ?_);simp[qy hc1 hc2 hno]
   ·have hc2:p l[k]=false:=by simpa using hc2
    apply J.skip;refine zI fun _ V=>?_
    simp [h8, ba (show k < 4611686018427387904 by omega)];apply V;refine IH hc1 _ _ _ ⟨by simp[h0,ay],by simp[h1],by simp[h7],by simp,rfl,rfl,fun i h hi=>?_⟩;rcases Nat.lt_or_ge i k with hik | hik
    ·exact hno i h hik
    ·have:i=k:=by omega
     subst this;exact hc2
  ·have hc1:¬ k<l.length:=by simpa using hc1
   have hke:k=l.length:=by omega
   subst hke;refine J.exit rfl ?_;refine zE fun _ V=>?_
   simp;apply V;refine J.ret func144 (aN.one results144) (hQ _ _ _ _ (.pN (.v _)) (Frame.refl _ _) ?_);simp[qI fun i h=>hno i h h]
theorem dz {H:az} {n:Nat} {cl:au} (t:Bool) (l:List (Int)) (p:Int->Bool) (hl:l.length<=1048576) (hcl:∀ x ∈ l,fL prog H n cl [int x] (fun r=>r=bool (p x))) :
  cJ prog 104 [.list t (l.map ay),cl] H n (fun r=>r=bool (l.any p)):=by
 refine cJ.of func104 rfl ntmps104 (by simp) fun Q _ hQ=>?_
 refine zE fun _ V=>?_
 simp;apply V;refine zE fun _ V=>?_
 simp;refine bE.lH aH (sM t l p hl hcl) e144 (by decide) (by decide) rfl (by simp) ?_;rintro _ rfl;simp;apply V;refine J.ret func104 (aN.one results104) (hQ _ _ _ _ (.pN (.v _)) (Frame.refl _ _) ?_);simp[o6]
theorem e145:aW prog 145:=aW.of func145 (by kernel_rfl) rfl
theorem e108:aW prog 108:=aW.of func108 (by kernel_rfl) rfl
theorem tg {H:az} {n:Nat} {cl:au} (t:Bool) (l:List (aQ)) (p:aQ->Bool) (hl:l.length<=1048576) (hcl:∀ x ∈ l,fL prog H n cl [.agg x.cells] (fun r=>r=bool (p x))) :
  cJ prog 145 [.list t (l.map aQ.cells),cl] H n (fun r=>r=int (tn l p)):=by
 refine cJ.of func145 rfl ntmps145 (by simp) fun Q _ hQ=>?_
 refine zE fun _ V=>?_
 simp;apply V;refine zS fun _ V=>?_
 simp;apply V;refine J.block (J.bV l.length (fun k O H' n'=>O 0 = .list t (l.map aQ.cells)/\O 1=cl/\O 7=int l.length/\O 8=int k/\H'=H/\n'=n/\∀ i (h:i<l.length),i<k->p l[i]=false) ?_ ?_)
 ·simp
 ·rintro k O H' n' hk ⟨h0,h1,h7,h8,rfl,rfl,hno⟩ IH;refine zE fun _ V=>?_
  simp [h7, h8];apply V;apply J.seq;refine J.ite rfl (fun hc1 => ?_) (fun hc1 => ?_)
  ·have hc1:k<l.length:=by simpa using hc1
   apply zK;apply J.block;refine zE fun _ V=>?_
   simp [h8];apply V;refine zE fun _ V=>?_
   simp [h0, h1, hc1, aQ.cells];refine bE.DL aH (hcl l[k] (List.getElem_mem hc1)) (by decide) (by decide) (by simp[h1]) (by simp[aQ.cells]) ?_;rintro _ rfl;simp;apply V;refine J.ite rfl (fun hc2 => ?_) (fun hc2 => ?_)
   ·have hc2:p l[k]=true:=by simpa using hc2
    refine zE fun _ V=>?_
    simp;apply V;refine J.ret func145 (aN.one results145) (hQ _ _ _ _ (.pN (.v _)) (Frame.refl _ _) ?_);simp[qy hc1 hc2 hno]
   ·have hc2:p l[k]=false:=by simpa using hc2
    apply J.skip;refine zI fun _ V=>?_
    simp [h8, ba (show k < 4611686018427387904 by omega)];apply V;refine IH hc1 _ _ _ ⟨by simp[h0,aQ.cells],by simp[h1],by simp[h7],by simp,rfl,rfl,fun i h hi=>?_⟩;rcases Nat.lt_or_ge i k with hik | hik
    ·exact hno i h hik
    ·have:i=k:=by omega
     subst this;exact hc2
  ·have hc1:¬ k<l.length:=by simpa using hc1
   have hke:k=l.length:=by omega
   subst hke;refine J.exit rfl ?_;refine zE fun _ V=>?_
   simp;apply V;refine J.ret func145 (aN.one results145) (hQ _ _ _ _ (.pN (.v _)) (Frame.refl _ _) ?_);simp[qI fun i h=>hno i h h]
theorem pJ {H:az} {n:Nat} {cl:au} (t:Bool) (l:List (aQ)) (p:aQ->Bool) (hl:l.length<=1048576) (hcl:∀ x ∈ l,fL prog H n cl [.agg x.cells] (fun r=>r=bool (p x))) :
  cJ prog 108 [.list t (l.map aQ.cells),cl] H n (fun r=>r=bool (l.any p)):=by
 refine cJ.of func108 rfl ntmps108 (by simp) fun Q _ hQ=>?_
 refine zE fun _ V=>?_
 simp;apply V;refine zE fun _ V=>?_
 simp;refine bE.lH aH (tg t l p hl hcl) e145 (by decide) (by decide) rfl (by simp) ?_;rintro _ rfl;simp;apply V;refine J.ret func108 (aN.one results108) (hQ _ _ _ _ (.pN (.v _)) (Frame.refl _ _) ?_);simp[o6]
theorem e163:aW prog 163:=aW.of func163 (by kernel_rfl) rfl
theorem e142:aW prog 142:=aW.of func142 (by kernel_rfl) rfl
theorem sU {H:az} {n:Nat} {cl:au} (t:Bool) (l:List (Control)) (p:Control->Bool) (hl:l.length<=1048576) (hcl:∀ x ∈ l,fL prog H n cl [.agg x.cells] (fun r=>r=bool (p x))) :
  cJ prog 163 [.list t (l.map Control.cells),cl] H n (fun r=>r=int (tn l p)):=by
 refine cJ.of func163 rfl ntmps163 (by simp) fun Q _ hQ=>?_
 refine zE fun _ V=>?_
 simp;apply V;refine zS fun _ V=>?_
 simp;apply V;refine J.block (J.bV l.length (fun k O H' n'=>O 0 = .list t (l.map Control.cells)/\O 1=cl/\O 7=int l.length/\O 8=int k/\H'=H/\n'=n/\∀ i (h:i<l.length),i<k->p l[i]=false) ?_ ?_)
 ·simp
 ·rintro k O H' n' hk ⟨h0,h1,h7,h8,rfl,rfl,hno⟩ IH;refine zE fun _ V=>?_
  simp [h7, h8];apply V;apply J.seq;refine J.ite rfl (fun hc1 => ?_) (fun hc1 => ?_)
  ·have hc1:k<l.length:=by simpa using hc1
   apply zK;apply J.block;refine zE fun _ V=>?_
   simp [h8];apply V;refine zE fun _ V=>?_
   simp [h0, h1, hc1, Control.cells];refine bE.DL aH (hcl l[k] (List.getElem_mem hc1)) (by decide) (by decide) (by simp[h1]) (by simp[Control.cells]) ?_;rintro _ rfl;simp;apply V;refine J.ite rfl (fun hc2 => ?_) (fun hc2 => ?_)
   ·have hc2:p l[k]=true:=by simpa using hc2
    refine zE fun _ V=>?_
    simp;apply V;refine J.ret func163 (aN.one results163) (hQ _ _ _ _ (.pN (.v _)) (Frame.refl _ _) ?_);simp[qy hc1 hc2 hno]
   ·have hc2:p l[k]=false:=by simpa using hc2
    apply J.skip;refine zI fun _ V=>?_
    simp [h8, ba (show k < 4611686018427387904 by omega)];apply V;refine IH hc1 _ _ _ ⟨by simp[h0,Control.cells],by simp[h1],by simp[h7],by simp,rfl,rfl,fun i h hi=>?_⟩;rcases Nat.lt_or_ge i k with hik | hik
    ·exact hno i h hik
    ·have:i=k:=by omega
     subst this;exact hc2
  ·have hc1:¬ k<l.length:=by simpa using hc1
   have hke:k=l.length:=by omega
   subst hke;refine J.exit rfl ?_;refine zE fun _ V=>?_
   simp;apply V;refine J.ret func163 (aN.one results163) (hQ _ _ _ _ (.pN (.v _)) (Frame.refl _ _) ?_);simp[qI fun i h=>hno i h h]
theorem pQ {H:az} {n:Nat} {cl:au} (t:Bool) (l:List (Control)) (p:Control->Bool) (hl:l.length<=1048576) (hcl:∀ x ∈ l,fL prog H n cl [.agg x.cells] (fun r=>r=bool (p x))) :
  cJ prog 142 [.list t (l.map Control.cells),cl] H n (fun r=>r=bool (l.any p)):=by
 refine cJ.of func142 rfl ntmps142 (by simp) fun Q _ hQ=>?_
 refine zE fun _ V=>?_
 simp;apply V;refine zE fun _ V=>?_
 simp;refine bE.lH aH (sU t l p hl hcl) e163 (by decide) (by decide) rfl (by simp) ?_;rintro _ rfl;simp;apply V;refine J.ret func142 (aN.one results142) (hQ _ _ _ _ (.pN (.v _)) (Frame.refl _ _) ?_);simp[o6]
end Go.Ab
namespace Go.Ab
open Go.Proofs
theorem e99:aW prog 99:=aW.of func99 (by kernel_rfl) rfl
theorem e125:aW prog 125:=aW.of func125 (by kernel_rfl) rfl
theorem e143:aW prog 143:=aW.of func143 (by kernel_rfl) rfl
theorem ES {H:az} {n:Nat} {X:Id} (c:Control) (hX:H X=some ⟨3,[c.cells]⟩) (d:Control):fL prog H n (.fn (.func 143) [] [.ptr X 1 0 0]) [.agg d.cells] (fun r=>r=bool (d.name == c.name)):=by
 refine⟨143,[],[.ptr X 1 0 0],rfl,e143,?_⟩;refine cJ.of func143 rfl ntmps143 (by simp) fun Q hB hQ=>?_
 have hXn:=(hB X _ hX).1;have hX2:¬ X=(n,2):=by rintro rfl;simp at hXn
 refine zE fun _ V=>?_
 simp [Control.cells];apply V;refine zE fun _ V=>?_
 simp [hX2, hX, Control.cells];apply V;exact J.ret func143 (aN.one results143) (hQ _ _ _ _ (.pN (.v _)) (Frame.set (by simp) (Frame.refl _ _)) (by simp))
def jx (sig:dE) (i:Nat):Bool:=cR (sig.getD i default) && newName sig i
theorem iG (sig:dE):gx sig=(within sig.length 1 6 && (List.range sig.length).all (jx sig)):=rfl
theorem rG (sig:dE) (hl:sig.length<=1048576) (hs:∀ c ∈ sig,c.name.length<=1048576):aB prog 99 [bj false sig] (fun r=>r=bool (gx sig)):=by
 refine aB.of func99 rfl ntmps99 (by simp) fun Q hQ=>?_
 refine zE fun k' V=>?_
 simp [bj];apply V;refine zS fun k' V=>?_
 simp;refine zA (dT sig.length 1 6) te (.cons (.v _ _ _) (.cons (.v _ _ _) (.cons (.v _ _ _) .nil))) (by simp) ?_;rintro _ rfl;simp;apply V;refine J.ite rfl (fun hc1 => ?_) (fun hc1 => ?_)
 ·have hw:within sig.length 1 6=false:=by simpa using hc1
  refine zE fun k' V=>?_
  simp;apply V;exact J.ret func99 (aN.one results99) (hQ _ _ _ _ (.v _ _ _) (by rw[iG,hw,Bool.false_and]))
 ·have hw:within sig.length 1 6=true:=by simpa using hc1
  apply J.skip;refine zS fun k' V=>?_
  simp;apply V;refine J.block (J.bV sig.length (fun k O H n=>O 0 = .list false (sig.map Control.cells)/\O 9 = .list false (sig.map Control.cells)/\O 10=int sig.length/\O 11=int k/\∀ i,i<k->jx sig i=true) ?_ ?_)
  ·simp
  ·rintro k O H n hk ⟨h0,h9,h10,h11,bu⟩ IH;refine zE fun k' V=>?_
   simp [h10, h11];apply V;apply J.seq;refine J.ite rfl (fun hc1 => ?_) (fun hc1 => ?_)
   ·have hc1:k<sig.length:=by simpa using hc1
    have hgk:sig.getD k default=sig[k]:=by simp[hc1]
    apply zK;apply J.block;refine zE fun k' V=>?_
    simp [h9, h11, hc1, Control.cells];apply V;refine J.cut (fun O H n=>O 0 = .list false (sig.map Control.cells)/\O 9 = .list false (sig.map Control.cells)/\O 10=int sig.length/\O 11=int k/\O 3=int k/\∃ m,O 4 = .ptr (m,4) 1 0 0/\H (m,4)=some ⟨3,[sig[k].cells]⟩) ?_ ?_
    ·exact⟨by simp[h0],by simp[h9],by simp[h10],by simp[h11],by simp,n,by simp,by simp[Control.cells]⟩
    clear V h0 h9 h10 h11;rintro O H n ⟨h0,h9,h10,h11,h3,m,h4,hm⟩;refine zE fun k' V=>?_
    have fin:∀ O:Env,O 0 = .list false (sig.map Control.cells)->O 9 = .list false (sig.map Control.cells)->O 10=int sig.length->O 11=int k->O 38=bool (!jx sig k)->J prog 99 40 k' O H n Q:=by
     intro O h0 h9 h10 h11 h38;apply V;refine J.ite h38 (fun hc2 => ?_) (fun hc2 => ?_)
     ·have hb:jx sig k=false:=by simpa using hc2
      refine zE fun k' V=>?_
      simp;apply V;exact J.ret func99 (aN.one results99) (hQ _ _ _ _ (.v _ _ _) (by rw[iG,dS hc1 hb,Bool.and_false]))
     ·have hb:jx sig k=true:=by simpa using hc2
      apply J.skip;refine zI fun k' V=>?_
      simp [h11, ba (show k < 4611686018427387904 by omega)];apply V;refine IH hc1 _ _ _ ⟨by simp[h0],by simp[h9],by simp[h10],by simp,fun i hi=>?_⟩;rcases Nat.lt_or_ge i k with h | h
      ·exact bu i h
      ·rw[show i=k by omega];exact hb
    have hm':=hm;simp only[Control.cells] at hm';simp [h4, hm'];refine zA (tF sig[k].name (Nat.le_trans (hs _ (List.getElem_mem hc1)) (by decide))) e141 (.cons (.v _ _ _) .nil) (by simp) ?_;rintro _ rfl;cases hnm:ow sig[k].name
    ·simp[guardOf];exact fin _ (by simp[h0]) (by simp[h9]) (by simp[h10]) (by simp[h11]) (by simp only[jx,hgk,cR,hnm];simp)
    ·simp[h4,hm',guardOf];refine zA (dT sig[k].ports 0 3) te (.cons (.v _ _ _) (.cons (.v _ _ _) (.cons (.v _ _ _) .nil))) (by simp) ?_;rintro _ rfl;cases hpo:within sig[k].ports 0 3
     ·simp[guardOf];exact fin _ (by simp[h0]) (by simp[h9]) (by simp[h10]) (by simp[h11]) (by simp only[jx,hgk,cR,hnm,hpo];simp)
     ·simp[h4,hm',guardOf];refine zA (dT sig[k].kind 0 2) te (.cons (.v _ _ _) (.cons (.v _ _ _) (.cons (.v _ _ _) .nil))) (by simp) ?_;rintro _ rfl;cases hki:within sig[k].kind 0 2
      ·simp[guardOf];exact fin _ (by simp[h0]) (by simp[h9]) (by simp[h10]) (by simp[h11]) (by simp only[jx,hgk,cR,hnm,hpo,hki];simp)
      ·have hkl:(k:Int)<=sig.length:=by omega
       simp[h0,h3,h4,hkl,guardOf,Control.cells];refine bE.lH aH (pQ false (sig.take k) (fun d=>d.name == sig[k].name) (by simp;omega) (fun d _=>ES sig[k] hm d)) e142 (by decide) (by decide) rfl (by simp[Control.cells]) ?_;rintro _ rfl;simp[guardOf];refine fin _ (by simp[h0,Control.cells]) (by simp[h9,Control.cells]) (by simp[h10]) (by simp[h11]) ?_;simp only[jx,hgk,cR,hnm,hpo,hki,newName];simp
   ·have hc1:¬ k<sig.length:=by simpa using hc1
    have hke:k=sig.length:=by omega
    subst hke;refine J.exit rfl ?_;refine zE fun k' V=>?_
    simp;apply V;exact J.ret func99 (aN.one results99) (hQ _ _ _ _ (.v _ _ _) (by rw[iG,hw,dR bu];rfl))
end Go.Ab
namespace Go.Ab
open Go.Proofs
theorem ym {sig:dE} {i j:Nat} (hi:i<sig.length) (hj:j<i) (h:sig[j].name=sig[i].name):newName sig i=false:=by
 have hg:sig.getD i default=sig[i]:=by simp[hi]
 have:(sig.take i).any (fun d=>d.name == sig[i].name)=true:=by
  rw[List.any_eq_true];refine⟨sig[j],?_,by simpa using h⟩;rw[List.mem_take_iff_getElem];exact⟨j,by omega,rfl⟩
 rw[newName,hg,this]
 rfl
theorem xW {sig:dE} {i:Nat} (hi:i<sig.length) (h:∀ j (hj:j<sig.length),j<i->¬ sig[j].name=sig[i].name):newName sig i=true:=by
 have hg:sig.getD i default=sig[i]:=by simp[hi]
 have:(sig.take i).any (fun d=>d.name == sig[i].name)=false:=by
  rw[List.any_eq_false];intro d hd;rw[List.mem_take_iff_getElem] at hd;obtain⟨j,hj,rfl⟩:=hd;have:=h j (by omega) (by omega);simpa using this
 rw[newName,hg,this]
 rfl
theorem Ei (sig:dE) (hl:sig.length<=1048576) (hs:∀ c ∈ sig,c.name.length<=1048576):aB prog 125 [bj false sig] (fun r=>r=bool (gx sig)):=by
 refine aB.of func125 rfl ntmps125 (by simp) fun Q hQ=>?_
 refine zE fun k' V=>?_
 simp [bj];apply V;refine zS fun k' V=>?_
 simp;apply V;have bad:∀ k,k<sig.length->jx sig k=false->∀ H n,Q (bool false) H n:=fun k hk hb H n=>hQ _ _ _ _ (.v _ _ _) (by rw[iG,dS hk hb,Bool.and_false])
 refine J.block (J.bV sig.length (fun k O H n=>O 0 = .list false (sig.map Control.cells)/\O 3=int k/\∀ i,i<k->jx sig i=true) ?_ ?_)
 ·simp
 ·rintro k O H n hk ⟨h0,h3,bu⟩ IH;refine zS fun k' V=>?_
  simp [h0, h3];apply V;refine J.ite rfl (fun hc1 => ?_) (fun hc1 => ?_)
  ·have hc1:k<sig.length:=by simpa using hc1
   have hgk:sig.getD k default=sig[k]:=by simp[hc1]
   apply zK;apply J.block;refine zS fun k' V=>?_
   have fin:∀ O:Env,O 0 = .list false (sig.map Control.cells)->O 3=int k->O 35=bool (!cR sig[k])->J prog 125 55 k' O H n Q:=by
    intro O h0 h3 h35;apply V;refine J.ite h35 (fun hc2 => ?_) (fun hc2 => ?_)
    ·have hb:cR sig[k]=false:=by simpa using hc2
     refine zE fun k' V=>?_
     simp;apply V;exact J.ret func125 (aN.one results125) (bad k hc1 (by rw[jx,hgk,hb,Bool.false_and]) _ _)
    ·have hb:cR sig[k]=true:=by simpa using hc2
     apply J.skip;refine zE fun k' V=>?_
     simp;apply V;refine J.block (J.bV k (fun j O H n=>O 0 = .list false (sig.map Control.cells)/\O 3=int k/\O 4=int j/\∀ q (hq:q<sig.length),q<j->¬ sig[q].name=sig[k].name) ?_ ?_)
     ·simp[h0,h3]
     ·rintro j O H n hj ⟨h0,h3,h4,hno⟩ IH2;refine zS fun k' V=>?_
      simp [h3, h4];apply V;refine J.ite rfl (fun hc3 => ?_) (fun hc3 => ?_)
      ·have hc3:j<k:=by simpa using hc3
       have hjl:j<sig.length:=by omega
       apply zK;apply J.block;refine J.ed aH aF bN (by decide) (by kernel_rfl) fun k' V=>?_
       simp [h0, h3, h4, hc1, hjl, Control.cells];apply V;refine J.ite rfl (fun hc4 => ?_) (fun hc4 => ?_)
       ·have hc4:sig[j].name=sig[k].name:=by simpa using hc4
        refine zE fun k' V=>?_
        simp;apply V;exact J.ret func125 (aN.one results125) (bad k hc1 (by rw[jx,ym hc1 hc3 hc4,Bool.and_false]) _ _)
       ·have hc4:¬ sig[j].name=sig[k].name:=by simpa using hc4
        apply J.skip;refine zI fun k' V=>?_
        simp [h4, ba (show j < 4611686018427387904 by omega)];apply V;refine IH2 hc3 _ _ _ ⟨by simp[h0,Control.cells],by simp[h3],by simp,fun q hq hqj=>?_⟩;rcases Nat.lt_or_ge q j with h | h
        ·exact hno q hq h
        ·have:q=j:=by omega
         subst this;exact hc4
      ·have hc3:¬ j<k:=by simpa using hc3
       have hje:j=k:=by omega
       subst hje;refine J.exit rfl ?_;refine zI fun k' V=>?_
       simp [h3, ba (show j < 4611686018427387904 by omega)];apply V;refine IH hc1 _ _ _ ⟨by simp[h0],by simp,fun i hi=>?_⟩;rcases Nat.lt_or_ge i j with h | h
       ·exact bu i h
       ·rw[show i=j by omega,jx,hgk,hb,xW hc1 hno]
        rfl
   simp [h0, h3, hc1, Control.cells];refine zA (tK sig[k].name (Nat.le_trans (hs _ (List.getElem_mem hc1)) (by decide))) e155 (.cons (.v _ _ _) .nil) (by simp) ?_;rintro _ rfl;cases hnm:ow sig[k].name
   ·simp[guardOf];exact fin _ (by simp[h0,Control.cells]) (by simp[h3]) (by simp only[cR,hnm];simp)
   ·simp[h0,h3,hc1,Control.cells,guardOf];refine zA (fB sig[k].ports 0 3) sk (.cons (.v _ _ _) (.cons (.v _ _ _) (.cons (.v _ _ _) .nil))) (by simp) ?_;rintro _ rfl;cases hpo:within sig[k].ports 0 3
    ·simp[guardOf];exact fin _ (by simp[h0,Control.cells]) (by simp[h3]) (by simp only[cR,hnm,hpo];simp)
    ·simp[h0,h3,hc1,Control.cells,guardOf];refine zA (fB sig[k].kind 0 2) sk (.cons (.v _ _ _) (.cons (.v _ _ _) (.cons (.v _ _ _) .nil))) (by simp) ?_;rintro _ rfl;simp[guardOf];exact fin _ (by simp[h0,Control.cells]) (by simp[h3]) (by simp only[cR,hnm,hpo];simp)
  ·have hc1:¬ k<sig.length:=by simpa using hc1
   have hke:k=sig.length:=by omega
   subst hke;refine J.exit rfl ?_;refine zE fun k' V=>?_
   simp [h0];refine zA (fB sig.length 1 6) sk (.cons (.v _ _ _) (.cons (.v _ _ _) (.cons (.v _ _ _) .nil))) (by simp) ?_;rintro _ rfl;simp;apply V;exact J.ret func125 (aN.one results125) (hQ _ _ _ _ (.v _ _ _) (by rw[iG,dR bu,Bool.and_true]))
end Go.Ab
