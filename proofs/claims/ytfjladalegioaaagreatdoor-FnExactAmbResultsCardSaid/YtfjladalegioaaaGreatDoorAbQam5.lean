/- Merged texts (5 of 12) of the proof that ends in Amy: Sm Sl Su R Shelf S. -/
import Derived.Test.YtfjladalegioaaaGreatDoorAbQam4
import Derived.Lib.SlicesCompact
import Derived.ProofKit
import Derived.LaidMore
import Derived.OpenShut
import Derived.Lay
import Derived.Stop.Joined
import Derived.Shelf.Strings.Builder1
import Derived.Shelf.Strings.Builder2
import Derived.Shelf.Strings.OnBuilder
import Derived.Shelf.Strings.Trim
import Derived.Shelf.Small.Utf8
import Derived.Shelf.Small.Bits
import Derived.Shelf.Small.Strs
import Derived.Shelf.Small.Wraps
import Derived.Shelf.Strings.BuilderF
import Derived.Shelf.Strings.BuilderK
import Derived.Shelf.Strings.Builder2Cap
import Derived.Shelf.Strconv.Itoa0
import Derived.Shelf.Strings.Search1
import Derived.Shelf.Sort.Plain
import Derived.Shelf.Strings.Prefix
import Derived.Shelf.Unicode.Decode
import Derived.Shelf.Strings.Runes
import Derived.Shelf.Strings.AsciiSet
import Derived.Shelf.Unicode.DecodeSlow
import Derived.Shelf.Unicode.DecodeAny
import Derived.Shelf.Unicode.DecodeLast
import Derived.Shelf.Strings.BuilderCap
import Derived.Ground.Names2Prog
import Derived.Shelf.Slices.Clone
import Derived.Shelf.Slices.CompactS
import Derived.Shelf.Slices.Cells
import Derived.Shelf.Slices.In.SortNone
import Derived.Ground.SlgnProg
import Derived.Shelf.SlicesE.Clone
import Derived.Test.YtfjladalegioaaaGreatDoorProg
import Derived.Shelf.Strings.SlTrimAscii
open Go.Proofs.Tryz
set_option linter.unusedSectionVars false
set_option linter.unusedSimpArgs false
set_option linter.unusedVariables false
namespace Go.Ab
variable [Inhabited cn]
def wy (H:au) (n:Nat):Prop:=∀ i o,H i=some o->i.1<n
def Ext (H H':au):Prop:=∀ i o,H i=some o->H' i=some o
def tK:Op->Nat
 | .buildSlice _ len _=>if len=0 then 2 else 3
 | op=>cA op
def ownF (Ty:Types) (d:Option Nat) (op:Op) (O:Env) (H:au) (n:Nat):Option (ao × au × Nat):=
 match op with
 | .buildSlice t len ps=>match kd Ty t,d with
  | .slice j,some d=>
   if len ≠ 0/\len * j.size<=16777216/\j.size ≠ 0/\j.zero.length=j.size then
    (eo (fun k=>some (k * j.size,j.size)) ((List.replicate len (j.zero.map ao.v)).flatten) (ps.toList.map fun p=>(p.1,O.ev p.2))).map fun cs=>(.arr (n,d) len 0 len,H.set (n,d) ⟨j.size,chunks j.size len cs⟩,n+1)
   else none
  | _,_=>none
 | _=>none
section
variable {P:Program} {N:Nat} {Ty:Types} {O:Env} {H H':au} {n n':Nat} {d:Option Nat} {ty:TypeId} {pos:String} {af:Array Edge} {gu:Option (Nat × Bool)}
end
section
variable (P:Program) (N:Nat) (ops:Array Oper)
def StepX (o:Oper) (s s':AS):Prop:=
 (eG ops o s.1=some true/\∃ v,s'.1=s.1.put o.dst v/\(tK o.op=0->s'.2=s.2/\∀ H n,aE P N o (loc o.op s.1) H n (rC v H n))/\(tK o.op=1->s'.2=s.2/\∀ H n,Ext s.2.1 H->s.2.2<=n->aE P N o (loc o.op s.1) H n (rC v H n)) /\
   (wy s.2.1 s.2.2->wy s'.2.1 s'.2.2/\(tK o.op=3->Ext s.2.1 s'.2.1/\s.2.2<=s'.2.2))/\aE P N o (loc o.op s.1) s.2.1 s.2.2 (rC v s'.2.1 s'.2.2)) \/
 (eG ops o s.1=some false/\s'=(s.1.put o.dst gF,s.2))
def RunX (R:AS->Prop):List Oper->AS->Prop
 | [],s=>R s
 | o::l,s=>∃ s',StepX P N ops o s s'/\RunX R l s'
end
section
variable {P:Program} {N:Nat} {ops:Array Oper}
end
section
variable {P:Program} {f:FuncId} {N:Nat} {k:List Item} {O:Env} {H:au} {n:Nat} {Q:ao->au->Nat->Prop}
end
def stepM (Ty:Types) (ah:List Nat) (d:Option Nat) (op:Op) (O:Env) (H:au) (n:Nat):Option (ao × au × Nat):=
 match d with
 | some t=>if ah.contains t then ownF Ty d op O H n else aK Ty d op O H n
 | none=>aK Ty d op O H n
section
variable (P:Program) (f:FuncId) (N:Nat) (k:List Item) (Q:ao->au->Nat->Prop) (Ty:Types) (ah:List Nat) (ops:Array Oper)
def RunXK (l:List Oper) (O:Env) (H:au) (n:Nat):Prop:=RunX P N ops (fun s=>I P f N k s.1 s.2.1 s.2.2 Q) l (O,H,n)
mutual
def evalM:List Oper->Env->au->Nat->Prop
 | [],O,H,n=>I P f N k O H n Q
 | o::l,O,H,n=>o.guard=none/\bindM (stepM Ty ah o.dst o.op O H n) o l O H n
 termination_by l=>(l.length,0)
def bindM:Option (ao × au × Nat)->Oper->List Oper->Env->au->Nat->Prop
 | some (v,H',n'),o,l,O,_,_=>evalM l (O.put o.dst v) H' n'
 | none,o,l,O,H,n=>RunXK P f N k Q ops (o::l) O H n
 termination_by _ _ l=>(l.length,1)
end
end
section
variable {P:Program} {f:FuncId} {N:Nat} {k:List Item} {Q:ao->au->Nat->Prop} {Ty:Types} {ah:List Nat} {ops:Array Oper} {o:Oper} {L:List Oper} {O:Env} {H:au} {n:Nat}
end
section
variable {P:Program} {f f':FuncId} {N:Nat} {k:List Item} {Q:ao->au->Nat->Prop} {Ty:Types} {ah:List Nat} {ops:Array Oper} {L:List Oper} {O:Env} {H H':au} {n n':Nat} {K K1 K2:List bG} {ids:List Id} {t:TypeId} {j:TI} {l:List Sh} {v:ao} {es:List (List ao)} {o:Oper}
end
end Go.Ab
namespace Go.Ab
open Go.Proofs Go.RowKit
def oY (P:Program) (f:FuncId) (args:ao->List ao) (h:Sh) (e:ao) (h':Sh) (R:ao->Prop):Prop:=
 ∀ (H:au) (n:Nat) (v:ao) (K:List bG) (ids:List Id),Sep H n ((h,v,e)::K) ids->aS P f (args v) H n fun r H1 U=>∃ e',R e'/\Sep H1 U ((h',r,e')::K) ids/\(∀ i ∈ ids,H1 i=H i)/\n<=U
section
variable {P:Program} {f:FuncId} {N:Nat} {k:List Item} {Q:ao->au->Nat->Prop} {Ty:Types} {l:List Oper} {O:Env} {H:au} {n:Nat} {K:List bG} {ids:List Id}
theorem bg.callT' (hT:aN P Ty) {d:Option Tmp} {g:Operand} {args:Array Operand} {ats:Array TypeId} {ty:TypeId} {pos:String} {af:Array Edge} {R:ao->Prop} {f':FuncId} {ops:List Oper} {sh sh':Sh} {argf:ao->List ao} {v e:ao}
  (h:oY P f' argf sh e sh' R) (cM:aV P f') (hs:Sep H n ((sh,v,e)::K) ids)
  (hN:ops.all (fun o=>cU N o.dst)=true) (hl:(⟨d,.call ⟨.value g,args,ats⟩,ty,pos,af,none⟩::l:List Oper).all (fun o=>cU N o.dst)=true) (hg:O.ev g = .fn (.func f') [] []) (has:args.toList.map O.ev=argf v)
  (hk:∀ r H1 U e',R e'->Sep H1 U ((sh',r,e')::K) ids->n<=U->(∀ i ∈ ids,H1 i=H i)->bI P f N k Q Ty ops.toArray l (O.put d r) H1 U) :
  bg P f N k Q ops.toArray (⟨d,.call ⟨.value g,args,ats⟩,ty,pos,af,none⟩::l) O H n:=
 bg.op hT hN hl rfl (aE.call (post:=fun r H1 U=>∃ e',R e'/\Sep H1 U ((sh',r,e')::K) ids/\(∀ i ∈ ids,H1 i=H i)/\n<=U) hg cM (by rw[has,List.nil_append,List.append_nil];exact h H n v K ids hs)) fun r H' n' ⟨e',h1,h2,h3,h4⟩=>hk r H' n' e' h1 h2 h4 h3
end
theorem vM {c:Ctx} (g:Good c) {id:Id} {o:Ob} (ho:c.H id=some o) (m d:Nat) (hm:m<=o.els.length) :
  let c':Ctx:={ c with H:=fun j=>if j=(c.n,d) then some ⟨o.size,o.els.take m⟩ else if j=id then none else c.H j,β:=fun j=>if j=(c.n,d) then c.β id else c.β j,n:=c.n+1 }
  aQ c c'/\Good c':=by
 intro c';have hne:∀ j o',c.H j=some o'->j ≠ (c.n,d):=fun j o' h he=>by have:=g.stamp j o' h;rw[he] at this;simp at this
 have hH:∀ j o',c'.H j=some o'->(j=(c.n,d)/\o'=⟨o.size,o.els.take m⟩)\/(j ≠ (c.n,d)/\j ≠ id/\c.H j=some o'):=fun j o' h=>by
  simp only[c'] at h
  split at h
  ·rename_i hj;cases h;exact .inl ⟨hj,rfl⟩
  ·split at h
   ·cases h
   ·exact .inr ⟨by assumption,by assumption,h⟩
 have hβ:∀ j,j ≠ (c.n,d)->c'.β j=c.β j:=fun j hj=>by simp only[c',if_neg hj]
 have hβ0:c'.β (c.n,d)=c.β id:=by simp[c']
 have hk:aQ c c':=by
  refine⟨Nat.le_succ _,rfl,Nat.le_refl _,rfl,rfl,rfl,fun k _ hmu=>⟨rfl,?_⟩,fun j o' hj hn=>?_⟩
  ·rintro⟨j,o',hj,hb⟩;rcases hH j o' hj with ⟨rfl,_⟩ | ⟨h1,_,h3⟩
   ·rw[hβ0] at hb;exact hmu ⟨id,o,ho,hb⟩
   ·rw[hβ j h1] at hb;exact hmu ⟨j,o',h3,hb⟩
  ·rcases hH j o' hj with ⟨rfl,_⟩ | ⟨h1,_,h3⟩
   ·simp at hn
   ·exact⟨o',h3,rfl,Nat.le_refl _,fun _=>⟨hβ j h1,fun cl el fz h=>⟨cl,el,fz,h,Nat.le_refl _⟩⟩⟩
 refine⟨hk,⟨fun j o' hj=>?_,fun j j' o1 o2 h1 h2 hb=>?_,g.Bsize,fun j o' hj=>?_,g.na hk⟩⟩
 ·rcases hH j o' hj with ⟨rfl,_⟩ | ⟨_,_,h3⟩
  ·exact Nat.lt_succ_self _
  ·have:=g.stamp j o' h3;show j.1<c.n+1;omega
 ·rcases hH j o1 h1 with ⟨rfl,_⟩ | ⟨a1,a2,a3⟩<;>rcases hH j' o2 h2 with ⟨rfl,_⟩ | ⟨b1,b2,b3⟩
  ·rfl
  ·rw[hβ0,hβ j' b1] at hb;exact absurd (g.inj _ _ _ _ ho b3 hb).symm b2
  ·rw[hβ0,hβ j a1] at hb;exact absurd (g.inj _ _ _ _ a3 ho hb) a2
  ·rw[hβ j a1,hβ j' b1] at hb;exact g.inj _ _ _ _ a3 b3 hb
 ·rcases hH j o' hj with ⟨rfl,rfl⟩ | ⟨a1,a2,a3⟩
  ·obtain⟨p1,cl,el,p2,p3,p4⟩:=g.obj id o ho;rw[hβ0];refine⟨p1,cl,el,p2,?_,fun i e he=>?_⟩
   ·have:(o.els.take m).length<=o.els.length:=by simp;omega
    exact Nat.le_trans (Nat.mul_le_mul_right _ this) p3
   ·have he':o.els[i]?=some e:=by
     simp only[List.getElem?_take] at he
     split at he
     ·exact he
     ·cases he
    exact⟨(p4 i e he').1,fun j a ha=>let ⟨x,hx,hr⟩:=(p4 i e he').2 j a ha;⟨x,hx,hr.keeps hk⟩⟩
  ·obtain⟨p1,cl,el,p2,p3,p4⟩:=g.obj j o' a3;rw[hβ j a1];exact⟨p1,cl,el,p2,p3,fun i e he=>⟨(p4 i e he).1,fun q a ha=>let ⟨x,hx,hr⟩:=(p4 i e he).2 q a ha;⟨x,hx,hr.keeps hk⟩⟩⟩
theorem oY.compact {P:Program} {f:FuncId} {ss ss':List aH} (hle:ss'.length<=ss.length)
  (hs:∀ (blk off cap:Nat) (w:World),Sort.Holds encStr w blk off ss.toArray->ss.length<=cap->Calls P f #[.slice (some ⟨blk,off,none⟩) ss.length cap] w fun e w'=>
   e = .returned (.slice (some ⟨blk,off,none⟩) ss'.length cap)/\∃ q,w'=Sort.putRow encStr (Sort.ahead w q) blk off (ss'++List.replicate (ss.length - ss'.length) []).toArray)
  (hnil:ss=[]->∀ w:World,Calls P f #[.slice none 0 0] w fun e w'=>e = .returned (.slice none 0 0)/\w'=w) :
  oY P f (fun v=>[v]) (.s [.c]) (cg true ss) (.s [.c]) (fun e=>e=cg true ss'):=by
 intro H n v K ids hsep c xs hH hn g r;subst hH hn;obtain⟨x,rfl,hx⟩:∃ x,xs=[x]/\bj c v x:=by
  obtain⟨hl,hr⟩:=r
  match xs,hl with
  | [x],_=>exact⟨x,rfl,hr 0 v x rfl rfl⟩
 obtain⟨h0,S,h1,h2⟩:=hsep;simp only[List.map_cons,Row,Tr] at h1;obtain⟨S1,S2,h3,h4,rfl,h5⟩:=h1;rcases h3 with ⟨rfl,e,rfl⟩ | ⟨id,els,es',T,rfl,he,q3,q4,q5,rfl⟩
 ·have hss:ss=[]:=by simpa[cg] using e
  subst hss;have hss':ss'=[]:=List.eq_nil_of_length_eq_zero (by simpa using hle);subst hss';rw[hx.bo];refine (hnil rfl c.w).mono ?_;rintro e w' ⟨rfl,rfl⟩;refine⟨_,.v (.slice none 0 0),c,rfl,rfl,⟨_,rfl,⟨h0,_,?_,h2⟩,fun _ _=>rfl,Nat.le_refl _⟩,.v _,g,aQ.refl c⟩;simp only[List.map_cons,Row,Tr];exact⟨[],S2,.inl (by simp[cg]),h4,rfl,by simp⟩
 ·simp only[cg,ao.list.injEq,true_and] at he;subst he;obtain⟨rfl,rfl⟩:=lB (by simp) q4;have q3':c.H id=some ⟨1,ss.map fun s=>[str s]⟩:=q3;have hcell:∀ i s,ss[i]?=some s->c.w.cell? ⟨c.β id,i,none⟩=some (encStr s):=fun i s hi=>by
   obtain⟨x,h1,h2⟩:=g.cell q3' (i:=i) (j:=0) (e:=[str s]) (a:=str s) (by rw[List.getElem?_map,hi];rfl) rfl;rw[h2.bo] at h1;simpa using h1
  cases hx with
  | arr _ _ _ _ _ _ hn hg h=>
   obtain⟨hle1,a,cap,rfl,hab,hsp,hlc,cC,hcl⟩:=h _ q3' (by simp);obtain⟨bk,off,M⟩:=a;simp only at hab hsp;subst hab hsp;have hz:off=0\/ss=[]:=by
    rcases cC with h | h
    ·left;simpa using h
    ·right;simpa[h] using hlc
   have hbk:c.β id<c.w.heap.size:=g.lt q3';have hm:(ss'++List.replicate (ss.length - ss'.length) ([]:aH)).length=ss.length:=by simp;omega
   have hz':off=0\/(ss'++List.replicate (ss.length - ss'.length) ([]:aH))=[]:=hz.imp_right fun h=>by
    subst h;exact List.eq_nil_of_length_eq_zero (by rw[hm];rfl)
   have key:=hs (c.β id) off cap c.w (fun j hj=>by
    have hj':j<ss.length:=by simpa using hj
    have h0:off=0:=hz.elim (fun h=>h) fun h=>by subst h;simp at hj'
    subst h0;refine⟨?_,g.frozen q3' _⟩;rw[Nat.zero_add,hcell j ss[j] (List.getElem?_eq_getElem hj')];simp[hj']) (by simpa using hlc)
   simp only[List.length_map] at *;apply key.mono;rintro e w' ⟨rfl,q,rfl⟩;obtain⟨hk,hg'⟩:=lf g q3' hm off hz' q #[];have hgr:Sort.grow (Sort.putRow encStr (Sort.ahead c.w q) (c.β id) off (ss'++List.replicate (ss.length - ss'.length) ([]:aH)).toArray) #[]=Sort.putRow encStr (Sort.ahead c.w q) (c.β id) off (ss'++List.replicate (ss.length - ss'.length) ([]:aH)).toArray:=by
    simp[Sort.grow]
    rfl
   rw[hgr] at hk hg';generalize hc1:({ c with H:=c.H.set id ⟨1,(ss'++List.replicate (ss.length - ss'.length) ([]:aH)).map fun s=>[str s]⟩,w:=Sort.putRow encStr (Sort.ahead c.w q) (c.β id) off (ss'++List.replicate (ss.length - ss'.length) ([]:aH)).toArray }:Ctx)=c1 at hk hg';have hH1:c1.H id=some ⟨1,(ss'++List.replicate (ss.length - ss'.length) ([]:aH)).map fun s=>[str s]⟩:=by rw[<- hc1];exact au.bB _ _ _
   have hHo:∀ j,j ≠ id->c1.H j=c.H j:=fun j hj=>by rw[<- hc1];exact au.ay _ _ hj
   have hn1:c1.n=c.n:=by rw[<- hc1]
   have hb1:c1.β=c.β:=by rw[<- hc1]
   have hw1:c1.w=Sort.putRow encStr (Sort.ahead c.w q) (c.β id) off (ss'++List.replicate (ss.length - ss'.length) ([]:aH)).toArray:=by rw[<- hc1]
   have htk:((ss'++List.replicate (ss.length - ss'.length) ([]:aH)).map fun s=>[str s]).take ss'.length=ss'.map fun s=>[str s]:=by
    rw[<- List.map_take,List.take_left]
   obtain⟨hk2,hg2⟩:=vM hg' hH1 ss'.length 0 (by simp);simp only[htk] at hk2 hg2;generalize hc2:({ c1 with H:=fun j=>if j=(c1.n,0) then some ⟨1,ss'.map fun s=>[str s]⟩ else if j=id then none else c1.H j,β:=fun j=>if j=(c1.n,0) then c1.β id else c1.β j,n:=c1.n+1 }:Ctx)=c2 at hk2 hg2;have hH2:c2.H (c.n,0)=some ⟨1,ss'.map fun s=>[str s]⟩:=by rw[<- hc2,<- hn1];simp
   have hidn:id.1<c.n:=hn;have hHo2:∀ j:Id,j ≠ id->j.1<c.n->c2.H j=c.H j:=fun j hj hlt=>by
    rw[<- hc2,<- hHo j hj];simp only;rw[if_neg (by rintro rfl;rw[hn1] at hlt;simp at hlt),if_neg hj]
   have hn2:c2.n=c.n+1:=by rw[<- hc2,<- hn1]
   have hb2:c2.β (c.n,0)=c.β id:=by rw[<- hc2,<- hn1];simp[hb1]
   have hw2:c2.w=c1.w:=by rw[<- hc2]
   refine⟨_,.arr (c.n,0) ss'.length 0 ss'.length,c2,rfl,by rw[hw2,hw1],⟨_,rfl,⟨fun i hi=>by have:=h0 i hi;omega,(c.n,0)::S2,?_,fun i hi=>?_⟩,fun i hi=>hHo2 i (by rintro rfl;exact (h2 i (by simp)).2 hi) (h0 i hi),by omega⟩,?_,hg2,hk.trans hk2⟩
   ·simp only[List.map_cons,Row,Tr];refine⟨[(c.n,0)],S2,.inr ⟨(c.n,0),ss'.map fun s=>[str s],ss'.map fun s=>[str s],[],by simp,rfl,hH2,aW.uQ (by simp[str,flat]) (by simp),by simp,rfl⟩,h4.frame fun i hi=>?_,rfl,?_⟩
    ·exact hHo2 i (by rintro rfl;exact h5 i (by simp) hi) (h2 i (by simp[hi])).1
    ·intro i hi hm;have:=(h2 i (by simp[hm])).1;simp at hi;subst hi;simp at this
   ·rcases List.mem_cons.1 hi with rfl | hi
    ·exact⟨by show c.n<c2.n;omega,fun hm=>by have:=h0 _ hm;simp at this⟩
    ·have:=h2 i (by simp[hi]);exact⟨by omega,this.2⟩
   ·refine .arr _ _ _ _ _ rfl (by show c.n<c2.n;omega) ?_ ?_
    ·intro o ho;rw[hH2] at ho;cases ho;simp
    ·intro o ho _;rw[hH2] at ho;cases ho;refine⟨by omega,_,_,rfl,by simp[hb2],rfl,by omega,?_,fun cl el fz E=>?_⟩
     ·rcases cC with h | h
      ·left;simpa using h
      ·right;exact h
     ·rw[hb2,hw2,hw1] at E;obtain⟨_,cl0,el0,hh0,_⟩:=g.obj id _ q3';have hnew:(Sort.putRow encStr (Sort.ahead c.w q) (c.β id) off (ss'++List.replicate (ss.length - ss'.length) ([]:aH)).toArray).heap[c.β id]?=some (.cells (Sort.putCells encStr off (ss'++List.replicate (ss.length - ss'.length) ([]:aH)).toArray cl0) el0 (0,0)):=by
       simp only[Sort.putRow,Sort.mapBlock,Sort.ahead,Array.getElem?_modify,hh0];simp[Sort.onCells]
      rw[hnew] at E;cases E;have:=hcl cl0 _ (0,0) hh0;simpa[Sort.putCells] using this
end Go.Ab
namespace Go.Ab
variable [Inhabited cn]
def en:Op->Nat
 | .slice ..=>0
 | .load ..=>0
 | .indexAddr ..=>0
 | .fieldAddr ..=>0
 | op=>cA op
def jQ (W:List Id):ao->Prop
 | .arr id _ _ _=>id ∈ W
 | .ptr id _ _ _=>id ∈ W
 | _=>True
def fu (W:List Id) (O:Env):Op->Prop
 | .slice _ x _ _ _=>jQ W (O.ev x)
 | .load _ x=>jQ W (O.ev x)
 | .indexAddr _ x _=>jQ W (O.ev x)
 | .fieldAddr _ x _=>jQ W (O.ev x)
 | _=>True
attribute [simp] jQ fu
section
variable (P:Program) (N:Nat) (ops:Array Oper) (W:List Id)
def gE (o:Oper) (s s':AS):Prop:=
 (eG ops o s.1=some true/\∃ v,s'.1=s.1.put o.dst v/\(en o.op=0->s'.2=s.2/\∀ H n,(∀ i ∈ W,H i=s.2.1 i)->aE P N o (loc o.op s.1) H n (rC v H n))/\(en o.op=1->s'.2=s.2) /\
   (∀ i ∈ W,s'.2.1 i=s.2.1 i)/\aE P N o (loc o.op s.1) s.2.1 s.2.2 (rC v s'.2.1 s'.2.2)) \/
 (eG ops o s.1=some false/\s'=(s.1.put o.dst gF,s.2))
def jt (R:AS->Prop):Nat->Array Bool->AS->Prop
 | 0,listed,s=>Region.ready .any ops listed=[]/\R s
 | fuel+1,listed,s=>(Region.ready .any ops listed=[]->R s)/\∀ i ∈ Region.ready .any ops listed,∃ o s',ops[i]?=some o/\gE P N ops W o s s'/\jt R fuel (listed.setIfInBounds i true) s'
def vF (R:AS->Prop):List Oper->AS->Prop
 | [],s=>R s
 | o::l,s=>∃ s',gE P N ops W o s s'/\vF R l s'
end
section
variable {P:Program} {N:Nat} {ops:Array Oper} {W:List Id}
theorem gE.jH {oi oj:Oper} (hap:oi.apart ops oj=true) (hc:eI (en oi.op) (en oj.op)=true) {s si sij:AS} (hi:gE P N ops W oi s si) (hj:gE P N ops W oj si sij):∃ sj,gE P N ops W oj s sj/\gE P N ops W oi sj sij:=by
 obtain⟨h1,h2,h3⟩:=Oper.apart_spec hap;have lj:∀ v,loc oj.op (s.1.put oi.dst v)=loc oj.op s.1:=fun v=>dX (cm h1)
 have li:∀ v,loc oi.op (s.1.put oj.dst v)=loc oi.op s.1:=fun v=>dX (cm h3)
 have gj:∀ v,eG ops oj (s.1.put oi.dst v)=eG ops oj s.1:=fun v=>fi h1
 have gi:∀ v,eG ops oi (s.1.put oj.dst v)=eG ops oi s.1:=fun v=>fi h3
 have hcc:en oi.op=0\/en oj.op=0\/(en oi.op=1/\en oj.op=1):=by
  simp only[eI,Bool.or_eq_true,beq_iff_eq,Bool.and_eq_true] at hc;rcases hc with (h | h) | h
  ·exact .inl h
  ·exact .inr (.inl h)
  ·exact .inr (.inr h)
 obtain⟨O,H,n⟩:=s;obtain⟨ρi,Hi,ni⟩:=si;obtain⟨ρj,Hj,nj⟩:=sij;simp only at lj li gj gi;rcases hi with ⟨hgi,v,hv,hk0,hk1,hw,hop⟩ | ⟨hgi,hs⟩
 ·simp only at hgi hv hk0 hk1 hw hop;subst hv;rcases hj with ⟨hgj,u,hu,hl0,hl1,hx,hoq⟩ | ⟨hgj,hs'⟩
  ·simp only at hgj hu hl0 hl1 hx hoq;subst hu;rw[gj] at hgj;rw[lj] at hl0 hoq;rcases hcc with h0 | h0 | ⟨h0,h0'⟩
   ·obtain⟨he,hall⟩:=hk0 h0;cases he;refine⟨(O.put oj.dst u,Hj,nj),.inl ⟨hgj,u,rfl,hl0,hl1,hx,hoq⟩,.inl ⟨by simpa only [gi] using hgi,v,by rw[put_comm v u h2],fun _=>⟨rfl,?_⟩,fun _=>rfl,fun _ _=>rfl,?_⟩⟩
    ·simp only[li];exact fun H' n' hH'=>hall H' n' fun i hi=>(hH' i hi).trans (hx i hi)
    ·simp only[li];exact hall Hj nj hx
   ·obtain⟨he,hall⟩:=hl0 h0;cases he;refine⟨(O.put oj.dst u,H,n),.inl ⟨hgj,u,rfl,fun _=>⟨rfl,fun H' n' hH'=>hall H' n' fun i hi=>(hH' i hi).trans (hw i hi).symm⟩,fun _=>rfl,fun _ _=>rfl,hall H n fun i hi=>(hw i hi).symm⟩,
     .inl ⟨by simpa only [gi] using hgi,v,by rw[put_comm v u h2],by simpa only [li] using hk0,hk1,hw,?_⟩⟩
    simp only[li];exact hop
   ·have e1:=hk1 h0;have e2:=hl1 h0';cases e1;cases e2;refine⟨(O.put oj.dst u,H,n),.inl ⟨hgj,u,rfl,hl0,hl1,hx,hoq⟩,.inl ⟨by simpa only [gi] using hgi,v,by rw[put_comm v u h2],by simpa only [li] using hk0,hk1,hw,?_⟩⟩;simp only[li];exact hop
  ·simp only at hgj hs';cases hs';rw[gj] at hgj;refine⟨(O.put oj.dst gF,H,n),.inr ⟨hgj,rfl⟩,.inl ⟨by simpa only [gi] using hgi,v,by rw[put_comm v gF h2],by simpa only [li] using hk0,hk1,hw,?_⟩⟩;simp only[li];exact hop
 ·simp only at hgi hs;cases hs;rcases hj with ⟨hgj,u,hu,hl0,hl1,hx,hoq⟩ | ⟨hgj,hs'⟩
  ·simp only at hgj hu hl0 hl1 hx hoq;subst hu;rw[gj] at hgj;rw[lj] at hl0 hoq;exact⟨(O.put oj.dst u,Hj,nj),.inl ⟨hgj,u,rfl,hl0,hl1,hx,hoq⟩,.inr ⟨by simpa only [gi] using hgi,by rw[put_comm gF u h2]⟩⟩
  ·simp only at hgj hs';cases hs';rw[gj] at hgj;exact⟨(O.put oj.dst gF,H,n),.inr ⟨hgj,rfl⟩,.inr ⟨by simpa only [gi] using hgi,by rw[put_comm gF gF h2]⟩⟩
theorem jt.first {R:AS->Prop} {i:Nat} {oi:Oper} (hi:ops[i]?=some oi) (ak:List Nat) (hD:∀ j oj,ops[j]?=some oj->j ∈ ak->j ≠ i->∃ e ∈ oj.after,Region.binds .any e=true/\e.on ∈ ak):∀ (fuel:Nat) (listed:Array Bool) (s s':AS),
  (∀ j ∈ ak,listed.getD j true=false)->(∀ j oj,ops[j]?=some oj->j ≠ i->listed.getD j true=false->j ∉ ak->oi.apart ops oj=true/\eI (en oi.op) (en oj.op)=true) ->
  i ∈ Region.ready .any ops listed->gE P N ops W oi s s'->jt P N ops W R fuel (listed.setIfInBounds i true) s'->jt P N ops W R (fuel+1) listed s:=by
 intro fuel
 induction fuel with
 | zero=>
  intro listed s s' _ _ hr hst H;refine⟨fun h=>(by rw[h] at hr;cases hr),fun j hj=>?_⟩
  by_cases hji:j=i
  ·subst hji;exact⟨oi,s',hi,hst,H⟩
  ·have:=ready_mono hj hji;rw[H.1] at this;cases this
 | succ fuel ih=>
  intro listed s s' hinv hfree hr hst H;refine⟨fun h=>(by rw[h] at hr;cases hr),fun j hj=>?_⟩
  by_cases hji:j=i
  ·subst hji;exact⟨oi,s',hi,hst,H⟩
  ·obtain⟨oj,s'',hoj,hstj,hrest⟩:=H.2 j (ready_mono hj hji);obtain⟨hjun,oj',hoj',hall⟩:=mem_ready.1 hj;rw[hoj] at hoj';cases hoj';have hnot:j ∉ ak:=fun hd=>by
    obtain⟨e,he,hb,hed⟩:=hD j oj hoj hd hji;have h1:=hall e he hb;have h0:=hinv e.on hed;rcases Nat.lt_or_ge e.on listed.size with h' | h'
    ·simp[h'] at h0 h1;rw[h0] at h1;cases h1
    ·simp[Array.getElem?_eq_none h'] at h1
   obtain⟨hap,hco⟩:=hfree j oj hoj hji hjun hnot;obtain⟨sj,h1,h2⟩:=gE.jH hap hco hst hstj;refine⟨oj,sj,hoj,h1,ih (listed.setIfInBounds j true) sj s'' (fun k hk=>?_) (fun k ok hk hki hun hno=>?_) (ready_mono hr (Ne.symm hji)) h2 ?_⟩
   ·have hjk:j ≠ k:=fun he=>hnot (he ▸ hk)
    rw[getD_set_ne true hjk];exact hinv k hk
   ·refine hfree k ok hk hki ?_ hno
    by_cases hjk:j=k
    ·subst hjk;exact hjun
    ·rw[getD_set_ne true hjk] at hun;exact hun
   ·rw[Array.setIfInBounds_comm _ _ hji];exact hrest
theorem jt.lex {R:AS->Prop}:∀ (l:List Oper) (k:Nat) (listed:Array Bool) (s:AS),(∀ j:Nat,l[j]?=ops[k+j]?)->ld en ops l.length k listed=true->vF P N ops W R l s->jt P N ops W R l.length listed s
 | [],_,_,_,_,hB,h=>⟨by simpa[ld] using hB,h⟩
 | o::l,k,listed,s,hl,hB,h=>by
  have h0:ops[k]?=some o:=by simpa using (hl 0).symm
  simp only[List.length_cons,ld,Bool.and_eq_true] at hB;obtain⟨⟨hr,hf⟩,hB'⟩:=hB;obtain⟨s',hst,hrest⟩:=h;obtain⟨f1,f2,f3⟩:=ji h0 hf;exact jt.first h0 (behind ops k) f1 l.length listed s s' f2 f3 (by simpa using hr) hst
   (jt.lex l (k+1) _ _ (fun j=>by have:=hl (j+1);simpa[Nat.add_assoc,Nat.add_comm 1 j] using this) hB' hrest)
theorem jt.sound {R:AS->Prop} (hN:ops.toList.all (fun o=>cU N o.dst)=true) {Q:Exit->Act->World->Prop} {c0:Ctx} (hQ:∀ a c O,aQ c0 c->Good c->bV N c O a->R (O,c.H,c.n)->Q .normal a c.w) :
  ∀ (fuel:Nat) (listed:Array Bool) (O:Env) (c:Ctx) (a:Act),aQ c0 c->Good c->bV N c O a->jt P N ops W R fuel listed (O,c.H,c.n)->wpAny P .any ops Q fuel listed a c.w
 | 0,_,_,_,_,hk,g,r,h=>⟨h.1,hQ _ _ _ hk g r h.2⟩
 | fuel+1,listed,O,c,a,hk,g,r,h=>by
  refine⟨fun h0=>hQ _ _ _ hk g r (h.1 h0),fun i hi=>?_⟩;obtain⟨o,s',ho,hst,hrest⟩:=h.2 i hi;obtain⟨ρ',H',n'⟩:=s';have hd:cU N o.dst=true:=List.all_eq_true.1 hN o (by rw[<- Array.getElem?_toList] at ho;exact List.mem_of_getElem? ho);unfold wpOp;simp only[ho];rcases hst with ⟨hg,v,hv,_,_,_,hop⟩ | ⟨hg,hs⟩
  ·rw[if_pos (bA r hN hg)];simp only at hv hop;subst hv;refine .inl (hop c a rfl rfl g (r.loc o.op) _ _ ?_);rintro v1 x c' ⟨rfl,hH,hn⟩ hrep hgood hkeep;exact jt.sound hN hQ fuel _ _ c' _ (hk.trans hkeep) hgood ((r.keeps hkeep).put hd hrep) (by rw[hH,hn];exact hrest)
  ·rw[if_neg (by rw[bA r hN hg];simp)];cases hs;exact jt.sound hN hQ fuel _ _ c _ hk g (r.put hd (.v _)) hrest
end
section
variable {P:Program} {f:FuncId} {N:Nat} {k:List Item} {O:Env} {H:au} {n:Nat} {Q:ao->au->Nat->Prop}
theorem I.drawW (W:List Id) {id:Nat} {ops:List Oper} (hm:P.follows .mixedOrders=true) (hN:ops.all (fun o=>cU N o.dst)=true) (hB:eW en ops.toArray=true)
  (h:vF P N ops.toArray W (fun s=>I P f N k s.1 s.2.1 s.2.2 Q) ops (O,H,n)):I P f N (.code (.region id ops.toArray true)::k) O H n Q:=by
 intro c a hH hn g r b cs hf hk;subst hH;subst hn;obtain⟨d1,d2⟩:=eR g;have hany:=jt.lex (P:=P) (N:=N) (W:=W) (ops:=ops.toArray) ops 0 (Array.replicate ops.toArray.size false) (O,c.H,c.n) (by simp) (by simpa[eW] using hB) h;have hw:(Code.region id ops.toArray true).wp P (fun e a' w'=>e = .normal/\∃ c' ρ',c'.w=w'/\aQ c c'/\Good c'/\bV N c' ρ' a'/\I P f N k ρ' c'.H c'.n Q) a c.w:=by
  refine wp_region_any hm ?_;have:=jt.sound (P:=P) (N:=N) (W:=W) (ops:=ops.toArray) (c0:=c) (by simpa using hN) (Q:=fun e a' w'=>e = .normal/\∃ c' ρ',c'.w=w'/\aQ c c'/\Good c'/\bV N c' ρ' a'/\I P f N k ρ' c'.H c'.n Q)
   (R:=fun s=>I P f N k s.1 s.2.1 s.2.2 Q) (fun a' c' ρ' V hg' hr' hR=>⟨rfl,c',ρ',rfl,V,hg',hr',hR⟩) ops.length (Array.replicate ops.toArray.size false) O { c with w:={ c.w with drawn:=c.w.drawn+1 } } a d1 d2 (r.keeps d1) hany
  simpa using this
 obtain⟨e,a',w',⟨rfl,c',ρ',rfl,V,hg',hr',hR⟩,harr⟩:=hw b k cs;obtain⟨x,v,c'',fr,q,hr,hg,hke,hst,rest⟩:=hR c' a' rfl rfl hg' hr' b cs hf hk;exact⟨x,v,c'',fr,q,hr,hg,V.trans hke,Steps.trans harr hst,rest⟩
end
def okW (W:List Id) (o:Oper) (O:Env) (H H':au):Prop:=
 (∀ i ∈ W,H' i=H i)/\fu W O o.op
section
variable (P:Program) (f:FuncId) (N:Nat) (k:List Item) (Q:ao->au->Nat->Prop) (Ty:Types) (W:List Id) (ops:Array Oper)
def evalW:List Oper->Env->au->Nat->Prop
 | [],O,H,n=>I P f N k O H n Q
 | o::l,O,H,n=>o.guard=none/\match aK Ty o.dst o.op O H n with
  | some (v,H',n')=>okW W o O H H'/\evalW l (O.put o.dst v) H' n'
  | none=>False
def kX (r:Option (ao × au × Nat)) (o:Oper) (l:List Oper) (O:Env) (H:au):Prop:=
 match r with
 | some (v,H',n')=>okW W o O H H'/\evalW P f N k Q Ty W l (O.put o.dst v) H' n'
 | none=>False
end
section
variable {P:Program} {f:FuncId} {N:Nat} {k:List Item} {Q:ao->au->Nat->Prop} {Ty:Types} {W:List Id} {ops:Array Oper} {o:Oper} {L:List Oper} {O:Env} {H:au} {n:Nat}
@[simp] theorem evalW_nil : evalW P f N k Q Ty W [] O H n = I P f N k O H n Q := rfl
@[simp] theorem evalW_op {d : Option Tmp} {op : Op} {ty : TypeId} {pos : String} {af : Array Edge} : evalW P f N k Q Ty W (⟨d, op, ty, pos, af, none⟩ :: L) O H n = kX P f N k Q Ty W (aK Ty d op O H n) ⟨d, op, ty, pos, af, none⟩ L O H := by
 simp only[evalW,true_and];rfl
@[simp] theorem qJ {v : ao} {n' : Nat} : kX P f N k Q Ty W (some (v, H, n')) o L O H = (fu W O o.op /\ evalW P f N k Q Ty W L (O.put o.dst v) H n') := by
 simp[kX,okW]
theorem j4 {v:ao} {H':au} {n':Nat} (hw:∀ i ∈ W,H' i=H i) (ho:fu W O o.op) (h:evalW P f N k Q Ty W L (O.put o.dst v) H' n'):kX P f N k Q Ty W (some (v,H',n')) o L O H:=
 ⟨⟨hw,ho⟩,h⟩
section
variable {H2:au} (hw:∀ i ∈ W,H2 i=H i)
include hw
theorem gy {p:ao} {cs:List ao} (hp:jQ W p) (h:bT H p=some cs):bT H2 p=some cs:=by
 cases p with
 | ptr id g i off=>simp only[bT] at h ⊢;rw[hw id hp];exact h
 | _=>exact h
theorem lg {id:Id} {g:Nat} (hp:id ∈ W):live H2 id g=live H id g:=by simp only[live,hw id hp]
theorem ke {t:TypeId} {x ix v:ao} (hp:jQ W x) (h:ar Ty H t x ix=some v):ar Ty H2 t x ix=some v:=by
 unfold ar at h ⊢
 split at h
 ·split at h
  ·exact h
  ·rw[lg hw hp];exact h
  ·split at h
   ·rename_i hv
    rw[gy hw hp hv];exact h
   ·cases h
  ·cases h
 ·cases h
theorem mj {t:TypeId} {x v:ao} {lo hi:Option ao} (hp:jQ W x) (h:b6 Ty H t x lo hi=some v):b6 Ty H2 t x lo hi=some v:=by
 unfold b6 at h ⊢
 split at h
 ·exact h
 ·exact h
 ·rw[lg hw hp];exact h
 ·exact h
 ·cases h
end
theorem ky {op:Op} {d:Option Nat} {v:ao} {H1 H2:au} {U n2:Nat} (h0:en op=0) (hl:fu W O op) (h:aK Ty d op O H n=some (v,H1,U)) (hw:∀ i ∈ W,H2 i=H i):H1=H/\U=n/\aK Ty d op O H2 n2=some (v,H2,n2):=by
 cases op with
 | load t a=>
  obtain⟨e1,e2⟩:=fE rfl h;refine⟨e1,e2,?_⟩;simp only[aK] at h ⊢
  split at h
  ·rename_i hi hv
   split at h
   ·rename_i hl'
    cases h;simp only[hi,gy hw hl hv,hl']
   ·cases h
  ·cases h
 | fieldAddr t a f=>
  obtain⟨e1,e2⟩:=fE rfl h;refine⟨e1,e2,?_⟩;simp only[aK] at h ⊢
  split at h
  ·rename_i hk hv
   split at h
   ·rename_i hf
    split at h
    ·cases h
    ·rename_i hs
     cases h;simp only[hk,gy hw hl hv,hf,if_neg hs]
   ·cases h
  ·cases h
 | indexAddr t a i=>
  obtain⟨h1,e1,e2⟩:=bp h;exact⟨e1,e2,by simp only[aK,ke hw hl h1,Option.map_some]⟩
 | slice t x lo hi mx=>
  cases mx with
  | none=>
   obtain⟨h1,e1,e2⟩:=bp h;exact⟨e1,e2,by simp only[aK,mj hw hl h1,Option.map_some]⟩
  | some m=>cases h
 | _=>
  obtain⟨e1,e2,hall⟩:=jy (by exact h0) h;exact⟨e1,e2,hall H2 n2⟩
theorem ta {op:Op} (h:en op=1):cA op=1:=by
 unfold en at h
 split at h<;>first | (cases h;done) | exact h
theorem lS {op:Op} (h:fu W O op):fu W (loc op O) op:=by
 cases op<;>simp only[fu] at h ⊢<;>(rw[gp (by simp[Op.operands])];exact h)
theorem gE.iy (hT:aN P Ty) {v:ao} {H':au} {n':Nat} (hg:eG ops o O=some true) (hs:aK Ty o.dst o.op O H n=some (v,H',n')) (ho:okW W o O H H'):gE P N ops W o (O,H,n) (O.put o.dst v,H',n'):=by
 have hl:aK Ty o.dst o.op (loc o.op O) H n=some (v,H',n'):=by rw[bP];exact hs
 refine .inl ⟨hg,v,rfl,fun h0=>?_,fun h1=>?_,ho.1,bN hT hl⟩
 ·obtain⟨e1,e2,_⟩:=ky (H2:=H) (n2:=n) h0 (lS ho.2) hl (fun _ _=>rfl);subst e1 e2;refine⟨rfl,fun H2 n2 h2=>bN hT ?_⟩;exact (ky (H2:=H2) (n2:=n2) h0 (lS ho.2) hl h2).2.2
 ·obtain⟨e1,e2⟩:=fE (ta h1) hl;subst e1 e2
  rfl
theorem kB (hT:aN P Ty):∀ (l:List Oper) (O:Env) (H:au) (n:Nat),evalW P f N k Q Ty W l O H n->vF P N ops W (fun s=>I P f N k s.1 s.2.1 s.2.2 Q) l (O,H,n)
 | [],O,H,n,h=>h
 | o::l,O,H,n,h=>by
  obtain⟨hg,h⟩:=h;cases hs:aK Ty o.dst o.op O H n with
  | none=>rw[hs] at h;exact h.elim
  | some r=>
   obtain⟨v,H',n'⟩:=r;rw[hs] at h;exact⟨_,gE.iy hT (by simp[eG,hg]) hs h.1,kB hT l _ _ _ h.2⟩
theorem I.evalWE (hT:aN P Ty) (W:List Id) {id:Nat} {ops:List Oper} (hm:P.follows .mixedOrders=true) (hN:ops.all (fun o=>cU N o.dst)=true) (hB:eW en ops.toArray=true)
  (h:∀ k':List Item,(∀ O H n,I P f N k O H n Q->I P f N k' O H n Q)->evalW P f N k' Q Ty W ops O H n):I P f N (.code (.region id ops.toArray true)::k) O H n Q:=
 I.drawW W hm hN hB (kB hT ops _ _ _ (h k fun _ _ _ h=>h))
end
section
variable {P:Program} {f f':FuncId} {N:Nat} {k:List Item} {Q:ao->au->Nat->Prop} {Ty:Types} {W:List Id} {L:List Oper} {O:Env} {H:au} {n:Nat} {K K1 K2:List bG} {ids:List Id} {t:TypeId} {j:TI} {l:List Sh} {v:ao} {es:List (List ao)} {o:Oper}
theorem og {d:Nat} {x:ao} (K1 K2:List bG) (add adds:List (List ao)) (hno:fu W O o.op) (h:Sep H n ((.s l,v,.list true es)::(K1++K2)) ids) (hk:kd Ty t = .slice j) (hj:j.size=l.length) (hz:j.zero.length=j.size/\j.bytes<=131072)
  (hx:c5 H x=some add) (ho:add.all (fun e=>e.all Ab.aL)=true) (hadd:∀ S,Row H (K1.map (·.1)) (K1.map (·.2.1)) (K1.map (·.2.2)) S->aW (Row H l) add adds S) (hne:adds ≠ []) (hlen:es.length+adds.length<=1073741824)
  (hc:∀ v' H' n',Sep H' n' ((.s l,v',.list true (es++adds))::K2) ids->(∀ i ∈ ids,H' i=H i)->n<=n'->(∀ i ∈ W,H' i=H i)/\evalW P f N k Q Ty W L (O.put o.dst v') H' n'):kX P f N k Q Ty W (aR Ty (some d) t v x H n) o L O H:=by
 obtain⟨v',H',n',h1,h2,h3,h4⟩:=Sep.append (d:=d) h hk hj hz hx ho hadd hne hlen;rw[h1];obtain⟨h5,h6⟩:=hc v' H' n' h2 h3 h4;exact j4 h5 hno h6
theorem iQ {d:Nat} {x:ao} (add:List (List ao)) (hno:fu W O o.op) (h:Sep H n ((.s l,v,.list true es)::K) ids) (hf:∀ t ∈ l,t = .c) (hk:kd Ty t = .slice j) (hj:j.size=l.length) (hz:j.zero.length=j.size/\j.bytes<=131072)
  (hx:c5 H x=some add) (ho:∀ e ∈ add,e.length=l.length/\∀ a ∈ e,ba a/\Ab.aL a=true) (hlen:es.length+add.length<=1073741824)
  (hc:∀ v' H' n',Sep H' n' ((.s l,v',.list true (es++add))::K) ids->(∀ i ∈ ids,H' i=H i)->n<=n'->(∀ i ∈ W,H' i=H i)/\evalW P f N k Q Ty W L (O.put o.dst v') H' n'):kX P f N k Q Ty W (aR Ty (some d) t v x H n) o L O H:=by
 obtain⟨v',H',n',h1,h2,h3,h4⟩:=Sep.nA (d:=d) h hf hk hj hz hx ho hlen;rw[h1];obtain⟨h5,h6⟩:=hc v' H' n' h2 h3 h4;exact j4 h5 hno h6
theorem me {α:Type} {g:α->List ao} {xs:List α} {lo hi:Option Operand} {d:Option Tmp} {x:Operand} {ty:TypeId} {pos:String} {af:Array Edge} (a b:Int) (hW:∀ i ∈ dS v,i ∈ W) (hv:O.ev x=v) (h:Sep H n ((.s l,v,.list true (xs.map g))::K) ids) (hf:∀ t ∈ l,t = .c) (hk:kd Ty t = .slice j) (hj:j.size=l.length)
  {lo' hi':Option ao} (hlo:a6 lo' 0=some a) (hhi:a6 hi' xs.length=some b) (hb:0<=a/\a<=b/\b<=xs.length)
  (hc:∀ w,c5 H w=some (((xs.take b.toNat).drop a.toNat).map g)->evalW P f' N k Q Ty W L (O.put d w) H n):kX P f' N k Q Ty W ((b6 Ty H t v lo' hi').map fun z=>(z,H,n)) ⟨d,.slice t x lo hi none,ty,pos,af,none⟩ L O H:=by
 obtain⟨w,h1,h2⟩:=Sep.wv h hf hk hj hlo hhi hb;rw[h1,Option.map_some,qJ];refine⟨?_,hc w h2⟩;show jQ W (O.ev x);rw[hv];cases v with
 | arr id g a b=>exact hW id (by simp[dS])
 | ptr id g a b=>simp[b6] at h1
 | _=>trivial
end
end Go.Ab
namespace Go.Ab
variable [Inhabited cn]
open Go.RowKit Go.ChangeAt Go.WideShapes Go.ChangeShapes
def jU (w:World) (as1:List ao) (cs:List Value):Prop:=
 as1.length=cs.length/\∀ (c:Ctx),c.w=w->(∀ id,c.H id=none)->∀ (j:Nat) (a:ao) (x:Value),as1[j]?=some a->cs[j]?=some x->bj c a x
def Reader (P:Program) (t:TypeId) {α:Type} (e:α->List ao) (ok:α->Prop):Prop:=
 ∀ (H:Type) (enc:TypeId × Value->H) (w:World) (base:Nat) (spare:Nat->Bool) (held:Bool) (fuel:Nat) (cs:List Value) (x:DataW H × List MemPlace),DataW.trod enc P w base spare held fuel t cs=some x->∃ a,ok a/\jU w (e a) cs
section
variable {P:Program} {t:TypeId}
theorem jU.v (w:World) (x:Value):jU w [.v x] [x]:=⟨rfl,fun _ _ _ j a y ha hy=>by
 match j with
 | 0=>simp at ha hy;subst ha hy;exact .v _
 | j+1=>simp at ha⟩
theorem Reader.int (hu:P.underlying t=some (.int .i64)):Reader P t (fun n:Int=>[int n]) (fun n => -9223372036854775808<=n/\n<=9223372036854775807):=by
 intro H enc w base spare held fuel cs x h;obtain⟨n,rfl,_,hw⟩:=DataW.trod_int hu h;refine⟨n,?_,jU.v w _⟩;simp[Lit.wf] at hw;have h1:IntKind.i64.min = -9223372036854775808:=by decide
 have h2:IntKind.i64.max=9223372036854775807:=by decide
 omega
theorem Reader.str (hu:P.underlying t=some .string):Reader P t (fun s:aH=>[Ab.str s]) (fun s=>s.length<=9223372036854775807):=by
 intro H enc w base spare held fuel cs x h;obtain⟨s,rfl,_,hs⟩:=DataW.trod_string hu h;have hm:maxLen=9223372036854775807:=by decide
 refine⟨s.data.toList,?_,?_⟩
 ·have:s.data.toList.length=s.size:=rfl;omega
 exact jU.v w (.string s)
theorem Reader.map {α β:Type} {e:α->List ao} {ok:α->Prop} {e':β->List ao} {ok':β->Prop} (h:Reader P t e ok) (f:α->β) (he:∀ a,e' (f a)=e a) (hok:∀ a,ok a->ok' (f a)):Reader P t e' ok':=by
 intro H enc w base spare held fuel cs x hx;obtain⟨a,h1,h2⟩:=h H enc w base spare held fuel cs x hx;exact⟨f a,hok a h1,by rw[he];exact h2⟩
def dg (P:Program) (fs:List Field) (off total:Nat) {α:Type} (e:α->List ao) (ok:α->Prop):Prop:=
 ∀ (H:Type) (enc:TypeId × Value->H) (w:World) (base:Nat) (spare:Nat->Bool) (held:Bool) (fuel:Nat) (cs:List Value),cs.length=total->(∀ f ∈ fs,∃ x,DataW.trod enc P w base spare held fuel f.type ((cs.drop f.offset).take (P.cellsOf f.type))=some x)->∃ a,ok a/\jU w (e a) (cs.drop off)
theorem dg.nil (n:Nat):dg P [] n n (fun _:Unit=>[]) (fun _=>True):=by
 intro H enc w base spare held fuel cs hl _;refine⟨(),trivial,?_⟩;rw[List.drop_of_length_le (by omega)];exact⟨rfl,fun _ _ _ j a x ha=>by simp at ha⟩
theorem jU.append {w:World} {as1 bs:List ao} {cs ds:List Value} (h:jU w as1 cs) (k:jU w bs ds):jU w (as1++bs) (cs++ds):=by
 refine⟨by simp[h.1,k.1],fun c hw hH j a x ha hx=>?_⟩;rcases Nat.lt_or_ge j as1.length with hj | hj
 ·rw[List.getElem?_append_left hj] at ha;rw[List.getElem?_append_left (by rw[<- h.1];exact hj)] at hx;exact h.2 c hw hH j a x ha hx
 ·rw[List.getElem?_append_right hj] at ha;rw[List.getElem?_append_right (by rw[<- h.1];exact hj),<- h.1] at hx;exact k.2 c hw hH _ a x ha hx
theorem dg.cons {f:Field} {fs:List Field} {off n total:Nat} {α β:Type} {e:α->List ao} {ok:α->Prop} {e':β->List ao} {ok':β->Prop} (ho:f.offset=off) (hn:P.cellsOf f.type=n) (h:Reader P f.type e ok) (k:dg P fs (off+n) total e' ok') :
  dg P (f::fs) off total (fun p:α × β=>e p.1++e' p.2) (fun p=>ok p.1/\ok' p.2):=by
 intro H enc w base spare held fuel cs hl hx;obtain⟨x,h1⟩:=hx f (by simp);obtain⟨a,ha,hra⟩:=h H enc w base spare held fuel _ x h1;obtain⟨b,hb,hrb⟩:=k H enc w base spare held fuel cs hl (fun g hg=>hx g (by simp[hg]));refine⟨(a,b),⟨ha,hb⟩,?_⟩;have:=jU.append hra hrb;rw[ho,hn,<- List.drop_drop,List.take_append_drop] at this;exact this
theorem Reader.struct {fs:Array Field} {α:Type} {e:α->List ao} {ok:α->Prop} {n:Nat} (hu:P.underlying t=some (.struct fs)) (hn:P.cellsOf t=n) (h:dg P fs.toList 0 n e ok):Reader P t e ok:=by
 intro H enc w base spare held fuel cs x hx;obtain⟨xs,m,_,_,hl,hxl,hf⟩:=DataW.trod_struct hu hx;obtain⟨a,ha,hr⟩:=h H enc w base spare held m cs (hl.trans hn) (fun f hm=>by
  obtain⟨i,hi⟩:=List.getElem?_of_mem hm;have hlt:i<xs.length:=by rw[hxl];simpa using (List.getElem?_eq_some_iff.1 hi).1
  exact⟨xs[i],by rw[hf i f (by simpa using hi)];exact List.getElem?_eq_getElem hlt⟩)
 exact⟨a,ha,hr⟩
theorem kv {α:Type} {Q:Nat->α->Prop}:∀ n,(∀ i,i<n->∃ a,Q i a)->∃ l:List α,l.length=n/\∀ i a,l[i]?=some a->Q i a
 | 0,_=>⟨[],rfl,by simp⟩
 | n+1,h=>by
  obtain⟨l,hl,hq⟩:=kv n fun i hi=>h i (by omega)
  obtain⟨a,ha⟩:=h n (by omega);refine⟨l++[a],by simp[hl],fun i b hb=>?_⟩;rcases Nat.lt_or_ge i n with hi | hi
  ·rw[List.getElem?_append_left (by omega)] at hb;exact hq i b hb
  ·rw[List.getElem?_append_right (by omega)] at hb;have:i - l.length=0:=by
    rcases Nat.eq_zero_or_pos (i - l.length) with h | h
    ·exact h
    ·rw[List.getElem?_eq_none (by simp;omega)] at hb;cases hb
   rw[this] at hb;simp at hb;subst hb;rw[show i=n by omega];exact ha
theorem sT {w:World} {base n:Nat} {a:Addr} {cs:List Value} (h:w.cells? base a n=some cs):cs.length=n/\∀ (j:Nat) x,cs[j]?=some x->w.cell? (a.add j)=some x:=by
 unfold World.cells? at h
 split at h
 ·have hl:=mapM_some_length h;simp at hl;refine⟨hl,fun j x hx=>?_⟩;have hj:j<n:=by rw[<- hl];exact (List.getElem?_eq_some_iff.1 hx).1
  rw[mapM_some_get h j j (by simp[hj]),hx]
 ·cases h
theorem Reader.slice {t':TypeId} {α:Type} {e:α->List ao} {ok:α->Prop} (hu:P.underlying t=some (.slice t')) (hpos:0<P.cellsOf t') (h:Reader P t' e ok) :
  Reader P t (fun l:List α=>[.list false (l.map e)]) (fun l=>l.length<=9223372036854775807/\∀ a ∈ l,ok a):=by
 intro H enc w base spare held fuel cs x hx;rcases DataW.trod_slice hu hx with ⟨rfl,_⟩ | ⟨a,len,cap,elems,rest,n,_,rfl,_,_,hlc,hcm,hel,hat,_,_⟩
 ·refine⟨[],⟨by simp,by simp⟩,rfl,fun c hw hH j y z hy hz=>?_⟩
  match j with
  | 0=>simp at hy hz;subst hy hz;exact .lnil false
  | j+1=>simp at hy
 ·have hall:∀ i,i<len->∃ b,ok b/\∃ ci,w.cells? base (a.add (i * P.cellsOf t')) (P.cellsOf t')=some ci/\jU w (e b) ci:=by
   intro i hi;have:=hat i hi;rw[List.getElem?_eq_getElem (by omega)] at this;cases hc:w.cells? base (a.add (i * P.cellsOf t')) (P.cellsOf t') with
   | none=>rw[hc] at this;cases this
   | some ci=>
    rw[hc] at this;obtain⟨b,hb,hr⟩:=h H enc w base spare held n ci _ this;exact⟨b,hb,ci,rfl,hr⟩
  obtain⟨l,hl,hq⟩:=kv len hall;have hm:maxLen=9223372036854775807:=by decide
  have hl9:l.length<=9223372036854775807:=by omega
  refine⟨l,⟨hl9,fun b hb=>?_⟩,rfl,fun c hw hH j y z hy hz=>?_⟩
  ·obtain⟨i,hi⟩:=List.getElem?_of_mem hb;exact (hq i b hi).1
  match j with
  | j+1=>simp at hy
  | 0=>
  simp at hy hz;subst hy hz;have hcell:∀ (i:Nat) b,l[i]?=some b->∃ ci,jU w (e b) ci/\ci.length=P.cellsOf t'/\∀ (q:Nat) x,ci[q]?=some x->w.cell? ((a.add (i * P.cellsOf t')).add q)=some x:=by
   intro i b hb;obtain⟨_,ci,h1,h2⟩:=hq i b hb;obtain⟨h3,h4⟩:=sT h1;exact⟨ci,h2,h3,h4⟩
  have hfirst:l ≠ []->a.spot=none/\a.block<w.heap.size:=by
   intro hne;obtain⟨b,hb⟩:∃ b,l[0]?=some b:=aM (List.length_pos_iff.2 hne);obtain⟨ci,_,h3,h4⟩:=hcell 0 b hb;obtain⟨x,hx⟩:∃ x,ci[0]?=some x:=aM (by omega);have:=h4 0 x hx
   constructor
   ·simpa[Addr.add] using World.cell?_spot this
   ·have h5:=this;unfold World.cell? at h5;rcases Nat.lt_or_ge a.block w.heap.size with hlt | hge
    ·exact hlt
    ·have:w.heap[a.block]?=none:=Array.getElem?_eq_none hge;simp[Addr.add,this] at h5
  have key:∀ (i:Nat) (b:α) (q:Nat) (y:ao),l[i]?=some b->(e b)[q]?=some y->∃ x,w.cell? ⟨a.block,a.off+(i * P.cellsOf t'+q),none⟩=some x/\bj c y x:=by
   intro i b q y hb hy;obtain⟨ci,hr,h3,h4⟩:=hcell i b hb;have hql:q<ci.length:=by rw[<- hr.1];exact (List.getElem?_eq_some_iff.1 hy).1
   obtain⟨x,hx⟩:=aM hql;refine⟨x,?_,hr.2 c hw hH q y x hy hx⟩;have h5:=h4 q x hx;have hsp:=(hfirst (by intro h0;subst h0;simp at hb)).1;obtain⟨b0,o0,s0⟩:=a;simp only at hsp;subst hsp;simp only[Addr.add_lit] at h5;rw[<- Nat.add_assoc];exact h5
  have:=bj.list (c:=c) false (l.map e) a cap (P.cellsOf t') (fun i q=>(w.cell? ⟨a.block,a.off+(i * P.cellsOf t'+q),none⟩).getD Go.undef) (fun hne=>(hfirst (by intro h0;subst h0;simp at hne)).1) (by simp;omega)
   (fun hne=>⟨vf hH _,by rw[hw];exact (hfirst (by intro h0;subst h0;simp at hne)).2,fun h=>by cases h⟩)
   (fun i el he=>by
    obtain⟨b,hb,rfl⟩:=aU he;obtain⟨ci,hr,h3,_⟩:=hcell i b hb;rw[hr.1,h3])
   (fun i el q y he hy=>by
    obtain⟨b,hb,rfl⟩:=aU he;obtain⟨x,hx,_⟩:=key i b q y hb hy;rw[hw,hx]
    rfl)
   (fun i el q y he hy=>by
    obtain⟨b,hb,rfl⟩:=aU he;obtain⟨x,hx,hr⟩:=key i b q y hb hy;rw[hx];exact hr)
  rw[List.length_map,hl] at this;exact this
def tN (P:Program) (t:TypeId) {α:Type} (e:α->ao) (ok:α->Prop):Prop:=
 ∀ (H:Type) (enc:TypeId × Value->H) (W:World) (base:Nat) (v:Value) (d:DataW H) (p:List MemPlace),Value.okWide P W .any base t v->DataW.Trod enc P W 0 (fun _=>true) true t v d p ->
  ∃ a,ok a/\∀ c:Ctx,c.w=W->(∀ id,c.H id=none)->bj c (e a) v
theorem tN.struct {fs:Array Field} {α:Type} {e:α->List ao} {ok:α->Prop} (hu:P.underlying t=some (.struct fs)) (h:Reader P t e ok):tN P t (fun a=>.agg (e a)) ok:=by
 intro H enc W base v d p hv ⟨fuel,hd⟩;obtain⟨a,ha,hl,hr⟩:=h H enc W 0 _ true fuel _ _ hd;refine⟨a,ha,fun c hw hH=>?_⟩;simp only[Value.okWide,hu] at hv;obtain⟨cs,rfl,_,_⟩:=hv;have:=bj.agg (c:=c) (e a) cs.toList (by simpa[Value.cells] using hl) (fun i b x hb hx=>hr c hw hH i b x hb (by simpa[Value.cells] using hx));simpa using this
def ko (P:Program) (ts:List TypeId) {α:Type} (e:α->List ao) (ok:α->Prop):Prop:=
 ∀ (H:Type) (enc:TypeId × Value->H) (W:World) (base:Nat) (vs:List Value) (ds:List (DataW H)) (p:List MemPlace),(∀ (j:Nat) t v,ts[j]?=some t->vs[j]?=some v->Value.okWide P W .any base t v) ->
  DataW.TrodAll enc P W 0 (fun _=>true) true ts vs ds p->∃ a,ok a/\∀ c:Ctx,c.w=W->(∀ id,c.H id=none)->cF c (e a) vs
theorem ko.nil:ko P [] (fun _:Unit=>[]) (fun _=>True):=by
 intro H enc W base vs ds p _ h;obtain⟨rfl,_,_⟩:=ChangeShapes.trodAll_nil h;exact⟨(),trivial,fun c _ _=>⟨rfl,fun i a x ha=>by simp at ha⟩⟩
theorem ko.cons {ts:List TypeId} {α β:Type} {e:α->ao} {ok:α->Prop} {e':β->List ao} {ok':β->Prop} (h:tN P t e ok) (k:ko P ts e' ok'):ko P (t::ts) (fun p:α × β=>e p.1::e' p.2) (fun p=>ok p.1/\ok' p.2):=by
 intro H enc W base vs ds p hv hA;obtain⟨v,vs',d,ds',q1,q2,rfl,rfl,rfl,h1,h2⟩:=ChangeShapes.trodAll_cons hA;obtain⟨a,ha,hr⟩:=h H enc W base v d q1 (hv 0 t v rfl rfl) h1;obtain⟨b,hb,hs⟩:=k H enc W base vs' ds' q2 (fun j u x hu hx=>hv (j+1) u x (by simpa using hu) (by simpa using hx)) h2;refine⟨(a,b),⟨ha,hb⟩,fun c hw hH=>?_⟩;have r1:=hr c hw hH;obtain⟨r2,r3⟩:=hs c hw hH;refine⟨by simp[r2],fun i y x hy hx=>?_⟩
 match i with
 | 0=>simp at hy hx;subst hy hx;exact r1
 | i+1=>exact r3 i y x (by simpa using hy) (by simpa using hx)
theorem aA.calls {f:FuncId} {args:List ao} {x:Value} (h:aA P f args (fun r=>r = .v x)) (W:World) (hT:sf W W.heap.size) (xs:List Value) (hr:∀ c:Ctx,c.w=W->(∀ id,c.H id=none)->cF c args xs) :
  Calls P f xs.toArray W fun e W'=>e = .returned x/\Below W.heap.size W W':=by
 refine (h ⟨W.heap.size,fun _=>0,bc,0,W⟩ xs rfl rfl (jV W hT) (hr _ rfl (fun _=>rfl))).mono ?_;rintro e w' ⟨y,v,c',he,hw,⟨r,hres,hR⟩,hv,hg,hk⟩;subst hw hR;have hy:=(hres c' y rfl rfl hg hv ⟨0,fun _=>0,bc,0,c'.w⟩ rfl (fun k hk=>by obtain⟨id,o,ho,_⟩:=hk;cases ho) (Nat.zero_le _)).bo;subst hy;exact⟨he,hk.os,hk.tape,hk.output,hk.size,fun k V=>(hk.imm k V (by rintro⟨id,o,ho,_⟩;cases ho)).1⟩
theorem Below.trodAll {H:Type} {enc:TypeId × Value->H} (hl:laidOutB P=true) {W W':World} (hb:Below W.heap.size W W'):∀ {ts:List TypeId} {vs:List Value} {ds:List (DataW H)} {ps:List MemPlace},
  ts.all (fun t=>P.readableRec t && decide (t<P.types.size))=true->DataW.TrodAll enc P W 0 (fun _=>true) true ts vs ds ps->(∀ x ∈ ps,x.block<W.heap.size)->DataW.TrodAll enc P W' 0 (fun b=>decide (b<W.heap.size)) true ts vs ds ps
 | [],vs,ds,ps,_,h,_=>by
  obtain⟨rfl,rfl,rfl⟩:=ChangeShapes.trodAll_nil h;exact rfl
 | t::ts,vs,ds,ps,hr,h,hp=>by
  obtain⟨v,vs',d,ds',q1,q2,rfl,rfl,rfl,h1,h2⟩:=ChangeShapes.trodAll_cons h;simp only[List.all_cons,Bool.and_eq_true,decide_eq_true_eq] at hr;exact⟨q1,q2,Go.RowKit.Below.trod hl hr.1.1 hr.1.2 h1 hb (fun x hx=>hp x (by simp[hx])),Below.trodAll hl hb (by simpa using hr.2) h2 (fun x hx=>hp x (by simp[hx])),rfl⟩
theorem tn {H:Type} {enc:TypeId × Value->H} {fn:Func} {s:ChangeSpec} {fresh handsOn:Bool} {W W':World} {args:Array Value} {ds gs:List (DataW H)} {before:List MemPlace} {tb:TypeId}
  (hl:laidOutB P=true) (hvars:s.vars=[]) (hrt:fn.resultTypes=#[tb]) (htb:P.underlying tb=some .bool) (hread:fn.params.toList.all (fun t=>P.readableRec t && decide (t<P.types.size))=true)
  (hres:(s.fn H ds).results=[.lit (.bool true)]) (hargs:(s.fn H ds).args=ds) (hvs:(s.fn H ds).vars=[]) (hW:DataW.Whole enc P fn.params.toList s.vars false W args.toList ds gs before) (hb:Below W.heap.size W W') :
  s.post enc P fn false fresh handsOn false W args (.bool true) W':=by
 have hlt:∀ x ∈ before,x.block<W.heap.size:=fun x hx=>by simpa using hW.lt x hx
 have hW0:=hW;obtain⟨p,q,hA,hV,rfl,_,_⟩:=hW0;rw[hvars] at hV;obtain⟨hgs,hq⟩:=ChangeShapes.trodVars_none hV;subst hgs hq;refine⟨ds,[],p++[],[],p,[],hW,?_,?_,?_,hb.frame _,fun h=>by cases h⟩
 ·rw[List.append_nil,hres,hrt];exact ChangeShapes.trodAll_mk1 (shut_bool htb true)
 ·rw[List.append_nil,hargs];exact Below.trodAll hl hb hread hA (fun x hx=>hlt x (by simp[hx]))
 ·rw[List.append_nil,hvs,hvars];exact rfl
theorem kx {H:Type} {enc:TypeId × Value->H} {w:World} {base:Nat} {M:Nat->Bool} {hd:Bool}:∀ {ts:List TypeId} {vs:List Value} {ds:List (DataW H)} {ps:List MemPlace},DataW.TrodAll enc P w base M hd ts vs ds ps->ds.length=ts.length
 | [],vs,ds,ps,h=>by obtain⟨_,rfl,_⟩:=ChangeShapes.trodAll_nil h;rfl
 | t::ts,vs,ds,ps,h=>by
  obtain⟨v,vs',d,ds',q1,q2,rfl,rfl,rfl,h1,h2⟩:=ChangeShapes.trodAll_cons h;simp[kx h2]
end
theorem uq {C:Checked} {os:Os} {f:FuncId} {fn:Func} {s:ChangeSpec} {laid:List (String × DataW Unit)} {α:Type} {e:α->List ao} {ok:α->Prop} {tb:TypeId} {H:Type} {enc:TypeId × Value->H}
  (own:ownKnob C.prog.godebug=none) (started:os.Started) (hinit:C.prog.inits.idxOf? f=none) (hfn:C.prog.funcs[f]?=some fn) (hl:laidOutB C.prog=true)
  (wit:∃ (w:World) (tape:Tape) (i:Input),w.os=os/\(w.forCall tape i).Shaped C.prog/\i.vars=[]/\Input.okWide C.prog (w.forCall tape i) .any w.heap.size f i /\
   ((s.pre enc C.prog fn [] false (w.forCall tape i).memory i.args/\laidMetH C.prog laid (w.forCall tape i).memory)/\sizedMet enc C.prog fn (OpenSpec.ofChange s) false (w.forCall tape i).memory i.args)/\({}:Assume).holds C.prog (lone (Frame.enter C.prog f i.args .normal) [] (w.forCall tape i)))
  (hT:∀ W,laidMetH C.prog laid W->sf W W.heap.size) (hR:ko C.prog fn.params.toList e ok) (hlaw:∀ a,ok a->aA C.prog f (e a) (fun r=>r = .v (.bool true)))
  (hvars:s.vars=[]) (hrt:fn.resultTypes=#[tb]) (htb:C.prog.underlying tb=some .bool) (hread:fn.params.toList.all (fun t=>C.prog.readableRec t && decide (t<C.prog.types.size))=true)
  (hs:∀ ds:List (DataW H),ds.length=fn.params.toList.length->(s.fn H ds).results=[.lit (.bool true)]/\(s.fn H ds).args=ds/\(s.fn H ds).vars=[]) :
  ReturnsInHanded {} C os f .any (fun w args=>(s.pre enc C.prog fn [] false w args/\laidMetH C.prog laid w)/\sizedMet enc C.prog fn (OpenSpec.ofChange s) false w args)
   (s.post enc C.prog fn false true false false):=by
 refine returnsInHanded_of_change_and (C:=C) (X:=fun w _=>laidMetH C.prog laid w) (fun _ _ _ E h=>h.of_heap E) own started hinit hfn wit ?_;intro W base args ds gs before hval hW _ _ hX _;have hW0:=hW;obtain⟨p,q,hA,_,_,_,_⟩:=hW0;have hlen:=kx hA;obtain⟨a,ha,hr⟩:=hR H enc W base args.toList ds p (fun j t v ht hv=>hval j t v (by simpa using ht) (by simpa using hv)) hA;obtain⟨h1,h2,h3⟩:=hs ds hlen;have hc:=aA.calls (hlaw a ha) W (hT W hX) args.toList hr;rw[Array.toArray_toList] at hc;apply hc.mono;rintro e W' ⟨he,hb⟩;exact⟨_,he,tn hl hvars hrt htb hread h1 h2 h3 hW hb⟩
end Go.Ab
namespace Go.Proofs
open Go.Shelf
def Tryz.kn:Go.Shelf.Ren:=⟨fun | 156=>71 | 165=>83 | 166=>84 | 169=>85 | 240=>104 | 241=>105 | 276=>117 | 277=>118 | n=>n,fun | 31=>42 | 9=>9 | 3=>3 | 4=>4 | 0=>0 | 20=>20 | 72=>111 | 76=>114 | 70=>109 | 37=>83 | 75=>113 | 127=>134 | 164=>149 | 5=>5 | 80=>102 | n=>n,fun | n=>n⟩
theorem Tryz.rD:Go.Proofs.Lays.n156 prog Tryz.kn:={
 mixed:=by kernel_rfl
 f156:=Tryz.func71.trans (congrArg some (by kernel_rfl))
 f165:=Tryz.func83.trans (congrArg some (by kernel_rfl))
 f166:=Tryz.func84.trans (congrArg some (by kernel_rfl))
 f169:=Tryz.func85.trans (congrArg some (by kernel_rfl))
 f240:=Tryz.func104.trans (congrArg some (by kernel_rfl))
 f241:=Tryz.func105.trans (congrArg some (by kernel_rfl))
 f276:=Tryz.func117.trans (congrArg some (by kernel_rfl))
 f277:=Tryz.func118.trans (congrArg some (by kernel_rfl))
 t0:=Tryz.underlying0
 a0:=Tryz.isAgg0
 z0:=Tryz.sizeOf0
 v0:=Tryz.zeroValue0
 t3:=Tryz.underlying3
 a3:=Tryz.isAgg3
 z3:=Tryz.sizeOf3
 v3:=Tryz.zeroValue3
 t4:=Tryz.underlying4
 a4:=Tryz.isAgg4
 z4:=Tryz.sizeOf4
 v4:=Tryz.zeroValue4
 t9:=Tryz.underlying9
 a9:=Tryz.isAgg9
 z9:=Tryz.sizeOf9
 v9:=Tryz.zeroValue9
 t20:=Tryz.underlying20
 a20:=Tryz.isAgg20
 z20:=Tryz.sizeOf20
 v20:=Tryz.zeroValue20
 t31:=Tryz.underlying42
 a31:=Tryz.isAgg42
 z31:=Tryz.sizeOf42
 v31:=Tryz.zeroValue42
 t37:=Tryz.underlying83
 a37:=Tryz.isAgg83
 z37:=Tryz.sizeOf83
 v37:=Tryz.zeroValue83
 t70:=Tryz.underlying109
 a70:=Tryz.isAgg109
 z70:=Tryz.sizeOf109
 v70:=Tryz.zeroValue109
 t72:=Tryz.underlying111
 a72:=Tryz.isAgg111
 z72:=Tryz.sizeOf111
 v72:=Tryz.zeroValue111
 t75:=Tryz.underlying113
 a75:=Tryz.isAgg113
 z75:=Tryz.sizeOf113
 v75:=Tryz.zeroValue113
 t76:=Tryz.underlying114
 a76:=Tryz.isAgg114
 z76:=Tryz.sizeOf114
 v76:=Tryz.zeroValue114
 t127:=Tryz.underlying134
 a127:=Tryz.isAgg134
 z127:=Tryz.sizeOf134
 v127:=Tryz.zeroValue134
 t164:=Tryz.underlying149
 a164:=Tryz.isAgg149
 z164:=Tryz.sizeOf149
 v164:=Tryz.zeroValue149 }
theorem Tryz.fb:Builder.Extra prog Tryz.kn:={
 sizeBuilder:=by kernel_rfl
 liesBuilder:=by kernel_rfl
 t5:=Tryz.underlying5
 a5:=Tryz.isAgg5
 z5:=Tryz.sizeOf5
 v5:=Tryz.zeroValue5
 infoByte:=by kernel_rfl
 cellsByte:=by kernel_rfl
 sizeByte:=by kernel_rfl
 neB5:=by decide }
open Go.RowKit in
theorem Tryz.strings_Join_none (a:Option Addr) (c:Nat) (sep:ByteArray) (w:World) :
  Calls prog 71 #[.slice a 0 c,.string sep] w fun e w'=>e = .returned (.string ⟨#[]⟩)/\w'=w:=Any.strings_Join_none Tryz.rD Tryz.fb a c sep w
open Go.RowKit in
theorem Tryz.strings_Join (bk o c:Nat) (xs:List ByteArray) (sep:ByteArray) (w:World) (hcells:∀ (j:Nat) x,xs[j]?=some x->w.cell? ⟨bk,o+j,none⟩=some (.string x)) (hbk:bk<w.heap.size) (hN:xs.length<=140737488355328) (cY:xs.length<=c) (hlen:(Lib.join (xs.map (·.data.toList)) sep.data.toList).length<=140737488355328) :
  Calls prog 71 #[.slice (some ⟨bk,o,none⟩) xs.length c,.string sep] w fun e w'=>e = .returned (.string ⟨(Lib.join (xs.map (·.data.toList)) sep.data.toList).toArray⟩)/\Below w.heap.size w w':=Any.strings_Join Tryz.rD Tryz.fb bk o c xs sep w hcells hbk hN cY hlen
def Tryz.pJ:Go.Shelf.Ren:=⟨fun | 161=>98 | 231=>60 | 227=>62 | 233=>63 | 235=>65 | 228=>79 | 197=>80 | 151=>81 | 260=>101 | 152=>102 | 137=>113 | 119=>114 | 224=>115 | 225=>116 | 217=>120 | 266=>121 | n=>n,fun | 9=>9 | 4=>4 | 3=>3 | 5=>5 | 117=>91 | 116=>90 | 0=>0 | 124=>94 | 105=>106 | 21=>21 | 119=>141 | 46=>99 | 139=>144 | 138=>143 | n=>n,fun | 3=>0 | 4=>1 | n=>n⟩
theorem Tryz.vo:Go.Proofs.Lays.n161 prog Tryz.pJ:={
 mixed:=by kernel_rfl
 f119:=Tryz.func114.trans (congrArg some (by kernel_rfl))
 f137:=Tryz.func113.trans (congrArg some (by kernel_rfl))
 f151:=Tryz.func81.trans (congrArg some (by kernel_rfl))
 f152:=Tryz.func102.trans (congrArg some (by kernel_rfl))
 f161:=Tryz.func98.trans (congrArg some (by kernel_rfl))
 f197:=Tryz.func80.trans (congrArg some (by kernel_rfl))
 f217:=Tryz.func120.trans (congrArg some (by kernel_rfl))
 f224:=Tryz.func115.trans (congrArg some (by kernel_rfl))
 f225:=Tryz.func116.trans (congrArg some (by kernel_rfl))
 f227:=Tryz.func62.trans (congrArg some (by kernel_rfl))
 f228:=Tryz.func79.trans (congrArg some (by kernel_rfl))
 f231:=Tryz.func60.trans (congrArg some (by kernel_rfl))
 f233:=Tryz.func63.trans (congrArg some (by kernel_rfl))
 f235:=Tryz.func65.trans (congrArg some (by kernel_rfl))
 f260:=Tryz.func101.trans (congrArg some (by kernel_rfl))
 f266:=Tryz.func121.trans (congrArg some (by kernel_rfl))
 t0:=Tryz.underlying0
 a0:=Tryz.isAgg0
 z0:=Tryz.sizeOf0
 v0:=Tryz.zeroValue0
 t3:=Tryz.underlying3
 a3:=Tryz.isAgg3
 z3:=Tryz.sizeOf3
 v3:=Tryz.zeroValue3
 t4:=Tryz.underlying4
 a4:=Tryz.isAgg4
 z4:=Tryz.sizeOf4
 v4:=Tryz.zeroValue4
 t5:=Tryz.underlying5
 a5:=Tryz.isAgg5
 z5:=Tryz.sizeOf5
 v5:=Tryz.zeroValue5
 t9:=Tryz.underlying9
 a9:=Tryz.isAgg9
 z9:=Tryz.sizeOf9
 v9:=Tryz.zeroValue9
 t21:=Tryz.underlying21
 a21:=Tryz.isAgg21
 z21:=Tryz.sizeOf21
 v21:=Tryz.zeroValue21
 t46:=Tryz.underlying99
 a46:=Tryz.isAgg99
 z46:=Tryz.sizeOf99
 v46:=Tryz.zeroValue99
 t105:=Tryz.underlying106
 a105:=Tryz.isAgg106
 z105:=Tryz.sizeOf106
 v105:=Tryz.zeroValue106
 t116:=Tryz.underlying90
 a116:=Tryz.isAgg90
 z116:=Tryz.sizeOf90
 t117:=Tryz.underlying91
 a117:=Tryz.isAgg91
 z117:=Tryz.sizeOf91
 v117:=Tryz.zeroValue91
 t119:=Tryz.underlying141
 a119:=Tryz.isAgg141
 z119:=Tryz.sizeOf141
 t124:=Tryz.underlying94
 a124:=Tryz.isAgg94
 z124:=Tryz.sizeOf94
 v124:=Tryz.zeroValue94
 t138:=Tryz.underlying143
 a138:=Tryz.isAgg143
 z138:=Tryz.sizeOf143
 v138:=Tryz.zeroValue143
 t139:=Tryz.underlying144
 a139:=Tryz.isAgg144
 z139:=Tryz.sizeOf144
 v139:=Tryz.zeroValue144
 g3:=by kernel_rfl
 g4:=by kernel_rfl }
def Tryz.pL:Go.Shelf.Ren:=⟨fun | 160=>44 | 232=>61 | 231=>60 | 227=>62 | 234=>64 | 233=>63 | 236=>66 | 235=>65 | 228=>79 | 271=>82 | 151=>81 | 197=>80 | 120=>103 | 152=>102 | 260=>101 | 137=>113 | 119=>114 | 224=>115 | 225=>116 | 217=>120 | 266=>121 | n=>n,fun | 9=>9 | 4=>4 | 3=>3 | 5=>5 | 117=>91 | 116=>90 | 0=>0 | 124=>94 | 21=>21 | 105=>106 | 46=>99 | 119=>141 | 139=>144 | 138=>143 | n=>n,fun | 3=>0 | 4=>1 | n=>n⟩
theorem Tryz.vS:Go.Proofs.Lays.n160 prog Tryz.pL:={
 mixed:=by kernel_rfl
 f119:=Tryz.func114.trans (congrArg some (by kernel_rfl))
 f120:=Tryz.func103.trans (congrArg some (by kernel_rfl))
 f137:=Tryz.func113.trans (congrArg some (by kernel_rfl))
 f151:=Tryz.func81.trans (congrArg some (by kernel_rfl))
 f152:=Tryz.func102.trans (congrArg some (by kernel_rfl))
 f160:=Tryz.func44.trans (congrArg some (by kernel_rfl))
 f197:=Tryz.func80.trans (congrArg some (by kernel_rfl))
 f217:=Tryz.func120.trans (congrArg some (by kernel_rfl))
 f224:=Tryz.func115.trans (congrArg some (by kernel_rfl))
 f225:=Tryz.func116.trans (congrArg some (by kernel_rfl))
 f227:=Tryz.func62.trans (congrArg some (by kernel_rfl))
 f228:=Tryz.func79.trans (congrArg some (by kernel_rfl))
 f231:=Tryz.func60.trans (congrArg some (by kernel_rfl))
 f232:=Tryz.func61.trans (congrArg some (by kernel_rfl))
 f233:=Tryz.func63.trans (congrArg some (by kernel_rfl))
 f234:=Tryz.func64.trans (congrArg some (by kernel_rfl))
 f235:=Tryz.func65.trans (congrArg some (by kernel_rfl))
 f236:=Tryz.func66.trans (congrArg some (by kernel_rfl))
 f260:=Tryz.func101.trans (congrArg some (by kernel_rfl))
 f266:=Tryz.func121.trans (congrArg some (by kernel_rfl))
 f271:=Tryz.func82.trans (congrArg some (by kernel_rfl))
 t0:=Tryz.underlying0
 a0:=Tryz.isAgg0
 z0:=Tryz.sizeOf0
 v0:=Tryz.zeroValue0
 t3:=Tryz.underlying3
 a3:=Tryz.isAgg3
 z3:=Tryz.sizeOf3
 v3:=Tryz.zeroValue3
 t4:=Tryz.underlying4
 a4:=Tryz.isAgg4
 z4:=Tryz.sizeOf4
 v4:=Tryz.zeroValue4
 t5:=Tryz.underlying5
 a5:=Tryz.isAgg5
 z5:=Tryz.sizeOf5
 v5:=Tryz.zeroValue5
 t9:=Tryz.underlying9
 a9:=Tryz.isAgg9
 z9:=Tryz.sizeOf9
 v9:=Tryz.zeroValue9
 t21:=Tryz.underlying21
 a21:=Tryz.isAgg21
 z21:=Tryz.sizeOf21
 v21:=Tryz.zeroValue21
 t46:=Tryz.underlying99
 a46:=Tryz.isAgg99
 z46:=Tryz.sizeOf99
 v46:=Tryz.zeroValue99
 t105:=Tryz.underlying106
 a105:=Tryz.isAgg106
 z105:=Tryz.sizeOf106
 v105:=Tryz.zeroValue106
 t116:=Tryz.underlying90
 a116:=Tryz.isAgg90
 z116:=Tryz.sizeOf90
 t117:=Tryz.underlying91
 a117:=Tryz.isAgg91
 z117:=Tryz.sizeOf91
 v117:=Tryz.zeroValue91
 t119:=Tryz.underlying141
 a119:=Tryz.isAgg141
 z119:=Tryz.sizeOf141
 t124:=Tryz.underlying94
 a124:=Tryz.isAgg94
 z124:=Tryz.sizeOf94
 v124:=Tryz.zeroValue94
 t138:=Tryz.underlying143
 a138:=Tryz.isAgg143
 z138:=Tryz.sizeOf143
 v138:=Tryz.zeroValue143
 t139:=Tryz.underlying144
 a139:=Tryz.isAgg144
 z139:=Tryz.sizeOf144
 v139:=Tryz.zeroValue144
 g3:=by kernel_rfl
 g4:=by kernel_rfl }
def Tryz.pz:Go.Shelf.Ren:=⟨fun | 103=>74 | 210=>97 | 206=>112 | n=>n,fun | 9=>9 | 4=>4 | 24=>100 | 3=>3 | n=>n,fun | n=>n⟩
theorem Tryz.vG:Go.Proofs.Lays.n103 prog Tryz.pz:={
 mixed:=by kernel_rfl
 f103:=Tryz.func74.trans (congrArg some (by kernel_rfl))
 f206:=Tryz.func112.trans (congrArg some (by kernel_rfl))
 f210:=Tryz.func97.trans (congrArg some (by kernel_rfl))
 t3:=Tryz.underlying3
 a3:=Tryz.isAgg3
 z3:=Tryz.sizeOf3
 v3:=Tryz.zeroValue3
 t4:=Tryz.underlying4
 a4:=Tryz.isAgg4
 z4:=Tryz.sizeOf4
 v4:=Tryz.zeroValue4
 t9:=Tryz.underlying9
 a9:=Tryz.isAgg9
 z9:=Tryz.sizeOf9
 v9:=Tryz.zeroValue9
 t24:=Tryz.underlying100
 a24:=Tryz.isAgg100
 z24:=Tryz.sizeOf100
 v24:=Tryz.zeroValue100 }
open Go.RowKit in
theorem Tryz.strings_CutPrefix (s p:ByteArray) (w:World) :
  Calls prog 74 #[.string s,.string p] w fun e w'=>e = .returned (.tuple #[.string ⟨(Lib.trimPrefix s.data.toList p.data.toList).toArray⟩,.bool (Lib.hasPrefix s.data.toList p.data.toList)])/\w'=w:=Any.strings_CutPrefix Tryz.vG s p w
def Tryz.pO:Go.Shelf.Ren:=⟨fun | 190=>52 | 125=>73 | 258=>72 | 128=>95 | 129=>96 | 302=>86 | 303=>87 | 304=>88 | 305=>89 | 306=>90 | 307=>91 | 308=>92 | 309=>93 | 310=>94 | 333=>106 | 329=>107 | 330=>108 | 334=>109 | 335=>110 | 336=>111 | 344=>119 | n=>n,fun | 31=>42 | 9=>9 | 3=>3 | 46=>99 | 0=>0 | 51=>126 | 53=>128 | 4=>4 | 183=>118 | 182=>117 | 131=>123 | 5=>5 | 218=>135 | 222=>139 | 228=>152 | 229=>153 | n=>n,fun | n=>n⟩
theorem Tryz.rp:Go.Proofs.Lays.n190 prog Tryz.pO:={
 mixed:=by kernel_rfl
 f125:=Tryz.func73.trans (congrArg some (by kernel_rfl))
 f128:=Tryz.func95.trans (congrArg some (by kernel_rfl))
 f129:=Tryz.func96.trans (congrArg some (by kernel_rfl))
 f190:=Tryz.func52.trans (congrArg some (by kernel_rfl))
 f258:=Tryz.func72.trans (congrArg some (by kernel_rfl))
 f302:=Tryz.func86.trans (congrArg some (by kernel_rfl))
 f303:=Tryz.func87.trans (congrArg some (by kernel_rfl))
 f304:=Tryz.func88.trans (congrArg some (by kernel_rfl))
 f305:=Tryz.func89.trans (congrArg some (by kernel_rfl))
 f306:=Tryz.func90.trans (congrArg some (by kernel_rfl))
 f307:=Tryz.func91.trans (congrArg some (by kernel_rfl))
 f308:=Tryz.func92.trans (congrArg some (by kernel_rfl))
 f309:=Tryz.func93.trans (congrArg some (by kernel_rfl))
 f310:=Tryz.func94.trans (congrArg some (by kernel_rfl))
 f329:=Tryz.func107.trans (congrArg some (by kernel_rfl))
 f330:=Tryz.func108.trans (congrArg some (by kernel_rfl))
 f333:=Tryz.func106.trans (congrArg some (by kernel_rfl))
 f334:=Tryz.func109.trans (congrArg some (by kernel_rfl))
 f335:=Tryz.func110.trans (congrArg some (by kernel_rfl))
 f336:=Tryz.func111.trans (congrArg some (by kernel_rfl))
 f344:=Tryz.func119.trans (congrArg some (by kernel_rfl))
 t0:=Tryz.underlying0
 a0:=Tryz.isAgg0
 z0:=Tryz.sizeOf0
 v0:=Tryz.zeroValue0
 t3:=Tryz.underlying3
 a3:=Tryz.isAgg3
 z3:=Tryz.sizeOf3
 v3:=Tryz.zeroValue3
 t4:=Tryz.underlying4
 a4:=Tryz.isAgg4
 z4:=Tryz.sizeOf4
 v4:=Tryz.zeroValue4
 t5:=Tryz.underlying5
 a5:=Tryz.isAgg5
 z5:=Tryz.sizeOf5
 v5:=Tryz.zeroValue5
 t9:=Tryz.underlying9
 a9:=Tryz.isAgg9
 z9:=Tryz.sizeOf9
 v9:=Tryz.zeroValue9
 t31:=Tryz.underlying42
 a31:=Tryz.isAgg42
 z31:=Tryz.sizeOf42
 v31:=Tryz.zeroValue42
 t46:=Tryz.underlying99
 a46:=Tryz.isAgg99
 z46:=Tryz.sizeOf99
 v46:=Tryz.zeroValue99
 t51:=Tryz.underlying126
 a51:=Tryz.isAgg126
 z51:=Tryz.sizeOf126
 v51:=Tryz.zeroValue126
 t53:=Tryz.underlying128
 a53:=Tryz.isAgg128
 z53:=Tryz.sizeOf128
 v53:=Tryz.zeroValue128
 t131:=Tryz.underlying123
 a131:=Tryz.isAgg123
 z131:=Tryz.sizeOf123
 v131:=Tryz.zeroValue123
 t182:=Tryz.underlying117
 a182:=Tryz.isAgg117
 z182:=Tryz.sizeOf117
 v182:=Tryz.zeroValue117
 t183:=Tryz.underlying118
 a183:=Tryz.isAgg118
 z183:=Tryz.sizeOf118
 v183:=Tryz.zeroValue118
 t218:=Tryz.underlying135
 a218:=Tryz.isAgg135
 z218:=Tryz.sizeOf135
 v218:=Tryz.zeroValue135
 t222:=Tryz.underlying139
 a222:=Tryz.isAgg139
 z222:=Tryz.sizeOf139
 v222:=Tryz.zeroValue139
 t228:=Tryz.underlying152
 a228:=Tryz.isAgg152
 z228:=Tryz.sizeOf152
 v228:=Tryz.zeroValue152
 t229:=Tryz.underlying153
 a229:=Tryz.isAgg153
 z229:=Tryz.sizeOf153
 v229:=Tryz.zeroValue153 }
open Go.Sort Go.RowKit in
theorem Tryz.slices_Sort_string (blk off cap:Nat) (ss:List (List UInt8)) (w:World) (hH:Holds encStr w blk off ss.toArray) (hblk:blk<w.heap.size) (hsz:ss.length<4611686018427387904) :
  Calls prog 52 #[.slice (some ⟨blk,off,none⟩) ss.length cap] w fun e w'=>
   e = .returned (.tuple #[])/\∃ n os,w'=grow (putRow encStr (Sort.ahead w n) blk off (ss.mergeSort fun x y=>decide (x<=y)).toArray) os:=Any.slices_Sort_string Tryz.rp blk off cap ss w hH hblk hsz
def Tryz.pN:Go.Shelf.Ren:=⟨fun | 194=>53 | n=>n,fun | 31=>42 | 9=>9 | 3=>3 | 4=>4 | 0=>0 | n=>n,fun | n=>n⟩
theorem Tryz.rh:Go.Proofs.Lays.n194 prog Tryz.pN:={
 mixed:=by kernel_rfl
 f194:=Tryz.func53.trans (congrArg some (by kernel_rfl))
 t0:=Tryz.underlying0
 a0:=Tryz.isAgg0
 z0:=Tryz.sizeOf0
 v0:=Tryz.zeroValue0
 t3:=Tryz.underlying3
 a3:=Tryz.isAgg3
 z3:=Tryz.sizeOf3
 v3:=Tryz.zeroValue3
 t4:=Tryz.underlying4
 a4:=Tryz.isAgg4
 z4:=Tryz.sizeOf4
 v4:=Tryz.zeroValue4
 t9:=Tryz.underlying9
 a9:=Tryz.isAgg9
 z9:=Tryz.sizeOf9
 v9:=Tryz.zeroValue9
 t31:=Tryz.underlying42
 a31:=Tryz.isAgg42
 z31:=Tryz.sizeOf42
 v31:=Tryz.zeroValue42 }
open Go.RowKit Go.Lib Go.Sort in
theorem Tryz.slices_Compact_string (blk off cap:Nat) (zs:List (List UInt8)) (w:World) (hH:Holds encStr w blk off zs.toArray) (hsz:zs.length<=9223372036854775807) (cY:zs.length<=cap) :
  Calls prog 53 #[.slice (some ⟨blk,off,none⟩) zs.length cap] w fun e w'=>e = .returned (.slice (some ⟨blk,off,none⟩) (Lib.compact zs).length cap)/\∃ q,w'=putRow encStr (Sort.ahead w q) blk off (Lib.compact zs++List.replicate (zs.length - (Lib.compact zs).length) []).toArray:=Any.slices_Compact_string Tryz.rh blk off cap zs w hH hsz cY
open Go.RowKit Go.Lib Go.Sort in
theorem Tryz.slices_Compact_string_empty (a:Option Addr) (cap:Nat) (w:World) :
  Calls prog 53 #[.slice a 0 cap] w fun e w'=>e = .returned (.slice a 0 cap)/\w'=w:=Any.slices_Compact_string_empty Tryz.rh a cap w
open Go.RowKit Go.Sort in
theorem Tryz.slices_Sort_string_none (p:Option Addr) (cap:Nat) (w:World) :
  Calls prog 52 #[.slice p 0 cap] w fun e w'=>e = .returned (.tuple #[])/\w'=w:=Any.slices_Sort_string_none Tryz.rp p cap w
end Go.Proofs
namespace Go.Ab
open Go.Proofs Go.RowKit
theorem aA.jM {P:Program} {f:FuncId} {args:List ao} {R:ao->Prop}
  (h:∀ (c:Ctx) (xs:List Value),(∀ id,c.H id=none)->cF c args xs->Calls P f xs.toArray c.w fun e w'=>∃ x v,e = .returned x/\R v/\ba v/\(∀ c':Ctx,bj c' v x)/\Below c.w.heap.size c.w w'):aA P f args R:=by
 intro c xs hH hn g r;refine (h c xs (by intro id;rw[hH];rfl) r).mono ?_;rintro e w' ⟨x,v,he,hR,hf,hv,hb⟩;obtain⟨hk,hg⟩:=cP g w' ⟨hb.os,hb.tape,hb.output⟩ hb.size hb.block;exact⟨x,v,{ c with w:=w' },he,rfl,⟨v,.of (hU.fresh hf),hR⟩,hv _,hg,hk⟩
theorem cF.vv {c:Ctx} {a b:ao} {xs:List Value} (r:cF c [a,b] xs):∃ x y,xs=[x,y]/\bj c a x/\bj c b y:=by
 obtain⟨hl,hr⟩:=r
 match xs,hl with
 | [x,y],_=>exact⟨x,y,rfl,hr 0 a x rfl rfl,hr 1 b y rfl rfl⟩
theorem wc (s cut:aH) (hs:s.length<=4611686018427387904) (hc:cut.length<=1000) (ha:cut.all (fun b=>decide (b.toNat<128))=true):aA prog 44 [str s,str cut] (fun r=>r=str (Lib.trimS s cut)):=by
 refine aA.jM fun c xs _ r=>?_
 obtain⟨x,y,rfl,hx,hy⟩:=r.vv;rw[hx.bo,hy.bo];refine (Any.strings_Trim_laid Tryz.vS (by kernel_rfl) ⟨s.toArray⟩ ⟨cut.toArray⟩ c.w (by simp;omega) (by simp;omega) (ascii_of_all (by simpa using ha))).mono ?_;rintro e w' ⟨he,hb⟩;exact⟨_,_,he,rfl,.v _,fun _=>.v _,by simpa using hb⟩
theorem oG (s cut:aH) (hc:cut.length<=1000) (ha:cut.all (fun b=>decide (b.toNat<128))=true):aA prog 98 [str s,str cut] (fun r=>r=str (Lib.trimLeftS s cut)):=by
 refine aA.jM fun c xs _ r=>?_
 obtain⟨x,y,rfl,hx,hy⟩:=r.vv;rw[hx.bo,hy.bo];refine (Any.strings_TrimLeft_laid Tryz.vo (by kernel_rfl) ⟨s.toArray⟩ ⟨cut.toArray⟩ c.w (by simp;omega) (ascii_of_all (by simpa using ha))).mono ?_;rintro e w' ⟨he,hb⟩;exact⟨_,_,he,rfl,.v _,fun _=>.v _,by simpa using hb⟩
theorem uF {α β:Type} {f:α->β} {l:List α} {i:Nat} {b:β} (h:(l.map f)[i]?=some b):∃ a,l[i]?=some a/\b=f a:=by
 rw[List.getElem?_map] at h;cases ha:l[i]? with
 | none=>simp[ha] at h
 | some a=>simp only[ha,Option.map_some,Option.some.injEq] at h;exact⟨a,rfl,h.symm⟩
theorem vU (l:List aH) (sep:aH) (hl:l.length<=140737488355328) (hj:(Lib.join l sep).length<=140737488355328):aA prog 71 [.list false (l.map fun s=>[str s]),str sep] (fun r=>r=str (Lib.join l sep)):=by
 refine aA.jM fun c xs _ r=>?_
 obtain⟨x,y,rfl,hx,hy⟩:=r.vv;rw[hy.bo];generalize he:l.map (fun s=>[str s])=els at hx;cases hx with
 | lnil=>
  have:l=[]:=by simpa using he
  subst this;refine (Tryz.strings_Join_none none 0 ⟨sep.toArray⟩ c.w).mono ?_;rintro e w' ⟨he,hb⟩;exact⟨_,_,he,rfl,.v _,fun _=>.v _,hb ▸ Below.refl _ _⟩
 | list _ _ a cap sz cell hsp cY hm hsz hc hr=>
  subst he
  by_cases hne:l=[]
  ·subst hne;refine (Tryz.strings_Join_none (some a) cap ⟨sep.toArray⟩ c.w).mono ?_;rintro e w' ⟨he,hb⟩;exact⟨_,_,he,rfl,.v _,fun _=>.v _,hb ▸ Below.refl _ _⟩
  have hsp:=hsp (by simpa using hne);obtain⟨bk,o,M⟩:=a;simp only at hsp;subst hsp;have hone:∀ (j:Nat) s,l[j]?=some s->sz=1/\c.w.cell? ⟨bk,o+j,none⟩=some (.string ⟨s.toArray⟩):=by
   intro j s hj;have hg:(l.map fun s=>[str s])[j]?=some [str s]:=by rw[List.getElem?_map,hj];rfl
   have h1:=hsz j _ hg;simp at h1;have h2:=hc j _ 0 _ hg rfl;have h3:=(hr j _ 0 _ hg rfl).bo;subst h1;simp at h2;rw[h3] at h2;exact⟨rfl,h2⟩
  have hlen:(l.map fun s=>[str s]).length=(l.map fun s=>ByteArray.mk s.toArray).length:=by simp
  ·rw[hlen];have hbk:bk<c.w.heap.size:=(hm (by simpa using hne)).2.1;have hmm:(l.map fun s=>ByteArray.mk s.toArray).map (fun b=>b.data.toList)=l:=by simp[Function.comp_def]
   have H:=Tryz.strings_Join bk o cap (l.map fun s=>ByteArray.mk s.toArray) ⟨sep.toArray⟩ c.w (fun j x hx=>by
    obtain⟨s,hs,rfl⟩:=uF hx;exact (hone j s hs).2) hbk (by rw[List.length_map];exact hl) (by rw[<- hlen];exact cY) (by rw[hmm];exact hj)
   rw[hmm] at H;apply H.mono;rintro e w' ⟨he,hb⟩;exact⟨_,_,he,rfl,.v _,fun _=>.v _,hb⟩
end Go.Ab
