/- Merged texts (5 of 18) of the proof that ends in Mhy: Sy Sz Sm Sl Su R. -/
import Derived.Test.YtehcknfedbjaaaaGreatDoorAbQmh4
import Derived.Lib.SlicesCompact
import Derived.ProofKit
import Derived.LaidMore
import Derived.OpenShut
import Derived.Lay
import Derived.Stop.Joined
set_option linter.unusedSectionVars false
set_option linter.unusedSimpArgs false
set_option linter.unusedVariables false
namespace Go.Ab
abbrev c5 (L:Array Bool) (j:Nat):Prop:=L.getD j false=true
theorem c5.set {L:Array Bool} {i j:Nat} (h:c5 (L.setIfInBounds i true) j):j=i\/c5 L j:=by
 by_cases hij:i=j
 ·exact .inl hij.symm
 ·refine .inr ?_;rw[c5,getD_set_ne false hij] at h;exact h
theorem c5.jC {L:Array Bool} {i j:Nat} (h:c5 L j):c5 (L.setIfInBounds i true) j:=by
 by_cases hij:i=j
 ·subst hij;have:i<L.size:=by
   rcases Nat.lt_or_ge i L.size with h' | h'
   ·exact h'
   ·simp[c5,h'] at h
  simp[c5,this]
 ·rw[c5,getD_set_ne false hij];exact h
theorem jm {L:Array Bool} {i:Nat} (h:i<L.size):c5 (L.setIfInBounds i true) i:=by simp[c5,h]
theorem nf {L:Array Bool} {i:Nat} (h:i<L.size):¬ c5 L i↔L.getD i true=false:=by
 simp[c5,h]
theorem rV {α:Type} {p q:α->Bool}:∀ {l:List α},(∀ x ∈ l,p x=true->q x=true)->(∃ x ∈ l,q x=true/\p x=false)->l.countP p<l.countP q
 | [],_,⟨_,h,_⟩=>by cases h
 | y::l,h,⟨x,hx,h1,h2⟩=>by
  have hle:l.countP p<=l.countP q:=List.countP_mono_left fun z hz=>h z (by simp[hz])
  rcases List.mem_cons.1 hx with rfl | hx
  ·rw[List.countP_cons_of_pos h1,List.countP_cons_of_neg (by simp[h2])];omega
  ·have:=rV (l:=l) (fun z hz=>h z (by simp[hz])) ⟨x,hx,h1,h2⟩;have hy:=h y (by simp);simp only[List.countP_cons]
   by_cases hp:p y=true
   ·rw[if_pos hp,if_pos (hy hp)];omega
   ·rw[if_neg hp];split<;>omega
def lC (P:Program) (N:Nat) (ops:Array Oper) (Inv:Array Bool->AS->Prop) (i:Nat):Prop:=
 ∀ L s,Inv L s->i ∈ Region.ready .any ops L->∃ o,ops[i]?=some o/\o.guard=none/\aW P N o (loc o.op s.1) s.2.1 s.2.2 fun v H' n'=>Inv (L.setIfInBounds i true) (s.1.put o.dst v,H',n')
section
variable {P:Program} {N:Nat} {ops:Array Oper}
theorem wQ {Inv:Array Bool->AS->Prop} {R:AS->Prop} (hN:ops.toList.all (fun o=>eF N o.dst)=true) {Q:Exit->Act->World->Prop} {c0:Ctx} (hQ:∀ a c O,bG c0 c->Good c->dy N c O a->R (O,c.H,c.n)->Q .normal a c.w)
  (step:∀ i,lC P N ops Inv i) (fin:∀ L s,Inv L s->Region.ready .any ops L=[]->R s) :
  ∀ (fuel:Nat) (L:Array Bool) (O:Env) (c:Ctx) (a:Act),bG c0 c->Good c->dy N c O a->Inv L (O,c.H,c.n)->(List.range ops.size).countP (fun i => !(L.getD i true))<=fuel->wpAny P .any ops Q fuel L a c.w
 | 0,L,O,c,a,hk,g,r,h,hf=>by
  have hr:Region.ready .any ops L=[]:=by
   cases hl:Region.ready .any ops L with
   | nil=>rfl
   | cons i l=>
    have hi:i ∈ Region.ready .any ops L:=by rw[hl];simp
    obtain⟨h1,o,ho,_⟩:=mem_ready.1 hi;have hlt:i<ops.size:=(Array.getElem?_eq_some_iff.1 ho).1;have:0<(List.range ops.size).countP (fun i => !(L.getD i true)):=List.countP_pos_iff.2 ⟨i,List.mem_range.2 hlt,by simp only[h1,Bool.not_false]⟩;omega
  exact⟨hr,hQ _ _ _ hk g r (fin _ _ h hr)⟩
 | fuel+1,L,O,c,a,hk,g,r,h,hf=>by
  refine⟨fun h0=>hQ _ _ _ hk g r (fin _ _ h h0),fun i hi=>?_⟩;obtain⟨o,ho,hg,hop⟩:=step i L _ h hi;obtain⟨hu,o',ho',_⟩:=mem_ready.1 hi;have hlt:i<ops.size:=(Array.getElem?_eq_some_iff.1 ho).1;have hd:eF N o.dst=true:=List.all_eq_true.1 hN o (by rw[<- Array.getElem?_toList] at ho;exact List.mem_of_getElem? ho);unfold wpOp;simp only[ho];rw[if_pos (cA r hN (by simp[gG,hg]))];refine .inl (hop c a rfl rfl g (r.loc o.op) _ _ ?_);rintro v1 x c' hpost hrep hgood hkeep;refine wQ hN hQ step fin fuel _ _ c' _ (hk.trans hkeep) hgood ((r.keeps hkeep).put hd hrep) hpost ?_;have:(List.range ops.size).countP (fun j => !((L.setIfInBounds i true).getD j true))<(List.range ops.size).countP (fun j => !(L.getD j true)):=by
   refine rV (fun x _ hx=>?_) ⟨i,List.mem_range.2 hlt,by simp only[hu,Bool.not_false],?_⟩
   ·by_cases hix:i=x
    ·subst hix;simp only[hu,Bool.not_false]
    ·rw[getD_set_ne true hix] at hx;exact hx
   ·have:(L.setIfInBounds i true).getD i true=true:=by
     by_cases hs:i<L.size<;>simp[hs]
    simp only[this,Bool.not_true]
  omega
end
section
variable {P:Program} {f:FuncId} {N:Nat} {k:List Item} {O:Env} {H:ax} {n:Nat} {Q:au->ax->Nat->Prop}
theorem J.DC (Inv:Array Bool->AS->Prop) {id:Nat} {ops:List Oper} (hm:P.follows .mixedOrders=true) (hN:ops.all (fun o=>eF N o.dst)=true) (h0:Inv (Array.replicate ops.length false) (O,H,n)) (step:∀ i,lC P N ops.toArray Inv i)
  (fin:∀ L s,Inv L s->Region.ready .any ops.toArray L=[]->J P f N k s.1 s.2.1 s.2.2 Q):J P f N (.code (.region id ops.toArray true)::k) O H n Q:=by
 intro c a hH hn g r b cs hf hk;subst hH;subst hn;obtain⟨d1,d2⟩:=jU g;have hw:(Code.region id ops.toArray true).wp P (fun e a' w'=>e = .normal/\∃ c' ρ',c'.w=w'/\bG c c'/\Good c'/\dy N c' ρ' a'/\J P f N k ρ' c'.H c'.n Q) a c.w:=by
  refine wp_region_any hm ?_;have:=wQ (P:=P) (N:=N) (ops:=ops.toArray) (c0:=c) (Inv:=Inv) (by simpa using hN) (Q:=fun e a' w'=>e = .normal/\∃ c' ρ',c'.w=w'/\bG c c'/\Good c'/\dy N c' ρ' a'/\J P f N k ρ' c'.H c'.n Q)
   (R:=fun s=>J P f N k s.1 s.2.1 s.2.2 Q) (fun a' c' ρ' V hg' hr' hR=>⟨rfl,c',ρ',rfl,V,hg',hr',hR⟩) step fin ops.length (Array.replicate ops.toArray.size false) O { c with w:={ c.w with drawn:=c.w.drawn+1 } } a d1 d2 (r.keeps d1) (by simpa using h0)
   (Nat.le_trans List.countP_le_length (by simp))
  simpa using this
 obtain⟨e,a',w',⟨rfl,c',ρ',rfl,V,hg',hr',hR⟩,harr⟩:=hw b k cs;obtain⟨x,v,c'',fr,q,hr,hg,hke,hst,rest⟩:=hR c' a' rfl rfl hg' hr' b cs hf hk;exact⟨x,v,c'',fr,q,hr,hg,V.trans hke,Steps.trans harr hst,rest⟩
end
def Old (O:Env) (B:List (Nat × au)):Prop:=∀ q ∈ B,O q.1=q.2
def Told (L:Array Bool) (O:Env) (an:List (Nat × Nat × au)):Prop:=∀ q ∈ an,c5 L q.1->O q.2.1=q.2.2
def Dl (O:Env) (an:List (Nat × Nat × au)):Prop:=∀ q ∈ an,O q.2.1=q.2.2
theorem Old.at {O:Env} {B:List (Nat × au)} (h:Old O B) (k:Nat) {t:Nat} {v:au} (hk:B[k]?=some (t,v)):O t=v:=h (t,v) (List.mem_of_getElem? hk)
theorem Told.at {L:Array Bool} {O:Env} {an:List (Nat × Nat × au)} (h:Told L O an) (k:Nat) {i t:Nat} {v:au} (hk:an[k]?=some (i,t,v)) (hd:c5 L i):O t=v:=h (i,t,v) (List.mem_of_getElem? hk) hd
theorem Dl.at {O:Env} {an:List (Nat × Nat × au)} (h:Dl O an) (k:Nat) {i t:Nat} {v:au} (hk:an[k]?=some (i,t,v)):O t=v:=h (i,t,v) (List.mem_of_getElem? hk)
theorem Old.put {O:Env} {B:List (Nat × au)} {d:Option Nat} {v:au} (h:Old O B) (hd:∀ q ∈ B,d ≠ some q.1):Old (O.put d v) B:=fun q hq=>by
 cases d with
 | none=>exact h q hq
 | some d=>
  have:q.1 ≠ d:=fun e=>hd q hq (by rw[e])
  simp[Env.put,this,h q hq]
theorem Told.put {L:Array Bool} {O:Env} {an F':List (Nat × Nat × au)} {i:Nat} {d:Option Nat} {v:au} (h:Told L O an) (hF:∀ q ∈ F',q.1 ≠ i->c5 L q.1->q ∈ an) (hd:∀ q ∈ F',d=some q.2.1->q.1=i) (hv:∀ q ∈ F',q.1=i->d=some q.2.1/\q.2.2=v) :
  Told (L.setIfInBounds i true) (O.put d v) F':=fun q hq hdn=>by
 by_cases e:q.1=i
 ·obtain⟨h1,h2⟩:=hv q hq e;subst h1;simp[Env.put,h2]
 ·have hdone:=hdn.set.resolve_left e;have:=h q (hF q hq e hdone) hdone;cases d with
  | none=>exact this
  | some d=>
   have hne:q.2.1 ≠ d:=fun he=>e (hd q hq (by rw[he]))
   simp[Env.put,hne,this]
def Mem (H0:ax) (n0:Nat) (K:List cm) (ids:List Id) (ent:List cm) (w:Id) (ob0 ob1:Ob) (dc da ds:Bool) (H:ax) (n:Nat):Prop:=
 Sep H n ((if dc then ent else [])++K) ((if da then [w] else [])++ids)/\(∀ i ∈ ids,H i=H0 i)/\n0<=n/\(da=true->n0<=w.1/\H w=some (if ds then ob1 else ob0))
structure eA where
 m:Nat
 c:Nat
 a:Nat
 st:Nat
 d:Nat
 B:List (Nat × au)
 an:List au->Nat->List (Nat × Nat × au)
 ent:List au->List cm
 ob0:Ob
 ob1:List au->Ob
 RG:List au->Prop
 onC:List Nat
 onA:List Nat
 H0:ax
 n0:Nat
 K:List cm
 ids:List Id
def eA.Inv (g:eA) (L:Array Bool) (s:AS):Prop:=
 L.size=g.m/\(∀ j ∈ g.onC,c5 L j->c5 L g.c)/\(∀ j ∈ g.onA,c5 L j->c5 L g.a)/\∃ (G:List au) (A:Nat),Old s.1 g.B/\Told L s.1 (g.an G A)/\(c5 L g.c->g.RG G) /\
  Mem g.H0 g.n0 g.K g.ids (g.ent G) (A,g.d) g.ob0 (g.ob1 G) (L.getD g.c false) (L.getD g.a false) (L.getD g.st false) s.2.1 s.2.2
section
variable {P:Program} {N:Nat} {ops:Array Oper} {g:eA}
theorem Mem.sep {H0 H:ax} {n0 n:Nat} {K ent:List cm} {ids:List Id} {w:Id} {ob0 ob1:Ob} {dc da ds:Bool} (h:Mem H0 n0 K ids ent w ob0 ob1 dc da ds H n):Sep H n K ids:=by
 have:=h.1;have h1:Sep H n K ((if da then [w] else [])++ids):=by
  cases dc
  ·simpa using this
  ·exact Sep.right (K1:=ent) this
 exact Sep.sub h1 fun i hi=>by simp[hi]
theorem eA.kG {i m c a st:Nat} {o:Oper} (hi:ops.toList[i]?=some o) (hn:(g.m,g.c,g.a,g.st)=(m,c,a,st)) (hk:(decide (i<m) && decide (i ≠ c/\i ≠ a/\i ≠ st))=true) (hg:o.guard=none)
  (hs:∀ L O H n G A,Old O g.B->Told L O (g.an G A)->(∀ e ∈ o.after,Region.binds .any e=true->c5 L e.on)->(c5 L g.c->g.RG G)->(∀ j ∈ g.onC,c5 L j->c5 L g.c)->(∀ j ∈ g.ids,H j=g.H0 j)->Sep H n g.K g.ids ->
   ∃ v,aW P N o (loc o.op O) H n (xm v H n)/\∀ q ∈ g.an G A,q.1=i->o.dst=some q.2.1/\q.2.2=v)
  (hB:∀ q ∈ g.B,o.dst ≠ some q.1:=by simp) (hF:∀ G A,∀ q ∈ g.an G A,o.dst=some q.2.1->q.1=i:=by intro G' A';simp)
  (hc:i ∈ g.onC->∃ e ∈ o.after,Region.binds .any e=true/\(e.on=g.c\/e.on ∈ g.onC):=by simp) (ha:i ∈ g.onA->∃ e ∈ o.after,Region.binds .any e=true/\(e.on=g.a\/e.on ∈ g.onA):=by simp):lC P N ops g.Inv i:=by
 simp only[Prod.mk.injEq] at hn;obtain⟨rfl,rfl,rfl,rfl⟩:=hn;simp only[Bool.and_eq_true,decide_eq_true_eq] at hk;obtain⟨hm,hne⟩:=hk;rw[Array.getElem?_toList] at hi;intro L s hI hr;obtain⟨hsz,hoc,hoa,G,A,hO,hT,hG,hM⟩:=hI;obtain⟨hu,o',ho',hdep⟩:=mem_ready.1 hr;rw[hi] at ho';cases ho';refine⟨o,hi,hg,?_⟩;obtain⟨v,hop,hv⟩:=hs L s.1 s.2.1 s.2.2 G A hO hT (fun e he hb=>hdep e he hb) hG hoc hM.2.1 hM.sep;apply hop.mono;rintro _ _ _ ⟨rfl,rfl,rfl⟩;refine⟨by simpa using hsz,fun j hj hd=>?_,fun j hj hd=>?_,G,A,hO.put hB,hT.put (fun q hq _ _=>hq) (hF G A) hv,fun hd=>hG (hd.set.resolve_left (Ne.symm hne.1)),?_⟩
 ·rcases hd.set with rfl | hd
  ·obtain⟨e,he,hb,h1 | h1⟩:=hc hj
   ·exact c5.jC (h1 ▸ hdep e he hb)
   ·exact c5.jC (hoc _ h1 (hdep e he hb))
  ·exact c5.jC (hoc j hj hd)
 ·rcases hd.set with rfl | hd
  ·obtain⟨e,he,hb,h1 | h1⟩:=ha hj
   ·exact c5.jC (h1 ▸ hdep e he hb)
   ·exact c5.jC (hoa _ h1 (hdep e he hb))
  ·exact c5.jC (hoa j hj hd)
 ·rw[getD_set_ne false hne.1,getD_set_ne false hne.2.1,getD_set_ne false hne.2.2];exact hM
theorem eA.call {d:Option Tmp} {fo:Operand} {args:Array Operand} {ats:Array TypeId} {ty:TypeId} {pos:String} {af:Array Edge} (hi:ops.toList[g.c]?=some ⟨d,.call ⟨.value fo,args,ats⟩,ty,pos,af,none⟩) {m c a st:Nat} (hn:(g.m,g.c,g.a,g.st)=(m,c,a,st)) (hk:(decide (c<m) && decide (c ≠ a/\c ≠ st))=true)
  {R:au->Prop} {f':FuncId} {sh:Sh} (hown:∃ cU,bn P f' cU sh R/\∀ L O H n G A,Old O g.B->Told L O (g.an G A)->(∀ e ∈ af,Region.binds .any e=true->c5 L e.on)->(∀ j ∈ g.ids,H j=g.H0 j)->Sep H n g.K g.ids->O.ev fo = .fn (.func f') [] []/\bV H n (args.toList.map O.ev) cU) (dK:a8 P f')
  (hun:∀ H n v r ids,Sep H n ((sh,v,r)::g.K) ids->R r->∃ G,g.RG G/\Sep H n (g.ent G++g.K) ids/\∀ A,∀ q ∈ g.an G A,q.1=g.c->d=some q.2.1/\q.2.2=v)
  (hB:∀ q ∈ g.B,d ≠ some q.1:=by simp) (hF:∀ G A,∀ q ∈ g.an G A,d=some q.2.1->q.1=g.c:=by intro G' A';simp) (hFG:∀ G G' A,∀ q ∈ g.an G' A,q.1 ≠ g.c->q.1 ∉ g.onC->q ∈ g.an G A:=by intro G1 G' A';simp) (hcc:g.c ∉ g.onC:=by simp) (hca:g.c ∉ g.onA:=by simp) (hst:g.st ∈ g.onC:=by simp):lC P N ops g.Inv g.c:=by
 simp only[Prod.mk.injEq] at hn;obtain⟨rfl,rfl,rfl,rfl⟩:=hn;simp only[Bool.and_eq_true,decide_eq_true_eq] at hk;obtain⟨hm,hne⟩:=hk;rw[Array.getElem?_toList] at hi;intro L s hI hr;obtain⟨hsz,hoc,hoa,G,A,hO,hT,hG,hM⟩:=hI;obtain⟨hu,o',ho',hdep⟩:=mem_ready.1 hr;rw[hi] at ho';cases ho';have hnd:¬ c5 L g.c:=(nf (by omega)).2 hu;have hncd:∀ j ∈ g.onC,¬ c5 L j:=fun j hj hd=>hnd (hoc j hj hd)
 refine⟨_,hi,rfl,?_⟩;obtain⟨cU,hO',har⟩:=hown;obtain⟨hfo,hargs⟩:=har L s.1 s.2.1 s.2.2 G A hO hT (fun e he hb=>hdep e he hb) hM.2.1 hM.sep;have hcf:L.getD g.c false=false:=by simpa[c5] using hnd
 have hsf:L.getD g.st false=false:=by simpa[c5] using hncd g.st hst
 obtain⟨m1,m2,m3,m4⟩:=hM;rw[hcf,if_neg (by simp),List.nil_append] at m1;refine (aW.ik (by rw[AU.2];exact hfo) dK (by rw[AU.1];exact hargs) hO' m1).mono ?_;rintro v1 H1 U ⟨r,h1,h2,h3,h4⟩;obtain⟨G',hRG,hS,hq⟩:=hun _ _ _ _ _ h1 h2;refine⟨by simpa using hsz,fun j hj hd=>jm (by omega),fun j hj hd=>?_,G',A,hO.put hB,hT.put (fun q hq h5 h6=>hFG G G' A q hq h5 fun h7=>hncd _ h7 h6) (hF G' A) (hq A),fun _=>hRG,?_⟩
 ·rcases hd.set with rfl | hd
  ·exact absurd hj hca
  ·exact c5.jC (hoa j hj hd)
 ·rw[show (L.setIfInBounds g.c true).getD g.c false=true from jm (by omega),getD_set_ne false hne.1,getD_set_ne false hne.2,hsf];rw[hsf] at m4;refine⟨by simpa using hS,fun i hi'=>(h4 i (by simp[hi'])).trans (m2 i hi'),Nat.le_trans m3 h3,fun hda=>⟨(m4 hda).1,?_⟩⟩;simp only[hda,if_true] at h4;exact (h4 (A,g.d) (by simp)).trans (m4 hda).2
theorem eA.alloc {Ty:Types} (hT':bg P Ty) {t:TypeId} {ti:TI} {ty:TypeId} {pos:String} {af:Array Edge} (hi:ops.toList[g.a]?=some ⟨some g.d,.alloc t,ty,pos,af,none⟩) (hti:Ty t=some ti) (hob:g.ob0=⟨ti.zero.length,[ti.zero.map .v]⟩) {m c a st:Nat} (hn:(g.m,g.c,g.a,g.st)=(m,c,a,st)) (hk:(decide (a<m) && decide (a ≠ c/\a ≠ st))=true)
  (hB:∀ q ∈ g.B,g.d ≠ q.1:=by simp) (hF:∀ G A,∀ q ∈ g.an G A,g.d=q.2.1->q.1=g.a:=by intro G' A';simp) (hFA:∀ G A A',∀ q ∈ g.an G A',q.1 ≠ g.a->q.1 ∉ g.onA->q ∈ g.an G A:=by intro G' A1 A2;simp) (haa:g.a ∉ g.onA:=by simp) (hac:g.a ∉ g.onC:=by simp) (hst:g.st ∈ g.onA:=by simp)
  (hv:∀ G A,∀ q ∈ g.an G A,q.1=g.a->g.d=q.2.1/\q.2.2 = .ptr (A,g.d) 1 0 0:=by intro G' A';simp):lC P N ops g.Inv g.a:=by
 simp only[Prod.mk.injEq] at hn;obtain⟨rfl,rfl,rfl,rfl⟩:=hn;simp only[Bool.and_eq_true,decide_eq_true_eq] at hk;obtain⟨hm,hne⟩:=hk;rw[Array.getElem?_toList] at hi;intro L s hI hr;obtain⟨hsz,hoc,hoa,G,A,hO,hT,hG,hM⟩:=hI;obtain⟨hu,o',ho',hdep⟩:=mem_ready.1 hr;rw[hi] at ho';cases ho';have hnd:¬ c5 L g.a:=(nf (by omega)).2 hu;have hncd:∀ j ∈ g.onA,¬ c5 L j:=fun j hj hd=>hnd (hoa j hj hd)
 refine⟨_,hi,rfl,?_⟩;have haf:L.getD g.a false=false:=by simpa[c5] using hnd
 have hsf:L.getD g.st false=false:=by simpa[c5] using hncd g.st hst
 obtain⟨m1,m2,m3,m4⟩:=hM;rw[haf] at m1;simp only[Bool.false_eq_true,if_false,List.nil_append] at m1;refine (uR hT' hti).mono ?_;rintro _ _ _ ⟨rfl,rfl,rfl⟩;refine⟨by simpa using hsz,fun j hj hd=>?_,fun j hj hd=>jm (by omega),G,s.2.2,hO.put (fun q hq e=>hB q hq (Option.some.inj e)),hT.put (fun q hq h5 h6=>hFA G A s.2.2 q hq h5 fun h7=>hncd _ h7 h6) (fun q hq e=>hF G _ q hq (Option.some.inj e)) (fun q hq e=>⟨congrArg some (hv G _ q hq e).1,(hv G _ q hq e).2⟩),fun hd=>hG (hd.set.resolve_left (Ne.symm hne.1)),?_⟩
 ·rcases hd.set with rfl | hd
  ·exact absurd hj hac
  ·exact c5.jC (hoc j hj hd)
 ·rw[show (L.setIfInBounds g.a true).getD g.a false=true from jm (by omega),getD_set_ne false hne.1,getD_set_ne false hne.2,hsf];refine⟨?_,fun i hi'=>?_,Nat.le_succ_of_le m3,fun _=>⟨m3,by simp[ax.aS,hob]⟩⟩
  ·simpa using Sep.var (d:=g.d) (o:=⟨ti.zero.length,[ti.zero.map .v]⟩) m1
  ·exact (ax.aY _ _ (by rintro rfl;have:=m1.1 _ hi';simp at this)).trans (m2 i hi')
theorem eA.store {Ty:Types} (hT':bg P Ty) {t:TypeId} {x y:Operand} {ty:TypeId} {pos:String} {af:Array Edge} (hi:ops.toList[g.st]?=some ⟨none,.store t x y,ty,pos,af,none⟩) {m c a st:Nat} (hn:(g.m,g.c,g.a,g.st)=(m,c,a,st)) (hk:(decide (st<m) && decide (st ≠ c/\st ≠ a))=true) (hids:∀ i ∈ g.ids,i.1<g.n0)
  (hc:∃ e ∈ af,Region.binds .any e=true/\(e.on=g.c\/e.on ∈ g.onC)) (ha:∃ e ∈ af,Region.binds .any e=true/\(e.on=g.a\/e.on ∈ g.onA))
  (hs:∀ L O H G A,Old O g.B->Told L O (g.an G A)->(∀ e ∈ af,Region.binds .any e=true->c5 L e.on)->g.RG G->H (A,g.d)=some g.ob0->ca (Ty t) (O.ev x) (az (O.ev y)) H=some (H.set (A,g.d) (g.ob1 G))) (hF:∀ G A,∀ q ∈ g.an G A,q.1 ≠ g.st:=by intro G' A';simp):lC P N ops g.Inv g.st:=by
 simp only[Prod.mk.injEq] at hn;obtain⟨rfl,rfl,rfl,rfl⟩:=hn;simp only[Bool.and_eq_true,decide_eq_true_eq] at hk;obtain⟨hm,hne⟩:=hk;rw[Array.getElem?_toList] at hi;intro L s hI hr;obtain⟨hsz,hoc,hoa,G,A,hO,hT,hG,hM⟩:=hI;obtain⟨hu,o',ho',hdep⟩:=mem_ready.1 hr;rw[hi] at ho';cases ho';have hnd:¬ c5 L g.st:=(nf (by omega)).2 hu;have hsf:L.getD g.st false=false:=by simpa[c5] using hnd
 have hdc:c5 L g.c:=by
  obtain⟨e,he,hb,h1 | h1⟩:=hc
  ·exact h1 ▸ hdep e he hb
  ·exact hoc _ h1 (hdep e he hb)
 have hda:c5 L g.a:=by
  obtain⟨e,he,hb,h1 | h1⟩:=ha
  ·exact h1 ▸ hdep e he hb
  ·exact hoa _ h1 (hdep e he hb)
 refine⟨_,hi,rfl,?_⟩;obtain⟨m1,m2,m3,m4⟩:=hM;rw[hdc,hda] at m1;simp only[if_true] at m1;have hw:=(m4 hda).2;rw[hsf] at hw;simp only[Bool.false_eq_true,if_false] at hw;have hst:=hs L s.1 s.2.1 G A hO hT (fun e he hb=>hdep e he hb) (hG hdc) hw;have hnw:(A,g.d) ∉ g.ids:=fun hm'=>by have h1:=(m4 hda).1;have h2:=hids _ hm';simp only at h1 h2;omega
 refine (aL (P:=P) (N:=N) (o:=⟨none,.store t x y,ty,pos,af,none⟩) (v:=.undef) (H':=s.2.1.set (A,g.d) (g.ob1 G)) (n':=s.2.2) hT' (by rw[aJ];simp only[bl,hst])).mono ?_;rintro _ _ _ ⟨rfl,rfl,rfl⟩;refine⟨by simpa using hsz,fun j hj hd=>c5.jC hdc,fun j hj hd=>c5.jC hda,G,A,Old.put (d:=none) (v:=.undef) hO (fun q hq e=>by cases e),Told.put (d:=none) (v:=.undef) hT (fun q hq _ _=>hq) (fun q hq e=>by cases e) (fun q hq e=>absurd e (hF G A q hq)),fun hd=>hG hdc,?_⟩;rw[getD_set_ne false hne.1,getD_set_ne false hne.2,hdc,hda,show (L.setIfInBounds g.st true).getD g.st false=true from jm (by omega)];refine⟨Sep.bD (by simpa using m1) (by simp),fun i hi'=>?_,m3,fun _=>⟨(m4 hda).1,by simp[ax.aS]⟩⟩;exact (ax.aY _ _ (by rintro rfl;exact hnw hi')).trans (m2 i hi')
theorem eA.yX {d:Option Tmp} {fo:Operand} {args:Array Operand} {ats:Array TypeId} {ty:TypeId} {pos:String} {af:Array Edge} (hi:ops.toList[g.c]?=some ⟨d,.call ⟨.value fo,args,ats⟩,ty,pos,af,none⟩) {m c a st:Nat} (hn:(g.m,g.c,g.a,g.st)=(m,c,a,st)) (hk:(decide (c<m) && decide (c ≠ a/\c ≠ st))=true) (he0:∀ G,g.ent G=[]) (hR:∀ G,g.RG G)
  (hs:∀ L O H n G A,Old O g.B->Told L O (g.an G A)->(∀ e ∈ af,Region.binds .any e=true->c5 L e.on)->(∀ j ∈ g.ids,H j=g.H0 j)->Sep H n g.K g.ids ->
   ∃ v,aW P N ⟨d,.call ⟨.value fo,args,ats⟩,ty,pos,af,none⟩ (loc (.call ⟨.value fo,args,ats⟩) O) H n (xm v H n)/\∀ q ∈ g.an G A,q.1=g.c->d=some q.2.1/\q.2.2=v)
  (hB:∀ q ∈ g.B,d ≠ some q.1:=by simp) (hF:∀ G A,∀ q ∈ g.an G A,d=some q.2.1->q.1=g.c:=by intro G' A';simp) (hca:g.c ∉ g.onA:=by simp):lC P N ops g.Inv g.c:=by
 simp only[Prod.mk.injEq] at hn;obtain⟨rfl,rfl,rfl,rfl⟩:=hn;simp only[Bool.and_eq_true,decide_eq_true_eq] at hk;obtain⟨hm,hne⟩:=hk;rw[Array.getElem?_toList] at hi;intro L s hI hr;obtain⟨hsz,hoc,hoa,G,A,hO,hT,hG,hM⟩:=hI;obtain⟨hu,o',ho',hdep⟩:=mem_ready.1 hr;rw[hi] at ho';cases ho';refine⟨_,hi,rfl,?_⟩;obtain⟨v,hop,hv⟩:=hs L s.1 s.2.1 s.2.2 G A hO hT (fun e he hb=>hdep e he hb) hM.2.1 hM.sep;apply hop.mono;rintro _ _ _ ⟨rfl,rfl,rfl⟩;refine⟨by simpa using hsz,fun j hj hd=>jm (by omega),fun j hj hd=>?_,G,A,Old.put hO hB,Told.put hT (fun q hq _ _=>hq) (hF G A) hv,fun _=>hR G,?_⟩
 ·rcases hd.set with rfl | hd
  ·exact absurd hj hca
  ·exact c5.jC (hoa j hj hd)
 ·rw[getD_set_ne false hne.1,getD_set_ne false hne.2];obtain⟨m1,m2,m3,m4⟩:=hM;refine⟨?_,m2,m3,m4⟩;rw[he0] at m1 ⊢;simpa using m1
theorem lC.none {Inv:Array Bool->AS->Prop} {i:Nat} (h:ops[i]?=none):lC P N ops Inv i:=fun L s hI hr=>by
 obtain⟨_,o,ho,_⟩:=mem_ready.1 hr;rw[h] at ho;cases ho
theorem np {m j:Nat}:¬ c5 (Array.replicate m false) j:=by
 simp only[c5,Array.getD_eq_getD_getElem?,Array.getElem?_replicate]
 split<;>simp
theorem eA.init {O:Env} (hB:Old O g.B) (hs:Sep g.H0 g.n0 g.K g.ids):g.Inv (Array.replicate g.m false) (O,g.H0,g.n0):=by
 have hf:∀ j,(Array.replicate g.m false).getD j false=false:=fun j=>by simpa[c5] using np (m:=g.m) (j:=j)
 refine⟨by simp,fun j _ hd=>absurd hd np,fun j _ hd=>absurd hd np,[],0,hB,fun q _ hd=>absurd hd np,fun hd=>absurd hd np,?_⟩;rw[hf,hf,hf];exact⟨by simpa using hs,fun _ _=>rfl,Nat.le_refl _,fun h=>by cases h⟩
def acycR (ops:Array Oper):Bool:=(List.range ops.size).all fun i=>match ops[i]? with
 | some o=>o.after.all fun e => !(Region.binds .any e) || decide (e.on<i)
 | none=>true
theorem eA.fin (ha:acycR ops=true) (hm:ops.size=g.m) (hc:g.c<g.m/\g.a<g.m/\g.st<g.m) (hF:∀ G A,∀ q ∈ g.an G A,q.1<g.m) {L:Array Bool} {s:AS} (hI:g.Inv L s) (hr:Region.ready .any ops L=[]) :
  ∃ (G:List au) (A:Nat),Old s.1 g.B/\Dl s.1 (g.an G A)/\g.RG G/\Sep s.2.1 s.2.2 (g.ent G++g.K) ((A,g.d)::g.ids)/\(∀ i ∈ g.ids,s.2.1 i=g.H0 i)/\g.n0<=s.2.2/\g.n0<=A/\s.2.1 (A,g.d)=some (g.ob1 G):=by
 obtain⟨hsz,hoc,hoa,G,A,hO,hT,hG,hM⟩:=hI;have all:∀ (q:Nat) (j:Nat),j<=q->j<g.m->c5 L j:=by
  intro q
  induction q with
  | zero=>
   intro j hj hlt;refine Classical.byContradiction fun hn=>?_
   have hu:=(nf (by omega)).1 hn;obtain⟨o,ho⟩:∃ o,ops[j]?=some o:=⟨ops[j]'(by omega),by simp[hm,hlt]⟩
   have hin:j ∈ Region.ready .any ops L:=mem_ready.2 ⟨hu,o,ho,fun e he hb=>by
    have h1:=List.all_eq_true.1 ha j (List.mem_range.2 (by omega));rw[ho] at h1;have h2:=Array.all_eq_true'.1 h1 e he;simp only[hb,Bool.not_true,Bool.false_or,decide_eq_true_eq] at h2;omega⟩
   rw[hr] at hin;cases hin
  | succ q ih=>
   intro j hj hlt;refine Classical.byContradiction fun hn=>?_
   have hu:=(nf (by omega)).1 hn;obtain⟨o,ho⟩:∃ o,ops[j]?=some o:=⟨ops[j]'(by omega),by simp[hm,hlt]⟩
   have hin:j ∈ Region.ready .any ops L:=mem_ready.2 ⟨hu,o,ho,fun e he hb=>by
    have h1:=List.all_eq_true.1 ha j (List.mem_range.2 (by omega));rw[ho] at h1;have h2:=Array.all_eq_true'.1 h1 e he;simp only[hb,Bool.not_true,Bool.false_or,decide_eq_true_eq] at h2;exact ih e.on (by omega) (by omega)⟩
   rw[hr] at hin;cases hin
 have dc:=all _ g.c (Nat.le_refl _) hc.1;have da:=all _ g.a (Nat.le_refl _) hc.2.1;have ds:=all _ g.st (Nat.le_refl _) hc.2.2;obtain⟨m1,m2,m3,m4⟩:=hM;rw[dc,da] at m1;have h4:=m4 da;rw[ds] at h4;refine⟨G,A,hO,fun q hq=>hT q hq (all _ _ (Nat.le_refl _) (hF G A q hq)),hG dc,by simpa using m1,m2,m3,h4.1,by simpa using h4.2⟩
end
def gv (G:List au) (i:Nat):au:=G.getD i .undef
@[simp] theorem gv_zero (a : au) (l : List au) : gv (a :: l) 0 = a := rfl
@[simp] theorem gv_succ (a : au) (l : List au) (i : Nat) : gv (a :: l) (i + 1) = gv l i := by simp [gv]
theorem Old.nil {O:Env}:Old O []:=fun q hq=>by cases hq
theorem Old.cons {O:Env} {t:Nat} {v:au} {B:List (Nat × au)} (h:O t=v) (hb:Old O B):Old O ((t,v)::B):=fun q hq=>by
 rcases List.mem_cons.1 hq with rfl | hq
 ·exact h
 ·exact hb q hq
theorem bV.of_eq {H:ax} {n:Nat} {l xs cU:List au} (h:l=xs) (ha:bV H n xs cU):bV H n l cU:=h ▸ ha
theorem aW.ma {P:Program} {N:Nat} {O:Env} {H:ax} {n:Nat} {d:Option Tmp} {g:Operand} {args:Array Operand} {ats:Array TypeId} {ty:TypeId} {pos:String} {af:Array Edge} {gu:Option (Nat × Bool)} {v:au} {f:FuncId} {xs cU:List au}
  (h:aF P f cU (fun r=>r=v)) (dK:a8 P f) (ha:bV H n xs cU) (hg:O.ev g = .fn (.func f) [] []) (has:args.toList.map O.ev=xs) :
  aW P N ⟨d,.call ⟨.value g,args,ats⟩,ty,pos,af,gu⟩ (loc (.call ⟨.value g,args,ats⟩) O) H n (xm v H n):=aW.I0 hg dK (has ▸ ha) h
end Go.Ab
namespace Go.Ab
theorem bL.focus {R:List au->List au->List Id->Prop}:∀ {as1 bs:List (List au)} {S:List Id} {k:Nat},bL R as1 bs S->k<as1.length ->
  ∃ A e B A' f B' S1 T S2,as1=A++e::B/\bs=A'++f::B'/\A.length=k/\A'.length=k/\bL R A A' S1/\R e f T/\bL R B B' S2/\S=S1++(T++S2)/\(∀ i ∈ S1,i ∉ T++S2)/\∀ i ∈ T,i ∉ S2
 | [],_,_,_,_,hk=>by simp at hk
 | _::_,[],_,_,h,_=>h.elim
 | a::as1,b::bs,S,0,h,_=>by
  obtain⟨T1,T2,h1,h2,h3,h4⟩:=h;exact⟨[],a,as1,[],b,bs,[],T1,T2,rfl,rfl,rfl,rfl,rfl,h1,h2,h3,by simp,h4⟩
 | a::as1,b::bs,S,k+1,h,hk=>by
  obtain⟨T1,T2,h1,h2,rfl,h4⟩:=h;obtain⟨A,e,B,A',f,B',S1,T,S2,rfl,rfl,l1,l2,r1,r2,r3,rfl,d1,d2⟩:=bL.focus h2 (by simpa using hk);refine⟨a::A,e,B,b::A',f,B',T1++S1,T,S2,rfl,rfl,by simp[l1],by simp[l2],⟨T1,S1,h1,r1,rfl,fun i hi hm=>h4 i hi (by simp[hm])⟩,r2,r3,by simp,fun i hi hm=>?_,d2⟩;rcases List.mem_append.1 hi with hi | hi
  ·exact h4 i hi (by simp only[List.mem_append] at hm ⊢;exact .inr hm)
  ·exact d1 i hi hm
section
variable {H:ax} {n:Nat} {K K1 K2:List cm} {ids:List Id} {l:List Sh} {v:au} {es:List (List au)} {q:Nat}
theorem Sep.DD {x:cm} (h:Sep H n (x::(K1++K2)) ids):Sep H n (K1++x::K2) ids:=by
 have h1:Sep H n (K1++(K2++[x])) ids:=by
  have:=Sep.swap (K1:=[x]) (K2:=K1++K2) h;simpa using this
 have h2:Sep H n (K2++x::K1) ids:=by
  have:=Sep.swap h1;simpa using this
 have h3:Sep H n ((x::K2)++K1) ids:=by
  have:=Sep.front h2;simpa using this
 exact Sep.swap h3
theorem rX:∀ {l1 l2:List Sh} {r1 r2 b1 b2:List au},r1.length=l1.length->b1.length=l1.length->dW (l1++l2) (r1++r2) (b1++b2)=dW l1 r1 b1++dW l2 r2 b2
 | [],_,[],_,[],_,_,_=>rfl
 | t::l1,l2,a::r1,r2,b::b1,b2,h1,h2=>by simp only[List.cons_append,dW,rX (l1:=l1) (by simpa using h1) (by simpa using h2)]
 | [],_,_::_,_,_,_,h,_=>by simp at h
 | [],_,_,_,_::_,_,_,h=>by simp at h
 | _::_,_,[],_,_,_,h,_=>by simp at h
 | _::_,_,_,_,[],_,_,h=>by simp at h
theorem Sep.row {bs:List au} (h:Sep H n ((.s l,v,.list true es)::K) ids) (he:es[q]?=some bs) :
  ∃ id els row W,v = .arr id es.length 0 es.length/\H id=some ⟨l.length,els⟩/\els.length=es.length/\els[q]?=some row/\row.length=l.length/\bs.length=l.length/\id ∈ W/\(∀ i ∈ ids,i ∈ W)/\id ∉ ids/\Sep H n (dW l row bs) W /\
   ∀ H1 U row' bs',Sep H1 U (dW l row' bs') W->row'.length=l.length->bs'.length=l.length->(∀ i ∈ W,i ≠ id->H1 i=H i)->H1 id=some ⟨l.length,els.set q row'⟩->n<=U->Sep H1 U ((.s l,v,.list true (es.set q bs'))::K) ids:=by
 obtain⟨h0,S,h1,h2⟩:=h;simp only[List.map_cons,Go.Ab.Row,Go.Ab.Tr] at h1;obtain⟨S1,S2,h3,h4,rfl,h5⟩:=h1;have hq:q<es.length:=(List.getElem?_eq_some_iff.1 he).1;rcases h3 with ⟨rfl,E,rfl⟩ | ⟨id,els,es',T,rfl,E,q3,q4,q5,rfl⟩
 ·injection E with _ E
  subst E;simp at hq
 ·injection E with _ E
  subst E;have hel:=q4.len;obtain⟨A,row,B,A',f,B',SA,SR,SB,rfl,rfl,lA,lA',rA,rR,rB,rfl,d1,d2⟩:=bL.focus (k:=q) q4 (by omega);have hf:f=bs:=by
   rw[List.getElem?_append_right (by omega),lA',Nat.sub_self] at he;simpa using he
  subst hf;have hrl:=rR.len;obtain⟨z1,z2,z3⟩:=oO hrl.1 hrl.2;simp only[List.mem_append,List.mem_cons,not_or] at h2 h5 q5 d1 d2;refine⟨id,A++row::B,row,ids++(id::(SA++(SB++S2))),by simp only[hel],q3,hel,by rw[List.getElem?_append_right (by omega),lA,Nat.sub_self];rfl,hrl.1,hrl.2,by simp,fun i hi=>by simp[hi],(h2 id (.inl (.inl rfl))).2,?_,?_⟩
  ·refine⟨fun i hi=>?_,SR,by rw[z1,z2,z3];exact rR,fun i hi=>⟨(h2 i (.inl (.inr (.inr (.inl hi))))).1,?_⟩⟩
   ·simp only[List.mem_append,List.mem_cons] at hi;rcases hi with hi | hi | hi | hi | hi
    ·exact h0 i hi
    ·exact (h2 i (.inl (.inl hi))).1
    ·exact (h2 i (.inl (.inr (.inl hi)))).1
    ·exact (h2 i (.inl (.inr (.inr (.inr hi))))).1
    ·exact (h2 i (.inr hi)).1
   ·simp only[List.mem_append,List.mem_cons,not_or];refine⟨(h2 i (.inl (.inr (.inr (.inl hi))))).2,?_,fun hm=>(d1 i hm).1 hi,fun hm=>d2 i hi hm,fun hm=>h5 i (.inr (.inr (.inl hi))) hm⟩;rintro rfl;exact q5.2.1 hi
  ·intro H1 U row' bs' hs lr lb hfr hid hn;obtain⟨y1,y2,y3⟩:=oO lr lb;obtain⟨k0,X,k1,k2⟩:=hs;rw[y1,y2,y3] at k1;simp only[List.mem_append,List.mem_cons,not_or] at k2 hfr;have nid:∀ i,i ∈ SA\/i ∈ SB\/i ∈ S2->i ≠ id:=by
    rintro i (hi | hi | hi) rfl
    ·exact q5.1 hi
    ·exact q5.2.2 hi
    ·exact h5 i (.inl rfl) hi
   have fr:∀ i,i ∈ SA\/i ∈ SB\/i ∈ S2->H1 i=H i:=fun i hi=>hfr i (.inr (.inr hi)) (nid i hi)
   have hrows:bL (Row H1 l) (A++row'::B) (A'++bs'::B') (SA++(X++SB)):=by
    refine bL.append (rA.mono fun e f T hr hs=>hr.frame fun i hi=>fr i (.inl (hs i hi))) ⟨X,SB,k1,rB.mono fun e f T hr hs=>hr.frame fun i hi=>fr i (.inr (.inl (hs i hi))),rfl,fun i hi hm=>(k2 i hi).2.2.2.2.1 hm⟩ (fun i hi hm=>?_);rcases List.mem_append.1 hm with hm | hm
    ·exact (k2 i hm).2.2.2.1 hi
    ·exact (d1 i hi).2 hm
   have hset:(A++row::B).set q row'=A++row'::B:=by
    rw[List.set_append_right _ _ (by omega),lA,Nat.sub_self];rfl
   have hset':(A'++f::B').set q bs'=A'++bs'::B':=by
    rw[List.set_append_right _ _ (by omega),lA',Nat.sub_self];rfl
   rw[hset] at hid;refine⟨fun i hi=>by have:=h0 i hi;omega,(id::(SA++(X++SB)))++S2,?_,fun i hi=>?_⟩
   ·simp only[List.map_cons,Go.Ab.Row,Go.Ab.Tr];refine⟨id::(SA++(X++SB)),S2,.inr ⟨id,A++row'::B,A'++bs'::B',SA++(X++SB),by simp,by rw[hset'],hid,hrows,?_,rfl⟩,h4.frame fun i hi=>fr i (.inr (.inr hi)),rfl,fun i hi hm=>?_⟩
    ·simp only[List.mem_append,not_or];exact⟨q5.1,fun hm=>(k2 id hm).2.2.1 rfl,q5.2.2⟩
    ·simp only[List.mem_cons,List.mem_append] at hi;rcases hi with rfl | hi | hi | hi
     ·exact h5 _ (.inl rfl) hm
     ·exact h5 i (.inr (.inl hi)) hm
     ·exact (k2 i hi).2.2.2.2.2 hm
     ·exact h5 i (.inr (.inr (.inr hi))) hm
   ·simp only[List.mem_cons,List.mem_append] at hi;rcases hi with (rfl | hi | hi | hi) | hi
    ·have:=h2 _ (.inl (.inl rfl));exact⟨by omega,this.2⟩
    ·have:=h2 i (.inl (.inr (.inl hi)));exact⟨by omega,this.2⟩
    ·exact⟨(k2 i hi).1,(k2 i hi).2.1⟩
    ·have:=h2 i (.inl (.inr (.inr (.inr hi))));exact⟨by omega,this.2⟩
    ·have:=h2 i (.inr hi);exact⟨by omega,this.2⟩
theorem Sep.setCell {i:TI} {lpre lpost:List Sh} {pre post:List au} {a:au} {b:Value} (h:Sep H n ((.s (lpre++.c::lpost),v,.list true es)::K) ids) (he:es[q]?=some (pre++a::post)) (hp:pre.length=lpre.length) (hi:i.size=1) (hb:Ab.aH (.v b)=true) :
  ∃ id H',v = .arr id es.length 0 es.length/\ca (some i) (.ptr id es.length q lpre.length) (some [.v b]) H=some H'/\Sep H' n ((.s (lpre++.c::lpost),v,.list true (es.set q (pre++.v b::post)))::K) ids/\∀ i ∈ ids,H' i=H i:=by
 obtain⟨id,els,row,W,h1,h2,h3,h4,h5,h6,h7,h8,h9,h10,h11⟩:=h.row he;have hq:q<es.length:=(List.getElem?_eq_some_iff.1 he).1;have dE:lpre.length<row.length:=by rw[h5];simp
 have hw:Ob.write ⟨(lpre++.c::lpost).length,els⟩ q lpre.length [.v b]=⟨(lpre++.c::lpost).length,els.set q (row.take lpre.length++.v b::row.drop (lpre.length+1))⟩:=by
  simp[Ob.write,List.getD,h4,ee]
 have hrow:row=row.take lpre.length++row[lpre.length]::row.drop (lpre.length+1):=by
  rw[List.getElem_cons_drop,List.take_append_drop]
 have hl':(row.take lpre.length++.v b::row.drop (lpre.length+1)).length=(lpre++.c::lpost).length:=by
  rw[<- h5];simp;omega
 refine⟨id,H.set id (Ob.write ⟨(lpre++.c::lpost).length,els⟩ q lpre.length [.v b]),h1,?_,?_,fun j hj=>ax.aY _ _ (by rintro rfl;exact h9 hj)⟩
 ·simp only[ca,live,h2,h3,↓reduceIte];rw[if_pos ⟨by simp[hi],by omega,by simp,by simp only[List.all_cons,List.all_nil,hb,Bool.and_true]⟩]
 ·refine h11 _ n _ _ ?_ hl' (by simpa using h6) (fun j _ hj=>ax.aY _ _ hj) (by rw[hw,ax.bS]) (Nat.le_refl n);refine Sep.bD ?_ h7;rw[hrow] at h10;rw[rX (by simp;omega) hp] at h10 ⊢;simp only[dW] at h10 ⊢;have:=Sep.front h10;exact Sep.DD (Sep.F4 b (Sep.right (K1:=[_]) this))
theorem Sep.IG {a:au} {b:Value} (h:Sep H n (K1++(.c,a,.v b)::K2) ids):a = .v b:=(Sep.scalar (Sep.front h)).1
theorem GR {α:Type} {l:List α} {k:Nat} {x:α} (h:l[k]?=some x):l.set k x=l:=by
 obtain⟨hk,rfl⟩:=List.getElem?_eq_some_iff.1 h;exact List.set_getElem_self hk
theorem za {α:Type} [Inhabited α] {f:α->List au} {xs:List α} {i:Int} {x:α} {q:Nat} (hb:0<=i/\i<xs.length) (hx:x=at' xs i) (hq:q=i.toNat):(xs.map f)[q]?=some (f x):=by
 obtain⟨hlt,hg⟩:=rk hb hx;subst hq;simp[hlt,hg]
theorem Sep.Is {α:Type} [Inhabited α] {f:α->List au} {xs:List α} {x:α} {i:Int} (h:Sep H n ((.s l,v,.list true (xs.map f))::K) ids) (hb:0<=i/\i<xs.length) (hx:x=at' xs i) (hq:q=i.toNat) :
  ∃ id els row W,v = .arr id xs.length 0 xs.length/\H id=some ⟨l.length,els⟩/\els.length=xs.length/\els[q]?=some row/\row.length=l.length/\id ∈ W/\(∀ i ∈ ids,i ∈ W)/\id ∉ ids/\Sep H n (dW l row (f x)) W /\
   ∀ H1 U y,Sep H1 U (dW l row (f y)) W->(f y).length=l.length->(∀ i ∈ W,H1 i=H i)->n<=U->Sep H1 U ((.s l,v,.list true ((xs.set q y).map f))::K) ids:=by
 obtain⟨id,els,row,W,h1,h2,h3,h4,h5,h6,h7,h8,h9,h10,h11⟩:=h.row (za hb hx hq);refine⟨id,els,row,W,by simpa using h1,h2,by simpa using h3,h4,h5,h7,h8,h9,h10,fun H1 U y k1 k2 k3 k4=>?_⟩;rw[List.map_set];exact h11 H1 U row (f y) k1 h5 k2 (fun i hi _=>k3 i hi) (by rw[k3 id h7,h2,GR h4]) k4
end
section
variable {P:Program} {f':FuncId} {N:Nat} {k:List Item} {Q:au->ax->Nat->Prop} {Ty:Types} {ops:Array Oper} {L:List Oper} {O:Env} {H:ax} {n:Nat} {K:List cm} {ids:List Id} {l:List Sh} {o:Oper}
variable {α:Type} [Inhabited α] {id:Id} {g q off:Nat} {ix:Int} {i:TI} {b:Value} {xs:List α} {f:α->List au} {x y:α}
theorem Di (lpre lpost:List Sh) (pre post:List au) {a:au} (h:Sep H n ((.s l,.arr id g 0 g,.list true (xs.map f))::K) ids) (hl:l=lpre++.c::lpost) (hi:i.size=1) (hb:0<=ix/\ix<xs.length) (hx:x=at' xs ix) (hq:q=ix.toNat) (hg:g=xs.length)
  (hf:f x=pre++a::post) (hy:f y=pre++.v b::post) (hp:pre.length=lpre.length) (ho:off=lpre.length) (h1:Ab.aH (.v b)=true) :
  ∃ H',ca (some i) (.ptr id g q off) (some [.v b]) H=some H'/\Sep H' n ((.s l,.arr id g 0 g,.list true ((xs.set q y).map f))::K) ids/\∀ i ∈ ids,H' i=H i:=by
 subst hl ho;obtain⟨id',H',e,h2,h3,h4⟩:=Sep.setCell (i:=i) (b:=b) h ((za hb hx hq).trans (congrArg some hf)) hp hi h1
 injection e with e1 e2 e3 e4
 subst e1;rw[List.length_map] at h2;subst hg;refine⟨H',h2,?_,h4⟩;rw[List.map_set,hy];exact h3
theorem wa (lpre lpost:List Sh) (pre post:List au) {a:au} (h:Sep H n ((.s l,.arr id g 0 g,.list true (xs.map f))::K) ids) (hl:l=lpre++.c::lpost) (hi:i.size=1) (hb:0<=ix/\ix<xs.length) (hx:x=at' xs ix) (hq:q=ix.toNat) (hg:g=xs.length)
  (hf:f x=pre++a::post) (hy:f y=pre++.v b::post) (hp:pre.length=lpre.length) (ho:off=lpre.length) (h1:Ab.aH (.v b)=true)
  (hc:∀ H',Sep H' n ((.s l,.arr id g 0 g,.list true ((xs.set q y).map f))::K) ids->(∀ i ∈ ids,H' i=H i)->cB P f' N k Q Ty ops L (O.put o.dst .undef) H' n) :
  jJ P f' N k Q Ty ops (match ca (some i) (.ptr id g q off) (some [.v b]) H with | some H'=>some (au.undef,H',n) | none=>none) o L O H n:=by
 obtain⟨H',e,h2,h3⟩:=Di (i:=i) (b:=b) (y:=y) lpre lpost pre post h hl hi hb hx hq hg hf hy hp ho h1;rw[e];exact (eT (v:=au.undef) (H':=H') (n':=n)).symm ▸ hc H' h2 h3
end
end Go.Ab
namespace Go.Ab
def IX (H:ax) (n:Nat):Prop:=∀ i o,H i=some o->i.1<n
def Ext (H H':ax):Prop:=∀ i o,H i=some o->H' i=some o
def Gp:Op->Nat
 | .buildSlice _ len _=>if len=0 then 2 else 3
 | op=>fm op
def ownF (Ty:Types) (d:Option Nat) (op:Op) (O:Env) (H:ax) (n:Nat):Option (au × ax × Nat):=
 match op with
 | .buildSlice t len ps=>match kd Ty t,d with
  | .slice j,some d=>
   if len ≠ 0/\len * j.size<=16777216/\j.size ≠ 0/\j.zero.length=j.size then
    (iI (fun k=>some (k * j.size,j.size)) ((List.replicate len (j.zero.map au.v)).flatten) (ps.toList.map fun p=>(p.1,O.ev p.2))).map fun cs=>(.arr (n,d) len 0 len,H.set (n,d) ⟨j.size,chunks j.size len cs⟩,n+1)
   else none
  | _,_=>none
 | _=>none
section
variable {P:Program} {N:Nat} {Ty:Types} {O:Env} {H H':ax} {n n':Nat} {d:Option Nat} {ty:TypeId} {pos:String} {af:Array Edge} {gu:Option (Nat × Bool)}
end
section
variable (P:Program) (N:Nat) (ops:Array Oper)
def StepX (o:Oper) (s s':AS):Prop:=
 (gG ops o s.1=some true/\∃ v,s'.1=s.1.put o.dst v/\(Gp o.op=0->s'.2=s.2/\∀ H n,aW P N o (loc o.op s.1) H n (xm v H n))/\(Gp o.op=1->s'.2=s.2/\∀ H n,Ext s.2.1 H->s.2.2<=n->aW P N o (loc o.op s.1) H n (xm v H n)) /\
   (IX s.2.1 s.2.2->IX s'.2.1 s'.2.2/\(Gp o.op=3->Ext s.2.1 s'.2.1/\s.2.2<=s'.2.2))/\aW P N o (loc o.op s.1) s.2.1 s.2.2 (xm v s'.2.1 s'.2.2)) \/
 (gG ops o s.1=some false/\s'=(s.1.put o.dst o7,s.2))
def RunX (R:AS->Prop):List Oper->AS->Prop
 | [],s=>R s
 | o::l,s=>∃ s',StepX P N ops o s s'/\RunX R l s'
end
section
variable {P:Program} {N:Nat} {ops:Array Oper}
end
section
variable {P:Program} {f:FuncId} {N:Nat} {k:List Item} {O:Env} {H:ax} {n:Nat} {Q:au->ax->Nat->Prop}
end
def stepM (Ty:Types) (ai:List Nat) (d:Option Nat) (op:Op) (O:Env) (H:ax) (n:Nat):Option (au × ax × Nat):=
 match d with
 | some t=>if ai.contains t then ownF Ty d op O H n else bl Ty d op O H n
 | none=>bl Ty d op O H n
section
variable (P:Program) (f:FuncId) (N:Nat) (k:List Item) (Q:au->ax->Nat->Prop) (Ty:Types) (ai:List Nat) (ops:Array Oper)
def RunXK (l:List Oper) (O:Env) (H:ax) (n:Nat):Prop:=RunX P N ops (fun s=>J P f N k s.1 s.2.1 s.2.2 Q) l (O,H,n)
mutual
def evalM:List Oper->Env->ax->Nat->Prop
 | [],O,H,n=>J P f N k O H n Q
 | o::l,O,H,n=>o.guard=none/\bindM (stepM Ty ai o.dst o.op O H n) o l O H n
 termination_by l=>(l.length,0)
def bindM:Option (au × ax × Nat)->Oper->List Oper->Env->ax->Nat->Prop
 | some (v,H',n'),o,l,O,_,_=>evalM l (O.put o.dst v) H' n'
 | none,o,l,O,H,n=>RunXK P f N k Q ops (o::l) O H n
 termination_by _ _ l=>(l.length,1)
end
end
section
variable {P:Program} {f:FuncId} {N:Nat} {k:List Item} {Q:au->ax->Nat->Prop} {Ty:Types} {ai:List Nat} {ops:Array Oper} {o:Oper} {L:List Oper} {O:Env} {H:ax} {n:Nat}
end
section
variable {P:Program} {f f':FuncId} {N:Nat} {k:List Item} {Q:au->ax->Nat->Prop} {Ty:Types} {ai:List Nat} {ops:Array Oper} {L:List Oper} {O:Env} {H H':ax} {n n':Nat} {K K1 K2:List cm} {ids:List Id} {t:TypeId} {j:TI} {l:List Sh} {v:au} {es:List (List au)} {o:Oper}
end
end Go.Ab
namespace Go.Ab
open Go.Proofs Go.RowKit
def qe (P:Program) (f:FuncId) (args:au->List au) (h:Sh) (e:au) (h':Sh) (R:au->Prop):Prop:=
 ∀ (H:ax) (n:Nat) (v:au) (K:List cm) (ids:List Id),Sep H n ((h,v,e)::K) ids->bT P f (args v) H n fun r H1 U=>∃ e',R e'/\Sep H1 U ((h',r,e')::K) ids/\(∀ i ∈ ids,H1 i=H i)/\n<=U
section
variable {P:Program} {f:FuncId} {N:Nat} {k:List Item} {Q:au->ax->Nat->Prop} {Ty:Types} {l:List Oper} {O:Env} {H:ax} {n:Nat} {K:List cm} {ids:List Id}
theorem bX.HK (hT:bg P Ty) {d:Option Tmp} {g:Operand} {args:Array Operand} {ats:Array TypeId} {ty:TypeId} {pos:String} {af:Array Edge} {R:au->Prop} {f':FuncId} {ops:List Oper} {sh sh':Sh} {argf:au->List au} {v e:au}
  (h:qe P f' argf sh e sh' R) (dK:a8 P f') (hs:Sep H n ((sh,v,e)::K) ids)
  (hN:ops.all (fun o=>eF N o.dst)=true) (hl:(⟨d,.call ⟨.value g,args,ats⟩,ty,pos,af,none⟩::l:List Oper).all (fun o=>eF N o.dst)=true) (hg:O.ev g = .fn (.func f') [] []) (has:args.toList.map O.ev=argf v)
  (hk:∀ r H1 U e',R e'->Sep H1 U ((sh',r,e')::K) ids->n<=U->(∀ i ∈ ids,H1 i=H i)->cB P f N k Q Ty ops.toArray l (O.put d r) H1 U) :
  bX P f N k Q ops.toArray (⟨d,.call ⟨.value g,args,ats⟩,ty,pos,af,none⟩::l) O H n:=
 bX.op hT hN hl rfl (aW.call (post:=fun r H1 U=>∃ e',R e'/\Sep H1 U ((sh',r,e')::K) ids/\(∀ i ∈ ids,H1 i=H i)/\n<=U) hg dK (by rw[has,List.nil_append,List.append_nil];exact h H n v K ids hs)) fun r H' n' ⟨e',h1,h2,h3,h4⟩=>hk r H' n' e' h1 h2 h4 h3
end
theorem DN {c:Ctx} (g:Good c) {id:Id} {o:Ob} (ho:c.H id=some o) (m d:Nat) (hm:m<=o.els.length) :
  let c':Ctx:={ c with H:=fun j=>if j=(c.n,d) then some ⟨o.size,o.els.take m⟩ else if j=id then none else c.H j,β:=fun j=>if j=(c.n,d) then c.β id else c.β j,n:=c.n+1 }
  bG c c'/\Good c':=by
 intro c';have hne:∀ j o',c.H j=some o'->j ≠ (c.n,d):=fun j o' h he=>by have:=g.stamp j o' h;rw[he] at this;simp at this
 have hH:∀ j o',c'.H j=some o'->(j=(c.n,d)/\o'=⟨o.size,o.els.take m⟩)\/(j ≠ (c.n,d)/\j ≠ id/\c.H j=some o'):=fun j o' h=>by
  simp only[c'] at h
  split at h
  ·rename_i hj;cases h;exact .inl ⟨hj,rfl⟩
  ·split at h
   ·cases h
   ·exact .inr ⟨by assumption,by assumption,h⟩
 have hβ:∀ j,j ≠ (c.n,d)->c'.β j=c.β j:=fun j hj=>by simp only[c',if_neg hj]
 have hβ0:c'.β (c.n,d)=c.β id:=by simp[c']
 have hk:bG c c':=by
  refine⟨Nat.le_succ _,rfl,Nat.le_refl _,rfl,rfl,rfl,fun k _ hmu=>⟨rfl,?_⟩,fun j o' hj hn=>?_⟩
  ·rintro⟨j,o',hj,hb⟩;rcases hH j o' hj with ⟨rfl,_⟩ | ⟨h1,_,h3⟩
   ·rw[hβ0] at hb;exact hmu ⟨id,o,ho,hb⟩
   ·rw[hβ j h1] at hb;exact hmu ⟨j,o',h3,hb⟩
  ·rcases hH j o' hj with ⟨rfl,_⟩ | ⟨h1,_,h3⟩
   ·simp at hn
   ·exact⟨o',h3,rfl,Nat.le_refl _,fun _=>⟨hβ j h1,fun cl el fz h=>⟨cl,el,fz,h,Nat.le_refl _⟩⟩⟩
 refine⟨hk,⟨fun j o' hj=>?_,fun j j' o1 o2 h1 h2 hb=>?_,g.Bsize,fun j o' hj=>?_⟩⟩
 ·rcases hH j o' hj with ⟨rfl,_⟩ | ⟨_,_,h3⟩
  ·exact Nat.lt_succ_self _
  ·have:=g.stamp j o' h3;show j.1<c.n+1;omega
 ·rcases hH j o1 h1 with ⟨rfl,_⟩ | ⟨a1,a2,a3⟩<;>rcases hH j' o2 h2 with ⟨rfl,_⟩ | ⟨b1,b2,b3⟩
  ·rfl
  ·rw[hβ0,hβ j' b1] at hb;exact absurd (g.inj _ _ _ _ ho b3 hb).symm b2
  ·rw[hβ0,hβ j a1] at hb;exact absurd (g.inj _ _ _ _ a3 ho hb) a2
  ·rw[hβ j a1,hβ j' b1] at hb;exact g.inj _ _ _ _ a3 b3 hb
 ·rcases hH j o' hj with ⟨rfl,rfl⟩ | ⟨a1,a2,a3⟩
  ·obtain⟨p1,cl,el,p2,p3,p4⟩:=g.obj id o ho;rw[hβ0];refine⟨p1,cl,el,p2,?_,fun i e he=>?_⟩
   ·have:(o.els.take m).length<=o.els.length:=by simp;omega
    exact Nat.le_trans (Nat.mul_le_mul_right _ this) p3
   ·have he':o.els[i]?=some e:=by
     simp only[List.getElem?_take] at he
     split at he
     ·exact he
     ·cases he
    exact⟨(p4 i e he').1,fun j a ha=>let ⟨x,hx,hr⟩:=(p4 i e he').2 j a ha;⟨x,hx,hr.keeps hk⟩⟩
  ·obtain⟨p1,cl,el,p2,p3,p4⟩:=g.obj j o' a3;rw[hβ j a1];exact⟨p1,cl,el,p2,p3,fun i e he=>⟨(p4 i e he).1,fun q a ha=>let ⟨x,hx,hr⟩:=(p4 i e he).2 q a ha;⟨x,hx,hr.keeps hk⟩⟩⟩
theorem qe.compact {P:Program} {f:FuncId} {ss ss':List a6} (hle:ss'.length<=ss.length)
  (hs:∀ (blk off cap:Nat) (w:World),Sort.Holds encStr w blk off ss.toArray->ss.length<=cap->Calls P f #[.slice (some ⟨blk,off,none⟩) ss.length cap] w fun e w'=>
   e = .returned (.slice (some ⟨blk,off,none⟩) ss'.length cap)/\∃ q,w'=Sort.putRow encStr (Sort.ahead w q) blk off (ss'++List.replicate (ss.length - ss'.length) []).toArray)
  (hnil:ss=[]->∀ w:World,Calls P f #[.slice none 0 0] w fun e w'=>e = .returned (.slice none 0 0)/\w'=w) :
  qe P f (fun v=>[v]) (.s [.c]) (ib true ss) (.s [.c]) (fun e=>e=ib true ss'):=by
 intro H n v K ids hsep c xs hH hn g r;subst hH hn;obtain⟨x,rfl,hx⟩:∃ x,xs=[x]/\cn c v x:=by
  obtain⟨hl,hr⟩:=r
  match xs,hl with
  | [x],_=>exact⟨x,rfl,hr 0 v x rfl rfl⟩
 obtain⟨h0,S,h1,h2⟩:=hsep;simp only[List.map_cons,Row,Tr] at h1;obtain⟨S1,S2,h3,h4,rfl,h5⟩:=h1;rcases h3 with ⟨rfl,e,rfl⟩ | ⟨id,els,es',T,rfl,he,q3,q4,q5,rfl⟩
 ·have hss:ss=[]:=by simpa[ib] using e
  subst hss;have hss':ss'=[]:=List.eq_nil_of_length_eq_zero (by simpa using hle);subst hss';rw[hx.cd];refine (hnil rfl c.w).mono ?_;rintro e w' ⟨rfl,rfl⟩;refine⟨_,.v (.slice none 0 0),c,rfl,rfl,⟨_,rfl,⟨h0,_,?_,h2⟩,fun _ _=>rfl,Nat.le_refl _⟩,.v _,g,bG.refl c⟩;simp only[List.map_cons,Row,Tr];exact⟨[],S2,.inl (by simp[ib]),h4,rfl,by simp⟩
 ·simp only[ib,au.list.injEq,true_and] at he;subst he;obtain⟨rfl,rfl⟩:=jM (by simp) q4;have q3':c.H id=some ⟨1,ss.map fun s=>[str s]⟩:=q3;have hcell:∀ i s,ss[i]?=some s->c.w.cell? ⟨c.β id,i,none⟩=some (encStr s):=fun i s hi=>by
   obtain⟨x,h1,h2⟩:=g.cell q3' (i:=i) (j:=0) (e:=[str s]) (a:=str s) (by rw[List.getElem?_map,hi];rfl) rfl;rw[h2.cd] at h1;simpa using h1
  cases hx with
  | arr _ _ _ _ _ _ hn hg h=>
   obtain⟨hle1,a,cap,rfl,hab,hsp,hlc,dE,hcl⟩:=h _ q3' (by simp);obtain⟨bk,off,M⟩:=a;simp only at hab hsp;subst hab hsp;have hz:off=0\/ss=[]:=by
    rcases dE with h | h
    ·left;simpa using h
    ·right;simpa[h] using hlc
   have hbk:c.β id<c.w.heap.size:=g.lt q3';have hm:(ss'++List.replicate (ss.length - ss'.length) ([]:a6)).length=ss.length:=by simp;omega
   have hz':off=0\/(ss'++List.replicate (ss.length - ss'.length) ([]:a6))=[]:=hz.imp_right fun h=>by
    subst h;exact List.eq_nil_of_length_eq_zero (by rw[hm];rfl)
   have key:=hs (c.β id) off cap c.w (fun j hj=>by
    have hj':j<ss.length:=by simpa using hj
    have h0:off=0:=hz.elim (fun h=>h) fun h=>by subst h;simp at hj'
    subst h0;refine⟨?_,g.frozen q3' _⟩;rw[Nat.zero_add,hcell j ss[j] (List.getElem?_eq_getElem hj')];simp[hj']) (by simpa using hlc)
   simp only[List.length_map] at *;apply key.mono;rintro e w' ⟨rfl,q,rfl⟩;obtain⟨hk,hg'⟩:=uK g q3' hm off hz' q #[];have hgr:Sort.grow (Sort.putRow encStr (Sort.ahead c.w q) (c.β id) off (ss'++List.replicate (ss.length - ss'.length) ([]:a6)).toArray) #[]=Sort.putRow encStr (Sort.ahead c.w q) (c.β id) off (ss'++List.replicate (ss.length - ss'.length) ([]:a6)).toArray:=by
    simp[Sort.grow]
    rfl
   rw[hgr] at hk hg';generalize hc1:({ c with H:=c.H.set id ⟨1,(ss'++List.replicate (ss.length - ss'.length) ([]:a6)).map fun s=>[str s]⟩,w:=Sort.putRow encStr (Sort.ahead c.w q) (c.β id) off (ss'++List.replicate (ss.length - ss'.length) ([]:a6)).toArray }:Ctx)=c1 at hk hg';have hH1:c1.H id=some ⟨1,(ss'++List.replicate (ss.length - ss'.length) ([]:a6)).map fun s=>[str s]⟩:=by rw[<- hc1];exact ax.bS _ _ _
   have hHo:∀ j,j ≠ id->c1.H j=c.H j:=fun j hj=>by rw[<- hc1];exact ax.aY _ _ hj
   have hn1:c1.n=c.n:=by rw[<- hc1]
   have hb1:c1.β=c.β:=by rw[<- hc1]
   have hw1:c1.w=Sort.putRow encStr (Sort.ahead c.w q) (c.β id) off (ss'++List.replicate (ss.length - ss'.length) ([]:a6)).toArray:=by rw[<- hc1]
   have htk:((ss'++List.replicate (ss.length - ss'.length) ([]:a6)).map fun s=>[str s]).take ss'.length=ss'.map fun s=>[str s]:=by
    rw[<- List.map_take,List.take_left]
   obtain⟨hk2,hg2⟩:=DN hg' hH1 ss'.length 0 (by simp);simp only[htk] at hk2 hg2;generalize hc2:({ c1 with H:=fun j=>if j=(c1.n,0) then some ⟨1,ss'.map fun s=>[str s]⟩ else if j=id then none else c1.H j,β:=fun j=>if j=(c1.n,0) then c1.β id else c1.β j,n:=c1.n+1 }:Ctx)=c2 at hk2 hg2;have hH2:c2.H (c.n,0)=some ⟨1,ss'.map fun s=>[str s]⟩:=by rw[<- hc2,<- hn1];simp
   have hidn:id.1<c.n:=hn;have hHo2:∀ j:Id,j ≠ id->j.1<c.n->c2.H j=c.H j:=fun j hj hlt=>by
    rw[<- hc2,<- hHo j hj];simp only;rw[if_neg (by rintro rfl;rw[hn1] at hlt;simp at hlt),if_neg hj]
   have hn2:c2.n=c.n+1:=by rw[<- hc2,<- hn1]
   have hb2:c2.β (c.n,0)=c.β id:=by rw[<- hc2,<- hn1];simp[hb1]
   have hw2:c2.w=c1.w:=by rw[<- hc2]
   refine⟨_,.arr (c.n,0) ss'.length 0 ss'.length,c2,rfl,by rw[hw2,hw1],⟨_,rfl,⟨fun i hi=>by have:=h0 i hi;omega,(c.n,0)::S2,?_,fun i hi=>?_⟩,fun i hi=>hHo2 i (by rintro rfl;exact (h2 i (by simp)).2 hi) (h0 i hi),by omega⟩,?_,hg2,hk.trans hk2⟩
   ·simp only[List.map_cons,Row,Tr];refine⟨[(c.n,0)],S2,.inr ⟨(c.n,0),ss'.map fun s=>[str s],ss'.map fun s=>[str s],[],by simp,rfl,hH2,bL.wD (by simp[str,flat]) (by simp),by simp,rfl⟩,h4.frame fun i hi=>?_,rfl,?_⟩
    ·exact hHo2 i (by rintro rfl;exact h5 i (by simp) hi) (h2 i (by simp[hi])).1
    ·intro i hi hm;have:=(h2 i (by simp[hm])).1;simp at hi;subst hi;simp at this
   ·rcases List.mem_cons.1 hi with rfl | hi
    ·exact⟨by show c.n<c2.n;omega,fun hm=>by have:=h0 _ hm;simp at this⟩
    ·have:=h2 i (by simp[hi]);exact⟨by omega,this.2⟩
   ·refine .arr _ _ _ _ _ rfl (by show c.n<c2.n;omega) ?_ ?_
    ·intro o ho;rw[hH2] at ho;cases ho;simp
    ·intro o ho _;rw[hH2] at ho;cases ho;refine⟨by omega,_,_,rfl,by simp[hb2],rfl,by omega,?_,fun cl el fz E=>?_⟩
     ·rcases dE with h | h
      ·left;simpa using h
      ·right;exact h
     ·rw[hb2,hw2,hw1] at E;obtain⟨_,cl0,el0,hh0,_⟩:=g.obj id _ q3';have hnew:(Sort.putRow encStr (Sort.ahead c.w q) (c.β id) off (ss'++List.replicate (ss.length - ss'.length) ([]:a6)).toArray).heap[c.β id]?=some (.cells (Sort.putCells encStr off (ss'++List.replicate (ss.length - ss'.length) ([]:a6)).toArray cl0) el0 (0,0)):=by
       simp only[Sort.putRow,Sort.mapBlock,Sort.ahead,Array.getElem?_modify,hh0];simp[Sort.onCells]
      rw[hnew] at E;cases E;have:=hcl cl0 _ (0,0) hh0;simpa[Sort.putCells] using this
end Go.Ab
namespace Go.Ab
def iL:Op->Nat
 | .slice ..=>0
 | .load ..=>0
 | .indexAddr ..=>0
 | .fieldAddr ..=>0
 | op=>fm op
def qM (W:List Id):au->Prop
 | .arr id _ _ _=>id ∈ W
 | .ptr id _ _ _=>id ∈ W
 | _=>True
def kP (W:List Id) (O:Env):Op->Prop
 | .slice _ x _ _ _=>qM W (O.ev x)
 | .load _ x=>qM W (O.ev x)
 | .indexAddr _ x _=>qM W (O.ev x)
 | .fieldAddr _ x _=>qM W (O.ev x)
 | _=>True
attribute [simp] qM kP
section
variable (P:Program) (N:Nat) (ops:Array Oper) (W:List Id)
def mT (o:Oper) (s s':AS):Prop:=
 (gG ops o s.1=some true/\∃ v,s'.1=s.1.put o.dst v/\(iL o.op=0->s'.2=s.2/\∀ H n,(∀ i ∈ W,H i=s.2.1 i)->aW P N o (loc o.op s.1) H n (xm v H n))/\(iL o.op=1->s'.2=s.2) /\
   (∀ i ∈ W,s'.2.1 i=s.2.1 i)/\aW P N o (loc o.op s.1) s.2.1 s.2.2 (xm v s'.2.1 s'.2.2)) \/
 (gG ops o s.1=some false/\s'=(s.1.put o.dst o7,s.2))
def qK (R:AS->Prop):Nat->Array Bool->AS->Prop
 | 0,listed,s=>Region.ready .any ops listed=[]/\R s
 | fuel+1,listed,s=>(Region.ready .any ops listed=[]->R s)/\∀ i ∈ Region.ready .any ops listed,∃ o s',ops[i]?=some o/\mT P N ops W o s s'/\qK R fuel (listed.setIfInBounds i true) s'
def HU (R:AS->Prop):List Oper->AS->Prop
 | [],s=>R s
 | o::l,s=>∃ s',mT P N ops W o s s'/\HU R l s'
end
section
variable {P:Program} {N:Nat} {ops:Array Oper} {W:List Id}
theorem mT.xq {oi oj:Oper} (hap:oi.apart ops oj=true) (hc:nR (iL oi.op) (iL oj.op)=true) {s si sij:AS} (hi:mT P N ops W oi s si) (hj:mT P N ops W oj si sij):∃ sj,mT P N ops W oj s sj/\mT P N ops W oi sj sij:=by
 obtain⟨h1,h2,h3⟩:=Oper.apart_spec hap;have lj:∀ v,loc oj.op (s.1.put oi.dst v)=loc oj.op s.1:=fun v=>ia (dT h1)
 have li:∀ v,loc oi.op (s.1.put oj.dst v)=loc oi.op s.1:=fun v=>ia (dT h3)
 have gj:∀ v,gG ops oj (s.1.put oi.dst v)=gG ops oj s.1:=fun v=>km h1
 have gi:∀ v,gG ops oi (s.1.put oj.dst v)=gG ops oi s.1:=fun v=>km h3
 have hcc:iL oi.op=0\/iL oj.op=0\/(iL oi.op=1/\iL oj.op=1):=by
  simp only[nR,Bool.or_eq_true,beq_iff_eq,Bool.and_eq_true] at hc;rcases hc with (h | h) | h
  ·exact .inl h
  ·exact .inr (.inl h)
  ·exact .inr (.inr h)
 obtain⟨O,H,n⟩:=s;obtain⟨ρi,Hi,ni⟩:=si;obtain⟨ρj,Hj,nj⟩:=sij;simp only at lj li gj gi;rcases hi with ⟨hgi,v,hv,hk0,hk1,hw,hop⟩ | ⟨hgi,hs⟩
 ·simp only at hgi hv hk0 hk1 hw hop;subst hv;rcases hj with ⟨hgj,u,hu,hl0,hl1,hx,hoq⟩ | ⟨hgj,hs'⟩
  ·simp only at hgj hu hl0 hl1 hx hoq;subst hu;rw[gj] at hgj;rw[lj] at hl0 hoq;rcases hcc with h0 | h0 | ⟨h0,h0'⟩
   ·obtain⟨he,hall⟩:=hk0 h0;cases he;refine⟨(O.put oj.dst u,Hj,nj),.inl ⟨hgj,u,rfl,hl0,hl1,hx,hoq⟩,.inl ⟨by simpa only [gi] using hgi,v,by rw[put_comm v u h2],fun _=>⟨rfl,?_⟩,fun _=>rfl,fun _ _=>rfl,?_⟩⟩
    ·simp only[li];exact fun H' n' hH'=>hall H' n' fun i hi=>(hH' i hi).trans (hx i hi)
    ·simp only[li];exact hall Hj nj hx
   ·obtain⟨he,hall⟩:=hl0 h0;cases he;refine⟨(O.put oj.dst u,H,n),.inl ⟨hgj,u,rfl,fun _=>⟨rfl,fun H' n' hH'=>hall H' n' fun i hi=>(hH' i hi).trans (hw i hi).symm⟩,fun _=>rfl,fun _ _=>rfl,hall H n fun i hi=>(hw i hi).symm⟩,
     .inl ⟨by simpa only [gi] using hgi,v,by rw[put_comm v u h2],by simpa only [li] using hk0,hk1,hw,?_⟩⟩
    simp only[li];exact hop
   ·have e1:=hk1 h0;have e2:=hl1 h0';cases e1;cases e2;refine⟨(O.put oj.dst u,H,n),.inl ⟨hgj,u,rfl,hl0,hl1,hx,hoq⟩,.inl ⟨by simpa only [gi] using hgi,v,by rw[put_comm v u h2],by simpa only [li] using hk0,hk1,hw,?_⟩⟩;simp only[li];exact hop
  ·simp only at hgj hs';cases hs';rw[gj] at hgj;refine⟨(O.put oj.dst o7,H,n),.inr ⟨hgj,rfl⟩,.inl ⟨by simpa only [gi] using hgi,v,by rw[put_comm v o7 h2],by simpa only [li] using hk0,hk1,hw,?_⟩⟩;simp only[li];exact hop
 ·simp only at hgi hs;cases hs;rcases hj with ⟨hgj,u,hu,hl0,hl1,hx,hoq⟩ | ⟨hgj,hs'⟩
  ·simp only at hgj hu hl0 hl1 hx hoq;subst hu;rw[gj] at hgj;rw[lj] at hl0 hoq;exact⟨(O.put oj.dst u,Hj,nj),.inl ⟨hgj,u,rfl,hl0,hl1,hx,hoq⟩,.inr ⟨by simpa only [gi] using hgi,by rw[put_comm o7 u h2]⟩⟩
  ·simp only at hgj hs';cases hs';rw[gj] at hgj;exact⟨(O.put oj.dst o7,H,n),.inr ⟨hgj,rfl⟩,.inr ⟨by simpa only [gi] using hgi,by rw[put_comm o7 o7 h2]⟩⟩
theorem qK.first {R:AS->Prop} {i:Nat} {oi:Oper} (hi:ops[i]?=some oi) (al:List Nat) (hD:∀ j oj,ops[j]?=some oj->j ∈ al->j ≠ i->∃ e ∈ oj.after,Region.binds .any e=true/\e.on ∈ al):∀ (fuel:Nat) (listed:Array Bool) (s s':AS),
  (∀ j ∈ al,listed.getD j true=false)->(∀ j oj,ops[j]?=some oj->j ≠ i->listed.getD j true=false->j ∉ al->oi.apart ops oj=true/\nR (iL oi.op) (iL oj.op)=true) ->
  i ∈ Region.ready .any ops listed->mT P N ops W oi s s'->qK P N ops W R fuel (listed.setIfInBounds i true) s'->qK P N ops W R (fuel+1) listed s:=by
 intro fuel
 induction fuel with
 | zero=>
  intro listed s s' _ _ hr hst H;refine⟨fun h=>(by rw[h] at hr;cases hr),fun j hj=>?_⟩
  by_cases hji:j=i
  ·subst hji;exact⟨oi,s',hi,hst,H⟩
  ·have:=ready_mono hj hji;rw[H.1] at this;cases this
 | succ fuel ih=>
  intro listed s s' hinv hfree hr hst H;refine⟨fun h=>(by rw[h] at hr;cases hr),fun j hj=>?_⟩
  by_cases hji:j=i
  ·subst hji;exact⟨oi,s',hi,hst,H⟩
  ·obtain⟨oj,s'',hoj,hstj,hrest⟩:=H.2 j (ready_mono hj hji);obtain⟨hjun,oj',hoj',hall⟩:=mem_ready.1 hj;rw[hoj] at hoj';cases hoj';have hnot:j ∉ al:=fun hd=>by
    obtain⟨e,he,hb,hed⟩:=hD j oj hoj hd hji;have h1:=hall e he hb;have h0:=hinv e.on hed;rcases Nat.lt_or_ge e.on listed.size with h' | h'
    ·simp[h'] at h0 h1;rw[h0] at h1;cases h1
    ·simp[Array.getElem?_eq_none h'] at h1
   obtain⟨hap,hco⟩:=hfree j oj hoj hji hjun hnot;obtain⟨sj,h1,h2⟩:=mT.xq hap hco hst hstj;refine⟨oj,sj,hoj,h1,ih (listed.setIfInBounds j true) sj s'' (fun k hk=>?_) (fun k ok hk hki hun hno=>?_) (ready_mono hr (Ne.symm hji)) h2 ?_⟩
   ·have hjk:j ≠ k:=fun he=>hnot (he ▸ hk)
    rw[getD_set_ne true hjk];exact hinv k hk
   ·refine hfree k ok hk hki ?_ hno
    by_cases hjk:j=k
    ·subst hjk;exact hjun
    ·rw[getD_set_ne true hjk] at hun;exact hun
   ·rw[Array.setIfInBounds_comm _ _ hji];exact hrest
theorem qK.lex {R:AS->Prop}:∀ (l:List Oper) (k:Nat) (listed:Array Bool) (s:AS),(∀ j:Nat,l[j]?=ops[k+j]?)->AD iL ops l.length k listed=true->HU P N ops W R l s->qK P N ops W R l.length listed s
 | [],_,_,_,_,hB,h=>⟨by simpa[AD] using hB,h⟩
 | o::l,k,listed,s,hl,hB,h=>by
  have h0:ops[k]?=some o:=by simpa using (hl 0).symm
  simp only[List.length_cons,AD,Bool.and_eq_true] at hB;obtain⟨⟨hr,hf⟩,hB'⟩:=hB;obtain⟨s',hst,hrest⟩:=h;obtain⟨f1,f2,f3⟩:=pE h0 hf;exact qK.first h0 (behind ops k) f1 l.length listed s s' f2 f3 (by simpa using hr) hst
   (qK.lex l (k+1) _ _ (fun j=>by have:=hl (j+1);simpa[Nat.add_assoc,Nat.add_comm 1 j] using this) hB' hrest)
theorem qK.sound {R:AS->Prop} (hN:ops.toList.all (fun o=>eF N o.dst)=true) {Q:Exit->Act->World->Prop} {c0:Ctx} (hQ:∀ a c O,bG c0 c->Good c->dy N c O a->R (O,c.H,c.n)->Q .normal a c.w) :
  ∀ (fuel:Nat) (listed:Array Bool) (O:Env) (c:Ctx) (a:Act),bG c0 c->Good c->dy N c O a->qK P N ops W R fuel listed (O,c.H,c.n)->wpAny P .any ops Q fuel listed a c.w
 | 0,_,_,_,_,hk,g,r,h=>⟨h.1,hQ _ _ _ hk g r h.2⟩
 | fuel+1,listed,O,c,a,hk,g,r,h=>by
  refine⟨fun h0=>hQ _ _ _ hk g r (h.1 h0),fun i hi=>?_⟩;obtain⟨o,s',ho,hst,hrest⟩:=h.2 i hi;obtain⟨ρ',H',n'⟩:=s';have hd:eF N o.dst=true:=List.all_eq_true.1 hN o (by rw[<- Array.getElem?_toList] at ho;exact List.mem_of_getElem? ho);unfold wpOp;simp only[ho];rcases hst with ⟨hg,v,hv,_,_,_,hop⟩ | ⟨hg,hs⟩
  ·rw[if_pos (cA r hN hg)];simp only at hv hop;subst hv;refine .inl (hop c a rfl rfl g (r.loc o.op) _ _ ?_);rintro v1 x c' ⟨rfl,hH,hn⟩ hrep hgood hkeep;exact qK.sound hN hQ fuel _ _ c' _ (hk.trans hkeep) hgood ((r.keeps hkeep).put hd hrep) (by rw[hH,hn];exact hrest)
  ·rw[if_neg (by rw[cA r hN hg];simp)];cases hs;exact qK.sound hN hQ fuel _ _ c _ hk g (r.put hd (.v _)) hrest
end
section
variable {P:Program} {f:FuncId} {N:Nat} {k:List Item} {O:Env} {H:ax} {n:Nat} {Q:au->ax->Nat->Prop}
theorem J.drawW (W:List Id) {id:Nat} {ops:List Oper} (hm:P.follows .mixedOrders=true) (hN:ops.all (fun o=>eF N o.dst)=true) (hB:pY iL ops.toArray=true)
  (h:HU P N ops.toArray W (fun s=>J P f N k s.1 s.2.1 s.2.2 Q) ops (O,H,n)):J P f N (.code (.region id ops.toArray true)::k) O H n Q:=by
 intro c a hH hn g r b cs hf hk;subst hH;subst hn;obtain⟨d1,d2⟩:=jU g;have hany:=qK.lex (P:=P) (N:=N) (W:=W) (ops:=ops.toArray) ops 0 (Array.replicate ops.toArray.size false) (O,c.H,c.n) (by simp) (by simpa[pY] using hB) h;have hw:(Code.region id ops.toArray true).wp P (fun e a' w'=>e = .normal/\∃ c' ρ',c'.w=w'/\bG c c'/\Good c'/\dy N c' ρ' a'/\J P f N k ρ' c'.H c'.n Q) a c.w:=by
  refine wp_region_any hm ?_;have:=qK.sound (P:=P) (N:=N) (W:=W) (ops:=ops.toArray) (c0:=c) (by simpa using hN) (Q:=fun e a' w'=>e = .normal/\∃ c' ρ',c'.w=w'/\bG c c'/\Good c'/\dy N c' ρ' a'/\J P f N k ρ' c'.H c'.n Q)
   (R:=fun s=>J P f N k s.1 s.2.1 s.2.2 Q) (fun a' c' ρ' V hg' hr' hR=>⟨rfl,c',ρ',rfl,V,hg',hr',hR⟩) ops.length (Array.replicate ops.toArray.size false) O { c with w:={ c.w with drawn:=c.w.drawn+1 } } a d1 d2 (r.keeps d1) hany
  simpa using this
 obtain⟨e,a',w',⟨rfl,c',ρ',rfl,V,hg',hr',hR⟩,harr⟩:=hw b k cs;obtain⟨x,v,c'',fr,q,hr,hg,hke,hst,rest⟩:=hR c' a' rfl rfl hg' hr' b cs hf hk;exact⟨x,v,c'',fr,q,hr,hg,V.trans hke,Steps.trans harr hst,rest⟩
end
def okW (W:List Id) (o:Oper) (O:Env) (H H':ax):Prop:=
 (∀ i ∈ W,H' i=H i)/\kP W O o.op
section
variable (P:Program) (f:FuncId) (N:Nat) (k:List Item) (Q:au->ax->Nat->Prop) (Ty:Types) (W:List Id) (ops:Array Oper)
def evalW:List Oper->Env->ax->Nat->Prop
 | [],O,H,n=>J P f N k O H n Q
 | o::l,O,H,n=>o.guard=none/\match bl Ty o.dst o.op O H n with
  | some (v,H',n')=>okW W o O H H'/\evalW l (O.put o.dst v) H' n'
  | none=>False
def uy (r:Option (au × ax × Nat)) (o:Oper) (l:List Oper) (O:Env) (H:ax):Prop:=
 match r with
 | some (v,H',n')=>okW W o O H H'/\evalW P f N k Q Ty W l (O.put o.dst v) H' n'
 | none=>False
end
section
variable {P:Program} {f:FuncId} {N:Nat} {k:List Item} {Q:au->ax->Nat->Prop} {Ty:Types} {W:List Id} {ops:Array Oper} {o:Oper} {L:List Oper} {O:Env} {H:ax} {n:Nat}
@[simp] theorem evalW_nil : evalW P f N k Q Ty W [] O H n = J P f N k O H n Q := rfl
@[simp] theorem evalW_op {d : Option Tmp} {op : Op} {ty : TypeId} {pos : String} {af : Array Edge} : evalW P f N k Q Ty W (⟨d, op, ty, pos, af, none⟩ :: L) O H n = uy P f N k Q Ty W (bl Ty d op O H n) ⟨d, op, ty, pos, af, none⟩ L O H := by
 simp only[evalW,true_and];rfl
@[simp] theorem CS {v : au} {n' : Nat} : uy P f N k Q Ty W (some (v, H, n')) o L O H = (kP W O o.op /\ evalW P f N k Q Ty W L (O.put o.dst v) H n') := by
 simp[uy,okW]
theorem rq {v:au} {H':ax} {n':Nat} (hw:∀ i ∈ W,H' i=H i) (ho:kP W O o.op) (h:evalW P f N k Q Ty W L (O.put o.dst v) H' n'):uy P f N k Q Ty W (some (v,H',n')) o L O H:=
 ⟨⟨hw,ho⟩,h⟩
section
variable {H2:ax} (hw:∀ i ∈ W,H2 i=H i)
include hw
theorem lJ {p:au} {cs:List au} (hp:qM W p) (h:dk H p=some cs):dk H2 p=some cs:=by
 cases p with
 | ptr id g i off=>simp only[dk] at h ⊢;rw[hw id hp];exact h
 | _=>exact h
theorem vb {id:Id} {g:Nat} (hp:id ∈ W):live H2 id g=live H id g:=by simp only[live,hw id hp]
theorem rK {t:TypeId} {x ix v:au} (hp:qM W x) (h:av Ty H t x ix=some v):av Ty H2 t x ix=some v:=by
 unfold av at h ⊢
 split at h
 ·split at h
  ·exact h
  ·rw[vb hw hp];exact h
  ·split at h
   ·rename_i hv
    rw[lJ hw hp hv];exact h
   ·cases h
  ·cases h
 ·cases h
theorem vE {t:TypeId} {x v:au} {lo hi:Option au} (hp:qM W x) (h:cH Ty H t x lo hi=some v):cH Ty H2 t x lo hi=some v:=by
 unfold cH at h ⊢
 split at h
 ·exact h
 ·exact h
 ·rw[vb hw hp];exact h
 ·exact h
 ·cases h
end
theorem sw {op:Op} {d:Option Nat} {v:au} {H1 H2:ax} {U n2:Nat} (h0:iL op=0) (hl:kP W O op) (h:bl Ty d op O H n=some (v,H1,U)) (hw:∀ i ∈ W,H2 i=H i):H1=H/\U=n/\bl Ty d op O H2 n2=some (v,H2,n2):=by
 cases op with
 | load t a=>
  obtain⟨e1,e2⟩:=qh rfl h;refine⟨e1,e2,?_⟩;simp only[bl] at h ⊢
  split at h
  ·rename_i hi hv
   split at h
   ·rename_i hl'
    cases h;simp only[hi,lJ hw hl hv,hl']
   ·cases h
  ·cases h
 | fieldAddr t a f=>
  obtain⟨e1,e2⟩:=qh rfl h;refine⟨e1,e2,?_⟩;simp only[bl] at h ⊢
  split at h
  ·rename_i hk hv
   split at h
   ·rename_i hf
    split at h
    ·cases h
    ·rename_i hs
     cases h;simp only[hk,lJ hw hl hv,hf,if_neg hs]
   ·cases h
  ·cases h
 | indexAddr t a i=>
  obtain⟨h1,e1,e2⟩:=cx h;exact⟨e1,e2,by simp only[bl,rK hw hl h1,Option.map_some]⟩
 | slice t x lo hi mx=>
  cases mx with
  | none=>
   obtain⟨h1,e1,e2⟩:=cx h;exact⟨e1,e2,by simp only[bl,vE hw hl h1,Option.map_some]⟩
  | some m=>cases h
 | _=>
  obtain⟨e1,e2,hall⟩:=uf (by exact h0) h;exact⟨e1,e2,hall H2 n2⟩
theorem E6 {op:Op} (h:iL op=1):fm op=1:=by
 unfold iL at h
 split at h<;>first | (cases h;done) | exact h
theorem tY {op:Op} (h:kP W O op):kP W (loc op O) op:=by
 cases op<;>simp only[kP] at h ⊢<;>(rw[fL (by simp[Op.operands])];exact h)
theorem mT.sY (hT:bg P Ty) {v:au} {H':ax} {n':Nat} (hg:gG ops o O=some true) (hs:bl Ty o.dst o.op O H n=some (v,H',n')) (ho:okW W o O H H'):mT P N ops W o (O,H,n) (O.put o.dst v,H',n'):=by
 have hl:bl Ty o.dst o.op (loc o.op O) H n=some (v,H',n'):=by rw[aJ];exact hs
 refine .inl ⟨hg,v,rfl,fun h0=>?_,fun h1=>?_,ho.1,aL hT hl⟩
 ·obtain⟨e1,e2,_⟩:=sw (H2:=H) (n2:=n) h0 (tY ho.2) hl (fun _ _=>rfl);subst e1 e2;refine⟨rfl,fun H2 n2 h2=>aL hT ?_⟩;exact (sw (H2:=H2) (n2:=n2) h0 (tY ho.2) hl h2).2.2
 ·obtain⟨e1,e2⟩:=qh (E6 h1) hl;subst e1 e2
  rfl
theorem sq (hT:bg P Ty):∀ (l:List Oper) (O:Env) (H:ax) (n:Nat),evalW P f N k Q Ty W l O H n->HU P N ops W (fun s=>J P f N k s.1 s.2.1 s.2.2 Q) l (O,H,n)
 | [],O,H,n,h=>h
 | o::l,O,H,n,h=>by
  obtain⟨hg,h⟩:=h;cases hs:bl Ty o.dst o.op O H n with
  | none=>rw[hs] at h;exact h.elim
  | some r=>
   obtain⟨v,H',n'⟩:=r;rw[hs] at h;exact⟨_,mT.sY hT (by simp[gG,hg]) hs h.1,sq hT l _ _ _ h.2⟩
theorem J.evalWE (hT:bg P Ty) (W:List Id) {id:Nat} {ops:List Oper} (hm:P.follows .mixedOrders=true) (hN:ops.all (fun o=>eF N o.dst)=true) (hB:pY iL ops.toArray=true)
  (h:∀ k':List Item,(∀ O H n,J P f N k O H n Q->J P f N k' O H n Q)->evalW P f N k' Q Ty W ops O H n):J P f N (.code (.region id ops.toArray true)::k) O H n Q:=
 J.drawW W hm hN hB (sq hT ops _ _ _ (h k fun _ _ _ h=>h))
end
section
variable {P:Program} {f f':FuncId} {N:Nat} {k:List Item} {Q:au->ax->Nat->Prop} {Ty:Types} {W:List Id} {L:List Oper} {O:Env} {H:ax} {n:Nat} {K K1 K2:List cm} {ids:List Id} {t:TypeId} {j:TI} {l:List Sh} {v:au} {es:List (List au)} {o:Oper}
theorem xQ {d:Nat} {x:au} (K1 K2:List cm) (add adds:List (List au)) (hno:kP W O o.op) (h:Sep H n ((.s l,v,.list true es)::(K1++K2)) ids) (hk:kd Ty t = .slice j) (hj:j.size=l.length) (hz:j.zero.length=j.size/\j.bytes<=131072)
  (hx:cb H x=some add) (ho:add.all (fun e=>e.all Ab.aH)=true) (hadd:∀ S,Row H (K1.map (·.1)) (K1.map (·.2.1)) (K1.map (·.2.2)) S->bL (Row H l) add adds S) (hne:adds ≠ []) (hlen:es.length+adds.length<=1073741824)
  (hc:∀ v' H' n',Sep H' n' ((.s l,v',.list true (es++adds))::K2) ids->(∀ i ∈ ids,H' i=H i)->n<=n'->(∀ i ∈ W,H' i=H i)/\evalW P f N k Q Ty W L (O.put o.dst v') H' n'):uy P f N k Q Ty W (bb Ty (some d) t v x H n) o L O H:=by
 obtain⟨v',H',n',h1,h2,h3,h4⟩:=Sep.append (d:=d) h hk hj hz hx ho hadd hne hlen;rw[h1];obtain⟨h5,h6⟩:=hc v' H' n' h2 h3 h4;exact rq h5 hno h6
theorem o9 {d:Nat} {x:au} (add:List (List au)) (hno:kP W O o.op) (h:Sep H n ((.s l,v,.list true es)::K) ids) (hf:∀ t ∈ l,t = .c) (hk:kd Ty t = .slice j) (hj:j.size=l.length) (hz:j.zero.length=j.size/\j.bytes<=131072)
  (hx:cb H x=some add) (ho:∀ e ∈ add,e.length=l.length/\∀ a ∈ e,b4 a/\Ab.aH a=true) (hlen:es.length+add.length<=1073741824)
  (hc:∀ v' H' n',Sep H' n' ((.s l,v',.list true (es++add))::K) ids->(∀ i ∈ ids,H' i=H i)->n<=n'->(∀ i ∈ W,H' i=H i)/\evalW P f N k Q Ty W L (O.put o.dst v') H' n'):uy P f N k Q Ty W (bb Ty (some d) t v x H n) o L O H:=by
 obtain⟨v',H',n',h1,h2,h3,h4⟩:=Sep.eu (d:=d) h hf hk hj hz hx ho hlen;rw[h1];obtain⟨h5,h6⟩:=hc v' H' n' h2 h3 h4;exact rq h5 hno h6
theorem tS {α:Type} {g:α->List au} {xs:List α} {lo hi:Option Operand} {d:Option Tmp} {x:Operand} {ty:TypeId} {pos:String} {af:Array Edge} (a b:Int) (hW:∀ i ∈ ql v,i ∈ W) (hv:O.ev x=v) (h:Sep H n ((.s l,v,.list true (xs.map g))::K) ids) (hf:∀ t ∈ l,t = .c) (hk:kd Ty t = .slice j) (hj:j.size=l.length)
  {lo' hi':Option au} (hlo:bJ lo' 0=some a) (hhi:bJ hi' xs.length=some b) (hb:0<=a/\a<=b/\b<=xs.length)
  (hc:∀ w,cb H w=some (((xs.take b.toNat).drop a.toNat).map g)->evalW P f' N k Q Ty W L (O.put d w) H n):uy P f' N k Q Ty W ((cH Ty H t v lo' hi').map fun z=>(z,H,n)) ⟨d,.slice t x lo hi none,ty,pos,af,none⟩ L O H:=by
 obtain⟨w,h1,h2⟩:=Sep.IP h hf hk hj hlo hhi hb;rw[h1,Option.map_some,CS];refine⟨?_,hc w h2⟩;show qM W (O.ev x);rw[hv];cases v with
 | arr id g a b=>exact hW id (by simp[ql])
 | ptr id g a b=>simp[cH] at h1
 | _=>trivial
end
end Go.Ab
namespace Go.Ab
open Go.RowKit Go.ChangeAt Go.WideShapes Go.ChangeShapes
def rn (w:World) (as1:List au) (cs:List Value):Prop:=
 as1.length=cs.length/\∀ (c:Ctx),c.w=w->(∀ id,c.H id=none)->∀ (j:Nat) (a:au) (x:Value),as1[j]?=some a->cs[j]?=some x->cn c a x
def Reader (P:Program) (t:TypeId) {α:Type} (e:α->List au) (ok:α->Prop):Prop:=
 ∀ (H:Type) (enc:TypeId × Value->H) (w:World) (base:Nat) (spare:Nat->Bool) (held:Bool) (fuel:Nat) (cs:List Value) (x:DataW H × List MemPlace),DataW.trod enc P w base spare held fuel t cs=some x->∃ a,ok a/\rn w (e a) cs
section
variable {P:Program} {t:TypeId}
theorem rn.v (w:World) (x:Value):rn w [.v x] [x]:=⟨rfl,fun _ _ _ j a y ha hy=>by
 match j with
 | 0=>simp at ha hy;subst ha hy;exact .v _
 | j+1=>simp at ha⟩
theorem Reader.int (hu:P.underlying t=some (.int .i64)):Reader P t (fun n:Int=>[int n]) (fun n => -9223372036854775808<=n/\n<=9223372036854775807):=by
 intro H enc w base spare held fuel cs x h;obtain⟨n,rfl,_,hw⟩:=DataW.trod_int hu h;refine⟨n,?_,rn.v w _⟩;simp[Lit.wf] at hw;have h1:IntKind.i64.min = -9223372036854775808:=by decide
 have h2:IntKind.i64.max=9223372036854775807:=by decide
 omega
theorem Reader.str (hu:P.underlying t=some .string):Reader P t (fun s:a6=>[Ab.str s]) (fun s=>s.length<=9223372036854775807):=by
 intro H enc w base spare held fuel cs x h;obtain⟨s,rfl,_,hs⟩:=DataW.trod_string hu h;have hm:maxLen=9223372036854775807:=by decide
 refine⟨s.data.toList,?_,?_⟩
 ·have:s.data.toList.length=s.size:=rfl;omega
 exact rn.v w (.string s)
theorem Reader.map {α β:Type} {e:α->List au} {ok:α->Prop} {e':β->List au} {ok':β->Prop} (h:Reader P t e ok) (f:α->β) (he:∀ a,e' (f a)=e a) (hok:∀ a,ok a->ok' (f a)):Reader P t e' ok':=by
 intro H enc w base spare held fuel cs x hx;obtain⟨a,h1,h2⟩:=h H enc w base spare held fuel cs x hx;exact⟨f a,hok a h1,by rw[he];exact h2⟩
def cr (P:Program) (fs:List Field) (off total:Nat) {α:Type} (e:α->List au) (ok:α->Prop):Prop:=
 ∀ (H:Type) (enc:TypeId × Value->H) (w:World) (base:Nat) (spare:Nat->Bool) (held:Bool) (fuel:Nat) (cs:List Value),cs.length=total->(∀ f ∈ fs,∃ x,DataW.trod enc P w base spare held fuel f.type ((cs.drop f.offset).take (P.cellsOf f.type))=some x)->∃ a,ok a/\rn w (e a) (cs.drop off)
theorem cr.nil (n:Nat):cr P [] n n (fun _:Unit=>[]) (fun _=>True):=by
 intro H enc w base spare held fuel cs hl _;refine⟨(),trivial,?_⟩;rw[List.drop_of_length_le (by omega)];exact⟨rfl,fun _ _ _ j a x ha=>by simp at ha⟩
theorem rn.append {w:World} {as1 bs:List au} {cs ds:List Value} (h:rn w as1 cs) (k:rn w bs ds):rn w (as1++bs) (cs++ds):=by
 refine⟨by simp[h.1,k.1],fun c hw hH j a x ha hx=>?_⟩;rcases Nat.lt_or_ge j as1.length with hj | hj
 ·rw[List.getElem?_append_left hj] at ha;rw[List.getElem?_append_left (by rw[<- h.1];exact hj)] at hx;exact h.2 c hw hH j a x ha hx
 ·rw[List.getElem?_append_right hj] at ha;rw[List.getElem?_append_right (by rw[<- h.1];exact hj),<- h.1] at hx;exact k.2 c hw hH _ a x ha hx
theorem cr.cons {f:Field} {fs:List Field} {off n total:Nat} {α β:Type} {e:α->List au} {ok:α->Prop} {e':β->List au} {ok':β->Prop} (ho:f.offset=off) (hn:P.cellsOf f.type=n) (h:Reader P f.type e ok) (k:cr P fs (off+n) total e' ok') :
  cr P (f::fs) off total (fun p:α × β=>e p.1++e' p.2) (fun p=>ok p.1/\ok' p.2):=by
 intro H enc w base spare held fuel cs hl hx;obtain⟨x,h1⟩:=hx f (by simp);obtain⟨a,ha,hra⟩:=h H enc w base spare held fuel _ x h1;obtain⟨b,hb,hrb⟩:=k H enc w base spare held fuel cs hl (fun g hg=>hx g (by simp[hg]));refine⟨(a,b),⟨ha,hb⟩,?_⟩;have:=rn.append hra hrb;rw[ho,hn,<- List.drop_drop,List.take_append_drop] at this;exact this
theorem Reader.struct {fs:Array Field} {α:Type} {e:α->List au} {ok:α->Prop} {n:Nat} (hu:P.underlying t=some (.struct fs)) (hn:P.cellsOf t=n) (h:cr P fs.toList 0 n e ok):Reader P t e ok:=by
 intro H enc w base spare held fuel cs x hx;obtain⟨xs,m,_,_,hl,hxl,hf⟩:=DataW.trod_struct hu hx;obtain⟨a,ha,hr⟩:=h H enc w base spare held m cs (hl.trans hn) (fun f hm=>by
  obtain⟨i,hi⟩:=List.getElem?_of_mem hm;have hlt:i<xs.length:=by rw[hxl];simpa using (List.getElem?_eq_some_iff.1 hi).1
  exact⟨xs[i],by rw[hf i f (by simpa using hi)];exact List.getElem?_eq_getElem hlt⟩)
 exact⟨a,ha,hr⟩
theorem rS {α:Type} {Q:Nat->α->Prop}:∀ n,(∀ i,i<n->∃ a,Q i a)->∃ l:List α,l.length=n/\∀ i a,l[i]?=some a->Q i a
 | 0,_=>⟨[],rfl,by simp⟩
 | n+1,h=>by
  obtain⟨l,hl,hq⟩:=rS n fun i hi=>h i (by omega)
  obtain⟨a,ha⟩:=h n (by omega);refine⟨l++[a],by simp[hl],fun i b hb=>?_⟩;rcases Nat.lt_or_ge i n with hi | hi
  ·rw[List.getElem?_append_left (by omega)] at hb;exact hq i b hb
  ·rw[List.getElem?_append_right (by omega)] at hb;have:i - l.length=0:=by
    rcases Nat.eq_zero_or_pos (i - l.length) with h | h
    ·exact h
    ·rw[List.getElem?_eq_none (by simp;omega)] at hb;cases hb
   rw[this] at hb;simp at hb;subst hb;rw[show i=n by omega];exact ha
theorem F5 {w:World} {base n:Nat} {a:Addr} {cs:List Value} (h:w.cells? base a n=some cs):cs.length=n/\∀ (j:Nat) x,cs[j]?=some x->w.cell? (a.add j)=some x:=by
 unfold World.cells? at h
 split at h
 ·have hl:=mapM_some_length h;simp at hl;refine⟨hl,fun j x hx=>?_⟩;have hj:j<n:=by rw[<- hl];exact (List.getElem?_eq_some_iff.1 hx).1
  rw[mapM_some_get h j j (by simp[hj]),hx]
 ·cases h
theorem Reader.slice {t':TypeId} {α:Type} {e:α->List au} {ok:α->Prop} (hu:P.underlying t=some (.slice t')) (hpos:0<P.cellsOf t') (h:Reader P t' e ok) :
  Reader P t (fun l:List α=>[.list false (l.map e)]) (fun l=>l.length<=9223372036854775807/\∀ a ∈ l,ok a):=by
 intro H enc w base spare held fuel cs x hx;rcases DataW.trod_slice hu hx with ⟨rfl,_⟩ | ⟨a,len,cap,elems,rest,n,_,rfl,_,_,hlc,hcm,hel,hat,_,_⟩
 ·refine⟨[],⟨by simp,by simp⟩,rfl,fun c hw hH j y z hy hz=>?_⟩
  match j with
  | 0=>simp at hy hz;subst hy hz;exact .lnil false
  | j+1=>simp at hy
 ·have hall:∀ i,i<len->∃ b,ok b/\∃ ci,w.cells? base (a.add (i * P.cellsOf t')) (P.cellsOf t')=some ci/\rn w (e b) ci:=by
   intro i hi;have:=hat i hi;rw[List.getElem?_eq_getElem (by omega)] at this;cases hc:w.cells? base (a.add (i * P.cellsOf t')) (P.cellsOf t') with
   | none=>rw[hc] at this;cases this
   | some ci=>
    rw[hc] at this;obtain⟨b,hb,hr⟩:=h H enc w base spare held n ci _ this;exact⟨b,hb,ci,rfl,hr⟩
  obtain⟨l,hl,hq⟩:=rS len hall;have hm:maxLen=9223372036854775807:=by decide
  have hl9:l.length<=9223372036854775807:=by omega
  refine⟨l,⟨hl9,fun b hb=>?_⟩,rfl,fun c hw hH j y z hy hz=>?_⟩
  ·obtain⟨i,hi⟩:=List.getElem?_of_mem hb;exact (hq i b hi).1
  match j with
  | j+1=>simp at hy
  | 0=>
  simp at hy hz;subst hy hz;have hcell:∀ (i:Nat) b,l[i]?=some b->∃ ci,rn w (e b) ci/\ci.length=P.cellsOf t'/\∀ (q:Nat) x,ci[q]?=some x->w.cell? ((a.add (i * P.cellsOf t')).add q)=some x:=by
   intro i b hb;obtain⟨_,ci,h1,h2⟩:=hq i b hb;obtain⟨h3,h4⟩:=F5 h1;exact⟨ci,h2,h3,h4⟩
  have hfirst:l ≠ []->a.spot=none/\a.block<w.heap.size:=by
   intro hne;obtain⟨b,hb⟩:∃ b,l[0]?=some b:=bw (List.length_pos_iff.2 hne);obtain⟨ci,_,h3,h4⟩:=hcell 0 b hb;obtain⟨x,hx⟩:∃ x,ci[0]?=some x:=bw (by omega);have:=h4 0 x hx
   constructor
   ·simpa[Addr.add] using World.cell?_spot this
   ·have h5:=this;unfold World.cell? at h5;rcases Nat.lt_or_ge a.block w.heap.size with hlt | hge
    ·exact hlt
    ·have:w.heap[a.block]?=none:=Array.getElem?_eq_none hge;simp[Addr.add,this] at h5
  have key:∀ (i:Nat) (b:α) (q:Nat) (y:au),l[i]?=some b->(e b)[q]?=some y->∃ x,w.cell? ⟨a.block,a.off+(i * P.cellsOf t'+q),none⟩=some x/\cn c y x:=by
   intro i b q y hb hy;obtain⟨ci,hr,h3,h4⟩:=hcell i b hb;have hql:q<ci.length:=by rw[<- hr.1];exact (List.getElem?_eq_some_iff.1 hy).1
   obtain⟨x,hx⟩:=bw hql;refine⟨x,?_,hr.2 c hw hH q y x hy hx⟩;have h5:=h4 q x hx;have hsp:=(hfirst (by intro h0;subst h0;simp at hb)).1;obtain⟨b0,o0,s0⟩:=a;simp only at hsp;subst hsp;simp only[Addr.add_lit] at h5;rw[<- Nat.add_assoc];exact h5
  have:=cn.list (c:=c) false (l.map e) a cap (P.cellsOf t') (fun i q=>(w.cell? ⟨a.block,a.off+(i * P.cellsOf t'+q),none⟩).getD Go.undef) (fun hne=>(hfirst (by intro h0;subst h0;simp at hne)).1) (by simp;omega)
   (fun hne=>⟨Bh hH _,by rw[hw];exact (hfirst (by intro h0;subst h0;simp at hne)).2,fun h=>by cases h⟩)
   (fun i el he=>by
    obtain⟨b,hb,rfl⟩:=dz he;obtain⟨ci,hr,h3,_⟩:=hcell i b hb;rw[hr.1,h3])
   (fun i el q y he hy=>by
    obtain⟨b,hb,rfl⟩:=dz he;obtain⟨x,hx,_⟩:=key i b q y hb hy;rw[hw,hx]
    rfl)
   (fun i el q y he hy=>by
    obtain⟨b,hb,rfl⟩:=dz he;obtain⟨x,hx,hr⟩:=key i b q y hb hy;rw[hx];exact hr)
  rw[List.length_map,hl] at this;exact this
def uY (P:Program) (t:TypeId) {α:Type} (e:α->au) (ok:α->Prop):Prop:=
 ∀ (H:Type) (enc:TypeId × Value->H) (W:World) (base:Nat) (v:Value) (d:DataW H) (p:List MemPlace),Value.okWide P W .any base t v->DataW.Trod enc P W 0 (fun _=>true) true t v d p ->
  ∃ a,ok a/\∀ c:Ctx,c.w=W->(∀ id,c.H id=none)->cn c (e a) v
theorem uY.struct {fs:Array Field} {α:Type} {e:α->List au} {ok:α->Prop} (hu:P.underlying t=some (.struct fs)) (h:Reader P t e ok):uY P t (fun a=>.agg (e a)) ok:=by
 intro H enc W base v d p hv ⟨fuel,hd⟩;obtain⟨a,ha,hl,hr⟩:=h H enc W 0 _ true fuel _ _ hd;refine⟨a,ha,fun c hw hH=>?_⟩;simp only[Value.okWide,hu] at hv;obtain⟨cs,rfl,_,_⟩:=hv;have:=cn.agg (c:=c) (e a) cs.toList (by simpa[Value.cells] using hl) (fun i b x hb hx=>hr c hw hH i b x hb (by simpa[Value.cells] using hx));simpa using this
theorem uY.cell {α:Type} {x:α->au} {ok:α->Prop} (hc:∀ (W:World) (base:Nat) (v:Value),Value.okWide P W .any base t v->v.cells=#[v]) (h:Reader P t (fun a=>[x a]) ok):uY P t x ok:=by
 intro H enc W base v d p hv ⟨fuel,hd⟩;obtain⟨a,ha,hl,hr⟩:=h H enc W 0 _ true fuel _ _ hd;refine⟨a,ha,fun c hw hH=>?_⟩;exact hr c hw hH 0 _ v rfl (by rw[hc W base v hv];rfl)
theorem CY {e:TypeId} (hu:P.underlying t=some (.slice e)) (W:World) (base:Nat) (v:Value) (h:Value.okWide P W .any base t v):v.cells=#[v]:=by
 simp only[Value.okWide,hu,Cell.okWide] at h;cases v<;>first | rfl | (simp[Cell.ok,hu] at h)
def nB (P:Program) (ts:List TypeId) {α:Type} (e:α->List au) (ok:α->Prop):Prop:=
 ∀ (H:Type) (enc:TypeId × Value->H) (W:World) (base:Nat) (vs:List Value) (ds:List (DataW H)) (p:List MemPlace),(∀ (j:Nat) t v,ts[j]?=some t->vs[j]?=some v->Value.okWide P W .any base t v) ->
  DataW.TrodAll enc P W 0 (fun _=>true) true ts vs ds p->∃ a,ok a/\∀ c:Ctx,c.w=W->(∀ id,c.H id=none)->eB c (e a) vs
theorem nB.nil:nB P [] (fun _:Unit=>[]) (fun _=>True):=by
 intro H enc W base vs ds p _ h;obtain⟨rfl,_,_⟩:=ChangeShapes.trodAll_nil h;exact⟨(),trivial,fun c _ _=>⟨rfl,fun i a x ha=>by simp at ha⟩⟩
theorem nB.cons {ts:List TypeId} {α β:Type} {e:α->au} {ok:α->Prop} {e':β->List au} {ok':β->Prop} (h:uY P t e ok) (k:nB P ts e' ok'):nB P (t::ts) (fun p:α × β=>e p.1::e' p.2) (fun p=>ok p.1/\ok' p.2):=by
 intro H enc W base vs ds p hv hA;obtain⟨v,vs',d,ds',q1,q2,rfl,rfl,rfl,h1,h2⟩:=ChangeShapes.trodAll_cons hA;obtain⟨a,ha,hr⟩:=h H enc W base v d q1 (hv 0 t v rfl rfl) h1;obtain⟨b,hb,hs⟩:=k H enc W base vs' ds' q2 (fun j u x hu hx=>hv (j+1) u x (by simpa using hu) (by simpa using hx)) h2;refine⟨(a,b),⟨ha,hb⟩,fun c hw hH=>?_⟩;have r1:=hr c hw hH;obtain⟨r2,r3⟩:=hs c hw hH;refine⟨by simp[r2],fun i y x hy hx=>?_⟩
 match i with
 | 0=>simp at hy hx;subst hy hx;exact r1
 | i+1=>exact r3 i y x (by simpa using hy) (by simpa using hx)
theorem aF.calls {f:FuncId} {args:List au} {x:Value} (h:aF P f args (fun r=>r = .v x)) (W:World) (xs:List Value) (hr:∀ c:Ctx,c.w=W->(∀ id,c.H id=none)->eB c args xs) :
  Calls P f xs.toArray W fun e W'=>e = .returned x/\Below W.heap.size W W':=by
 refine (h ⟨W.heap.size,fun _=>0,bx,0,W⟩ xs rfl rfl (oo W) (hr _ rfl (fun _=>rfl))).mono ?_;rintro e w' ⟨y,v,c',he,hw,⟨r,hres,hR⟩,hv,hg,hk⟩;subst hw hR;have hy:=(hres c' y rfl rfl hg hv ⟨0,fun _=>0,bx,0,c'.w⟩ rfl (fun k hk=>by obtain⟨id,o,ho,_⟩:=hk;cases ho) (Nat.zero_le _)).cd;subst hy;exact⟨he,hk.os,hk.tape,hk.output,hk.size,fun k V=>(hk.imm k V (by rintro⟨id,o,ho,_⟩;cases ho)).1⟩
theorem Below.trodAll {H:Type} {enc:TypeId × Value->H} (hl:laidOutB P=true) {W W':World} (hb:Below W.heap.size W W'):∀ {ts:List TypeId} {vs:List Value} {ds:List (DataW H)} {ps:List MemPlace},
  ts.all (fun t=>P.readableRec t && decide (t<P.types.size))=true->DataW.TrodAll enc P W 0 (fun _=>true) true ts vs ds ps->(∀ x ∈ ps,x.block<W.heap.size)->DataW.TrodAll enc P W' 0 (fun b=>decide (b<W.heap.size)) true ts vs ds ps
 | [],vs,ds,ps,_,h,_=>by
  obtain⟨rfl,rfl,rfl⟩:=ChangeShapes.trodAll_nil h;exact rfl
 | t::ts,vs,ds,ps,hr,h,hp=>by
  obtain⟨v,vs',d,ds',q1,q2,rfl,rfl,rfl,h1,h2⟩:=ChangeShapes.trodAll_cons h;simp only[List.all_cons,Bool.and_eq_true,decide_eq_true_eq] at hr;exact⟨q1,q2,Go.RowKit.Below.trod hl hr.1.1 hr.1.2 h1 hb (fun x hx=>hp x (by simp[hx])),Below.trodAll hl hb (by simpa using hr.2) h2 (fun x hx=>hp x (by simp[hx])),rfl⟩
theorem Fw {H:Type} {enc:TypeId × Value->H} {fn:Func} {s:ChangeSpec} {fresh handsOn:Bool} {W W':World} {args:Array Value} {ds gs:List (DataW H)} {before:List MemPlace} {tb:TypeId}
  (hl:laidOutB P=true) (hvars:s.vars=[]) (hrt:fn.resultTypes=#[tb]) (htb:P.underlying tb=some .bool) (hread:fn.params.toList.all (fun t=>P.readableRec t && decide (t<P.types.size))=true)
  (hres:(s.fn H ds).results=[.lit (.bool true)]) (hargs:(s.fn H ds).args=ds) (hvs:(s.fn H ds).vars=[]) (hW:DataW.Whole enc P fn.params.toList s.vars false W args.toList ds gs before) (hb:Below W.heap.size W W') :
  s.post enc P fn false fresh handsOn false W args (.bool true) W':=by
 have hlt:∀ x ∈ before,x.block<W.heap.size:=fun x hx=>by simpa using hW.lt x hx
 have hW0:=hW;obtain⟨p,q,hA,hV,rfl,_,_⟩:=hW0;rw[hvars] at hV;obtain⟨hgs,hq⟩:=ChangeShapes.trodVars_none hV;subst hgs hq;refine⟨ds,[],p++[],[],p,[],hW,?_,?_,?_,hb.frame _,fun h=>by cases h⟩
 ·rw[List.append_nil,hres,hrt];exact ChangeShapes.trodAll_mk1 (shut_bool htb true)
 ·rw[List.append_nil,hargs];exact Below.trodAll hl hb hread hA (fun x hx=>hlt x (by simp[hx]))
 ·rw[List.append_nil,hvs,hvars];exact rfl
theorem sC {H:Type} {enc:TypeId × Value->H} {w:World} {base:Nat} {M:Nat->Bool} {hd:Bool}:∀ {ts:List TypeId} {vs:List Value} {ds:List (DataW H)} {ps:List MemPlace},DataW.TrodAll enc P w base M hd ts vs ds ps->ds.length=ts.length
 | [],vs,ds,ps,h=>by obtain⟨_,rfl,_⟩:=ChangeShapes.trodAll_nil h;rfl
 | t::ts,vs,ds,ps,h=>by
  obtain⟨v,vs',d,ds',q1,q2,rfl,rfl,rfl,h1,h2⟩:=ChangeShapes.trodAll_cons h;simp[sC h2]
end
theorem Gv {C:Checked} {os:Os} {f:FuncId} {fn:Func} {s:ChangeSpec} {laid:List (String × DataW Unit)} {α:Type} {e:α->List au} {ok:α->Prop} {tb:TypeId} {H:Type} {enc:TypeId × Value->H}
  (own:ownKnob C.prog.godebug=none) (started:os.Started) (hinit:C.prog.inits.idxOf? f=none) (hfn:C.prog.funcs[f]?=some fn) (hl:laidOutB C.prog=true)
  (wit:∃ (w:World) (tape:Tape) (i:Input),w.os=os/\(w.forCall tape i).Shaped C.prog/\i.vars=[]/\Input.okWide C.prog (w.forCall tape i) .any w.heap.size f i /\
   ((s.pre enc C.prog fn [] false (w.forCall tape i).memory i.args/\laidMetH C.prog laid (w.forCall tape i).memory)/\sizedMet enc C.prog fn (OpenSpec.ofChange s) false (w.forCall tape i).memory i.args)/\({}:Assume).holds C.prog (lone (Frame.enter C.prog f i.args .normal) [] (w.forCall tape i)))
  (hR:nB C.prog fn.params.toList e ok) (hlaw:∀ a,ok a->aF C.prog f (e a) (fun r=>r = .v (.bool true)))
  (hvars:s.vars=[]) (hrt:fn.resultTypes=#[tb]) (htb:C.prog.underlying tb=some .bool) (hread:fn.params.toList.all (fun t=>C.prog.readableRec t && decide (t<C.prog.types.size))=true)
  (hs:∀ ds:List (DataW H),ds.length=fn.params.toList.length->(s.fn H ds).results=[.lit (.bool true)]/\(s.fn H ds).args=ds/\(s.fn H ds).vars=[]) :
  ReturnsInHanded {} C os f .any (fun w args=>(s.pre enc C.prog fn [] false w args/\laidMetH C.prog laid w)/\sizedMet enc C.prog fn (OpenSpec.ofChange s) false w args)
   (s.post enc C.prog fn false true false false):=by
 refine returnsInHanded_of_change_and (C:=C) (X:=fun w _=>laidMetH C.prog laid w) (fun _ _ _ E h=>h.of_heap E) own started hinit hfn wit ?_;intro W base args ds gs before hval hW _ _ _ _;have hW0:=hW;obtain⟨p,q,hA,_,_,_,_⟩:=hW0;have hlen:=sC hA;obtain⟨a,ha,hr⟩:=hR H enc W base args.toList ds p (fun j t v ht hv=>hval j t v (by simpa using ht) (by simpa using hv)) hA;obtain⟨h1,h2,h3⟩:=hs ds hlen;have hc:=aF.calls (hlaw a ha) W args.toList hr;rw[Array.toArray_toList] at hc;apply hc.mono;rintro e W' ⟨he,hb⟩;exact⟨_,he,Fw hl hvars hrt htb hread h1 h2 h3 hW hb⟩
end Go.Ab
