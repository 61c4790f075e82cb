/- Merged texts (5 of 16) of the proof that ends in Kyy: Sy Sz Sm Sl Su R. -/
import Derived.Test.YtkgmflihalaheaaGreatDoorAbQky4
import Derived.Lib.SlicesCompact
import Derived.ProofKit
import Derived.LaidMore
import Derived.OpenShut
import Derived.Lay
import Derived.Stop.Joined
set_option linter.unusedSectionVars false
set_option linter.unusedSimpArgs false
set_option linter.unusedVariables false
namespace Go.Ab
variable [Inhabited cD]
abbrev cy (L:Array Bool) (j:Nat):Prop:=L.getD j false=true
theorem cy.set {L:Array Bool} {i j:Nat} (h:cy (L.setIfInBounds i true) j):j=i\/cy L j:=by
 by_cases hij:i=j
 ·exact .inl hij.symm
 ·refine .inr ?_;rw[cy,getD_set_ne false hij] at h;exact h
theorem cy.gy {L:Array Bool} {i j:Nat} (h:cy L j):cy (L.setIfInBounds i true) j:=by
 by_cases hij:i=j
 ·subst hij;have:i<L.size:=by
   rcases Nat.lt_or_ge i L.size with h' | h'
   ·exact h'
   ·simp[cy,h'] at h
  simp[cy,this]
 ·rw[cy,getD_set_ne false hij];exact h
theorem fX {L:Array Bool} {i:Nat} (h:i<L.size):cy (L.setIfInBounds i true) i:=by simp[cy,h]
theorem jI {L:Array Bool} {i:Nat} (h:i<L.size):¬ cy L i↔L.getD i true=false:=by
 simp[cy,h]
theorem oe {α:Type} {p q:α->Bool}:∀ {l:List α},(∀ x ∈ l,p x=true->q x=true)->(∃ x ∈ l,q x=true/\p x=false)->l.countP p<l.countP q
 | [],_,⟨_,h,_⟩=>by cases h
 | y::l,h,⟨x,hx,h1,h2⟩=>by
  have hle:l.countP p<=l.countP q:=List.countP_mono_left fun z hz=>h z (by simp[hz])
  rcases List.mem_cons.1 hx with rfl | hx
  ·rw[List.countP_cons_of_pos h1,List.countP_cons_of_neg (by simp[h2])];omega
  ·have:=oe (l:=l) (fun z hz=>h z (by simp[hz])) ⟨x,hx,h1,h2⟩;have hy:=h y (by simp);simp only[List.countP_cons]
   by_cases hp:p y=true
   ·rw[if_pos hp,if_pos (hy hp)];omega
   ·rw[if_neg hp];split<;>omega
def jM (P:Program) (N:Nat) (ops:Array Oper) (Inv:Array Bool->AS->Prop) (i:Nat):Prop:=
 ∀ L s,Inv L s->i ∈ Region.ready .any ops L->∃ o,ops[i]?=some o/\o.guard=none/\aI P N o (loc o.op s.1) s.2.1 s.2.2 fun v H' n'=>Inv (L.setIfInBounds i true) (s.1.put o.dst v,H',n')
section
variable {P:Program} {N:Nat} {ops:Array Oper}
theorem rJ {Inv:Array Bool->AS->Prop} {R:AS->Prop} (hN:ops.toList.all (fun o=>dA N o.dst)=true) {Q:Exit->Act->World->Prop} {c0:Ctx} (hQ:∀ a c O,bn c0 c->Good c->cN N c O a->R (O,c.H,c.n)->Q .normal a c.w)
  (step:∀ i,jM P N ops Inv i) (fin:∀ L s,Inv L s->Region.ready .any ops L=[]->R s) :
  ∀ (fuel:Nat) (L:Array Bool) (O:Env) (c:Ctx) (a:Act),bn c0 c->Good c->cN N c O a->Inv L (O,c.H,c.n)->(List.range ops.size).countP (fun i => !(L.getD i true))<=fuel->wpAny P .any ops Q fuel L a c.w
 | 0,L,O,c,a,hk,g,r,h,hf=>by
  have hr:Region.ready .any ops L=[]:=by
   cases hl:Region.ready .any ops L with
   | nil=>rfl
   | cons i l=>
    have hi:i ∈ Region.ready .any ops L:=by rw[hl];simp
    obtain⟨h1,o,ho,_⟩:=mem_ready.1 hi;have hlt:i<ops.size:=(Array.getElem?_eq_some_iff.1 ho).1;have:0<(List.range ops.size).countP (fun i => !(L.getD i true)):=List.countP_pos_iff.2 ⟨i,List.mem_range.2 hlt,by simp only[h1,Bool.not_false]⟩;omega
  exact⟨hr,hQ _ _ _ hk g r (fin _ _ h hr)⟩
 | fuel+1,L,O,c,a,hk,g,r,h,hf=>by
  refine⟨fun h0=>hQ _ _ _ hk g r (fin _ _ h h0),fun i hi=>?_⟩;obtain⟨o,ho,hg,hop⟩:=step i L _ h hi;obtain⟨hu,o',ho',_⟩:=mem_ready.1 hi;have hlt:i<ops.size:=(Array.getElem?_eq_some_iff.1 ho).1;have hd:dA N o.dst=true:=List.all_eq_true.1 hN o (by rw[<- Array.getElem?_toList] at ho;exact List.mem_of_getElem? ho);unfold wpOp;simp only[ho];rw[if_pos (b8 r hN (by simp[eK,hg]))];refine .inl (hop c a rfl rfl g (r.loc o.op) _ _ ?_);rintro v1 x c' hpost hrep hgood hkeep;refine rJ hN hQ step fin fuel _ _ c' _ (hk.trans hkeep) hgood ((r.keeps hkeep).put hd hrep) hpost ?_;have:(List.range ops.size).countP (fun j => !((L.setIfInBounds i true).getD j true))<(List.range ops.size).countP (fun j => !(L.getD j true)):=by
   refine oe (fun x _ hx=>?_) ⟨i,List.mem_range.2 hlt,by simp only[hu,Bool.not_false],?_⟩
   ·by_cases hix:i=x
    ·subst hix;simp only[hu,Bool.not_false]
    ·rw[getD_set_ne true hix] at hx;exact hx
   ·have:(L.setIfInBounds i true).getD i true=true:=by
     by_cases hs:i<L.size<;>simp[hs]
    simp only[this,Bool.not_true]
  omega
end
section
variable {P:Program} {f:FuncId} {N:Nat} {k:List Item} {O:Env} {H:Heap} {n:Nat} {Q:I->Heap->Nat->Prop}
theorem J.EB (Inv:Array Bool->AS->Prop) {id:Nat} {ops:List Oper} (hm:P.follows .mixedOrders=true) (hN:ops.all (fun o=>dA N o.dst)=true) (h0:Inv (Array.replicate ops.length false) (O,H,n)) (step:∀ i,jM P N ops.toArray Inv i)
  (fin:∀ L s,Inv L s->Region.ready .any ops.toArray L=[]->J P f N k s.1 s.2.1 s.2.2 Q):J P f N (.code (.region id ops.toArray true)::k) O H n Q:=by
 intro c a hH hn g r b cs hf hk;subst hH;subst hn;obtain⟨d1,d2⟩:=gB g;have hw:(Code.region id ops.toArray true).wp P (fun e a' w'=>e = .normal/\∃ c' ρ',c'.w=w'/\bn c c'/\Good c'/\cN N c' ρ' a'/\J P f N k ρ' c'.H c'.n Q) a c.w:=by
  refine wp_region_any hm ?_;have:=rJ (P:=P) (N:=N) (ops:=ops.toArray) (c0:=c) (Inv:=Inv) (by simpa using hN) (Q:=fun e a' w'=>e = .normal/\∃ c' ρ',c'.w=w'/\bn c c'/\Good c'/\cN N c' ρ' a'/\J P f N k ρ' c'.H c'.n Q)
   (R:=fun s=>J P f N k s.1 s.2.1 s.2.2 Q) (fun a' c' ρ' V hg' hr' hR=>⟨rfl,c',ρ',rfl,V,hg',hr',hR⟩) step fin ops.length (Array.replicate ops.toArray.size false) O { c with w:={ c.w with drawn:=c.w.drawn+1 } } a d1 d2 (r.keeps d1) (by simpa using h0)
   (Nat.le_trans List.countP_le_length (by simp))
  simpa using this
 obtain⟨e,a',w',⟨rfl,c',ρ',rfl,V,hg',hr',hR⟩,harr⟩:=hw b k cs;obtain⟨x,v,c'',fr,q,hr,hg,hke,hst,rest⟩:=hR c' a' rfl rfl hg' hr' b cs hf hk;exact⟨x,v,c'',fr,q,hr,hg,V.trans hke,Steps.trans harr hst,rest⟩
end
def Old (O:Env) (B:List (Nat × I)):Prop:=∀ q ∈ B,O q.1=q.2
def Told (L:Array Bool) (O:Env) (an:List (Nat × Nat × I)):Prop:=∀ q ∈ an,cy L q.1->O q.2.1=q.2.2
def BJ (O:Env) (an:List (Nat × Nat × I)):Prop:=∀ q ∈ an,O q.2.1=q.2.2
theorem Old.at {O:Env} {B:List (Nat × I)} (h:Old O B) (k:Nat) {t:Nat} {v:I} (hk:B[k]?=some (t,v)):O t=v:=h (t,v) (List.mem_of_getElem? hk)
theorem Told.at {L:Array Bool} {O:Env} {an:List (Nat × Nat × I)} (h:Told L O an) (k:Nat) {i t:Nat} {v:I} (hk:an[k]?=some (i,t,v)) (hd:cy L i):O t=v:=h (i,t,v) (List.mem_of_getElem? hk) hd
theorem BJ.at {O:Env} {an:List (Nat × Nat × I)} (h:BJ O an) (k:Nat) {i t:Nat} {v:I} (hk:an[k]?=some (i,t,v)):O t=v:=h (i,t,v) (List.mem_of_getElem? hk)
theorem Old.put {O:Env} {B:List (Nat × I)} {d:Option Nat} {v:I} (h:Old O B) (hd:∀ q ∈ B,d ≠ some q.1):Old (O.put d v) B:=fun q hq=>by
 cases d with
 | none=>exact h q hq
 | some d=>
  have:q.1 ≠ d:=fun e=>hd q hq (by rw[e])
  simp[Env.put,this,h q hq]
theorem Told.put {L:Array Bool} {O:Env} {an F':List (Nat × Nat × I)} {i:Nat} {d:Option Nat} {v:I} (h:Told L O an) (hF:∀ q ∈ F',q.1 ≠ i->cy L q.1->q ∈ an) (hd:∀ q ∈ F',d=some q.2.1->q.1=i) (hv:∀ q ∈ F',q.1=i->d=some q.2.1/\q.2.2=v) :
  Told (L.setIfInBounds i true) (O.put d v) F':=fun q hq hdn=>by
 by_cases e:q.1=i
 ·obtain⟨h1,h2⟩:=hv q hq e;subst h1;simp[Env.put,h2]
 ·have hdone:=hdn.set.resolve_left e;have:=h q (hF q hq e hdone) hdone;cases d with
  | none=>exact this
  | some d=>
   have hne:q.2.1 ≠ d:=fun he=>e (hd q hq (by rw[he]))
   simp[Env.put,hne,this]
def Mem (H0:Heap) (n0:Nat) (K:List bS) (ids:List Id) (ent:List bS) (w:Id) (ob0 ob1:Ob) (dc da ds:Bool) (H:Heap) (n:Nat):Prop:=
 Sep H n ((if dc then ent else [])++K) ((if da then [w] else [])++ids)/\(∀ i ∈ ids,H i=H0 i)/\n0<=n/\(da=true->n0<=w.1/\H w=some (if ds then ob1 else ob0))
structure gS where
 m:Nat
 c:Nat
 a:Nat
 st:Nat
 d:Nat
 B:List (Nat × I)
 an:List I->Nat->List (Nat × Nat × I)
 ent:List I->List bS
 ob0:Ob
 ob1:List I->Ob
 RG:List I->Prop
 onC:List Nat
 onA:List Nat
 H0:Heap
 n0:Nat
 K:List bS
 ids:List Id
def gS.Inv (g:gS) (L:Array Bool) (s:AS):Prop:=
 L.size=g.m/\(∀ j ∈ g.onC,cy L j->cy L g.c)/\(∀ j ∈ g.onA,cy L j->cy L g.a)/\∃ (G:List I) (A:Nat),Old s.1 g.B/\Told L s.1 (g.an G A)/\(cy L g.c->g.RG G) /\
  Mem g.H0 g.n0 g.K g.ids (g.ent G) (A,g.d) g.ob0 (g.ob1 G) (L.getD g.c false) (L.getD g.a false) (L.getD g.st false) s.2.1 s.2.2
section
variable {P:Program} {N:Nat} {ops:Array Oper} {g:gS}
theorem Mem.sep {H0 H:Heap} {n0 n:Nat} {K ent:List bS} {ids:List Id} {w:Id} {ob0 ob1:Ob} {dc da ds:Bool} (h:Mem H0 n0 K ids ent w ob0 ob1 dc da ds H n):Sep H n K ids:=by
 have:=h.1;have h1:Sep H n K ((if da then [w] else [])++ids):=by
  cases dc
  ·simpa using this
  ·exact Sep.right (K1:=ent) this
 exact Sep.sub h1 fun i hi=>by simp[hi]
theorem gS.qP {i m c a st:Nat} {o:Oper} (hi:ops.toList[i]?=some o) (hn:(g.m,g.c,g.a,g.st)=(m,c,a,st)) (hk:(decide (i<m) && decide (i ≠ c/\i ≠ a/\i ≠ st))=true) (hg:o.guard=none)
  (hs:∀ L O H n G A,Old O g.B->Told L O (g.an G A)->(∀ e ∈ o.after,Region.binds .any e=true->cy L e.on)->(cy L g.c->g.RG G)->(∀ j ∈ g.onC,cy L j->cy L g.c)->(∀ j ∈ g.ids,H j=g.H0 j)->Sep H n g.K g.ids ->
   ∃ v,aI P N o (loc o.op O) H n (qJ v H n)/\∀ q ∈ g.an G A,q.1=i->o.dst=some q.2.1/\q.2.2=v)
  (hB:∀ q ∈ g.B,o.dst ≠ some q.1:=by simp) (hF:∀ G A,∀ q ∈ g.an G A,o.dst=some q.2.1->q.1=i:=by intro G' A';simp)
  (hc:i ∈ g.onC->∃ e ∈ o.after,Region.binds .any e=true/\(e.on=g.c\/e.on ∈ g.onC):=by simp) (ha:i ∈ g.onA->∃ e ∈ o.after,Region.binds .any e=true/\(e.on=g.a\/e.on ∈ g.onA):=by simp):jM P N ops g.Inv i:=by
 simp only[Prod.mk.injEq] at hn;obtain⟨rfl,rfl,rfl,rfl⟩:=hn;simp only[Bool.and_eq_true,decide_eq_true_eq] at hk;obtain⟨hm,hne⟩:=hk;rw[Array.getElem?_toList] at hi;intro L s hI hr;obtain⟨hsz,hoc,hoa,G,A,hO,hT,hG,hM⟩:=hI;obtain⟨hu,o',ho',hdep⟩:=mem_ready.1 hr;rw[hi] at ho';cases ho';refine⟨o,hi,hg,?_⟩;obtain⟨v,hop,hv⟩:=hs L s.1 s.2.1 s.2.2 G A hO hT (fun e he hb=>hdep e he hb) hG hoc hM.2.1 hM.sep;apply hop.mono;rintro _ _ _ ⟨rfl,rfl,rfl⟩;refine⟨by simpa using hsz,fun j hj hd=>?_,fun j hj hd=>?_,G,A,hO.put hB,hT.put (fun q hq _ _=>hq) (hF G A) hv,fun hd=>hG (hd.set.resolve_left (Ne.symm hne.1)),?_⟩
 ·rcases hd.set with rfl | hd
  ·obtain⟨e,he,hb,h1 | h1⟩:=hc hj
   ·exact cy.gy (h1 ▸ hdep e he hb)
   ·exact cy.gy (hoc _ h1 (hdep e he hb))
  ·exact cy.gy (hoc j hj hd)
 ·rcases hd.set with rfl | hd
  ·obtain⟨e,he,hb,h1 | h1⟩:=ha hj
   ·exact cy.gy (h1 ▸ hdep e he hb)
   ·exact cy.gy (hoa _ h1 (hdep e he hb))
  ·exact cy.gy (hoa j hj hd)
 ·rw[getD_set_ne false hne.1,getD_set_ne false hne.2.1,getD_set_ne false hne.2.2];exact hM
theorem gS.call {d:Option Tmp} {fo:Operand} {args:Array Operand} {ats:Array TypeId} {ty:TypeId} {pos:String} {af:Array Edge} (hi:ops.toList[g.c]?=some ⟨d,.call ⟨.value fo,args,ats⟩,ty,pos,af,none⟩) {m c a st:Nat} (hn:(g.m,g.c,g.a,g.st)=(m,c,a,st)) (hk:(decide (c<m) && decide (c ≠ a/\c ≠ st))=true)
  {R:I->Prop} {f':FuncId} {sh:Sh} (hown:∃ b4,bK P f' b4 sh R/\∀ L O H n G A,Old O g.B->Told L O (g.an G A)->(∀ e ∈ af,Region.binds .any e=true->cy L e.on)->(∀ j ∈ g.ids,H j=g.H0 j)->Sep H n g.K g.ids->O.ev fo = .fn (.func f') [] []/\bW H n (args.toList.map O.ev) b4) (cP:aZ P f')
  (hun:∀ H n v r ids,Sep H n ((sh,v,r)::g.K) ids->R r->∃ G,g.RG G/\Sep H n (g.ent G++g.K) ids/\∀ A,∀ q ∈ g.an G A,q.1=g.c->d=some q.2.1/\q.2.2=v)
  (hB:∀ q ∈ g.B,d ≠ some q.1:=by simp) (hF:∀ G A,∀ q ∈ g.an G A,d=some q.2.1->q.1=g.c:=by intro G' A';simp) (hFG:∀ G G' A,∀ q ∈ g.an G' A,q.1 ≠ g.c->q.1 ∉ g.onC->q ∈ g.an G A:=by intro G1 G' A';simp) (hcc:g.c ∉ g.onC:=by simp) (hca:g.c ∉ g.onA:=by simp) (hst:g.st ∈ g.onC:=by simp):jM P N ops g.Inv g.c:=by
 simp only[Prod.mk.injEq] at hn;obtain⟨rfl,rfl,rfl,rfl⟩:=hn;simp only[Bool.and_eq_true,decide_eq_true_eq] at hk;obtain⟨hm,hne⟩:=hk;rw[Array.getElem?_toList] at hi;intro L s hI hr;obtain⟨hsz,hoc,hoa,G,A,hO,hT,hG,hM⟩:=hI;obtain⟨hu,o',ho',hdep⟩:=mem_ready.1 hr;rw[hi] at ho';cases ho';have hnd:¬ cy L g.c:=(jI (by omega)).2 hu;have hncd:∀ j ∈ g.onC,¬ cy L j:=fun j hj hd=>hnd (hoc j hj hd)
 refine⟨_,hi,rfl,?_⟩;obtain⟨b4,hO',har⟩:=hown;obtain⟨hfo,hargs⟩:=har L s.1 s.2.1 s.2.2 G A hO hT (fun e he hb=>hdep e he hb) hM.2.1 hM.sep;have hcf:L.getD g.c false=false:=by simpa[cy] using hnd
 have hsf:L.getD g.st false=false:=by simpa[cy] using hncd g.st hst
 obtain⟨m1,m2,m3,m4⟩:=hM;rw[hcf,if_neg (by simp),List.nil_append] at m1;refine (aI.kG (by rw[tT.2];exact hfo) cP (by rw[tT.1];exact hargs) hO' m1).mono ?_;rintro v1 H1 U ⟨r,h1,h2,h3,h4⟩;obtain⟨G',hRG,hS,hq⟩:=hun _ _ _ _ _ h1 h2;refine⟨by simpa using hsz,fun j hj hd=>fX (by omega),fun j hj hd=>?_,G',A,hO.put hB,hT.put (fun q hq h5 h6=>hFG G G' A q hq h5 fun h7=>hncd _ h7 h6) (hF G' A) (hq A),fun _=>hRG,?_⟩
 ·rcases hd.set with rfl | hd
  ·exact absurd hj hca
  ·exact cy.gy (hoa j hj hd)
 ·rw[show (L.setIfInBounds g.c true).getD g.c false=true from fX (by omega),getD_set_ne false hne.1,getD_set_ne false hne.2,hsf];rw[hsf] at m4;refine⟨by simpa using hS,fun i hi'=>(h4 i (by simp[hi'])).trans (m2 i hi'),Nat.le_trans m3 h3,fun hda=>⟨(m4 hda).1,?_⟩⟩;simp only[hda,if_true] at h4;exact (h4 (A,g.d) (by simp)).trans (m4 hda).2
theorem gS.alloc {Ty:Types} (hT':aU P Ty) {t:TypeId} {ti:TI} {ty:TypeId} {pos:String} {af:Array Edge} (hi:ops.toList[g.a]?=some ⟨some g.d,.alloc t,ty,pos,af,none⟩) (hti:Ty t=some ti) (hob:g.ob0=⟨ti.zero.length,[ti.zero.map .v]⟩) {m c a st:Nat} (hn:(g.m,g.c,g.a,g.st)=(m,c,a,st)) (hk:(decide (a<m) && decide (a ≠ c/\a ≠ st))=true)
  (hB:∀ q ∈ g.B,g.d ≠ q.1:=by simp) (hF:∀ G A,∀ q ∈ g.an G A,g.d=q.2.1->q.1=g.a:=by intro G' A';simp) (hFA:∀ G A A',∀ q ∈ g.an G A',q.1 ≠ g.a->q.1 ∉ g.onA->q ∈ g.an G A:=by intro G' A1 A2;simp) (haa:g.a ∉ g.onA:=by simp) (hac:g.a ∉ g.onC:=by simp) (hst:g.st ∈ g.onA:=by simp)
  (hv:∀ G A,∀ q ∈ g.an G A,q.1=g.a->g.d=q.2.1/\q.2.2 = .ptr (A,g.d) 1 0 0:=by intro G' A';simp):jM P N ops g.Inv g.a:=by
 simp only[Prod.mk.injEq] at hn;obtain⟨rfl,rfl,rfl,rfl⟩:=hn;simp only[Bool.and_eq_true,decide_eq_true_eq] at hk;obtain⟨hm,hne⟩:=hk;rw[Array.getElem?_toList] at hi;intro L s hI hr;obtain⟨hsz,hoc,hoa,G,A,hO,hT,hG,hM⟩:=hI;obtain⟨hu,o',ho',hdep⟩:=mem_ready.1 hr;rw[hi] at ho';cases ho';have hnd:¬ cy L g.a:=(jI (by omega)).2 hu;have hncd:∀ j ∈ g.onA,¬ cy L j:=fun j hj hd=>hnd (hoa j hj hd)
 refine⟨_,hi,rfl,?_⟩;have haf:L.getD g.a false=false:=by simpa[cy] using hnd
 have hsf:L.getD g.st false=false:=by simpa[cy] using hncd g.st hst
 obtain⟨m1,m2,m3,m4⟩:=hM;rw[haf] at m1;simp only[Bool.false_eq_true,if_false,List.nil_append] at m1;refine (pt hT' hti).mono ?_;rintro _ _ _ ⟨rfl,rfl,rfl⟩;refine⟨by simpa using hsz,fun j hj hd=>?_,fun j hj hd=>fX (by omega),G,s.2.2,hO.put (fun q hq e=>hB q hq (Option.some.inj e)),hT.put (fun q hq h5 h6=>hFA G A s.2.2 q hq h5 fun h7=>hncd _ h7 h6) (fun q hq e=>hF G _ q hq (Option.some.inj e)) (fun q hq e=>⟨congrArg some (hv G _ q hq e).1,(hv G _ q hq e).2⟩),fun hd=>hG (hd.set.resolve_left (Ne.symm hne.1)),?_⟩
 ·rcases hd.set with rfl | hd
  ·exact absurd hj hac
  ·exact cy.gy (hoc j hj hd)
 ·rw[show (L.setIfInBounds g.a true).getD g.a false=true from fX (by omega),getD_set_ne false hne.1,getD_set_ne false hne.2,hsf];refine⟨?_,fun i hi'=>?_,Nat.le_succ_of_le m3,fun _=>⟨m3,by simp[Heap.aT,hob]⟩⟩
  ·simpa using Sep.var (d:=g.d) (o:=⟨ti.zero.length,[ti.zero.map .v]⟩) m1
  ·exact (Heap.aD _ _ (by rintro rfl;have:=m1.1 _ hi';simp at this)).trans (m2 i hi')
theorem gS.store {Ty:Types} (hT':aU P Ty) {t:TypeId} {x y:Operand} {ty:TypeId} {pos:String} {af:Array Edge} (hi:ops.toList[g.st]?=some ⟨none,.store t x y,ty,pos,af,none⟩) {m c a st:Nat} (hn:(g.m,g.c,g.a,g.st)=(m,c,a,st)) (hk:(decide (st<m) && decide (st ≠ c/\st ≠ a))=true) (hids:∀ i ∈ g.ids,i.1<g.n0)
  (hc:∃ e ∈ af,Region.binds .any e=true/\(e.on=g.c\/e.on ∈ g.onC)) (ha:∃ e ∈ af,Region.binds .any e=true/\(e.on=g.a\/e.on ∈ g.onA))
  (hs:∀ L O H G A,Old O g.B->Told L O (g.an G A)->(∀ e ∈ af,Region.binds .any e=true->cy L e.on)->g.RG G->H (A,g.d)=some g.ob0->cB (Ty t) (O.ev x) (az (O.ev y)) H=some (H.set (A,g.d) (g.ob1 G))) (hF:∀ G A,∀ q ∈ g.an G A,q.1 ≠ g.st:=by intro G' A';simp):jM P N ops g.Inv g.st:=by
 simp only[Prod.mk.injEq] at hn;obtain⟨rfl,rfl,rfl,rfl⟩:=hn;simp only[Bool.and_eq_true,decide_eq_true_eq] at hk;obtain⟨hm,hne⟩:=hk;rw[Array.getElem?_toList] at hi;intro L s hI hr;obtain⟨hsz,hoc,hoa,G,A,hO,hT,hG,hM⟩:=hI;obtain⟨hu,o',ho',hdep⟩:=mem_ready.1 hr;rw[hi] at ho';cases ho';have hnd:¬ cy L g.st:=(jI (by omega)).2 hu;have hsf:L.getD g.st false=false:=by simpa[cy] using hnd
 have hdc:cy L g.c:=by
  obtain⟨e,he,hb,h1 | h1⟩:=hc
  ·exact h1 ▸ hdep e he hb
  ·exact hoc _ h1 (hdep e he hb)
 have hda:cy L g.a:=by
  obtain⟨e,he,hb,h1 | h1⟩:=ha
  ·exact h1 ▸ hdep e he hb
  ·exact hoa _ h1 (hdep e he hb)
 refine⟨_,hi,rfl,?_⟩;obtain⟨m1,m2,m3,m4⟩:=hM;rw[hdc,hda] at m1;simp only[if_true] at m1;have hw:=(m4 hda).2;rw[hsf] at hw;simp only[Bool.false_eq_true,if_false] at hw;have hst:=hs L s.1 s.2.1 G A hO hT (fun e he hb=>hdep e he hb) (hG hdc) hw;have hnw:(A,g.d) ∉ g.ids:=fun hm'=>by have h1:=(m4 hda).1;have h2:=hids _ hm';simp only at h1 h2;omega
 refine (aA (P:=P) (N:=N) (o:=⟨none,.store t x y,ty,pos,af,none⟩) (v:=.undef) (H':=s.2.1.set (A,g.d) (g.ob1 G)) (n':=s.2.2) hT' (by rw[ax];simp only[aX,hst])).mono ?_;rintro _ _ _ ⟨rfl,rfl,rfl⟩;refine⟨by simpa using hsz,fun j hj hd=>cy.gy hdc,fun j hj hd=>cy.gy hda,G,A,Old.put (d:=none) (v:=.undef) hO (fun q hq e=>by cases e),Told.put (d:=none) (v:=.undef) hT (fun q hq _ _=>hq) (fun q hq e=>by cases e) (fun q hq e=>absurd e (hF G A q hq)),fun hd=>hG hdc,?_⟩;rw[getD_set_ne false hne.1,getD_set_ne false hne.2,hdc,hda,show (L.setIfInBounds g.st true).getD g.st false=true from fX (by omega)];refine⟨Sep.bG (by simpa using m1) (by simp),fun i hi'=>?_,m3,fun _=>⟨(m4 hda).1,by simp[Heap.aT]⟩⟩;exact (Heap.aD _ _ (by rintro rfl;exact hnw hi')).trans (m2 i hi')
theorem gS.uO {d:Option Tmp} {fo:Operand} {args:Array Operand} {ats:Array TypeId} {ty:TypeId} {pos:String} {af:Array Edge} (hi:ops.toList[g.c]?=some ⟨d,.call ⟨.value fo,args,ats⟩,ty,pos,af,none⟩) {m c a st:Nat} (hn:(g.m,g.c,g.a,g.st)=(m,c,a,st)) (hk:(decide (c<m) && decide (c ≠ a/\c ≠ st))=true) (he0:∀ G,g.ent G=[]) (hR:∀ G,g.RG G)
  (hs:∀ L O H n G A,Old O g.B->Told L O (g.an G A)->(∀ e ∈ af,Region.binds .any e=true->cy L e.on)->(∀ j ∈ g.ids,H j=g.H0 j)->Sep H n g.K g.ids ->
   ∃ v,aI P N ⟨d,.call ⟨.value fo,args,ats⟩,ty,pos,af,none⟩ (loc (.call ⟨.value fo,args,ats⟩) O) H n (qJ v H n)/\∀ q ∈ g.an G A,q.1=g.c->d=some q.2.1/\q.2.2=v)
  (hB:∀ q ∈ g.B,d ≠ some q.1:=by simp) (hF:∀ G A,∀ q ∈ g.an G A,d=some q.2.1->q.1=g.c:=by intro G' A';simp) (hca:g.c ∉ g.onA:=by simp):jM P N ops g.Inv g.c:=by
 simp only[Prod.mk.injEq] at hn;obtain⟨rfl,rfl,rfl,rfl⟩:=hn;simp only[Bool.and_eq_true,decide_eq_true_eq] at hk;obtain⟨hm,hne⟩:=hk;rw[Array.getElem?_toList] at hi;intro L s hI hr;obtain⟨hsz,hoc,hoa,G,A,hO,hT,hG,hM⟩:=hI;obtain⟨hu,o',ho',hdep⟩:=mem_ready.1 hr;rw[hi] at ho';cases ho';refine⟨_,hi,rfl,?_⟩;obtain⟨v,hop,hv⟩:=hs L s.1 s.2.1 s.2.2 G A hO hT (fun e he hb=>hdep e he hb) hM.2.1 hM.sep;apply hop.mono;rintro _ _ _ ⟨rfl,rfl,rfl⟩;refine⟨by simpa using hsz,fun j hj hd=>fX (by omega),fun j hj hd=>?_,G,A,Old.put hO hB,Told.put hT (fun q hq _ _=>hq) (hF G A) hv,fun _=>hR G,?_⟩
 ·rcases hd.set with rfl | hd
  ·exact absurd hj hca
  ·exact cy.gy (hoa j hj hd)
 ·rw[getD_set_ne false hne.1,getD_set_ne false hne.2];obtain⟨m1,m2,m3,m4⟩:=hM;refine⟨?_,m2,m3,m4⟩;rw[he0] at m1 ⊢;simpa using m1
theorem jM.none {Inv:Array Bool->AS->Prop} {i:Nat} (h:ops[i]?=none):jM P N ops Inv i:=fun L s hI hr=>by
 obtain⟨_,o,ho,_⟩:=mem_ready.1 hr;rw[h] at ho;cases ho
theorem jx {m j:Nat}:¬ cy (Array.replicate m false) j:=by
 simp only[cy,Array.getD_eq_getD_getElem?,Array.getElem?_replicate]
 split<;>simp
theorem gS.init {O:Env} (hB:Old O g.B) (hs:Sep g.H0 g.n0 g.K g.ids):g.Inv (Array.replicate g.m false) (O,g.H0,g.n0):=by
 have hf:∀ j,(Array.replicate g.m false).getD j false=false:=fun j=>by simpa[cy] using jx (m:=g.m) (j:=j)
 refine⟨by simp,fun j _ hd=>absurd hd jx,fun j _ hd=>absurd hd jx,[],0,hB,fun q _ hd=>absurd hd jx,fun hd=>absurd hd jx,?_⟩;rw[hf,hf,hf];exact⟨by simpa using hs,fun _ _=>rfl,Nat.le_refl _,fun h=>by cases h⟩
def acycR (ops:Array Oper):Bool:=(List.range ops.size).all fun i=>match ops[i]? with
 | some o=>o.after.all fun e => !(Region.binds .any e) || decide (e.on<i)
 | none=>true
theorem gS.fin (ha:acycR ops=true) (hm:ops.size=g.m) (hc:g.c<g.m/\g.a<g.m/\g.st<g.m) (hF:∀ G A,∀ q ∈ g.an G A,q.1<g.m) {L:Array Bool} {s:AS} (hI:g.Inv L s) (hr:Region.ready .any ops L=[]) :
  ∃ (G:List I) (A:Nat),Old s.1 g.B/\BJ s.1 (g.an G A)/\g.RG G/\Sep s.2.1 s.2.2 (g.ent G++g.K) ((A,g.d)::g.ids)/\(∀ i ∈ g.ids,s.2.1 i=g.H0 i)/\g.n0<=s.2.2/\g.n0<=A/\s.2.1 (A,g.d)=some (g.ob1 G):=by
 obtain⟨hsz,hoc,hoa,G,A,hO,hT,hG,hM⟩:=hI;have all:∀ (q:Nat) (j:Nat),j<=q->j<g.m->cy L j:=by
  intro q
  induction q with
  | zero=>
   intro j hj hlt;refine Classical.byContradiction fun hn=>?_
   have hu:=(jI (by omega)).1 hn;obtain⟨o,ho⟩:∃ o,ops[j]?=some o:=⟨ops[j]'(by omega),by simp[hm,hlt]⟩
   have hin:j ∈ Region.ready .any ops L:=mem_ready.2 ⟨hu,o,ho,fun e he hb=>by
    have h1:=List.all_eq_true.1 ha j (List.mem_range.2 (by omega));rw[ho] at h1;have h2:=Array.all_eq_true'.1 h1 e he;simp only[hb,Bool.not_true,Bool.false_or,decide_eq_true_eq] at h2;omega⟩
   rw[hr] at hin;cases hin
  | succ q ih=>
   intro j hj hlt;refine Classical.byContradiction fun hn=>?_
   have hu:=(jI (by omega)).1 hn;obtain⟨o,ho⟩:∃ o,ops[j]?=some o:=⟨ops[j]'(by omega),by simp[hm,hlt]⟩
   have hin:j ∈ Region.ready .any ops L:=mem_ready.2 ⟨hu,o,ho,fun e he hb=>by
    have h1:=List.all_eq_true.1 ha j (List.mem_range.2 (by omega));rw[ho] at h1;have h2:=Array.all_eq_true'.1 h1 e he;simp only[hb,Bool.not_true,Bool.false_or,decide_eq_true_eq] at h2;exact ih e.on (by omega) (by omega)⟩
   rw[hr] at hin;cases hin
 have dc:=all _ g.c (Nat.le_refl _) hc.1;have da:=all _ g.a (Nat.le_refl _) hc.2.1;have ds:=all _ g.st (Nat.le_refl _) hc.2.2;obtain⟨m1,m2,m3,m4⟩:=hM;rw[dc,da] at m1;have h4:=m4 da;rw[ds] at h4;refine⟨G,A,hO,fun q hq=>hT q hq (all _ _ (Nat.le_refl _) (hF G A q hq)),hG dc,by simpa using m1,m2,m3,h4.1,by simpa using h4.2⟩
end
def gv (G:List I) (i:Nat):I:=G.getD i .undef
@[simp] theorem gv_zero (a : I) (l : List I) : gv (a :: l) 0 = a := rfl
@[simp] theorem gv_succ (a : I) (l : List I) (i : Nat) : gv (a :: l) (i + 1) = gv l i := by simp [gv]
theorem Old.nil {O:Env}:Old O []:=fun q hq=>by cases hq
theorem Old.cons {O:Env} {t:Nat} {v:I} {B:List (Nat × I)} (h:O t=v) (hb:Old O B):Old O ((t,v)::B):=fun q hq=>by
 rcases List.mem_cons.1 hq with rfl | hq
 ·exact h
 ·exact hb q hq
theorem bW.of_eq {H:Heap} {n:Nat} {l xs b4:List I} (h:l=xs) (ha:bW H n xs b4):bW H n l b4:=h ▸ ha
theorem aI.By {P:Program} {N:Nat} {O:Env} {H:Heap} {n:Nat} {d:Option Tmp} {g:Operand} {args:Array Operand} {ats:Array TypeId} {ty:TypeId} {pos:String} {af:Array Edge} {gu:Option (Nat × Bool)} {v:I} {f:FuncId} {xs b4:List I}
  (h:aC P f b4 (fun r=>r=v)) (cP:aZ P f) (ha:bW H n xs b4) (hg:O.ev g = .fn (.func f) [] []) (has:args.toList.map O.ev=xs) :
  aI P N ⟨d,.call ⟨.value g,args,ats⟩,ty,pos,af,gu⟩ (loc (.call ⟨.value g,args,ats⟩) O) H n (qJ v H n):=aI.xV hg cP (has ▸ ha) h
end Go.Ab
namespace Go.Ab
variable [Inhabited cD]
theorem bE.focus {R:List I->List I->List Id->Prop}:∀ {as1 bs:List (List I)} {S:List Id} {k:Nat},bE R as1 bs S->k<as1.length ->
  ∃ A e B A' f B' S1 T S2,as1=A++e::B/\bs=A'++f::B'/\A.length=k/\A'.length=k/\bE R A A' S1/\R e f T/\bE R B B' S2/\S=S1++(T++S2)/\(∀ i ∈ S1,i ∉ T++S2)/\∀ i ∈ T,i ∉ S2
 | [],_,_,_,_,hk=>by simp at hk
 | _::_,[],_,_,h,_=>h.elim
 | a::as1,b::bs,S,0,h,_=>by
  obtain⟨T1,T2,h1,h2,h3,h4⟩:=h;exact⟨[],a,as1,[],b,bs,[],T1,T2,rfl,rfl,rfl,rfl,rfl,h1,h2,h3,by simp,h4⟩
 | a::as1,b::bs,S,k+1,h,hk=>by
  obtain⟨T1,T2,h1,h2,rfl,h4⟩:=h;obtain⟨A,e,B,A',f,B',S1,T,S2,rfl,rfl,l1,l2,r1,r2,r3,rfl,d1,d2⟩:=bE.focus h2 (by simpa using hk);refine⟨a::A,e,B,b::A',f,B',T1++S1,T,S2,rfl,rfl,by simp[l1],by simp[l2],⟨T1,S1,h1,r1,rfl,fun i hi hm=>h4 i hi (by simp[hm])⟩,r2,r3,by simp,fun i hi hm=>?_,d2⟩;rcases List.mem_append.1 hi with hi | hi
  ·exact h4 i hi (by simp only[List.mem_append] at hm ⊢;exact .inr hm)
  ·exact d1 i hi hm
section
variable {H:Heap} {n:Nat} {K K1 K2:List bS} {ids:List Id} {l:List Sh} {v:I} {es:List (List I)} {q:Nat}
theorem Sep.DQ {x:bS} (h:Sep H n (x::(K1++K2)) ids):Sep H n (K1++x::K2) ids:=by
 have h1:Sep H n (K1++(K2++[x])) ids:=by
  have:=Sep.swap (K1:=[x]) (K2:=K1++K2) h;simpa using this
 have h2:Sep H n (K2++x::K1) ids:=by
  have:=Sep.swap h1;simpa using this
 have h3:Sep H n ((x::K2)++K1) ids:=by
  have:=Sep.front h2;simpa using this
 exact Sep.swap h3
theorem Sep.row {bs:List I} (h:Sep H n ((.s l,v,.list true es)::K) ids) (he:es[q]?=some bs) :
  ∃ id els row W,v = .arr id es.length 0 es.length/\H id=some ⟨l.length,els⟩/\els.length=es.length/\els[q]?=some row/\row.length=l.length/\bs.length=l.length/\id ∈ W/\(∀ i ∈ ids,i ∈ W)/\id ∉ ids/\Sep H n (fP l row bs) W /\
   ∀ H1 U row' bs',Sep H1 U (fP l row' bs') W->row'.length=l.length->bs'.length=l.length->(∀ i ∈ W,i ≠ id->H1 i=H i)->H1 id=some ⟨l.length,els.set q row'⟩->n<=U->Sep H1 U ((.s l,v,.list true (es.set q bs'))::K) ids:=by
 obtain⟨h0,S,h1,h2⟩:=h;simp only[List.map_cons,Go.Ab.Row,Go.Ab.Tr] at h1;obtain⟨S1,S2,h3,h4,rfl,h5⟩:=h1;have hq:q<es.length:=(List.getElem?_eq_some_iff.1 he).1;rcases h3 with ⟨rfl,E,rfl⟩ | ⟨id,els,es',T,rfl,E,q3,q4,q5,rfl⟩
 ·injection E with _ E
  subst E;simp at hq
 ·injection E with _ E
  subst E;have hel:=q4.len;obtain⟨A,row,B,A',f,B',SA,SR,SB,rfl,rfl,lA,lA',rA,rR,rB,rfl,d1,d2⟩:=bE.focus (k:=q) q4 (by omega);have hf:f=bs:=by
   rw[List.getElem?_append_right (by omega),lA',Nat.sub_self] at he;simpa using he
  subst hf;have hrl:=rR.len;obtain⟨z1,z2,z3⟩:=kv hrl.1 hrl.2;simp only[List.mem_append,List.mem_cons,not_or] at h2 h5 q5 d1 d2;refine⟨id,A++row::B,row,ids++(id::(SA++(SB++S2))),by simp only[hel],q3,hel,by rw[List.getElem?_append_right (by omega),lA,Nat.sub_self];rfl,hrl.1,hrl.2,by simp,fun i hi=>by simp[hi],(h2 id (.inl (.inl rfl))).2,?_,?_⟩
  ·refine⟨fun i hi=>?_,SR,by rw[z1,z2,z3];exact rR,fun i hi=>⟨(h2 i (.inl (.inr (.inr (.inl hi))))).1,?_⟩⟩
   ·simp only[List.mem_append,List.mem_cons] at hi;rcases hi with hi | hi | hi | hi | hi
    ·exact h0 i hi
    ·exact (h2 i (.inl (.inl hi))).1
    ·exact (h2 i (.inl (.inr (.inl hi)))).1
    ·exact (h2 i (.inl (.inr (.inr (.inr hi))))).1
    ·exact (h2 i (.inr hi)).1
   ·simp only[List.mem_append,List.mem_cons,not_or];refine⟨(h2 i (.inl (.inr (.inr (.inl hi))))).2,?_,fun hm=>(d1 i hm).1 hi,fun hm=>d2 i hi hm,fun hm=>h5 i (.inr (.inr (.inl hi))) hm⟩;rintro rfl;exact q5.2.1 hi
  ·intro H1 U row' bs' hs lr lb hfr hid hn;obtain⟨y1,y2,y3⟩:=kv lr lb;obtain⟨k0,X,k1,k2⟩:=hs;rw[y1,y2,y3] at k1;simp only[List.mem_append,List.mem_cons,not_or] at k2 hfr;have nid:∀ i,i ∈ SA\/i ∈ SB\/i ∈ S2->i ≠ id:=by
    rintro i (hi | hi | hi) rfl
    ·exact q5.1 hi
    ·exact q5.2.2 hi
    ·exact h5 i (.inl rfl) hi
   have fr:∀ i,i ∈ SA\/i ∈ SB\/i ∈ S2->H1 i=H i:=fun i hi=>hfr i (.inr (.inr hi)) (nid i hi)
   have hrows:bE (Row H1 l) (A++row'::B) (A'++bs'::B') (SA++(X++SB)):=by
    refine bE.append (rA.mono fun e f T hr hs=>hr.frame fun i hi=>fr i (.inl (hs i hi))) ⟨X,SB,k1,rB.mono fun e f T hr hs=>hr.frame fun i hi=>fr i (.inr (.inl (hs i hi))),rfl,fun i hi hm=>(k2 i hi).2.2.2.2.1 hm⟩ (fun i hi hm=>?_);rcases List.mem_append.1 hm with hm | hm
    ·exact (k2 i hm).2.2.2.1 hi
    ·exact (d1 i hi).2 hm
   have hset:(A++row::B).set q row'=A++row'::B:=by
    rw[List.set_append_right _ _ (by omega),lA,Nat.sub_self];rfl
   have hset':(A'++f::B').set q bs'=A'++bs'::B':=by
    rw[List.set_append_right _ _ (by omega),lA',Nat.sub_self];rfl
   rw[hset] at hid;refine⟨fun i hi=>by have:=h0 i hi;omega,(id::(SA++(X++SB)))++S2,?_,fun i hi=>?_⟩
   ·simp only[List.map_cons,Go.Ab.Row,Go.Ab.Tr];refine⟨id::(SA++(X++SB)),S2,.inr ⟨id,A++row'::B,A'++bs'::B',SA++(X++SB),by simp,by rw[hset'],hid,hrows,?_,rfl⟩,h4.frame fun i hi=>fr i (.inr (.inr hi)),rfl,fun i hi hm=>?_⟩
    ·simp only[List.mem_append,not_or];exact⟨q5.1,fun hm=>(k2 id hm).2.2.1 rfl,q5.2.2⟩
    ·simp only[List.mem_cons,List.mem_append] at hi;rcases hi with rfl | hi | hi | hi
     ·exact h5 _ (.inl rfl) hm
     ·exact h5 i (.inr (.inl hi)) hm
     ·exact (k2 i hi).2.2.2.2.2 hm
     ·exact h5 i (.inr (.inr (.inr hi))) hm
   ·simp only[List.mem_cons,List.mem_append] at hi;rcases hi with (rfl | hi | hi | hi) | hi
    ·have:=h2 _ (.inl (.inl rfl));exact⟨by omega,this.2⟩
    ·have:=h2 i (.inl (.inr (.inl hi)));exact⟨by omega,this.2⟩
    ·exact⟨(k2 i hi).1,(k2 i hi).2.1⟩
    ·have:=h2 i (.inl (.inr (.inr (.inr hi))));exact⟨by omega,this.2⟩
    ·have:=h2 i (.inr hi);exact⟨by omega,this.2⟩
theorem Sep.cAt {a:I} {b:Value} (h:Sep H n (K1++(.c,a,.v b)::K2) ids):a = .v b:=(Sep.scalar (Sep.front h)).1
theorem qn {α:Type} {l:List α} {k:Nat} {x:α} (h:l[k]?=some x):l.set k x=l:=by
 obtain⟨hk,rfl⟩:=List.getElem?_eq_some_iff.1 h;exact List.set_getElem_self hk
theorem Br {α:Type} [Inhabited α] {f:α->List I} {xs:List α} {i:Int} {x:α} {q:Nat} (hb:0<=i/\i<xs.length) (hx:x=at' xs i) (hq:q=i.toNat):(xs.map f)[q]?=some (f x):=by
 obtain⟨hlt,hg⟩:=pL hb hx;subst hq;simp[hlt,hg]
theorem Sep.rowF {α:Type} [Inhabited α] {f:α->List I} {xs:List α} {x:α} {i:Int} (h:Sep H n ((.s l,v,.list true (xs.map f))::K) ids) (hb:0<=i/\i<xs.length) (hx:x=at' xs i) (hq:q=i.toNat) :
  ∃ id els row W,v = .arr id xs.length 0 xs.length/\H id=some ⟨l.length,els⟩/\els.length=xs.length/\els[q]?=some row/\row.length=l.length/\id ∈ W/\(∀ i ∈ ids,i ∈ W)/\id ∉ ids/\Sep H n (fP l row (f x)) W /\
   ∀ H1 U y,Sep H1 U (fP l row (f y)) W->(f y).length=l.length->(∀ i ∈ W,H1 i=H i)->n<=U->Sep H1 U ((.s l,v,.list true ((xs.set q y).map f))::K) ids:=by
 obtain⟨id,els,row,W,h1,h2,h3,h4,h5,h6,h7,h8,h9,h10,h11⟩:=h.row (Br hb hx hq);refine⟨id,els,row,W,by simpa using h1,h2,by simpa using h3,h4,h5,h7,h8,h9,h10,fun H1 U y k1 k2 k3 k4=>?_⟩;rw[List.map_set];exact h11 H1 U row (f y) k1 h5 k2 (fun i hi _=>k3 i hi) (by rw[k3 id h7,h2,qn h4]) k4
end
section
variable {P:Program} {f':FuncId} {N:Nat} {k:List Item} {Q:I->Heap->Nat->Prop} {Ty:Types} {ops:Array Oper} {L:List Oper} {O:Env} {H:Heap} {n:Nat} {K:List bS} {ids:List Id} {l:List Sh} {o:Oper}
variable {α:Type} [Inhabited α] {id:Id} {g q off:Nat} {ix:Int} {i:TI} {b:Value} {xs:List α} {f:α->List I} {x y:α}
end
end Go.Ab
namespace Go.Ab
variable [Inhabited cD]
def eE (H:Heap) (n:Nat):Prop:=∀ i o,H i=some o->i.1<n
def Ext (H H':Heap):Prop:=∀ i o,H i=some o->H' i=some o
theorem Ext.refl (H:Heap):Ext H H:=fun _ _ h=>h
theorem Ext.trans {H H1 H2:Heap} (h:Ext H H1) (h':Ext H1 H2):Ext H H2:=fun i o ho=>h' i o (h i o ho)
theorem eE.set {H:Heap} {n d:Nat} {o:Ob} (h:eE H n):eE (H.set (n,d) o) (n+1):=fun i o' ho=>by
 simp only[Heap.set] at ho
 split at ho
 ·rename_i he;subst he;exact Nat.lt_succ_self _
 ·have:=h i o' ho;omega
theorem eE.put {H:Heap} {n:Nat} {id:Id} {o o0:Ob} (h:eE H n) (h0:H id=some o0):eE (H.set id o) n:=fun i o' ho=>by
 simp only[Heap.set] at ho
 split at ho
 ·rename_i he;subst he;exact h _ _ h0
 ·exact h i o' ho
theorem Ext.new {H:Heap} {n d:Nat} {o:Ob} (h:eE H n):Ext H (H.set (n,d) o):=fun i o' ho=>by
 rw[Heap.aD]
 ·exact ho
 ·rintro rfl;have:=h _ _ ho;simp at this
def dw:Op->Nat
 | .buildSlice _ len _=>if len=0 then 2 else 3
 | op=>b3 op
def lQ (a b:Nat):Bool:=a == 0 || b == 0 || (a == 1 && (b == 1 || b == 3))
def iu (Ty:Types) (d:Option Nat) (op:Op) (O:Env) (H:Heap) (n:Nat):Option (I × Heap × Nat):=
 match op with
 | .buildSlice t len ps=>match kd Ty t,d with
  | .slice j,some d=>
   if len ≠ 0/\len * j.size<=16777216/\j.size ≠ 0/\j.zero.length=j.size then
    (dt (fun k=>some (k * j.size,j.size)) ((List.replicate len (j.zero.map I.v)).flatten) (ps.toList.map fun p=>(p.1,O.ev p.2))).map fun cs=>(.arr (n,d) len 0 len,H.set (n,d) ⟨j.size,chunks j.size len cs⟩,n+1)
   else none
  | _,_=>none
 | _=>none
section
variable {P:Program} {N:Nat} {Ty:Types} {O:Env} {H H':Heap} {n n':Nat} {d:Option Nat} {ty:TypeId} {pos:String} {af:Array Edge} {gu:Option (Nat × Bool)}
theorem kJ (hT:aU P Ty) {t:TypeId} {j:TI} {ps:Array (Nat × Operand)} {len k:Nat} {cs:List I} (hkd:kd Ty t = .slice j) (h0:len ≠ 0) (h1:len * j.size<=16777216) (h2:j.size ≠ 0) (h3:j.zero.length=j.size)
  (hf:dt (fun k=>some (k * j.size,j.size)) ((List.replicate len (j.zero.map I.v)).flatten) (ps.toList.map fun p=>(p.1,O.ev p.2))=some cs) :
  aI P N ⟨some k,.buildSlice t len ps,ty,pos,af,gu⟩ O H n fun v1 H1 U=>v1 = .arr (n,k) len 0 len/\H1=H.set (n,k) ⟨j.size,chunks j.size len cs⟩/\U=n+1:=by
 refine aI.dD fun c a hH hn g r=>?_
 subst hH hn;obtain⟨i,e,hi,hd,hj⟩:=cq hkd;have hde:=(hT t i hi).bD c.w;have hsz:=(hT e j hj).cF c.w;obtain⟨zv,hz,hzc⟩:=(hT e j hj).mn c.w;have hrep0:de c ((List.replicate len (j.zero.map I.v)).flatten) ((List.replicate len j.zero).flatten):=by
  have:(List.replicate len (j.zero.map I.v)).flatten=((List.replicate len j.zero).flatten).map .v:=by
   rw[List.map_flatten,List.map_replicate]
  rw[this];exact de.ofV c _
 obtain⟨vs',hr,hl⟩:=lI r ps.toList _ _ cs hrep0 hf;have hrun:(execOp a.eval ⟨some k,.buildSlice t len ps,ty,pos,af,gu⟩).run P c.w = .ok (.value (.slice (some ⟨c.w.heap.size,0,none⟩) len len)) { c.w with heap:=c.w.heap.push (.cells vs'.toArray e) }:=by
  have hlz:len * j.size ≠ 0:=Nat.mul_ne_zero h0 h2;have hzr:=mN (z:=j.zero) len (by omega);rw[h3] at hzr;have hps:(ps.map fun (p:Nat × Operand)=>(p.1,a.eval p.2)).toList=ps.toList.map fun p=>(p.1,a.eval p.2):=by simp
  have hbig:¬ (16777216<len * j.size):=by omega
  simp only[execOp,Instr.buildSlice,Sem.run_bind,hde,hd,Result.andThen_ok,hsz];simp only[Nat.reducePow,gt_iff_lt,hbig,if_false,hlz,Sem.run_pure,Sem.run_bind,hz,Result.andThen_ok,hzc,hzr,hps,hr];simp[newRow]
 have hlen:cs.length=len * j.size:=by
  have:=jc.fillA_length hf;rw[this];simp[h3]
 have hcl:(chunks j.size len cs).length=len:=by simp[chunks]
 have E:Holds c vs'.toArray ⟨j.size,chunks j.size len cs⟩:=by
  refine⟨by simp only[hcl,List.size_toArray];rw[<- hl.1,hlen];exact Nat.le_refl _,fun q e' he=>?_⟩;obtain⟨hp,hes,hq⟩:=iX he hlen;refine⟨hes,fun p y hy=>?_⟩;obtain⟨hq1,hq2⟩:=hq p y hy;have hlt:=(List.getElem?_eq_some_iff.1 hq2).1;have hl1:=hl.1;have hv:vs'[q * j.size+p]?=some (vs'[q * j.size+p]'(by omega)):=List.getElem?_eq_getElem (by omega);exact⟨_,by first | (simp;done) | simpa using hv,hl.2 _ _ _ hq2 hv⟩
 have hk2:=o7 g k ⟨j.size,chunks j.size len cs⟩ vs'.toArray e E;refine⟨.arr (c.n,k) len 0 len,_,_,hrun,⟨rfl,?_,?_⟩,?_,hk2.2,hk2.1⟩
 ·rfl
 ·rfl
 ·refine .arr _ _ _ _ _ rfl (by simp) ?_ ?_
  ·intro o ho;simp[Heap.set] at ho;subst ho;simp[hcl]
  ·intro o ho _;simp[Heap.set] at ho;subst ho;refine⟨by omega,_,_,rfl,by simp,rfl,Nat.le_refl _,.inl (by simp),fun cl el fz hcl=>?_⟩;simp at hcl;obtain⟨rfl,_,_⟩:=hcl;have:=hl.1;simp;omega
theorem nr {op:Op} {v:I} (h:iu Ty d op O H n=some (v,H',n')):∃ t len ps j k cs,op = .buildSlice t len ps/\d=some k/\kd Ty t = .slice j/\(len ≠ 0/\len * j.size<=16777216/\j.size ≠ 0/\j.zero.length=j.size) /\
  dt (fun k=>some (k * j.size,j.size)) ((List.replicate len (j.zero.map I.v)).flatten) (ps.toList.map fun p=>(p.1,O.ev p.2))=some cs/\v = .arr (n,k) len 0 len/\H'=H.set (n,k) ⟨j.size,chunks j.size len cs⟩/\n'=n+1:=by
 cases op with
 | buildSlice t len ps=>
  simp only[iu] at h
  split at h
  ·rename_i j k hk
   split at h
   ·rename_i hc
    simp only[Option.map_eq_some_iff,Prod.mk.injEq] at h;obtain⟨cs,hf,rfl,rfl,rfl⟩:=h;exact⟨t,len,ps,j,k,cs,rfl,rfl,hk,hc,hf,rfl,rfl,rfl⟩
   ·cases h
  ·cases h
 | _=>cases h
theorem mj (hT:aU P Ty) {o:Oper} {v:I} (h:iu Ty o.dst o.op O H n=some (v,H',n')):aI P N o O H n (qJ v H' n')/\(eE H n->eE H' n'/\Ext H H'):=by
 obtain⟨d,op,ty,pos,af,gu⟩:=o;obtain⟨t,len,ps,j,k,cs,rfl,rfl,hk,⟨h0,h1,h2,h3⟩,hf,rfl,rfl,rfl⟩:=nr h;exact⟨kJ hT hk h0 h1 h2 h3 hf,fun hs=>⟨hs.set,Ext.new hs⟩⟩
theorem Bm {op:Op}:iu Ty d op (loc op O) H n=iu Ty d op O H n:=by
 cases op with
 | buildSlice t len ps=>
  have:ps.toList.map (fun p=>(p.1,(loc (.buildSlice t len ps) O).ev p.2))=ps.toList.map (fun p=>(p.1,O.ev p.2)):=List.map_congr_left fun p hp=>by rw[dh (by simp[Op.operands];exact⟨p.1,by simpa using hp⟩)]
  simp only[iu,this]
 | _=>rfl
theorem yH {o:Op} {v:I} (h:iu Ty d o O H n=some (v,H',n')):dw o=3:=by
 obtain⟨t,len,ps,j,k,cs,rfl,_,_,⟨h0,_⟩,_⟩:=nr h;simp[dw,h0]
theorem ownF_n {op:Op} {v:I} (h:iu Ty d op O H n=some (v,H',n')):n'=n+1:=by
 obtain⟨t,len,ps,j,k,cs,_,_,_,_,_,_,_,rfl⟩:=nr h
 rfl
theorem iN (e:Ext H H') {p:I} {cs:List I} (h:cK H p=some cs):cK H' p=some cs:=by
 cases p with
 | ptr id g i off=>
  simp only[cK] at h ⊢;cases E:H id with
  | none=>simp[E] at h
  | some o=>rw[e id o E];rwa [E] at h
 | _=>exact h
theorem qt (e:Ext H H') {id:Id} {g:Nat} {o:Ob} (h:live H id g=some o):live H' id g=some o:=by
 obtain⟨h1,h2⟩:=cR h;simp[live,e id o h1,h2]
theorem qo (e:Ext H H') {t:TypeId} {x ix v:I} (h:ar Ty H t x ix=some v):ar Ty H' t x ix=some v:=by
 unfold ar at h ⊢
 split at h
 ·split at h
  ·exact h
  ·split at h
   ·rename_i hl
    rw[qt e hl];exact h
   ·cases h
  ·split at h
   ·rename_i hv
    rw[iN e hv];exact h
   ·cases h
  ·cases h
 ·cases h
theorem wm (e:Ext H H') {t:TypeId} {x v:I} {lo hi:Option I} (h:fC Ty H t x lo hi=some v):fC Ty H' t x lo hi=some v:=by
 unfold fC at h ⊢
 split at h
 ·exact h
 ·exact h
 ·split at h
  ·rename_i hl h1 h2
   simp only[qt e hl,h1,h2];exact h
  ·cases h
 ·exact h
 ·cases h
theorem CE (e:Ext H H') {t:TypeId} {x v:I} (h:aJ Ty H t x=some v):aJ Ty H' t x=some v:=by
 unfold aJ at h ⊢
 split at h
 ·exact h
 ·exact h
 ·exact h
 ·split at h
  ·rename_i hl
   rw[qt e hl];exact h
  ·cases h
 ·exact h
 ·cases h
theorem zk {op:Op} {v:I} {H1:Heap} {U:Nat} (hk:b3 op=1) (h:aX Ty d op O H n=some (v,H1,U)) (e:Ext H H'):aX Ty d op O H' n'=some (v,H',n'):=by
 cases op with
 | load t a=>
  simp only[aX] at h ⊢
  split at h
  ·rename_i hi hv
   split at h
   ·rename_i hl
    cases h;simp only[hi,iN e hv,hl]
   ·cases h
  ·cases h
 | fieldAddr t a f=>
  simp only[aX] at h ⊢
  split at h
  ·rename_i hk hv
   split at h
   ·rename_i hf
    split at h
    ·cases h
    ·rename_i hs
     cases h;simp only[hk,iN e hv,hf,if_neg hs]
   ·cases h
  ·cases h
 | indexAddr t a i=>
  obtain⟨h1,_⟩:=bY h;simp only[aX,qo e h1,Option.map_some]
 | slice t x lo hi mx=>
  cases mx with
  | none=>
   obtain⟨h1,_⟩:=bY h;simp only[aX,wm e h1,Option.map_some]
  | some m=>cases h
 | nilCheck x=>
  simp only[aX] at h ⊢
  split at h
  ·rename_i hv
   cases h;simp only[iN e hv]
  ·cases h
 | call c=>
  obtain⟨cal,args,ats⟩:=c;cases cal with
  | builtin b=>
   cases b<;>simp[b3] at hk;simp only[aX] at h ⊢
   split at h
   ·rename_i h1 h2
    obtain⟨h3,_⟩:=bY h;simp only[h1,h2,CE e h3,Option.map_some]
   ·cases h
  | value g=>cases h
  | invoke r m=>simp[b3] at hk
 | buildSlice t len ps=>simp only[b3] at hk;split at hk<;>cases hk
 | _=>simp[b3] at hk
theorem q6 {t:TypeId} {s x v:I} (h:bb Ty d t s x H n=some (v,H',n')) (hs:eE H n):eE H' n':=by
 unfold bb at h
 split at h
 ·split at h
  ·split at h
   ·split at h
    ·rename_i hl
     split at h
     ·cases h;exact hs.put (cR hl).1
     ·cases h
    ·cases h
   ·split at h
    ·cases h;exact hs
    ·split at h
     ·cases h;exact hs.set
     ·cases h
   ·cases h
  ·cases h
 ·cases h
theorem ur {op:Op} {v:I} (h:aX Ty d op O H n=some (v,H',n')) (hs:eE H n):eE H' n':=by
 by_cases h0:b3 op=0
 ·obtain⟨rfl,rfl,_⟩:=jB h0 h;exact hs
 by_cases h1:b3 op=1
 ·obtain⟨rfl,rfl⟩:=qb h1 h;exact hs
 cases op with
 | alloc t=>
  simp only[aX] at h
  split at h
  ·cases h;exact hs.set
  ·cases h
 | box t x=>
  simp only[aX] at h
  split at h
  ·cases h;exact hs.set
  ·cases h
 | store t a x=>
  simp only[aX] at h
  split at h
  ·rename_i hst
   cases h;unfold cB at hst
   split at hst
   ·split at hst
    ·rename_i hl
     split at hst
     ·cases hst;exact hs.put (cR hl).1
     ·cases hst
    ·cases hst
   ·cases hst
  ·cases h
 | buildSlice t len ps=>
  have hl:len=0:=by
   rcases Nat.eq_zero_or_pos len with h | h
   ·exact h
   ·simp[b3,Nat.pos_iff_ne_zero.1 h] at h0
  subst hl;simp only[aX] at h
  split at h
  ·split at h
   ·split at h
    ·cases h;exact hs.set
    ·cases h
   ·rename_i hne;exact absurd trivial hne
  ·cases h
 | makeSlice t l c=>
  simp only[aX,tP] at h
  split at h
  ·split at h
   ·cases h;exact hs.set
   ·cases h
  ·cases h
 | call c=>
  obtain⟨cal,args,ats⟩:=c;cases cal with
  | builtin b=>
   cases b<;>first | (simp[b3] at h1;done) | (cases h;done) | skip
   simp only[aX] at h
   split at h
   ·split at h
    ·exact q6 h hs
    ·cases h
   ·cases h
  | value g=>simp[b3] at h1
  | invoke r m=>cases h
 | _=>first | (simp[b3] at h0;done) | (simp[b3] at h1;done) | (cases h;done)
end
section
variable (P:Program) (N:Nat) (ops:Array Oper)
def fm (o:Oper) (s s':AS):Prop:=
 (eK ops o s.1=some true/\∃ v,s'.1=s.1.put o.dst v/\(dw o.op=0->s'.2=s.2/\∀ H n,aI P N o (loc o.op s.1) H n (qJ v H n))/\(dw o.op=1->s'.2=s.2/\∀ H n,Ext s.2.1 H->s.2.2<=n->aI P N o (loc o.op s.1) H n (qJ v H n)) /\
   (eE s.2.1 s.2.2->eE s'.2.1 s'.2.2/\(dw o.op=3->Ext s.2.1 s'.2.1/\s.2.2<=s'.2.2))/\aI P N o (loc o.op s.1) s.2.1 s.2.2 (qJ v s'.2.1 s'.2.2)) \/
 (eK ops o s.1=some false/\s'=(s.1.put o.dst k6,s.2))
def lW (R:AS->Prop):Nat->Array Bool->AS->Prop
 | 0,listed,s=>Region.ready .any ops listed=[]/\R s
 | fuel+1,listed,s=>(Region.ready .any ops listed=[]->R s)/\∀ i ∈ Region.ready .any ops listed,∃ o s',ops[i]?=some o/\fm P N ops o s s'/\lW R fuel (listed.setIfInBounds i true) s'
def DM (R:AS->Prop):List Oper->AS->Prop
 | [],s=>R s
 | o::l,s=>∃ s',fm P N ops o s s'/\DM R l s'
end
section
variable {P:Program} {N:Nat} {ops:Array Oper}
theorem fm.stamp {o:Oper} {s s':AS} (h:fm P N ops o s s') (hs:eE s.2.1 s.2.2):eE s'.2.1 s'.2.2:=by
 rcases h with ⟨_,v,_,_,_,h,_⟩ | ⟨_,rfl⟩
 ·exact (h hs).1
 ·exact hs
theorem fm.sQ {oi oj:Oper} (hap:oi.apart ops oj=true) (hc:lQ (dw oi.op) (dw oj.op)=true) {s si sij:AS} (hst:eE s.2.1 s.2.2) (hi:fm P N ops oi s si) (hj:fm P N ops oj si sij):∃ sj,fm P N ops oj s sj/\fm P N ops oi sj sij:=by
 obtain⟨h1,h2,h3⟩:=Oper.apart_spec hap;have lj:∀ v,loc oj.op (s.1.put oi.dst v)=loc oj.op s.1:=fun v=>fc (c7 h1)
 have li:∀ v,loc oi.op (s.1.put oj.dst v)=loc oi.op s.1:=fun v=>fc (c7 h3)
 have gj:∀ v,eK ops oj (s.1.put oi.dst v)=eK ops oj s.1:=fun v=>gJ h1
 have gi:∀ v,eK ops oi (s.1.put oj.dst v)=eK ops oi s.1:=fun v=>gJ h3
 have hcc:dw oi.op=0\/dw oj.op=0\/(dw oi.op=1/\dw oj.op=1)\/(dw oi.op=1/\dw oj.op=3):=by
  simp only[lQ,Bool.or_eq_true,beq_iff_eq,Bool.and_eq_true] at hc;rcases hc with (h | h) | ⟨h,h' | h'⟩
  ·exact .inl h
  ·exact .inr (.inl h)
  ·exact .inr (.inr (.inl ⟨h,h'⟩))
  ·exact .inr (.inr (.inr ⟨h,h'⟩))
 obtain⟨O,H,n⟩:=s;obtain⟨ρi,Hi,ni⟩:=si;obtain⟨ρj,Hj,nj⟩:=sij;simp only at lj li gj gi hst;rcases hi with ⟨hgi,v,hv,hk0,hk1,hw,hop⟩ | ⟨hgi,hs⟩
 ·simp only at hgi hv hk0 hk1 hw hop;subst hv;rcases hj with ⟨hgj,u,hu,hl0,hl1,hx,hoq⟩ | ⟨hgj,hs'⟩
  ·simp only at hgj hu hl0 hl1 hx hoq;subst hu;rw[gj] at hgj;rw[lj] at hl0 hl1 hoq;rcases hcc with h0 | h0 | ⟨h0,h0'⟩ | ⟨h0,h0'⟩
   ·obtain⟨he,hall⟩:=hk0 h0;cases he;refine⟨(O.put oj.dst u,Hj,nj),.inl ⟨hgj,u,rfl,hl0,hl1,hx,hoq⟩,.inl ⟨by simpa only [gi] using hgi,v,by rw[put_comm v u h2],fun _=>⟨rfl,?_⟩,fun h=>by simp[h0] at h,fun hs=>⟨hs,fun h=>by simp[h0] at h⟩,?_⟩⟩
    ·simp only[li];exact hall
    ·simp only[li];exact hall Hj nj
   ·obtain⟨he,hall⟩:=hl0 h0;cases he;refine⟨(O.put oj.dst u,H,n),.inl ⟨hgj,u,rfl,fun _=>⟨rfl,hall⟩,fun h=>by simp[h0] at h,fun hs=>⟨hs,fun h=>by simp[h0] at h⟩,hall H n⟩,
     .inl ⟨by simpa only [gi] using hgi,v,by rw[put_comm v u h2],by simpa only [li] using hk0,by simpa only [li] using hk1,hw,?_⟩⟩
    simp only[li];exact hop
   ·have e1:=hk1 h0;have e2:=hl1 h0';obtain⟨e1,a1⟩:=e1;obtain⟨e2,a2⟩:=e2;cases e1;cases e2;refine⟨(O.put oj.dst u,H,n),.inl ⟨hgj,u,rfl,hl0,fun _=>⟨rfl,a2⟩,hx,hoq⟩,.inl ⟨by simpa only [gi] using hgi,v,by rw[put_comm v u h2],by simpa only [li] using hk0,fun _=>⟨rfl,by simpa only [li] using a1⟩,hw,?_⟩⟩;simp only[li];exact hop
   ·obtain⟨e1,a1⟩:=hk1 h0;cases e1;obtain⟨hsj,hej⟩:=hx hst;obtain⟨hex,hle⟩:=hej h0';refine⟨(O.put oj.dst u,Hj,nj),.inl ⟨hgj,u,rfl,hl0,hl1,hx,hoq⟩,.inl ⟨by simpa only [gi] using hgi,v,by rw[put_comm v u h2],fun h=>by simp[h0] at h,fun _=>⟨rfl,?_⟩,fun hs=>⟨hs,fun h=>by simp[h0] at h⟩,?_⟩⟩
    ·simp only[li];exact fun H' n' h h'=>a1 H' n' (hex.trans h) (Nat.le_trans hle h')
    ·simp only[li];exact a1 Hj nj hex hle
  ·simp only at hgj hs';cases hs';rw[gj] at hgj;refine⟨(O.put oj.dst k6,H,n),.inr ⟨hgj,rfl⟩,.inl ⟨by simpa only [gi] using hgi,v,by rw[put_comm v k6 h2],by simpa only [li] using hk0,by simpa only [li] using hk1,hw,?_⟩⟩;simp only[li];exact hop
 ·simp only at hgi hs;cases hs;rcases hj with ⟨hgj,u,hu,hl0,hl1,hx,hoq⟩ | ⟨hgj,hs'⟩
  ·simp only at hgj hu hl0 hl1 hx hoq;subst hu;rw[gj] at hgj;rw[lj] at hl0 hl1 hoq;exact⟨(O.put oj.dst u,Hj,nj),.inl ⟨hgj,u,rfl,hl0,hl1,hx,hoq⟩,.inr ⟨by simpa only [gi] using hgi,by rw[put_comm k6 u h2]⟩⟩
  ·simp only at hgj hs';cases hs';rw[gj] at hgj;exact⟨(O.put oj.dst k6,H,n),.inr ⟨hgj,rfl⟩,.inr ⟨by simpa only [gi] using hgi,by rw[put_comm k6 k6 h2]⟩⟩
theorem lW.first {R:AS->Prop} {i:Nat} {oi:Oper} (hi:ops[i]?=some oi) (al:List Nat) (hD:∀ j oj,ops[j]?=some oj->j ∈ al->j ≠ i->∃ e ∈ oj.after,Region.binds .any e=true/\e.on ∈ al):∀ (fuel:Nat) (listed:Array Bool) (s s':AS),eE s.2.1 s.2.2 ->
  (∀ j ∈ al,listed.getD j true=false)->(∀ j oj,ops[j]?=some oj->j ≠ i->listed.getD j true=false->j ∉ al->oi.apart ops oj=true/\lQ (dw oi.op) (dw oj.op)=true) ->
  i ∈ Region.ready .any ops listed->fm P N ops oi s s'->lW P N ops R fuel (listed.setIfInBounds i true) s'->lW P N ops R (fuel+1) listed s:=by
 intro fuel
 induction fuel with
 | zero=>
  intro listed s s' _ _ _ hr hst H;refine⟨fun h=>(by rw[h] at hr;cases hr),fun j hj=>?_⟩
  by_cases hji:j=i
  ·subst hji;exact⟨oi,s',hi,hst,H⟩
  ·have:=ready_mono hj hji;rw[H.1] at this;cases this
 | succ fuel ih=>
  intro listed s s' hstamp hinv hfree hr hst H;refine⟨fun h=>(by rw[h] at hr;cases hr),fun j hj=>?_⟩
  by_cases hji:j=i
  ·subst hji;exact⟨oi,s',hi,hst,H⟩
  ·obtain⟨oj,s'',hoj,hstj,hrest⟩:=H.2 j (ready_mono hj hji);obtain⟨hjun,oj',hoj',hall⟩:=mem_ready.1 hj;rw[hoj] at hoj';cases hoj';have hnot:j ∉ al:=fun hd=>by
    obtain⟨e,he,hb,hed⟩:=hD j oj hoj hd hji;have h1:=hall e he hb;have h0:=hinv e.on hed;rcases Nat.lt_or_ge e.on listed.size with h' | h'
    ·simp[h'] at h0 h1;rw[h0] at h1;cases h1
    ·simp[Array.getElem?_eq_none h'] at h1
   obtain⟨hap,hco⟩:=hfree j oj hoj hji hjun hnot;obtain⟨sj,h1,h2⟩:=fm.sQ hap hco hstamp hst hstj;refine⟨oj,sj,hoj,h1,ih (listed.setIfInBounds j true) sj s'' (h1.stamp hstamp) (fun k hk=>?_) (fun k ok hk hki hun hno=>?_) (ready_mono hr (Ne.symm hji)) h2 ?_⟩
   ·have hjk:j ≠ k:=fun he=>hnot (he ▸ hk)
    rw[getD_set_ne true hjk];exact hinv k hk
   ·refine hfree k ok hk hki ?_ hno
    by_cases hjk:j=k
    ·subst hjk;exact hjun
    ·rw[getD_set_ne true hjk] at hun;exact hun
   ·rw[Array.setIfInBounds_comm _ _ hji];exact hrest
def CR (ops:Array Oper) (listed:Array Bool) (i:Nat):Bool:=
 match ops[i]? with
 | none=>false
 | some oi=>((behind ops i).all fun j => !(listed.getD j true) && match ops[j]? with
   | none=>true
   | some oj=>j == i || oj.after.any (fun e=>Region.binds .any e && (behind ops i).contains e.on)) &&
  (List.range ops.size).all fun j=>match ops[j]? with
  | none=>true
  | some oj=>j == i || listed.getD j true || (behind ops i).contains j || (oi.apart ops oj && lQ (dw oi.op) (dw oj.op))
def Be (ops:Array Oper):Nat->Nat->Array Bool->Bool
 | 0,_,listed=>(Region.ready .any ops listed).isEmpty
 | fuel+1,k,listed=>(Region.ready .any ops listed).contains k && CR ops listed k && Be ops fuel (k+1) (listed.setIfInBounds k true)
def va (ops:Array Oper):Bool:=Be ops ops.size 0 (Array.replicate ops.size false)
theorem w0 {listed:Array Bool} {i:Nat} {oi:Oper} (hi:ops[i]?=some oi) (h:CR ops listed i=true) :
  (∀ j oj,ops[j]?=some oj->j ∈ behind ops i->j ≠ i->∃ e ∈ oj.after,Region.binds .any e=true/\e.on ∈ behind ops i)/\(∀ j ∈ behind ops i,listed.getD j true=false) /\
  ∀ j oj,ops[j]?=some oj->j ≠ i->listed.getD j true=false->j ∉ behind ops i->oi.apart ops oj=true/\lQ (dw oi.op) (dw oj.op)=true:=by
 unfold CR at h;simp only[hi,Bool.and_eq_true] at h;obtain⟨h1,h2⟩:=h;refine⟨fun j oj hj hd hji=>?_,fun j hd=>?_,fun j oj hj hji hun hno=>?_⟩
 ·have:=List.all_eq_true.1 h1 j hd;simp only[hj,Bool.and_eq_true,Bool.or_eq_true,beq_iff_eq] at this;rcases this.2 with h3 | h3
  ·exact absurd h3 hji
  ·obtain⟨e,he,hb⟩:=Array.any_eq_true'.1 h3;simp only[Bool.and_eq_true,List.contains_iff_mem] at hb;exact⟨e,he,hb.1,hb.2⟩
 ·have:=List.all_eq_true.1 h1 j hd;simp only[Bool.and_eq_true,Bool.not_eq_true'] at this;exact this.1
 ·have hlt:j<ops.size:=(Array.getElem?_eq_some_iff.1 hj).1;have:=List.all_eq_true.1 h2 j (List.mem_range.2 hlt);simp only[hj,hun,Bool.or_false,Bool.or_eq_true,beq_iff_eq,Bool.and_eq_true,List.contains_iff_mem] at this;rcases this with (h1 | h1) | h1
  ·exact absurd h1 hji
  ·exact absurd h1 hno
  ·exact h1
theorem lW.lex {R:AS->Prop}:∀ (l:List Oper) (k:Nat) (listed:Array Bool) (s:AS),eE s.2.1 s.2.2->(∀ j:Nat,l[j]?=ops[k+j]?)->Be ops l.length k listed=true->DM P N ops R l s->lW P N ops R l.length listed s
 | [],_,_,_,_,_,hB,h=>⟨by simpa[Be] using hB,h⟩
 | o::l,k,listed,s,hs,hl,hB,h=>by
  have h0:ops[k]?=some o:=by simpa using (hl 0).symm
  simp only[List.length_cons,Be,Bool.and_eq_true] at hB;obtain⟨⟨hr,hf⟩,hB'⟩:=hB;obtain⟨s',hst,hrest⟩:=h;obtain⟨f1,f2,f3⟩:=w0 h0 hf;exact lW.first h0 (behind ops k) f1 l.length listed s s' hs f2 f3 (by simpa using hr) hst
   (lW.lex l (k+1) _ _ (hst.stamp hs) (fun j=>by have:=hl (j+1);simpa[Nat.add_assoc,Nat.add_comm 1 j] using this) hB' hrest)
theorem lW.sound {R:AS->Prop} (hN:ops.toList.all (fun o=>dA N o.dst)=true) {Q:Exit->Act->World->Prop} {c0:Ctx} (hQ:∀ a c O,bn c0 c->Good c->cN N c O a->R (O,c.H,c.n)->Q .normal a c.w) :
  ∀ (fuel:Nat) (listed:Array Bool) (O:Env) (c:Ctx) (a:Act),bn c0 c->Good c->cN N c O a->lW P N ops R fuel listed (O,c.H,c.n)->wpAny P .any ops Q fuel listed a c.w
 | 0,_,_,_,_,hk,g,r,h=>⟨h.1,hQ _ _ _ hk g r h.2⟩
 | fuel+1,listed,O,c,a,hk,g,r,h=>by
  refine⟨fun h0=>hQ _ _ _ hk g r (h.1 h0),fun i hi=>?_⟩;obtain⟨o,s',ho,hst,hrest⟩:=h.2 i hi;obtain⟨ρ',H',n'⟩:=s';have hd:dA N o.dst=true:=List.all_eq_true.1 hN o (by rw[<- Array.getElem?_toList] at ho;exact List.mem_of_getElem? ho);unfold wpOp;simp only[ho];rcases hst with ⟨hg,v,hv,_,_,_,hop⟩ | ⟨hg,hs⟩
  ·rw[if_pos (b8 r hN hg)];simp only at hv hop;subst hv;refine .inl (hop c a rfl rfl g (r.loc o.op) _ _ ?_);rintro v1 x c' ⟨rfl,hH,hn⟩ hrep hgood hkeep;exact lW.sound hN hQ fuel _ _ c' _ (hk.trans hkeep) hgood ((r.keeps hkeep).put hd hrep) (by rw[hH,hn];exact hrest)
  ·rw[if_neg (by rw[b8 r hN hg];simp)];cases hs;exact lW.sound hN hQ fuel _ _ c _ hk g (r.put hd (.v _)) hrest
end
section
variable {P:Program} {f:FuncId} {N:Nat} {k:List Item} {O:Env} {H:Heap} {n:Nat} {Q:I->Heap->Nat->Prop}
theorem J.va {id:Nat} {ops:List Oper} (hm:P.follows .mixedOrders=true) (hN:ops.all (fun o=>dA N o.dst)=true) (hB:Ab.va ops.toArray=true)
  (h:DM P N ops.toArray (fun s=>J P f N k s.1 s.2.1 s.2.2 Q) ops (O,H,n)):J P f N (.code (.region id ops.toArray true)::k) O H n Q:=by
 intro c a hH hn g r b cs hf hk;subst hH;subst hn;obtain⟨d1,d2⟩:=gB g;have hany:=lW.lex (P:=P) (N:=N) (ops:=ops.toArray) ops 0 (Array.replicate ops.toArray.size false) (O,c.H,c.n) (fun i o ho=>g.stamp i o ho) (by simp) (by simpa[Ab.va] using hB) h;have hw:(Code.region id ops.toArray true).wp P (fun e a' w'=>e = .normal/\∃ c' ρ',c'.w=w'/\bn c c'/\Good c'/\cN N c' ρ' a'/\J P f N k ρ' c'.H c'.n Q) a c.w:=by
  refine wp_region_any hm ?_;have:=lW.sound (P:=P) (N:=N) (ops:=ops.toArray) (c0:=c) (by simpa using hN) (Q:=fun e a' w'=>e = .normal/\∃ c' ρ',c'.w=w'/\bn c c'/\Good c'/\cN N c' ρ' a'/\J P f N k ρ' c'.H c'.n Q)
   (R:=fun s=>J P f N k s.1 s.2.1 s.2.2 Q) (fun a' c' ρ' V hg' hr' hR=>⟨rfl,c',ρ',rfl,V,hg',hr',hR⟩) ops.length (Array.replicate ops.toArray.size false) O { c with w:={ c.w with drawn:=c.w.drawn+1 } } a d1 d2 (r.keeps d1) hany
  simpa using this
 obtain⟨e,a',w',⟨rfl,c',ρ',rfl,V,hg',hr',hR⟩,harr⟩:=hw b k cs;obtain⟨x,v,c'',fr,q,hr,hg,hke,hst,rest⟩:=hR c' a' rfl rfl hg' hr' b cs hf hk;exact⟨x,v,c'',fr,q,hr,hg,V.trans hke,Steps.trans harr hst,rest⟩
end
def o9 (Ty:Types) (ai:List Nat) (d:Option Nat) (op:Op) (O:Env) (H:Heap) (n:Nat):Option (I × Heap × Nat):=
 match d with
 | some t=>if ai.contains t then iu Ty d op O H n else aX Ty d op O H n
 | none=>aX Ty d op O H n
@[simp] theorem stepM_none {Ty : Types} {ai : List Nat} {op : Op} {O : Env} {H : Heap} {n : Nat} : o9 Ty ai none op O H n = aX Ty none op O H n := rfl
@[simp] theorem stepM_some {Ty : Types} {ai : List Nat} {t : Nat} {op : Op} {O : Env} {H : Heap} {n : Nat} : o9 Ty ai (some t) op O H n = if ai.contains t then iu Ty (some t) op O H n else aX Ty (some t) op O H n := rfl
section
variable (P:Program) (f:FuncId) (N:Nat) (k:List Item) (Q:I->Heap->Nat->Prop) (Ty:Types) (ai:List Nat) (ops:Array Oper)
def rk (l:List Oper) (O:Env) (H:Heap) (n:Nat):Prop:=DM P N ops (fun s=>J P f N k s.1 s.2.1 s.2.2 Q) l (O,H,n)
mutual
def iq:List Oper->Env->Heap->Nat->Prop
 | [],O,H,n=>J P f N k O H n Q
 | o::l,O,H,n=>o.guard=none/\bindM (o9 Ty ai o.dst o.op O H n) o l O H n
 termination_by l=>(l.length,0)
def bindM:Option (I × Heap × Nat)->Oper->List Oper->Env->Heap->Nat->Prop
 | some (v,H',n'),o,l,O,_,_=>iq l (O.put o.dst v) H' n'
 | none,o,l,O,H,n=>rk P f N k Q ops (o::l) O H n
 termination_by _ _ l=>(l.length,1)
end
end
section
variable {P:Program} {f:FuncId} {N:Nat} {k:List Item} {Q:I->Heap->Nat->Prop} {Ty:Types} {ai:List Nat} {ops:Array Oper} {o:Oper} {L:List Oper} {O:Env} {H:Heap} {n:Nat}
@[simp] theorem evalM_nil : iq P f N k Q Ty ai ops [] O H n = J P f N k O H n Q := by rw [iq]
@[simp] theorem evalM_op {d : Option Tmp} {op : Op} {ty : TypeId} {pos : String} {af : Array Edge} : iq P f N k Q Ty ai ops (⟨d, op, ty, pos, af, none⟩ :: L) O H n = bindM P f N k Q Ty ai ops (o9 Ty ai d op O H n) ⟨d, op, ty, pos, af, none⟩ L O H n := by rw [iq]; simp
@[simp] theorem bindM_some {v : I} {H' : Heap} {n' : Nat} : bindM P f N k Q Ty ai ops (some (v, H', n')) o L O H n = iq P f N k Q Ty ai ops L (O.put o.dst v) H' n' := by rw [bindM]
@[simp] theorem bindM_none : bindM P f N k Q Ty ai ops none o L O H n = rk P f N k Q ops (o :: L) O H n := by rw [bindM]
theorem lh {op:Op} (h:dw op ≠ 3):dw op=b3 op:=by
 unfold dw at h ⊢
 split
 ·rename_i len _
  by_cases hl:len=0
  ·simp[hl,b3]
  ·simp[hl] at h
 ·rfl
theorem zT (op:Op):b3 op ≠ 3:=by
 unfold b3
 split<;>first | decide | (split<;>decide)
theorem vo {op:Op} (h:dw op=3):b3 op=0:=by
 unfold dw at h
 split at h
 ·split at h
  ·cases h
  ·rename_i h0;simp[b3,h0]
 ·exact absurd h (zT op)
theorem fm.A9 (hT:aU P Ty) {v:I} {H':Heap} {n':Nat} (hg:eK ops o O=some true) (hs:aX Ty o.dst o.op O H n=some (v,H',n')):fm P N ops o (O,H,n) (O.put o.dst v,H',n'):=by
 have hl:aX Ty o.dst o.op (loc o.op O) H n=some (v,H',n'):=by rw[ax];exact hs
 refine .inl ⟨hg,v,rfl,fun h0=>?_,fun h1=>?_,fun hst=>⟨ur hl hst,fun h3=>?_⟩,aA hT hl⟩
 ·obtain⟨e1,e2,hall⟩:=jB (by rw[<- lh (by omega)];exact h0) hl;subst e1 e2;exact⟨rfl,fun H2 n2=>aA hT (hall H2 n2)⟩
 ·have hk:b3 o.op=1:=by rw[<- lh (by omega)];exact h1
  obtain⟨e1,e2⟩:=qb hk hl;subst e1 e2;exact⟨rfl,fun H2 n2 he _=>aA hT (zk hk hl he)⟩
 ·obtain⟨e1,e2,_⟩:=jB (vo h3) hl;subst e1 e2;exact⟨Ext.refl _,Nat.le_refl _⟩
theorem fm.oK (hT:aU P Ty) {v:I} {H':Heap} {n':Nat} (hg:eK ops o O=some true) (hs:o9 Ty ai o.dst o.op O H n=some (v,H',n')):fm P N ops o (O,H,n) (O.put o.dst v,H',n'):=by
 have ho:iu Ty o.dst o.op O H n=some (v,H',n')\/aX Ty o.dst o.op O H n=some (v,H',n'):=by
  unfold o9 at hs
  split at hs
  ·rename_i t hd
   split at hs
   ·exact .inl hs
   ·exact .inr hs
  ·exact .inr hs
 rcases ho with ho | ho
 ·have hk:=yH ho;have hn:=ownF_n ho;have hl:iu Ty o.dst o.op (loc o.op O) H n=some (v,H',n'):=by rw[Bm];exact ho
  obtain⟨h1,h2⟩:=mj (N:=N) hT hl;exact .inl ⟨hg,v,rfl,(fun h=>by rw[hk] at h;cases h),(fun h=>by rw[hk] at h;cases h),fun hst=>⟨(h2 hst).1,fun _=>⟨(h2 hst).2,by show n<=n';omega⟩⟩,h1⟩
 ·exact fm.A9 hT hg ho
theorem jP (hT:aU P Ty):∀ (l:List Oper) (O:Env) (H:Heap) (n:Nat),iq P f N k Q Ty ai ops l O H n->rk P f N k Q ops l O H n
 | [],O,H,n,h=>by rw[iq] at h;exact h
 | o::l,O,H,n,h=>by
  rw[iq] at h;obtain⟨hg,h⟩:=h;cases hs:o9 Ty ai o.dst o.op O H n with
  | none=>rw[hs,bindM_none] at h;exact h
  | some r=>
   obtain⟨v,H',n'⟩:=r;rw[hs,bindM_some] at h;exact⟨_,fm.oK hT (by simp[eK,hg]) hs,jP hT l _ _ _ h⟩
theorem J.seqM (hT:aU P Ty) (ai:List Nat) {id:Nat} {ops:List Oper} {y:Code} (hm:P.follows .mixedOrders=true) (hN:ops.all (fun o=>dA N o.dst)=true) (hB:Ab.va ops.toArray=true)
  (h:∀ k':List Item,(∀ O H n,J P f N (.code y::k) O H n Q->J P f N k' O H n Q)->iq P f N k' Q Ty ai ops.toArray ops O H n):J P f N (.code (.seq (.region id ops.toArray true) y)::k) O H n Q:=
 J.seq (J.va hm hN hB (jP hT ops _ _ _ (h (.code y::k) fun _ _ _ h=>h)))
theorem rk.b7 (hT:aU P Ty) {d:Option Tmp} {g:Operand} {args:Array Operand} {ats:Array TypeId} {ty:TypeId} {pos:String} {af:Array Edge} {v:I} {f':FuncId} {as1 b4:List I}
  (h:aC P f' b4 (fun r=>r=v)) (cP:aZ P f') (ha:∀ H' n',Ext H H'->n<=n'->bW H' n' as1 b4) (hg:O.ev g = .fn (.func f') [] []) (has:args.toList.map O.ev=as1)
  (hk:iq P f N k Q Ty ai ops L (O.put d v) H n):rk P f N k Q ops (⟨d,.call ⟨.value g,args,ats⟩,ty,pos,af,none⟩::L) O H n:=by
 have hop:∀ H' n',Ext H H'->n<=n'->aI P N ⟨d,.call ⟨.value g,args,ats⟩,ty,pos,af,none⟩ (loc (.call ⟨.value g,args,ats⟩) O) H' n' (qJ v H' n'):=fun H' n' he hn=>aI.xV hg cP (has ▸ ha H' n' he hn) h
 exact⟨(O.put d v,H,n),.inl ⟨by simp[eK],v,rfl,fun h=>by simp[dw,b3] at h,fun _=>⟨rfl,hop⟩,fun hs=>⟨hs,fun h=>by simp[dw,b3] at h⟩,hop H n (Ext.refl H) (Nat.le_refl n)⟩,jP hT L _ _ _ hk⟩
end
section
variable {P:Program} {f f':FuncId} {N:Nat} {k:List Item} {Q:I->Heap->Nat->Prop} {Ty:Types} {ai:List Nat} {ops:Array Oper} {L:List Oper} {O:Env} {H H':Heap} {n n':Nat} {K K1 K2:List bS} {ids:List Id} {t:TypeId} {j:TI} {l:List Sh} {v:I} {es:List (List I)} {o:Oper}
theorem qU {d:Nat} {x:I} (add:List (List I)) (h:Sep H n ((.s l,v,.list true es)::K) ids) (hf:∀ t ∈ l,t = .c) (hk:kd Ty t = .slice j) (hj:j.size=l.length) (hz:j.zero.length=j.size/\j.bytes<=131072)
  (hx:cb H x=some add) (ho:∀ e ∈ add,e.length=l.length/\∀ a ∈ e,bV a/\Ab.aF a=true) (hlen:es.length+add.length<=1073741824)
  (hc:∀ v' H' n',Sep H' n' ((.s l,v',.list true (es++add))::K) ids->(∀ i ∈ ids,H' i=H i)->n<=n'->iq P f N k Q Ty ai ops L (O.put o.dst v') H' n'):bindM P f N k Q Ty ai ops (bb Ty (some d) t v x H n) o L O H n:=by
 obtain⟨v',H',n',h1,h2,h3,h4⟩:=Sep.cX (d:=d) h hf hk hj hz hx ho hlen;rw[h1,bindM_some];exact hc v' H' n' h2 h3 h4
theorem xD {d len:Nat} {ps:Array (Nat × Operand)} {cs:List I} (es:List (List I)) (h:Sep H n K ids) (hf:∀ t ∈ l,t = .c) (hk:kd Ty t = .slice j) (hj:j.size=l.length) (h0:len ≠ 0/\len * j.size<=16777216/\j.size ≠ 0/\j.zero.length=j.size)
  (hcs:dt (fun k=>some (k * j.size,j.size)) ((List.replicate len (j.zero.map I.v)).flatten) (ps.toList.map fun p=>(p.1,O.ev p.2))=some cs) (hes:chunks j.size len cs=es) (hel:es.length=len) (ho:∀ e ∈ es,e.length=l.length/\∀ a ∈ e,flat a=true)
  (hc:∀ id H' n',Sep H' n' ((.s l,.arr id len 0 len,.list true es)::K) ids->(∀ i ∈ ids,H' i=H i)->n<=n'->iq P f N k Q Ty ai ops L (O.put o.dst (.arr id len 0 len)) H' n'):bindM P f N k Q Ty ai ops (iu Ty (some d) (.buildSlice t len ps) O H n) o L O H n:=by
 subst hes;have e:iu Ty (some d) (.buildSlice t len ps) O H n=some (.arr (n,d) len 0 len,H.set (n,d) ⟨j.size,chunks j.size len cs⟩,n+1):=by
  simp only[iu,hk];rw[if_pos h0,hcs]
  rfl
 rw[e,bindM_some];have h1:=Sep.nB (d:=d) (l:=l) (els:=chunks j.size len cs) (es:=chunks j.size len cs) h (bE.xM ho hf);rw[hel,<- hj] at h1;exact hc (n,d) _ _ h1 (fun i hi=>Heap.aD _ _ (by rintro rfl;have:=h.1 _ hi;simp at this)) (Nat.le_succ n)
end
end Go.Ab
namespace Go.Ab
open Go.Proofs Go.RowKit
section
variable {P:Program} {f:FuncId} {N:Nat} {k:List Item} {Q:I->Heap->Nat->Prop} {Ty:Types} {l:List Oper} {O:Env} {H:Heap} {n:Nat} {K:List bS} {ids:List Id}
end
end Go.Ab
namespace Go.Ab
variable [Inhabited cD]
section
variable (P:Program) (N:Nat) (ops:Array Oper) (W:List Id)
end
section
variable {P:Program} {N:Nat} {ops:Array Oper} {W:List Id}
end
section
variable {P:Program} {f:FuncId} {N:Nat} {k:List Item} {O:Env} {H:Heap} {n:Nat} {Q:I->Heap->Nat->Prop}
end
section
variable (P:Program) (f:FuncId) (N:Nat) (k:List Item) (Q:I->Heap->Nat->Prop) (Ty:Types) (W:List Id) (ops:Array Oper)
end
section
variable {P:Program} {f:FuncId} {N:Nat} {k:List Item} {Q:I->Heap->Nat->Prop} {Ty:Types} {W:List Id} {ops:Array Oper} {o:Oper} {L:List Oper} {O:Env} {H:Heap} {n:Nat}
section
variable {H2:Heap} (hw:∀ i ∈ W,H2 i=H i)
include hw
end
end
section
variable {P:Program} {f f':FuncId} {N:Nat} {k:List Item} {Q:I->Heap->Nat->Prop} {Ty:Types} {W:List Id} {L:List Oper} {O:Env} {H:Heap} {n:Nat} {K K1 K2:List bS} {ids:List Id} {t:TypeId} {j:TI} {l:List Sh} {v:I} {es:List (List I)} {o:Oper}
end
end Go.Ab
namespace Go.Ab
variable [Inhabited cD]
open Go.RowKit Go.ChangeAt Go.WideShapes Go.ChangeShapes
def mI (w:World) (as1:List I) (cs:List Value):Prop:=
 as1.length=cs.length/\∀ (c:Ctx),c.w=w->(∀ id,c.H id=none)->∀ (j:Nat) (a:I) (x:Value),as1[j]?=some a->cs[j]?=some x->bT c a x
def Reader (P:Program) (t:TypeId) {α:Type} (e:α->List I) (ok:α->Prop):Prop:=
 ∀ (H:Type) (enc:TypeId × Value->H) (w:World) (base:Nat) (spare:Nat->Bool) (held:Bool) (fuel:Nat) (cs:List Value) (x:DataW H × List MemPlace),DataW.trod enc P w base spare held fuel t cs=some x->∃ a,ok a/\mI w (e a) cs
section
variable {P:Program} {t:TypeId}
theorem mI.v (w:World) (x:Value):mI w [.v x] [x]:=⟨rfl,fun _ _ _ j a y ha hy=>by
 match j with
 | 0=>simp at ha hy;subst ha hy;exact .v _
 | j+1=>simp at ha⟩
theorem Reader.int (hu:P.underlying t=some (.int .i64)):Reader P t (fun n:Int=>[int n]) (fun n => -9223372036854775808<=n/\n<=9223372036854775807):=by
 intro H enc w base spare held fuel cs x h;obtain⟨n,rfl,_,hw⟩:=DataW.trod_int hu h;refine⟨n,?_,mI.v w _⟩;simp[Lit.wf] at hw;have h1:IntKind.i64.min = -9223372036854775808:=by decide
 have h2:IntKind.i64.max=9223372036854775807:=by decide
 omega
theorem Reader.str (hu:P.underlying t=some .string):Reader P t (fun s:bc=>[Ab.str s]) (fun s=>s.length<=9223372036854775807):=by
 intro H enc w base spare held fuel cs x h;obtain⟨s,rfl,_,hs⟩:=DataW.trod_string hu h;have hm:maxLen=9223372036854775807:=by decide
 refine⟨s.data.toList,?_,?_⟩
 ·have:s.data.toList.length=s.size:=rfl;omega
 exact mI.v w (.string s)
theorem Reader.map {α β:Type} {e:α->List I} {ok:α->Prop} {e':β->List I} {ok':β->Prop} (h:Reader P t e ok) (f:α->β) (he:∀ a,e' (f a)=e a) (hok:∀ a,ok a->ok' (f a)):Reader P t e' ok':=by
 intro H enc w base spare held fuel cs x hx;obtain⟨a,h1,h2⟩:=h H enc w base spare held fuel cs x hx;exact⟨f a,hok a h1,by rw[he];exact h2⟩
def b9 (P:Program) (fs:List Field) (off total:Nat) {α:Type} (e:α->List I) (ok:α->Prop):Prop:=
 ∀ (H:Type) (enc:TypeId × Value->H) (w:World) (base:Nat) (spare:Nat->Bool) (held:Bool) (fuel:Nat) (cs:List Value),cs.length=total->(∀ f ∈ fs,∃ x,DataW.trod enc P w base spare held fuel f.type ((cs.drop f.offset).take (P.cellsOf f.type))=some x)->∃ a,ok a/\mI w (e a) (cs.drop off)
theorem b9.nil (n:Nat):b9 P [] n n (fun _:Unit=>[]) (fun _=>True):=by
 intro H enc w base spare held fuel cs hl _;refine⟨(),trivial,?_⟩;rw[List.drop_of_length_le (by omega)];exact⟨rfl,fun _ _ _ j a x ha=>by simp at ha⟩
theorem mI.append {w:World} {as1 bs:List I} {cs ds:List Value} (h:mI w as1 cs) (k:mI w bs ds):mI w (as1++bs) (cs++ds):=by
 refine⟨by simp[h.1,k.1],fun c hw hH j a x ha hx=>?_⟩;rcases Nat.lt_or_ge j as1.length with hj | hj
 ·rw[List.getElem?_append_left hj] at ha;rw[List.getElem?_append_left (by rw[<- h.1];exact hj)] at hx;exact h.2 c hw hH j a x ha hx
 ·rw[List.getElem?_append_right hj] at ha;rw[List.getElem?_append_right (by rw[<- h.1];exact hj),<- h.1] at hx;exact k.2 c hw hH _ a x ha hx
theorem b9.cons {f:Field} {fs:List Field} {off n total:Nat} {α β:Type} {e:α->List I} {ok:α->Prop} {e':β->List I} {ok':β->Prop} (ho:f.offset=off) (hn:P.cellsOf f.type=n) (h:Reader P f.type e ok) (k:b9 P fs (off+n) total e' ok') :
  b9 P (f::fs) off total (fun p:α × β=>e p.1++e' p.2) (fun p=>ok p.1/\ok' p.2):=by
 intro H enc w base spare held fuel cs hl hx;obtain⟨x,h1⟩:=hx f (by simp);obtain⟨a,ha,hra⟩:=h H enc w base spare held fuel _ x h1;obtain⟨b,hb,hrb⟩:=k H enc w base spare held fuel cs hl (fun g hg=>hx g (by simp[hg]));refine⟨(a,b),⟨ha,hb⟩,?_⟩;have:=mI.append hra hrb;rw[ho,hn,<- List.drop_drop,List.take_append_drop] at this;exact this
theorem Reader.struct {fs:Array Field} {α:Type} {e:α->List I} {ok:α->Prop} {n:Nat} (hu:P.underlying t=some (.struct fs)) (hn:P.cellsOf t=n) (h:b9 P fs.toList 0 n e ok):Reader P t e ok:=by
 intro H enc w base spare held fuel cs x hx;obtain⟨xs,m,_,_,hl,hxl,hf⟩:=DataW.trod_struct hu hx;obtain⟨a,ha,hr⟩:=h H enc w base spare held m cs (hl.trans hn) (fun f hm=>by
  obtain⟨i,hi⟩:=List.getElem?_of_mem hm;have hlt:i<xs.length:=by rw[hxl];simpa using (List.getElem?_eq_some_iff.1 hi).1
  exact⟨xs[i],by rw[hf i f (by simpa using hi)];exact List.getElem?_eq_getElem hlt⟩)
 exact⟨a,ha,hr⟩
theorem nN {α:Type} {Q:Nat->α->Prop}:∀ n,(∀ i,i<n->∃ a,Q i a)->∃ l:List α,l.length=n/\∀ i a,l[i]?=some a->Q i a
 | 0,_=>⟨[],rfl,by simp⟩
 | n+1,h=>by
  obtain⟨l,hl,hq⟩:=nN n fun i hi=>h i (by omega)
  obtain⟨a,ha⟩:=h n (by omega);refine⟨l++[a],by simp[hl],fun i b hb=>?_⟩;rcases Nat.lt_or_ge i n with hi | hi
  ·rw[List.getElem?_append_left (by omega)] at hb;exact hq i b hb
  ·rw[List.getElem?_append_right (by omega)] at hb;have:i - l.length=0:=by
    rcases Nat.eq_zero_or_pos (i - l.length) with h | h
    ·exact h
    ·rw[List.getElem?_eq_none (by simp;omega)] at hb;cases hb
   rw[this] at hb;simp at hb;subst hb;rw[show i=n by omega];exact ha
theorem zV {w:World} {base n:Nat} {a:Addr} {cs:List Value} (h:w.cells? base a n=some cs):cs.length=n/\∀ (j:Nat) x,cs[j]?=some x->w.cell? (a.add j)=some x:=by
 unfold World.cells? at h
 split at h
 ·have hl:=mapM_some_length h;simp at hl;refine⟨hl,fun j x hx=>?_⟩;have hj:j<n:=by rw[<- hl];exact (List.getElem?_eq_some_iff.1 hx).1
  rw[mapM_some_get h j j (by simp[hj]),hx]
 ·cases h
theorem Reader.slice {t':TypeId} {α:Type} {e:α->List I} {ok:α->Prop} (hu:P.underlying t=some (.slice t')) (hpos:0<P.cellsOf t') (h:Reader P t' e ok) :
  Reader P t (fun l:List α=>[.list false (l.map e)]) (fun l=>l.length<=9223372036854775807/\∀ a ∈ l,ok a):=by
 intro H enc w base spare held fuel cs x hx;rcases DataW.trod_slice hu hx with ⟨rfl,_⟩ | ⟨a,len,cap,elems,rest,n,_,rfl,_,_,hlc,hcm,hel,hat,_,_⟩
 ·refine⟨[],⟨by simp,by simp⟩,rfl,fun c hw hH j y z hy hz=>?_⟩
  match j with
  | 0=>simp at hy hz;subst hy hz;exact .lnil false
  | j+1=>simp at hy
 ·have hall:∀ i,i<len->∃ b,ok b/\∃ ci,w.cells? base (a.add (i * P.cellsOf t')) (P.cellsOf t')=some ci/\mI w (e b) ci:=by
   intro i hi;have:=hat i hi;rw[List.getElem?_eq_getElem (by omega)] at this;cases hc:w.cells? base (a.add (i * P.cellsOf t')) (P.cellsOf t') with
   | none=>rw[hc] at this;cases this
   | some ci=>
    rw[hc] at this;obtain⟨b,hb,hr⟩:=h H enc w base spare held n ci _ this;exact⟨b,hb,ci,rfl,hr⟩
  obtain⟨l,hl,hq⟩:=nN len hall;have hm:maxLen=9223372036854775807:=by decide
  have hl9:l.length<=9223372036854775807:=by omega
  refine⟨l,⟨hl9,fun b hb=>?_⟩,rfl,fun c hw hH j y z hy hz=>?_⟩
  ·obtain⟨i,hi⟩:=List.getElem?_of_mem hb;exact (hq i b hi).1
  match j with
  | j+1=>simp at hy
  | 0=>
  simp at hy hz;subst hy hz;have hcell:∀ (i:Nat) b,l[i]?=some b->∃ ci,mI w (e b) ci/\ci.length=P.cellsOf t'/\∀ (q:Nat) x,ci[q]?=some x->w.cell? ((a.add (i * P.cellsOf t')).add q)=some x:=by
   intro i b hb;obtain⟨_,ci,h1,h2⟩:=hq i b hb;obtain⟨h3,h4⟩:=zV h1;exact⟨ci,h2,h3,h4⟩
  have hfirst:l ≠ []->a.spot=none/\a.block<w.heap.size:=by
   intro hne;obtain⟨b,hb⟩:∃ b,l[0]?=some b:=a6 (List.length_pos_iff.2 hne);obtain⟨ci,_,h3,h4⟩:=hcell 0 b hb;obtain⟨x,hx⟩:∃ x,ci[0]?=some x:=a6 (by omega);have:=h4 0 x hx
   constructor
   ·simpa[Addr.add] using World.cell?_spot this
   ·have h5:=this;unfold World.cell? at h5;rcases Nat.lt_or_ge a.block w.heap.size with hlt | hge
    ·exact hlt
    ·have:w.heap[a.block]?=none:=Array.getElem?_eq_none hge;simp[Addr.add,this] at h5
  have key:∀ (i:Nat) (b:α) (q:Nat) (y:I),l[i]?=some b->(e b)[q]?=some y->∃ x,w.cell? ⟨a.block,a.off+(i * P.cellsOf t'+q),none⟩=some x/\bT c y x:=by
   intro i b q y hb hy;obtain⟨ci,hr,h3,h4⟩:=hcell i b hb;have hql:q<ci.length:=by rw[<- hr.1];exact (List.getElem?_eq_some_iff.1 hy).1
   obtain⟨x,hx⟩:=a6 hql;refine⟨x,?_,hr.2 c hw hH q y x hy hx⟩;have h5:=h4 q x hx;have hsp:=(hfirst (by intro h0;subst h0;simp at hb)).1;obtain⟨b0,o0,s0⟩:=a;simp only at hsp;subst hsp;simp only[Addr.add_lit] at h5;rw[<- Nat.add_assoc];exact h5
  have:=bT.list (c:=c) false (l.map e) a cap (P.cellsOf t') (fun i q=>(w.cell? ⟨a.block,a.off+(i * P.cellsOf t'+q),none⟩).getD Go.undef) (fun hne=>(hfirst (by intro h0;subst h0;simp at hne)).1) (by simp;omega)
   (fun hne=>⟨Bn hH _,by rw[hw];exact (hfirst (by intro h0;subst h0;simp at hne)).2,fun h=>by cases h⟩)
   (fun i el he=>by
    obtain⟨b,hb,rfl⟩:=bN he;obtain⟨ci,hr,h3,_⟩:=hcell i b hb;rw[hr.1,h3])
   (fun i el q y he hy=>by
    obtain⟨b,hb,rfl⟩:=bN he;obtain⟨x,hx,_⟩:=key i b q y hb hy;rw[hw,hx]
    rfl)
   (fun i el q y he hy=>by
    obtain⟨b,hb,rfl⟩:=bN he;obtain⟨x,hx,hr⟩:=key i b q y hb hy;rw[hx];exact hr)
  rw[List.length_map,hl] at this;exact this
def th (P:Program) (t:TypeId) {α:Type} (e:α->I) (ok:α->Prop):Prop:=
 ∀ (H:Type) (enc:TypeId × Value->H) (W:World) (base:Nat) (v:Value) (d:DataW H) (p:List MemPlace),Value.okWide P W .any base t v->DataW.Trod enc P W 0 (fun _=>true) true t v d p ->
  ∃ a,ok a/\∀ c:Ctx,c.w=W->(∀ id,c.H id=none)->bT c (e a) v
theorem th.struct {fs:Array Field} {α:Type} {e:α->List I} {ok:α->Prop} (hu:P.underlying t=some (.struct fs)) (h:Reader P t e ok):th P t (fun a=>.agg (e a)) ok:=by
 intro H enc W base v d p hv ⟨fuel,hd⟩;obtain⟨a,ha,hl,hr⟩:=h H enc W 0 _ true fuel _ _ hd;refine⟨a,ha,fun c hw hH=>?_⟩;simp only[Value.okWide,hu] at hv;obtain⟨cs,rfl,_,_⟩:=hv;have:=bT.agg (c:=c) (e a) cs.toList (by simpa[Value.cells] using hl) (fun i b x hb hx=>hr c hw hH i b x hb (by simpa[Value.cells] using hx));simpa using this
theorem th.cell {α:Type} {x:α->I} {ok:α->Prop} (hc:∀ (W:World) (base:Nat) (v:Value),Value.okWide P W .any base t v->v.cells=#[v]) (h:Reader P t (fun a=>[x a]) ok):th P t x ok:=by
 intro H enc W base v d p hv ⟨fuel,hd⟩;obtain⟨a,ha,hl,hr⟩:=h H enc W 0 _ true fuel _ _ hd;refine⟨a,ha,fun c hw hH=>?_⟩;exact hr c hw hH 0 _ v rfl (by rw[hc W base v hv];rfl)
theorem w9 {e:TypeId} (hu:P.underlying t=some (.slice e)) (W:World) (base:Nat) (v:Value) (h:Value.okWide P W .any base t v):v.cells=#[v]:=by
 simp only[Value.okWide,hu,Cell.okWide] at h;cases v<;>first | rfl | (simp[Cell.ok,hu] at h)
def me (P:Program) (ts:List TypeId) {α:Type} (e:α->List I) (ok:α->Prop):Prop:=
 ∀ (H:Type) (enc:TypeId × Value->H) (W:World) (base:Nat) (vs:List Value) (ds:List (DataW H)) (p:List MemPlace),(∀ (j:Nat) t v,ts[j]?=some t->vs[j]?=some v->Value.okWide P W .any base t v) ->
  DataW.TrodAll enc P W 0 (fun _=>true) true ts vs ds p->∃ a,ok a/\∀ c:Ctx,c.w=W->(∀ id,c.H id=none)->de c (e a) vs
theorem me.nil:me P [] (fun _:Unit=>[]) (fun _=>True):=by
 intro H enc W base vs ds p _ h;obtain⟨rfl,_,_⟩:=ChangeShapes.trodAll_nil h;exact⟨(),trivial,fun c _ _=>⟨rfl,fun i a x ha=>by simp at ha⟩⟩
theorem me.cons {ts:List TypeId} {α β:Type} {e:α->I} {ok:α->Prop} {e':β->List I} {ok':β->Prop} (h:th P t e ok) (k:me P ts e' ok'):me P (t::ts) (fun p:α × β=>e p.1::e' p.2) (fun p=>ok p.1/\ok' p.2):=by
 intro H enc W base vs ds p hv hA;obtain⟨v,vs',d,ds',q1,q2,rfl,rfl,rfl,h1,h2⟩:=ChangeShapes.trodAll_cons hA;obtain⟨a,ha,hr⟩:=h H enc W base v d q1 (hv 0 t v rfl rfl) h1;obtain⟨b,hb,hs⟩:=k H enc W base vs' ds' q2 (fun j u x hu hx=>hv (j+1) u x (by simpa using hu) (by simpa using hx)) h2;refine⟨(a,b),⟨ha,hb⟩,fun c hw hH=>?_⟩;have r1:=hr c hw hH;obtain⟨r2,r3⟩:=hs c hw hH;refine⟨by simp[r2],fun i y x hy hx=>?_⟩
 match i with
 | 0=>simp at hy hx;subst hy hx;exact r1
 | i+1=>exact r3 i y x (by simpa using hy) (by simpa using hx)
theorem aC.calls {f:FuncId} {args:List I} {x:Value} (h:aC P f args (fun r=>r = .v x)) (W:World) (hT:yG W W.heap.size) (xs:List Value) (hr:∀ c:Ctx,c.w=W->(∀ id,c.H id=none)->de c args xs) :
  Calls P f xs.toArray W fun e W'=>e = .returned x/\Below W.heap.size W W':=by
 refine (h ⟨W.heap.size,fun _=>0,bp,0,W⟩ xs rfl rfl (jT W hT) (hr _ rfl (fun _=>rfl))).mono ?_;rintro e w' ⟨y,v,c',he,hw,⟨r,hres,hR⟩,hv,hg,hk⟩;subst hw hR;have hy:=(hres c' y rfl rfl hg hv ⟨0,fun _=>0,bp,0,c'.w⟩ rfl (fun k hk=>by obtain⟨id,o,ho,_⟩:=hk;cases ho) (Nat.zero_le _)).cn;subst hy;exact⟨he,hk.os,hk.tape,hk.output,hk.size,fun k V=>(hk.imm k V (by rintro⟨id,o,ho,_⟩;cases ho)).1⟩
theorem Below.trodAll {H:Type} {enc:TypeId × Value->H} (hl:laidOutB P=true) {W W':World} (hb:Below W.heap.size W W'):∀ {ts:List TypeId} {vs:List Value} {ds:List (DataW H)} {ps:List MemPlace},
  ts.all (fun t=>P.readableRec t && decide (t<P.types.size))=true->DataW.TrodAll enc P W 0 (fun _=>true) true ts vs ds ps->(∀ x ∈ ps,x.block<W.heap.size)->DataW.TrodAll enc P W' 0 (fun b=>decide (b<W.heap.size)) true ts vs ds ps
 | [],vs,ds,ps,_,h,_=>by
  obtain⟨rfl,rfl,rfl⟩:=ChangeShapes.trodAll_nil h;exact rfl
 | t::ts,vs,ds,ps,hr,h,hp=>by
  obtain⟨v,vs',d,ds',q1,q2,rfl,rfl,rfl,h1,h2⟩:=ChangeShapes.trodAll_cons h;simp only[List.all_cons,Bool.and_eq_true,decide_eq_true_eq] at hr;exact⟨q1,q2,Go.RowKit.Below.trod hl hr.1.1 hr.1.2 h1 hb (fun x hx=>hp x (by simp[hx])),Below.trodAll hl hb (by simpa using hr.2) h2 (fun x hx=>hp x (by simp[hx])),rfl⟩
theorem yD {H:Type} {enc:TypeId × Value->H} {fn:Func} {s:ChangeSpec} {fresh handsOn:Bool} {W W':World} {args:Array Value} {ds gs:List (DataW H)} {before:List MemPlace} {tb:TypeId}
  (hl:laidOutB P=true) (hvars:s.vars=[]) (hrt:fn.resultTypes=#[tb]) (htb:P.underlying tb=some .bool) (hread:fn.params.toList.all (fun t=>P.readableRec t && decide (t<P.types.size))=true)
  (hres:(s.fn H ds).results=[.lit (.bool true)]) (hargs:(s.fn H ds).args=ds) (hvs:(s.fn H ds).vars=[]) (hW:DataW.Whole enc P fn.params.toList s.vars false W args.toList ds gs before) (hb:Below W.heap.size W W') :
  s.post enc P fn false fresh handsOn false W args (.bool true) W':=by
 have hlt:∀ x ∈ before,x.block<W.heap.size:=fun x hx=>by simpa using hW.lt x hx
 have hW0:=hW;obtain⟨p,q,hA,hV,rfl,_,_⟩:=hW0;rw[hvars] at hV;obtain⟨hgs,hq⟩:=ChangeShapes.trodVars_none hV;subst hgs hq;refine⟨ds,[],p++[],[],p,[],hW,?_,?_,?_,hb.frame _,fun h=>by cases h⟩
 ·rw[List.append_nil,hres,hrt];exact ChangeShapes.trodAll_mk1 (shut_bool htb true)
 ·rw[List.append_nil,hargs];exact Below.trodAll hl hb hread hA (fun x hx=>hlt x (by simp[hx]))
 ·rw[List.append_nil,hvs,hvars];exact rfl
theorem nV {H:Type} {enc:TypeId × Value->H} {w:World} {base:Nat} {M:Nat->Bool} {hd:Bool}:∀ {ts:List TypeId} {vs:List Value} {ds:List (DataW H)} {ps:List MemPlace},DataW.TrodAll enc P w base M hd ts vs ds ps->ds.length=ts.length
 | [],vs,ds,ps,h=>by obtain⟨_,rfl,_⟩:=ChangeShapes.trodAll_nil h;rfl
 | t::ts,vs,ds,ps,h=>by
  obtain⟨v,vs',d,ds',q1,q2,rfl,rfl,rfl,h1,h2⟩:=ChangeShapes.trodAll_cons h;simp[nV h2]
end
theorem BL {C:Checked} {os:Os} {f:FuncId} {fn:Func} {s:ChangeSpec} {laid:List (String × DataW Unit)} {α:Type} {e:α->List I} {ok:α->Prop} {tb:TypeId} {H:Type} {enc:TypeId × Value->H}
  (own:ownKnob C.prog.godebug=none) (started:os.Started) (hinit:C.prog.inits.idxOf? f=none) (hfn:C.prog.funcs[f]?=some fn) (hl:laidOutB C.prog=true)
  (wit:∃ (w:World) (tape:Tape) (i:Input),w.os=os/\(w.forCall tape i).Shaped C.prog/\i.vars=[]/\Input.okWide C.prog (w.forCall tape i) .any w.heap.size f i /\
   ((s.pre enc C.prog fn [] false (w.forCall tape i).memory i.args/\laidMetH C.prog laid (w.forCall tape i).memory)/\sizedMet enc C.prog fn (OpenSpec.ofChange s) false (w.forCall tape i).memory i.args)/\({}:Assume).holds C.prog (lone (Frame.enter C.prog f i.args .normal) [] (w.forCall tape i)))
  (hT:∀ W,laidMetH C.prog laid W->yG W W.heap.size) (hR:me C.prog fn.params.toList e ok) (hlaw:∀ a,ok a->aC C.prog f (e a) (fun r=>r = .v (.bool true)))
  (hvars:s.vars=[]) (hrt:fn.resultTypes=#[tb]) (htb:C.prog.underlying tb=some .bool) (hread:fn.params.toList.all (fun t=>C.prog.readableRec t && decide (t<C.prog.types.size))=true)
  (hs:∀ ds:List (DataW H),ds.length=fn.params.toList.length->(s.fn H ds).results=[.lit (.bool true)]/\(s.fn H ds).args=ds/\(s.fn H ds).vars=[]) :
  ReturnsInHanded {} C os f .any (fun w args=>(s.pre enc C.prog fn [] false w args/\laidMetH C.prog laid w)/\sizedMet enc C.prog fn (OpenSpec.ofChange s) false w args)
   (s.post enc C.prog fn false true false false):=by
 refine returnsInHanded_of_change_and (C:=C) (X:=fun w _=>laidMetH C.prog laid w) (fun _ _ _ E h=>h.of_heap E) own started hinit hfn wit ?_;intro W base args ds gs before hval hW _ _ hX _;have hW0:=hW;obtain⟨p,q,hA,_,_,_,_⟩:=hW0;have hlen:=nV hA;obtain⟨a,ha,hr⟩:=hR H enc W base args.toList ds p (fun j t v ht hv=>hval j t v (by simpa using ht) (by simpa using hv)) hA;obtain⟨h1,h2,h3⟩:=hs ds hlen;have hc:=aC.calls (hlaw a ha) W (hT W hX) args.toList hr;rw[Array.toArray_toList] at hc;apply hc.mono;rintro e W' ⟨he,hb⟩;exact⟨_,he,yD hl hvars hrt htb hread h1 h2 h3 hW hb⟩
end Go.Ab
