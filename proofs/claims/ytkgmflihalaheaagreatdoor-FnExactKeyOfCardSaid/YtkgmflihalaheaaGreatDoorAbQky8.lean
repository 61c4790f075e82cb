/- Merged texts (8 of 16) of the proof that ends in Kyy: Se Sd Ki Kiw Sh Ke St Sc Re Kd Kf Kh Kk Kkw. -/
import Derived.Test.YtkgmflihalaheaaGreatDoorAbQky7
import Derived.Laws.CopyRow
import Derived.Laws.IdiomCopy
open Go.Proofs.Tryz
set_option linter.unusedSectionVars false
set_option linter.unusedSimpArgs false
set_option linter.unusedVariables false
namespace Go.Ab
section
variable {H:Heap} {n:Nat} {K K':List bS} {ids:List Id}
end
section
variable {P:Program} {f:FuncId} {N:Nat} {k:List Item} {Q:I->Heap->Nat->Prop} {Ty:Types} {l:List Oper} {O:Env} {H:Heap} {n:Nat}
theorem iK.append {as1 bs cs ds:List I} (h:iK as1 bs) (h':iK cs ds):iK (as1++cs) (bs++ds):=by
  induction h with
  | nil=>exact h'
  | cons h _ ih=>exact .cons h ih
end
end Go.Ab
namespace Go.Ab
section
variable (P:Program) (N:Nat) (ops:Array Oper) (b5:Heap->Nat->Prop) (aP:List Nat)
def ba (j:Nat):Bool:=(List.range ops.size).all fun k=>aP.contains k || (behind ops k).contains j
def BR (o:Oper) (s s':AS):Prop:=∃ v,s'=(s.1.put o.dst v,s.2)/\((eK ops o s.1=some true/\∀ H n,b5 H n->aI P N o (loc o.op s.1) H n (qJ v H n))\/(eK ops o s.1=some false/\v=k6))
def gX (R:AS->Prop):Nat->Array Bool->AS->Prop
  | 0,listed,s=>Region.ready .any ops listed=[]/\R s
  | fuel+1,listed,s=>(Region.ready .any ops listed=[]->R s)/\∀ i ∈ Region.ready .any ops listed,∃ o,ops[i]?=some o /\
      ((i ∉ aP/\b5 s.2.1 s.2.2/\∃ s',BR P N ops b5 o s s'/\gX R fuel (listed.setIfInBounds i true) s') \/
       (i ∈ aP/\eK ops o s.1=some true/\∃ post:I->Heap->Nat->Prop,aI P N o (loc o.op s.1) s.2.1 s.2.2 post/\∀ v H' n',post v H' n'->(ba ops aP i=false->b5 H' n')/\gX R fuel (listed.setIfInBounds i true) (s.1.put o.dst v,H',n')))
inductive gG where
  | fin
  | stop
  | free (i:Nat) (t:gG)
  | aP (i:Nat) (t a:gG)
def gG.alts:gG->List Nat
  | .aP i _ a=>i::a.alts
  | _=>[]
def gG.depth:gG->Nat
  | .free _ t=>t.depth+1
  | .aP _ t a=>max (t.depth+1) a.depth
  | _=>0
def rD (t:gG) (listed:Array Bool):Bool:=match t with
  | .aP _ _ _ => !(Region.ready .any ops listed).isEmpty && (Region.ready .any ops listed).all fun i=>t.alts.contains i
  | .stop=>false
  | _=>true
def qT:gG->Array Bool->Bool
  | .fin,listed=>(Region.ready .any ops listed).isEmpty
  | .stop,_=>true
  | .free i t,listed => !aP.contains i && (Region.ready .any ops listed).contains i && xT (fun _=>0) ops listed i && rD ops t (listed.setIfInBounds i true) && qT t (listed.setIfInBounds i true)
  | .aP i t a,listed=>aP.contains i && rD ops t (listed.setIfInBounds i true) && qT t (listed.setIfInBounds i true) && qT a listed
def kE (R':AS->Prop) (i:Nat) (s:AS):Prop:=∃ o,ops[i]?=some o/\eK ops o s.1=some true/\∃ post:I->Heap->Nat->Prop,aI P N o (loc o.op s.1) s.2.1 s.2.2 post/\∀ v H' n',post v H' n'->(ba ops aP i=false->b5 H' n')/\R' (s.1.put o.dst v,H',n')
def RunT (R:AS->Prop):gG->AS->Prop
  | .fin,s=>R s
  | .stop,_=>True
  | .free i t,s=>∃ o,ops[i]?=some o/\b5 s.2.1 s.2.2/\∃ s',BR P N ops b5 o s s'/\RunT R t s'
  | .aP i t a,s=>kE P N ops b5 aP (RunT R t) i s/\RunT R a s
def BN (t:gG):Bool:=rD ops t (Array.replicate ops.size false) && qT ops aP t (Array.replicate ops.size false) && decide (t.depth<=ops.size)
end
section
variable {P:Program} {N:Nat} {ops:Array Oper} {b5:Heap->Nat->Prop} {aP:List Nat}
theorem gX.first {R:AS->Prop} {i:Nat} {oi:Oper} (hi:ops[i]?=some oi) (hih:i ∉ aP) (hD:∀ j oj,ops[j]?=some oj->j ∈ behind ops i->j ≠ i->∃ e ∈ oj.after,Region.binds .any e=true/\e.on ∈ behind ops i):∀ (fuel:Nat) (listed:Array Bool) (s s':AS),
    (∀ j ∈ behind ops i,listed.getD j true=false)->(∀ j oj,ops[j]?=some oj->j ≠ i->listed.getD j true=false->j ∉ behind ops i->oi.apart ops oj=true) ->
    i ∈ Region.ready .any ops listed->b5 s.2.1 s.2.2->BR P N ops b5 oi s s'->gX P N ops b5 aP R fuel (listed.setIfInBounds i true) s'->gX P N ops b5 aP R (fuel+1) listed s:=by
  intro fuel
  induction fuel with
  | zero=>
    intro listed s s' _ _ hr hS hst H;refine⟨fun h=>(by rw[h] at hr;cases hr),fun j hj=>?_⟩
    by_cases hji:j=i
    · subst hji;exact⟨oi,hi,.inl ⟨hih,hS,s',hst,H⟩⟩
    · have:=ready_mono hj hji
      rw[H.1] at this;cases this
  | succ fuel ih=>
    intro listed s s' hinv hfree hr hS hst H;refine⟨fun h=>(by rw[h] at hr;cases hr),fun j hj=>?_⟩
    by_cases hji:j=i
    · subst hji;exact⟨oi,hi,.inl ⟨hih,hS,s',hst,H⟩⟩
    · obtain⟨oj,hoj,hbr⟩:=H.2 j (ready_mono hj hji)
      obtain⟨hjun,oj',hoj',hall⟩:=mem_ready.1 hj;rw[hoj] at hoj';cases hoj';have hnot:j ∉ behind ops i:=fun hd=>by
        obtain⟨e,he,hb,hed⟩:=hD j oj hoj hd hji;have h1:=hall e he hb;have h0:=hinv e.on hed;rcases Nat.lt_or_ge e.on listed.size with h' | h'
        · simp[h'] at h0 h1;rw[h0] at h1;cases h1
        · simp[Array.getElem?_eq_none h'] at h1
      obtain⟨h1,h2,h3⟩:=Oper.apart_spec (hfree j oj hoj hji hjun hnot);have hinv':∀ k ∈ behind ops i,(listed.setIfInBounds j true).getD k true=false:=fun k hk=>by
        have hjk:j ≠ k:=fun he=>hnot (he ▸ hk)
        rw[getD_set_ne true hjk];exact hinv k hk
      have hfree':∀ k ok,ops[k]?=some ok->k ≠ i->(listed.setIfInBounds j true).getD k true=false->k ∉ behind ops i->oi.apart ops ok=true:=fun k ok hk hki hun hno=>by
        refine hfree k ok hk hki ?_ hno
        by_cases hjk:j=k
        · subst hjk;exact hjun
        · rw[getD_set_ne true hjk] at hun;exact hun
      obtain⟨v,rfl,hv⟩:=hst;have lj:∀ v,loc oj.op (s.1.put oi.dst v)=loc oj.op s.1:=fun v=>fc (c7 h1)
      have li:∀ v,loc oi.op (s.1.put oj.dst v)=loc oi.op s.1:=fun v=>fc (c7 h3)
      have gj:∀ v,eK ops oj (s.1.put oi.dst v)=eK ops oj s.1:=fun v=>gJ h1
      have gi:∀ v,eK ops oi (s.1.put oj.dst v)=eK ops oi s.1:=fun v=>gJ h3
      have hvi:∀ u,(eK ops oi (s.1.put oj.dst u)=some true/\∀ H n,b5 H n->aI P N oi (loc oi.op (s.1.put oj.dst u)) H n (qJ v H n))\/(eK ops oi (s.1.put oj.dst u)=some false/\v=k6):=fun u=>by
        rw[gi,li];exact hv
      rcases hbr with ⟨hjh,_,s'',⟨u,rfl,hu⟩,hrest⟩ | ⟨hjh,hgj,post,hoq,hrest⟩
      · simp only[lj,gj] at hu
        refine⟨oj,hoj,.inl ⟨hjh,hS,_,⟨u,rfl,hu⟩,ih (listed.setIfInBounds j true) (s.1.put oj.dst u,s.2) ((s.1.put oj.dst u).put oi.dst v,s.2) hinv' hfree' (ready_mono hr (Ne.symm hji)) hS ⟨v,rfl,hvi u⟩ ?_⟩⟩;rw[Array.setIfInBounds_comm _ _ hji,<- put_comm v u h2];exact hrest
      · simp only[lj,gj] at hoq hgj
        refine⟨oj,hoj,.inr ⟨hjh,hgj,post,hoq,fun u H' n' hp=>?_⟩⟩;obtain⟨hS',hrest'⟩:=hrest u H' n' hp;refine⟨hS',?_⟩;have hlate:ba ops aP j=false:=by
          rw[Bool.eq_false_iff];intro hl;have:=List.all_eq_true.1 hl i (List.mem_range.2 (Array.getElem?_eq_some_iff.1 hi).1);simp only[Bool.or_eq_true,List.contains_iff_mem] at this;exact this.elim hih hnot
        refine ih (listed.setIfInBounds j true) (s.1.put oj.dst u,H',n') ((s.1.put oj.dst u).put oi.dst v,H',n') hinv' hfree' (ready_mono hr (Ne.symm hji)) (hS' hlate) ⟨v,rfl,hvi u⟩ ?_;rw[Array.setIfInBounds_comm _ _ hji,<- put_comm v u h2];exact hrest'
theorem RunT.alt {R:AS->Prop} {s:AS} {listed:Array Bool} {j:Nat}:∀ {t:gG},RunT P N ops b5 aP R t s->qT ops aP t listed=true->j ∈ t.alts->j ∈ aP/\∃ t',t'.depth+1<=t.depth/\rD ops t' (listed.setIfInBounds j true)=true/\qT ops aP t' (listed.setIfInBounds j true)=true/\kE P N ops b5 aP (RunT P N ops b5 aP R t') j s
  | .aP i t a,h,hl,hj=>by
    simp only[qT,Bool.and_eq_true,List.contains_iff_mem] at hl;rcases List.mem_cons.1 hj with rfl | hj
    · exact⟨hl.1.1.1,t,by simp only[gG.depth];omega,hl.1.1.2,hl.1.2,h.1⟩
    · obtain⟨h1,t',h2,h3⟩:=RunT.alt (t:=a) h.2 hl.2 hj
      exact⟨h1,t',by simp only[gG.depth];omega,h3⟩
  | .fin,_,_,hj=>by cases hj
  | .stop,_,_,hj=>by cases hj
  | .free _ _,_,_,hj=>by cases hj
theorem gX.none {R:AS->Prop} {fuel:Nat} {listed:Array Bool} {s:AS} (h:Region.ready .any ops listed=[]) (hR:R s):gX P N ops b5 aP R fuel listed s:=by
  cases fuel with
  | zero=>exact⟨h,hR⟩
  | succ fuel=>exact⟨fun _=>hR,fun i hi=>by rw[h] at hi;cases hi⟩
theorem gX.lex {R:AS->Prop}:∀ (fuel:Nat) (t:gG) (listed:Array Bool) (s:AS),t.depth<=fuel->rD ops t listed=true->qT ops aP t listed=true->RunT P N ops b5 aP R t s->gX P N ops b5 aP R fuel listed s
  | _,.fin,listed,s,_,_,hB,h=>gX.none (by simpa[qT] using hB) h
  | _,.stop,_,_,_,E,_,_=>by cases E
  | 0,.free i t,_,_,hd,_,_,_=>by simp[gG.depth] at hd
  | fuel+1,.free i t,listed,s,hd,_,hB,⟨o,ho,hS,s',hst,hrest⟩=>by
    simp only[qT,Bool.and_eq_true,Bool.not_eq_true',List.contains_iff_mem] at hB;obtain⟨⟨⟨⟨h1,h2⟩,h3⟩,h4⟩,h5⟩:=hB;obtain⟨f1,f2,f3⟩:=qc ho h3;exact gX.first ho (by simpa using h1) f1 fuel listed s s' f2 (fun j oj h1 h2 h3 h4=>(f3 j oj h1 h2 h3 h4).1) h2 hS hst (gX.lex fuel t _ _ (by simp only[gG.depth] at hd;omega) h4 h5 hrest)
  | 0,.aP i t a,_,_,hd,_,_,_=>by simp only[gG.depth] at hd;omega
  | fuel+1,.aP i t a,listed,s,hd,E,hB,h=>by
    simp only[rD,Bool.and_eq_true,Bool.not_eq_true',List.isEmpty_eq_false_iff] at E;refine⟨fun h=>absurd h E.1,fun j hj=>?_⟩;have hja:j ∈ (gG.aP i t a).alts:=by
      have:=List.all_eq_true.1 E.2 j hj;simpa using this
    obtain⟨hjh,t',hd',h1,h2,o,ho,hg,post,hop,hrest⟩:=RunT.alt h hB hja;exact⟨o,ho,.inr ⟨hjh,hg,post,hop,fun v H' n' hp=>⟨(hrest v H' n' hp).1,gX.lex fuel t' _ _ (by omega) h1 h2 (hrest v H' n' hp).2⟩⟩⟩
theorem gX.sound {R:AS->Prop} (hN:ops.toList.all (fun o=>dA N o.dst)=true) {Q:Exit->Act->World->Prop} {c0:Ctx} (hQ:∀ a c O,bn c0 c->Good c->cN N c O a->R (O,c.H,c.n)->Q .normal a c.w) :
    ∀ (fuel:Nat) (listed:Array Bool) (O:Env) (c:Ctx) (a:Act),bn c0 c->Good c->cN N c O a->gX P N ops b5 aP R fuel listed (O,c.H,c.n)->wpAny P .any ops Q fuel listed a c.w
  | 0,_,_,_,_,hk,g,r,h=>⟨h.1,hQ _ _ _ hk g r h.2⟩
  | fuel+1,listed,O,c,a,hk,g,r,h=>by
    refine⟨fun h0=>hQ _ _ _ hk g r (h.1 h0),fun i hi=>?_⟩;obtain⟨o,ho,hbr⟩:=h.2 i hi;have hd:dA N o.dst=true:=List.all_eq_true.1 hN o (by rw[<- Array.getElem?_toList] at ho;exact List.mem_of_getElem? ho);unfold wpOp;simp only[ho];rcases hbr with ⟨_,hS,s',⟨v,rfl,⟨hg,hop⟩ | ⟨hg,rfl⟩⟩,hrest⟩ | ⟨_,hg,post,hop,hrest⟩
    · rw[if_pos (b8 r hN hg)]
      refine .inl (hop c.H c.n hS c a rfl rfl g (r.loc o.op) _ _ ?_);rintro v1 x c' ⟨rfl,hH,hn⟩ hrep hgood hkeep;exact gX.sound hN hQ fuel _ _ c' _ (hk.trans hkeep) hgood ((r.keeps hkeep).put hd hrep) (by rw[hH,hn];exact hrest)
    · rw[if_neg (by rw[b8 r hN hg];simp)]
      exact gX.sound hN hQ fuel _ _ c _ hk g (r.put hd (.v _)) hrest
    · rw[if_pos (b8 r hN hg)]
      refine .inl (hop c a rfl rfl g (r.loc o.op) _ _ ?_);rintro v1 x c' hpost hrep hgood hkeep;exact gX.sound hN hQ fuel _ _ c' _ (hk.trans hkeep) hgood ((r.keeps hkeep).put hd hrep) (hrest v1 c'.H c'.n hpost).2
end
section
variable {P:Program} {f:FuncId} {N:Nat} {k:List Item} {O:Env} {H:Heap} {n:Nat} {Q:I->Heap->Nat->Prop}
def atS (aj:Env->Heap->Nat->Prop):AS->Prop:=fun s=>aj s.1 s.2.1 s.2.2
theorem J.BQ (b5:Heap->Nat->Prop) (aP:List Nat) (t:gG) (aj:Env->Heap->Nat->Prop) {id:Nat} {ops:List Oper} (hm:P.follows .mixedOrders=true) (hN:ops.all (fun o=>dA N o.dst)=true) (hB:Ab.BN ops.toArray aP t=true)
    (h:RunT P N ops.toArray b5 aP (atS aj) t (O,H,n)) (hR:∀ O H n,aj O H n->J P f N k O H n Q):J P f N (.code (.region id ops.toArray true)::k) O H n Q:=by
  intro c a hH hn g r b cs hf hk;subst hH;subst hn;obtain⟨d1,d2⟩:=gB g;simp only[Ab.BN,Bool.and_eq_true,decide_eq_true_eq] at hB;have hany:=gX.lex (P:=P) (N:=N) (b5:=b5) (aP:=aP) (ops:=ops.toArray) ops.toArray.size t (Array.replicate ops.toArray.size false) (O,c.H,c.n) hB.2 hB.1.1 hB.1.2 h;have hw:(Code.region id ops.toArray true).wp P (fun e a' w'=>e = .normal/\∃ c' ρ',c'.w=w'/\bn c c'/\Good c'/\cN N c' ρ' a'/\J P f N k ρ' c'.H c'.n Q) a c.w:=by
    refine wp_region_any hm ?_;have:=gX.sound (P:=P) (N:=N) (b5:=b5) (aP:=aP) (ops:=ops.toArray) (c0:=c) (by simpa using hN) (Q:=fun e a' w'=>e = .normal/\∃ c' ρ',c'.w=w'/\bn c c'/\Good c'/\cN N c' ρ' a'/\J P f N k ρ' c'.H c'.n Q)
      (R:=atS aj) (fun a' c' ρ' V hg' hr' hR'=>⟨rfl,c',ρ',rfl,V,hg',hr',hR _ _ _ hR'⟩) ops.toArray.size (Array.replicate ops.toArray.size false) O { c with w:={ c.w with drawn:=c.w.drawn+1 } } a d1 d2 (r.keeps d1) hany
    simpa using this
  obtain⟨e,a',w',⟨rfl,c',ρ',rfl,V,hg',hr',hR⟩,harr⟩:=hw b k cs;obtain⟨x,v,c'',fr,q,hr,hg,hke,hst,rest⟩:=hR c' a' rfl rfl hg' hr' b cs hf hk;exact⟨x,v,c'',fr,q,hr,hg,V.trans hke,Steps.trans harr hst,rest⟩
theorem J.xc (b5:Heap->Nat->Prop) (aP:List Nat) (t:gG) (aj:Env->Heap->Nat->Prop) {id:Nat} {ops:List Oper} {y:Code} (hm:P.follows .mixedOrders=true) (hN:ops.all (fun o=>dA N o.dst)=true) (hB:Ab.BN ops.toArray aP t=true)
    (h:RunT P N ops.toArray b5 aP (atS aj) t (O,H,n)) (hR:∀ O H n,aj O H n->J P f N (.code y::k) O H n Q):J P f N (.code (.seq (.region id ops.toArray true) y)::k) O H n Q:=
  J.seq (J.BQ b5 aP t aj hm hN hB h hR)
end
section
variable {P:Program} {N:Nat} {ops:Array Oper} {b5:Heap->Nat->Prop} {aP:List Nat} {R:AS->Prop} {O:Env} {H:Heap} {n:Nat} {i:Nat} {l:gG} {Ty:Types}
theorem RunT.fin {aj:Env->Heap->Nat->Prop} (h:aj O H n):RunT P N ops b5 aP (atS aj) .fin (O,H,n):=h
theorem RunT.free {o:Oper} (v:I) (ho:ops.toList[i]?=some o) (hg:eK ops o O=some true) (hS:b5 H n) (hop:∀ H n,b5 H n->aI P N o (loc o.op O) H n (qJ v H n)) (h:RunT P N ops b5 aP R l (O.put o.dst v,H,n)):RunT P N ops b5 aP R (.free i l) (O,H,n):=
  ⟨o,by rw[<- Array.getElem?_toList];exact ho,hS,_,⟨v,rfl,.inl ⟨hg,hop⟩⟩,h⟩
theorem RunT.rP {o:Oper} (post:I->Heap->Nat->Prop) (ho:ops.toList[i]?=some o) (hg:eK ops o O=some true) (hop:aI P N o (loc o.op O) H n post) (h:∀ v H' n',post v H' n'->(ba ops aP i=false->b5 H' n')/\RunT P N ops b5 aP R l (O.put o.dst v,H',n')):kE P N ops b5 aP (RunT P N ops b5 aP R l) i (O,H,n):=
  ⟨o,by rw[<- Array.getElem?_toList];exact ho,hg,post,hop,h⟩
theorem RunT.step (hT:aU P Ty) {o:Oper} {v:I} {H':Heap} {n':Nat} (ho:ops.toList[i]?=some o) (hg:eK ops o O=some true) (hs:aX Ty o.dst o.op O H n=some (v,H',n')) (hS:ba ops aP i=false->b5 H' n') (h:RunT P N ops b5 aP R l (O.put o.dst v,H',n')):kE P N ops b5 aP (RunT P N ops b5 aP R l) i (O,H,n):=
  RunT.rP (qJ v H' n') ho hg (aA hT (by rw[ax];exact hs)) (by rintro _ _ _ ⟨rfl,rfl,rfl⟩;exact⟨hS,h⟩)
theorem RunT.same (hT:aU P Ty) {o:Oper} {v:I} (ho:ops.toList[i]?=some o) (hg:eK ops o O=some true) (hs:aX Ty o.dst o.op O H n=some (v,H,n)) (hS:ba ops aP i=false->b5 H n) (h:RunT P N ops b5 aP R l (O.put o.dst v,H,n)):kE P N ops b5 aP (RunT P N ops b5 aP R l) i (O,H,n):=
  RunT.step hT ho hg hs hS h
theorem eB {d:Operand} {args:Array Operand} {ats:Array TypeId}:args.toList.map (loc (.call ⟨.value d,args,ats⟩) O).ev=args.toList.map O.ev/\(loc (.call ⟨.value d,args,ats⟩) O).ev d=O.ev d:=
  ⟨List.map_congr_left fun x hx=>dh (by simp[Op.operands,Call.operands];exact .inr (by simpa using hx)),dh (by simp[Op.operands,Call.operands])⟩
theorem RunT.kG {K:List bS} {ids:List Id} {d:Option Tmp} {g:Operand} {args:Array Operand} {ats:Array TypeId} {ty:TypeId} {pos:String} {af:Array Edge} {gu:Option (Nat × Bool)} {R':I->Prop} {f':FuncId} {as1 b4:List I} {sh:Sh}
    (ho:ops.toList[i]?=some ⟨d,.call ⟨.value g,args,ats⟩,ty,pos,af,gu⟩) (hgu:eK ops ⟨d,.call ⟨.value g,args,ats⟩,ty,pos,af,gu⟩ O=some true) (h:bK P f' b4 sh R') (cP:aZ P f') (ha:bW H n as1 b4) (hs:Sep H n K ids) (hg:O.ev g = .fn (.func f') [] []) (has:args.toList.map O.ev=as1)
    (hk:∀ v H1 U r,Sep H1 U ((sh,v,r)::K) ids->R' r->n<=U->(∀ i ∈ ids,H1 i=H i)->(ba ops aP i=false->b5 H1 U)/\RunT P N ops b5 aP R l (O.put d v,H1,U)) :
    kE P N ops b5 aP (RunT P N ops b5 aP R l) i (O,H,n):=
  RunT.rP _ ho hgu (aI.kG (by rw[eB.2];exact hg) cP (by rw[eB.1,has];exact ha) h hs) fun v H' n' ⟨r,h1,h2,h3,h4⟩=>hk v H' n' r h1 h2 h3 h4
theorem RunT.b7 {d:Option Tmp} {g:Operand} {args:Array Operand} {ats:Array TypeId} {ty:TypeId} {pos:String} {af:Array Edge} {gu:Option (Nat × Bool)} {v:I} {f':FuncId} {as1 b4:List I}
    (ho:ops.toList[i]?=some ⟨d,.call ⟨.value g,args,ats⟩,ty,pos,af,gu⟩) (hgu:eK ops ⟨d,.call ⟨.value g,args,ats⟩,ty,pos,af,gu⟩ O=some true) (h:aC P f' b4 (fun r=>r=v)) (cP:aZ P f') (ha:bW H n as1 b4) (hg:O.ev g = .fn (.func f') [] []) (has:args.toList.map O.ev=as1)
    (hS:ba ops aP i=false->b5 H n) (hk:RunT P N ops b5 aP R l (O.put d v,H,n)):kE P N ops b5 aP (RunT P N ops b5 aP R l) i (O,H,n):=
  RunT.rP (qJ v H n) ho hgu (aI.xV hg cP (has ▸ ha) h) (by rintro _ _ _ ⟨rfl,rfl,rfl⟩;exact⟨hS,hk⟩)
theorem RunT.append (hT:aU P Ty) {d:Nat} {t:TypeId} {j:TI} {s x:Operand} {ty:TypeId} {pos:String} {af:Array Edge} {gu:Option (Nat × Bool)} {v xv:I} {l':List Sh} {es:List (List I)} {ids:List Id} (K1 K2:List bS) (add adds:List (List I))
    (ho:ops.toList[i]?=some ⟨some d,.call ⟨.builtin .append,#[s,x],#[t,t]⟩,ty,pos,af,gu⟩) (hgu:eK ops ⟨some d,.call ⟨.builtin .append,#[s,x],#[t,t]⟩,ty,pos,af,gu⟩ O=some true) (hsv:O.ev s=v) (hxv:O.ev x=xv) (h:Sep H n ((.s l',v,.list true es)::(K1++K2)) ids) (hk:kd Ty t = .slice j) (hj:j.size=l'.length) (hz:j.zero.length=j.size/\j.bytes<=131072)
    (hx:cb H xv=some add) (ho1:add.all (fun e=>e.all Ab.aF)=true) (hadd:∀ S,Row H (K1.map (·.1)) (K1.map (·.2.1)) (K1.map (·.2.2)) S->bE (Row H l') add adds S) (hne:adds ≠ []) (hlen:es.length+adds.length<=1073741824)
    (hc:∀ v' H' n',Sep H' n' ((.s l',v',.list true (es++adds))::K2) ids->(∀ i ∈ ids,H' i=H i)->n<=n'->(ba ops aP i=false->b5 H' n')/\RunT P N ops b5 aP R l (O.put (some d) v',H',n')):kE P N ops b5 aP (RunT P N ops b5 aP R l) i (O,H,n):=by
  obtain⟨v',H',n',h1,h2,h3,h4⟩:=Sep.append (d:=d) h hk hj hz hx ho1 hadd hne hlen;obtain⟨q1,q2⟩:=hc v' H' n' h2 h3 h4;refine RunT.step hT ho hgu ?_ q1 q2;show (if t=t then bb Ty (some d) t (O.ev s) (O.ev x) H n else none)=_;rw[if_pos rfl,hsv,hxv,h1]
theorem RunT.cX (hT:aU P Ty) {d:Nat} {t:TypeId} {j:TI} {s x:Operand} {ty:TypeId} {pos:String} {af:Array Edge} {gu:Option (Nat × Bool)} {v xv:I} {l':List Sh} {es:List (List I)} {K:List bS} {ids:List Id} (add:List (List I))
    (ho:ops.toList[i]?=some ⟨some d,.call ⟨.builtin .append,#[s,x],#[t,t]⟩,ty,pos,af,gu⟩) (hgu:eK ops ⟨some d,.call ⟨.builtin .append,#[s,x],#[t,t]⟩,ty,pos,af,gu⟩ O=some true) (hsv:O.ev s=v) (hxv:O.ev x=xv) (h:Sep H n ((.s l',v,.list true es)::K) ids) (hf:∀ t ∈ l',t = .c) (hk:kd Ty t = .slice j) (hj:j.size=l'.length) (hz:j.zero.length=j.size/\j.bytes<=131072)
    (hx:cb H xv=some add) (ho1:∀ e ∈ add,e.length=l'.length/\∀ a ∈ e,bV a/\Ab.aF a=true) (hlen:es.length+add.length<=1073741824)
    (hc:∀ v' H' n',Sep H' n' ((.s l',v',.list true (es++add))::K) ids->(∀ i ∈ ids,H' i=H i)->n<=n'->(ba ops aP i=false->b5 H' n')/\RunT P N ops b5 aP R l (O.put (some d) v',H',n')):kE P N ops b5 aP (RunT P N ops b5 aP R l) i (O,H,n):=by
  obtain⟨v',H',n',h1,h2,h3,h4⟩:=Sep.cX (d:=d) h hf hk hj hz hx ho1 hlen;obtain⟨q1,q2⟩:=hc v' H' n' h2 h3 h4;refine RunT.step hT ho hgu ?_ q1 q2;show (if t=t then bb Ty (some d) t (O.ev s) (O.ev x) H n else none)=_;rw[if_pos rfl,hsv,hxv,h1]
theorem aI.stillD {d:Option Tmp} {g:Operand} {args:Array Operand} {ats:Array TypeId} {ty:TypeId} {pos:String} {af:Array Edge} {gu:Option (Nat × Bool)} {v:I} {f':FuncId} {as1:List I} (h:cL P f' as1 H n (fun r=>r=v)) (cP:aZ P f') (hg:O.ev g = .fn (.func f') [] []) (has:args.toList.map O.ev=as1) :
    aI P N ⟨d,.call ⟨.value g,args,ats⟩,ty,pos,af,gu⟩ (loc (.call ⟨.value g,args,ats⟩) O) H n (qJ v H n):=
  aI.call (by rw[eB.2];exact hg) cP (by rw[eB.1,has,List.nil_append,List.append_nil];exact h)
theorem aI.Dn (hT:aU P Ty) {d:Option Tmp} {ty:TypeId} {pos:String} {af:Array Edge} {gu:Option (Nat × Bool)} {t:TypeId} {s x:Operand} {j:TI} {fr t':Bool} {l m:List Int} (hk:kd Ty t = .slice j) (hz:j.size=1/\j.zero.length=1/\j.bytes<=131072) (hs:O.ev s = .clip fr (l.map lV)) (hx:O.ev x = .list t' (m.map au))
    (hne:m ≠ []) (hm:l.length+m.length<=1073741824) :
    aI P N ⟨d,.call ⟨.builtin .append,#[s,x],#[t,t]⟩,ty,pos,af,gu⟩ (loc (.call ⟨.builtin .append,#[s,x],#[t,t]⟩) O) H n (qJ (.list true ((l++m).map au)) H n):=by
  have e1:(loc (.call ⟨.builtin .append,#[s,x],#[t,t]⟩) O).ev s=O.ev s:=dh (by simp[Op.operands,Call.operands]);have e2:(loc (.call ⟨.builtin .append,#[s,x],#[t,t]⟩) O).ev x=O.ev x:=dh (by simp[Op.operands,Call.operands]);exact aI.BH hT hk hz (by rw[e1];exact hs) (by rw[e2];exact hx) hne hm
end
end Go.Ab
namespace Go.Ab.Vg
abbrev kV (l:List Int) (_:Int):Prop:=l.length<=1048576
def df (l:List Int) (s:Int):Int:=if s ∈ l then (l.idxOf s:Int) else -1
theorem Ai {l:List Int} {s:Int} (h:∀ j<l.length,at' l (j:Int) ≠ s):df l s = -1:=by
  rw[df,if_neg];intro hm;obtain⟨j,hj,he⟩:=List.getElem_of_mem hm;exact h j hj (by rw[bm hj];exact he)
theorem wI {l:List Int} {s:Int} {k:Nat} (hk:k<l.length) (h:∀ j<k,at' l (j:Int) ≠ s) (he:at' l (k:Int)=s):df l s=k:=by
  rw[bm hk] at he;have hm:s ∈ l:=he ▸ List.getElem_mem hk;rw[df,if_pos hm];have h1:l.idxOf s<l.length:=List.idxOf_lt_length_iff.2 hm;have h2:l[l.idxOf s]=s:=List.getElem_idxOf h1;have h3:¬ l.idxOf s<k:=fun hlt=>h _ hlt (by rw[bm h1];exact h2)
  have h4:¬ k<l.idxOf s:=fun hlt=>by
    have:=List.not_of_lt_findIdx (p:=(· == s)) (xs:=l) hlt;simp[he] at this
  omega
theorem rQ (l:List Int) (s:Int) : -1<=df l s/\df l s<l.length/\(0<=df l s↔s ∈ l):=by
  rw[df]
  split
  · rename_i h
    have h1:l.idxOf s<l.length:=List.idxOf_lt_length_iff.2 h;exact⟨by omega,by omega,fun _=>h,fun _=>by omega⟩
  · rename_i h
    exact⟨by omega,by omega,fun h2=>by omega,fun h2=>absurd h2 h⟩
def ku (s:List Int) (v_:Int) (Z:Int->Prop):Prop:=
  ∀ bI:Int,bI=(s.length:Int)->aL (σ:=Int) (fun v6 K9=>∀ c10:Bool,c10=decide (v6<bI)->((c10=true->(0<=v6/\v6<s.length)/\∀ x13:Int,x13=at' s v6->∀ c15:Bool,c15=decide (v_=x13)->((c15=true->Z v6)/\(c15=false->(bu (v6+1))/\∀ v18:Int,v18=v6+1->K9 (v18))))/\(c10=false->Z (-1)))) (0)
theorem z7 (l:List Int) (s:Int) (h:kV l s):ku l s (fun y=>y=df l s):=by
  unfold ku;rintro _ rfl;refine aL.up1 l.length (fun k=>∀ j<k,at' l (j:Int) ≠ s) (by simp) ?_;rintro k K hk hI IH;simp only[forall_eq,decide_eq_true_eq,decide_eq_false_iff_not,bu];refine⟨fun h1=>⟨by omega,fun h2=>(wI (by omega) hI h2.symm).symm,fun h2=>⟨by omega,IH (by omega) fun j hj=>?_⟩⟩,fun h1=>?_⟩
  · rcases Nat.lt_or_ge j k with h3 | h3
    · exact hI j h3
    · rw[show j=k by omega];exact fun h=>h2 h.symm
  · rw[Ai fun j hj=>hI j (by omega)]
abbrev sU (l:List Int):List Int:=l
abbrev iI (l:List Int):Prop:=l.length<=1048576
def kg (s:List Int) (Z:(List Int)->Prop):Prop:=
  ∀ c2:Bool,(c2=true->s=[])->((c2=true->Z [])/\(c2=false->(([]:List Int).length+s.length<=1073741824)/\∀ l7:List Int,l7=([]:List Int)++s->Z l7))
theorem yE (l:List Int) (h:iI l):kg l (fun y=>y=sU l):=by
  unfold kg;intro c hc;refine⟨fun h1=>(hc h1).symm,fun _=>⟨by simp;omega,?_⟩⟩;rintro _ rfl;simp
end Go.Ab.Vg
namespace Go.Ab.Vg
open Go.Proofs
set_option maxRecDepth 100000
attribute [local simp] au
theorem e88:aZ prog 88:=aZ.of func88 (by kernel_rfl) rfl
theorem tE (s:List Int) (v_:Int) (Z:Int->Prop) (h:ku s v_ Z):aC prog 88 [.list false (s.map au),int v_] (fun r=>∃ y:Int,Z y/\r=int y):=by
  unfold ku at h;refine aC.of func88 rfl ntmps88 (by simp) fun Q hQ=>?_
  refine J.cut (fun O H n=>(O 0 = .list false (s.map au)/\O 1=int v_)) (by simp) ?_;rintro O H U E;refine zE fun _ V=>?_
  simp[E];apply V;refine zS fun _ V=>?_
  obtain⟨bI,elen2,h⟩:=aH h;have f3:=fun H=>aQ (H:=H) (fr:=false) (f:=au) aO elen2
  simp[E,f3,-aJ];apply V;apply J.block;refine J.aL h (fun (sJ:Int) O H n=>match sJ with | v6=>(O 0 = .list false (s.map au)/\O 1=int v_/\O 7=int bI/\O 8=int v6)) (by simp[E]) ?_;clear E;rintro v6 O H n7 K h E IH8;refine zE fun _ V=>?_
  obtain⟨d,e,h⟩:=aH h;have f11:=bg (k:=.i64) e;simp[E,f11,-aw];apply V;apply J.seq;refine J.ite (b:=d) (by simp[E]) (fun a=>?_) (fun a=>?_)
  · replace h:=h.1 a
    apply zK;apply J.block;refine zE fun _ V=>?_
    simp[E,a];apply V;refine zE fun _ V=>?_
    obtain⟨g,h⟩:=h;obtain⟨t,i,h⟩:=aH h;have f14:=fun H=>aR (H:=H) (fr:=false) (f:=au) (k:=.i64) aO (fun _=>rfl) g i
    obtain⟨j,l,h⟩:=aH h;have f16:=jE (k:=.i64) l;simp[E,f14,f16,a,-ar,-aw];apply V;refine J.ite (b:=j) (by simp[E,a]) (fun c=>?_) (fun c=>?_)
    · replace h:=h.1 c
      refine zE fun _ V=>?_
      simp[E,a,c];apply V;exact J.bX (v:=int v6) func88 results88 (by simp[E,a,c]) (hQ _ _ _ _ (.of (.v _)) ⟨v6,h,rfl⟩)
    replace h:=h.2 c;apply J.skip;refine zI fun _ V=>?_
    obtain⟨o,h⟩:=h;obtain⟨p,q,h⟩:=aH h;have f19:=aV o q;simp[E,f19,a,c,-aw];apply V;refine IH8 (p) _ _ _ h (by simp[E,a,c])
  replace h:=h.2 a;refine J.exit rfl ?_;refine zE fun _ V=>?_
  simp[E,a];apply V;exact J.bX (v:=int (-1)) func88 results88 (by simp[E,a]) (hQ _ _ _ _ (.of (.v _)) ⟨(-1),h,rfl⟩)
theorem rG (s:List Int) (v_:Int) (hp:kV s v_):aC prog 88 [.list false (s.map au),int v_] (fun r=>r=int (df s v_)):=(tE s v_ _ (z7 s v_ hp)).mono (by rintro _ ⟨_,rfl,rfl⟩;rfl)
theorem e116:aZ prog 116:=aZ.of func116 (by kernel_rfl) rfl
theorem p0 (t:Bool) (l:List Int) (H:Heap) (n:Nat):cL prog 116 [.list t (l.map au)] H n (fun r=>r = .clip t (l.map lV)):=by
  refine bz.of func116 rfl ntmps116 (by simp) fun Q hQ=>?_
  refine J.cut (fun O H1 U=>O 0 = .list t (l.map au)/\H1=H/\U=n) (by simp) ?_;rintro O H U ⟨h0,rfl,rfl⟩;refine zE fun _ V=>?_
  simp[h0];apply V;refine zE fun _ V=>?_
  have f1:=fun H=>aQ (H:=H) (fr:=t) (f:=au) (l:=l) (v:=(l.length:Int)) aO rfl
  simp[h0,f1];refine bw.CY (fr:=t) (vs:=l.map lV) (k1:=.i64) (k2:=.i64) av (by decide) (by decide) aO (by rw[lJ];simp[h0]) (by simp) (by simp) ?_;simp;apply V;exact J.bX (v:=.clip t (l.map lV)) func116 results116 (by simp) (hQ _ _ _ ⟨rfl,rfl,rfl⟩)
theorem e85:aZ prog 85:=aZ.of func85 (by kernel_rfl) rfl
theorem tG (s:List Int) (Z:(List Int)->Prop) (h:kg s Z):bK prog 85 [.list false (s.map au)] (.s [.c]) (fun r=>∃ y:List Int,Z y/\r = .list true (y.map au)):=by
  unfold kg at h;have M:Sep bp 0 [] []:=Sep.nil (by simp);refine bK.of func85 rfl ntmps85 (by simp) fun Q hQ=>?_
  refine J.cut (fun O H n=>O 0 = .list false (s.map au)/\Sep H n [] []) (by refine⟨by simp ,M⟩) ?_;rintro O H U ⟨E,M⟩;refine zE fun _ V=>?_
  simp[E];apply V;refine zS fun _ V=>?_
  simp[E];refine bw.isNil (fr:=false) (els:=s.map au) av (by decide) (by decide) aO (by simp[E]) (by simp[E]) ?_;rintro c2 hc3;replace h:=h c2 (fun hq=>by simpa using hc3 hq);simp[E];apply V;refine J.ite (b:=c2) (by simp[E]) (fun dc2=>?_) (fun dc2=>?_)
  · replace h:=h.1 dc2
    refine zE fun _ V=>?_
    simp[E,dc2];apply V;exact J.bX (v:=.v (.slice none 0 0)) func85 results85 (by simp[E,dc2]) (hQ _ _ _ _ (Sep.sub (dO:=[]) (Sep.iF M) (by simp)) ⟨[],h,rfl⟩)
  replace h:=h.2 dc2;apply J.skip;refine zE fun _ V=>?_
  obtain⟨hb6,h⟩:=h;obtain⟨l7,el7,h⟩:=aH h;simp[E,dc2,-bb];refine cW (s.map au) (Sep.addEmpty (l:=[.c]) M) (by simp) aO (by simp) (by simp) (by simp[cb]) (by simp[-aF,bl]) (by simpa using hb6) ?_;rintro v8 H9 d M e g;replace M:Sep H9 d [oI v8 l7] []:=by refine Sep.ap el7 ?_;exact M
  simp[E,dc2];apply V;refine J.cut (fun O H n=>∃ (a:I),O 2=a/\Sep H n [oI a l7] []) (by refine⟨v8,by simp[E,dc2],M⟩) ?_;clear E;rintro O H n15 ⟨a,E,M⟩;exact J.bX (v:=a) func85 results85 (by simp[E]) (hQ _ _ _ _ (Sep.sub (dO:=[]) M (by simp)) ⟨l7,h,rfl⟩)
theorem rb (s:List Int) (hp:iI s):bK prog 85 [.list false (s.map au)] (.s [.c]) (fun r=>r = .list true ((sU s).map au)):=(tG s _ (yE s hp)).mono (by rintro _ ⟨_,rfl,rfl⟩;rfl)
end Go.Ab.Vg
namespace Go.Ab
theorem vJ {v:I} (h:Ab.aF v=true):az v=some [v]:=by
  cases v with
  | v x=>cases x<;>first | rfl | (simp[Ab.aF,one] at h)
  | undef=>simp[Ab.aF] at h
  | agg=>simp[Ab.aF] at h
  | tup=>simp[Ab.aF] at h
  | _=>rfl
theorem fw.qO {n:Nat} {a:I} (h:fw a):nZ n a:=by
  induction h with
  | v x=>exact .v x
  | agg cs _ ih=>exact .agg cs ih
  | tup cs _ ih=>exact .tup cs ih
  | list fr els _ ih=>exact .list fr els ih
  | iface t a _ ih=>exact .iface t a ih
section
variable {H:Heap} {n:Nat}
theorem aM.mK {X:Id} {sz:Nat} {cs ds:List I} (hX:H X=some ⟨sz,[cs]⟩) (h:bW H n cs ds):aM H n (.ptr X 1 0 0) (.iptr false ds):=by
  intro c x hH hn g r c' hw hc;obtain⟨hl,hi⟩:=h.get;rw[<- hH] at hX;cases r with
  | ptr _ _ _ _ x h1 hlt hg E=>
    obtain⟨_,rfl⟩:=E _ hX rfl;have hcell:∀ (j:Nat) (a:I),cs[j]?=some a->∃ y,c.w.cell? ⟨c.β X,0 * sz+j,none⟩=some y/\bT c a y:=fun j a ha=>g.cell hX (i:=0) rfl ha
    have hget:∀ (j:Nat) (b:I),ds[j]?=some b->∃ a,cs[j]?=some a:=fun j b hb=>⟨_,List.getElem?_eq_getElem (show j<cs.length by rw[hl];exact (List.getElem?_eq_some_iff.1 hb).1)⟩
    refine .iptr false ds _ (fun j=>(c.w.cell? ⟨c.β X,0 * sz+j,none⟩).getD Go.undef) rfl (Bn hc _) (by rw[hw];exact g.lt hX) (fun h=>by cases h) (fun j b hb=>?_) (fun j b hb=>?_)
    · obtain⟨a,ha⟩:=hget j b hb
      obtain⟨y,hy,_⟩:=hcell j a ha;rw[hw];show c.w.cell? ⟨c.β X,0 * sz+j,none⟩=_;rw[hy];rfl
    · obtain⟨a,ha⟩:=hget j b hb
      obtain⟨y,hy,hr⟩:=hcell j a ha;simp only[hy,Option.getD_some];exact hi j a b ha hb c y hH hn g hr c' hw hc
theorem bW.app {as1 as' bs bs':List I} (h:bW H n as1 as') (h':bW H n bs bs'):bW H n (as1++bs) (as'++bs'):=by
  induction h with
  | nil=>exact h'
  | cons h _ ih=>exact .cons h ih
theorem aC.args {P:Program} {f:FuncId} {as1 as':List I} {R:I->Prop} (h:aC P f as' R) (ha:bW H n as1 as'):cL P f as1 H n R:=by
  intro c xs hH hn gd hl;have hb:Good ⟨c.w.heap.size,fun _=>0,bp,0,c.w⟩:=jT c.w gd.C7;obtain⟨hlen,hget⟩:=ha.get;have hrep:de ⟨c.w.heap.size,fun _=>0,bp,0,c.w⟩ as' xs:=by
    refine⟨by rw[<- hlen];exact hl.1,fun i b x hb' hx=>?_⟩;have hi:=(List.getElem?_eq_some_iff.1 hb').1;have ha':as1[i]?=some (as1[i]'(by omega)):=List.getElem?_eq_getElem (by omega);exact hget i _ b ha' hb' c x hH hn gd (hl.2 i _ x ha' hx) _ rfl (fun _=>rfl)
  refine (h _ xs rfl rfl hb hrep).mono ?_;rintro e w' ⟨x,v,c1,he,hw,⟨r,hres,hR⟩,hrv,hg1,hk⟩;subst hw;have hnomu:∀ k,¬ Ctx.mu ⟨c.w.heap.size,fun _=>0,bp,0,c.w⟩ k:=by
    rintro k ⟨id,o,ho,_⟩;cases ho
  obtain⟨hkc,hgc⟩:=du gd c1.w ⟨hk.os,hk.tape,hk.output⟩ hk.size (fun k V=>(hk.imm k V (hnomu k)).1);refine⟨x,r,{ c with w:=c1.w },he,rfl,⟨hR,hH,hn⟩,?_,hgc,hkc⟩;refine hres c1 x rfl rfl hg1 hrv { c with w:=c1.w } rfl ?_ ?_
  · rintro k ⟨id,o,ho,hb'⟩
    have hlt:c.β id<c.w.heap.size:=gd.lt ho;rw[hk.B];show k<c.w.heap.size;simp only at hb';omega
  · rw[hk.B]
    exact gd.Bsize
end
section
variable {P:Program} {f:FuncId} {N:Nat} {k:List Item} {Q:I->Heap->Nat->Prop} {Ty:Types} {l:List Oper} {O:Env} {H:Heap} {n:Nat}
theorem aI.rp {d:Option Tmp} {g:Operand} {args:Array Operand} {ats:Array TypeId} {ty:TypeId} {pos:String} {af:Array Edge} {gu:Option (Nat × Bool)} {v:I} {f':FuncId} {xs xs2 ys1 ys2:List I}
    (h:aC P f' (xs2++ys2) (fun r=>r=v)) (cP:aZ P f') (ha:bW H n xs xs2) (hb:bW H n ys1 ys2) (hg:O.ev g = .fn (.func f') [] ys1) (has:args.toList.map O.ev=xs) :
    aI P N ⟨d,.call ⟨.value g,args,ats⟩,ty,pos,af,gu⟩ (loc (.call ⟨.value g,args,ats⟩) O) H n (qJ v H n):=by
  have h1:(loc (.call ⟨.value g,args,ats⟩) O).ev g=O.ev g:=dh (by simp[Op.operands,Call.operands]);have h2:args.toList.map (loc (.call ⟨.value g,args,ats⟩) O).ev=args.toList.map O.ev:=List.map_congr_left fun x hx=>dh (by simp[Op.operands,Call.operands];exact .inr (by simpa using hx))
  exact aI.call (by rw[h1];exact hg) cP (by rw[h2,has,List.nil_append];exact aC.args h (ha.app hb))
theorem bh.rp (hT:aU P Ty) {κ:Op->Nat} (hκ:Cm κ) {d:Option Tmp} {g:Operand} {args:Array Operand} {ats:Array TypeId} {ty:TypeId} {pos:String} {af:Array Edge} {v:I} {f':FuncId} {xs1 xs2 ys1 ys2:List I} {ops:Array Oper}
    (h:aC P f' (xs2++ys2) (fun r=>r=v)) (cP:aZ P f') (ha:bW H n xs1 xs2) (hb:bW H n ys1 ys2) (h0:κ (.call ⟨.value g,args,ats⟩) ≠ 0) (hg:O.ev g = .fn (.func f') [] ys1) (has:args.toList.map O.ev=xs1)
    (hk:dq P f N k Q Ty κ ops l (O.put d v) H n):bh P f N k Q κ ops (⟨d,.call ⟨.value g,args,ats⟩,ty,pos,af,none⟩::l) O H n:=
  bh.op hT hκ rfl h0 (fun _=>⟨rfl,rfl⟩) (aI.rp h cP ha hb hg has) hk
theorem bw.jg (hT:aU P Ty) {ops:Array Oper} {o:Oper} {v:I} (hl:(o::l).all (fun o=>dA N o.dst)=true) (hg:o.guard=none) (hs:aX Ty o.dst o.op O H n=some (v,H,n)) (h:bw P f N k Q ops l (O.put o.dst v) H n):bw P f N k Q ops (o::l) O H n:=by
  simp only[List.all_cons,Bool.and_eq_true] at hl;refine eP.op hg hl.1 ((aA hT hs).mono ?_);rintro _ _ _ ⟨rfl,rfl,rfl⟩;exact h
theorem bw.callA2 (_:aU P Ty) {ops:Array Oper} {d:Option Tmp} {g:Operand} {args:Array Operand} {ats:Array TypeId} {ty:TypeId} {pos:String} {af:Array Edge} {R:I->Prop} {f':FuncId} {xs1 b4:List I}
    (h:aC P f' b4 R) (cP:aZ P f') (ha:bW H n xs1 b4) (hl:(⟨d,.call ⟨.value g,args,ats⟩,ty,pos,af,none⟩::l:List Oper).all (fun o=>dA N o.dst)=true) (hg:O.ev g = .fn (.func f') [] []) (has:args.toList.map O.ev=xs1)
    (hk:∀ v,R v->bw P f N k Q ops l (O.put d v) H n):bw P f N k Q ops (⟨d,.call ⟨.value g,args,ats⟩,ty,pos,af,none⟩::l) O H n:=by
  simp only[List.all_cons,Bool.and_eq_true] at hl;refine eP.op rfl hl.1 ((aI.uO hg cP (has ▸ ha) h).mono ?_);rintro v _ _ ⟨h1,rfl,rfl⟩;exact hk v h1
theorem bw.xG (hT:aU P Ty) {ops:List Oper} {d len:Nat} {t:TypeId} {j:TI} {ps:Array (Nat × Operand)} {ty:TypeId} {pos:String} {af:Array Edge} {l':List Sh} {K:List bS} {ids:List Id} {cs:List I} (es:List (List I)) (h:Sep H n K ids)
    (hN:ops.all (fun o=>dA N o.dst)=true) (hl:(⟨some d,.buildSlice t len ps,ty,pos,af,none⟩::l:List Oper).all (fun o=>dA N o.dst)=true) (hf:∀ t ∈ l',t = .c) (hk:kd Ty t = .slice j) (hj:j.size=l'.length) (h0:len ≠ 0/\len * j.size<=16777216/\j.size ≠ 0/\j.zero.length=j.size)
    (hcs:dt (fun k=>some (k * j.size,j.size)) ((List.replicate len (j.zero.map I.v)).flatten) (ps.toList.map fun p=>(p.1,O.ev p.2))=some cs) (hes:chunks j.size len cs=es) (hel:es.length=len) (ho:∀ e ∈ es,e.length=l'.length/\∀ a ∈ e,flat a=true)
    (hc:∀ id H' n',Sep H' n' ((.s l',.arr id len 0 len,.list true es)::K) ids->(∀ i ∈ ids,H' i=H i)->n<=n'->cf P f N k Q Ty ops.toArray l (O.put (some d) (.arr id len 0 len)) H' n'):bw P f N k Q ops.toArray (⟨some d,.buildSlice t len ps,ty,pos,af,none⟩::l) O H n:=by
  subst hes;have e:iu Ty (some d) (.buildSlice t len ps) O H n=some (.arr (n,d) len 0 len,H.set (n,d) ⟨j.size,chunks j.size len cs⟩,n+1):=by
    simp only[iu,hk];rw[if_pos h0,hcs]
    rfl
  refine bw.op hT hN hl rfl (mj (o:=⟨some d,.buildSlice t len ps,ty,pos,af,none⟩) hT e).1 ?_;rintro _ _ _ ⟨rfl,rfl,rfl⟩;have h1:=Sep.nB (d:=d) (l:=l') (els:=chunks j.size len cs) (es:=chunks j.size len cs) h (bE.xM ho hf);rw[hel,<- hj] at h1;exact hc (n,d) _ _ h1 (fun i hi=>Heap.aD _ _ (by rintro rfl;have:=h.1 _ hi;simp at this)) (Nat.le_succ n)
end
section
variable {P:Program} {N:Nat} {ops:Array Oper} {b5:Heap->Nat->Prop} {aP:List Nat} {R:AS->Prop} {O:Env} {H:Heap} {n:Nat} {i:Nat} {l:gG} {Ty:Types}
theorem RunT.xG (hT:aU P Ty) {d len:Nat} {t:TypeId} {j:TI} {ps:Array (Nat × Operand)} {ty:TypeId} {pos:String} {af:Array Edge} {gu:Option (Nat × Bool)} {l':List Sh} {K:List bS} {ids:List Id} {cs:List I} (es:List (List I))
    (ho:ops.toList[i]?=some ⟨some d,.buildSlice t len ps,ty,pos,af,gu⟩) (hgu:eK ops ⟨some d,.buildSlice t len ps,ty,pos,af,gu⟩ O=some true) (h:Sep H n K ids)
    (hf:∀ t ∈ l',t = .c) (hk:kd Ty t = .slice j) (hj:j.size=l'.length) (h0:len ≠ 0/\len * j.size<=16777216/\j.size ≠ 0/\j.zero.length=j.size)
    (hcs:dt (fun k=>some (k * j.size,j.size)) ((List.replicate len (j.zero.map I.v)).flatten) (ps.toList.map fun p=>(p.1,O.ev p.2))=some cs) (hes:chunks j.size len cs=es) (hel:es.length=len) (hfl:∀ e ∈ es,e.length=l'.length/\∀ a ∈ e,flat a=true)
    (hc:∀ id H' n',Sep H' n' ((.s l',.arr id len 0 len,.list true es)::K) ids->(∀ i ∈ ids,H' i=H i)->n<=n'->(ba ops aP i=false->b5 H' n')/\RunT P N ops b5 aP R l (O.put (some d) (.arr id len 0 len),H',n')):kE P N ops b5 aP (RunT P N ops b5 aP R l) i (O,H,n):=by
  subst hes;have e2:ps.toList.map (fun p=>(p.1,(loc (.buildSlice t len ps) O).ev p.2))=ps.toList.map fun p=>(p.1,O.ev p.2):=List.map_congr_left fun p hp=>by
    rw[dh];simp only[Op.operands];simp only[List.mem_toArray,List.mem_map];exact⟨p,hp,rfl⟩
  refine RunT.rP (fun v1 H1 U=>v1 = .arr (n,d) len 0 len/\H1=H.set (n,d) ⟨j.size,chunks j.size len cs⟩/\U=n+1) ho hgu (kJ hT hk h0.1 h0.2.1 h0.2.2.1 h0.2.2.2 (by rw[e2];exact hcs)) ?_;rintro _ _ _ ⟨rfl,rfl,rfl⟩;have h1:=Sep.nB (d:=d) (l:=l') (els:=chunks j.size len cs) (es:=chunks j.size len cs) h (bE.xM hfl hf);rw[hel,<- hj] at h1;exact hc (n,d) _ _ h1 (fun i hi=>Heap.aD _ _ (by rintro rfl;have:=h.1 _ hi;simp at this)) (Nat.le_succ n)
end
end Go.Ab
namespace Go.Ab.Vg
open Go.Proofs
section
variable {P:Program} {f:FuncId} {N:Nat} {k:List Item} {O:Env} {H:Heap} {n:Nat} {Q:I->Heap->Nat->Prop}
theorem J.subX {X:Id} {sz:Nat} {rows rows':List (List I)} (hX:H X=some ⟨sz,rows⟩) (hl:rows.length=rows'.length) (hr:∀ (i:Nat) (e e':List I),rows[i]?=some e->rows'[i]?=some e'->iK e e') (h:J P f N k O (H.set X ⟨sz,rows'⟩) n Q):J P f N k O H n Q:=by
  intro c a hH hn g r b cs hf hk;subst hH hn;have hdom:∀ id o',(c.H.set X ⟨sz,rows'⟩) id=some o'->∃ o,c.H id=some o/\o.size=o'.size/\o.els.length=o'.els.length:=by
    intro id o' ho;rw[Heap.aT] at ho
    split at ho
    · rename_i he;subst he;cases ho;exact⟨_,hX,rfl,hl⟩
    · exact⟨o',ho,rfl,rfl⟩
  let c2:Ctx:={ c with H:=c.H.set X ⟨sz,rows'⟩ }
  have k2:bn c c2:=by
    refine⟨Nat.le_refl _,rfl,Nat.le_refl _,rfl,rfl,rfl,fun k hk hm=>⟨rfl,?_⟩,fun id o' ho _=>?_⟩
    · rintro⟨id,o,ho,hb⟩
      obtain⟨o2,h2,_⟩:=hdom id o ho;exact hm ⟨id,o2,h2,hb⟩
    · obtain⟨o,h1,h2,h3⟩:=hdom id o' ho
      exact⟨o,h1,h2,Nat.le_of_eq h3,fun _=>⟨rfl,fun cl el fz h=>⟨cl,el,fz,h,Nat.le_refl _⟩⟩⟩
  have g2:Good c2:=by
    refine⟨fun id o ho=>?_,fun id id' o o' ho ho' hb=>?_,g.Bsize,fun id o ho=>?_,g.ri k2⟩
    · obtain⟨o2,h2,_⟩:=hdom id o ho
      exact g.stamp id o2 h2
    · obtain⟨o2,h2,_⟩:=hdom id o ho
      obtain⟨o3,h3,_⟩:=hdom id' o' ho';exact g.inj id id' o2 o3 h2 h3 hb
    · obtain⟨o2,h2,h3,h4⟩:=hdom id o ho
      obtain⟨p1,cl,el,p2,p3,p4⟩:=g.obj id o2 h2;refine⟨p1,cl,el,p2,by rw[<- h3,<- h4];exact p3,fun i e he=>?_⟩;have ho':(c.H.set X ⟨sz,rows'⟩) id=some o:=ho;rw[Heap.aT] at ho'
      split at ho'
      · rename_i hid
        subst hid;cases ho';rw[hX] at h2;cases h2;obtain⟨e0,he0⟩:=a6 (l:=rows) (i:=i) (by rw[hl];exact (List.getElem?_eq_some_iff.1 he).1);obtain⟨s1,s2⟩:=(hr i e0 e he0 he).get;refine⟨by rw[<- s1];exact (p4 i e0 he0).1,fun j a ha=>?_⟩;obtain⟨a0,ha0⟩:=a6 (l:=e0) (i:=j) (by rw[s1];exact (List.getElem?_eq_some_iff.1 ha).1);obtain⟨x,hx,hrp⟩:=(p4 i e0 he0).2 j a0 ha0;exact⟨x,hx,s2 j a0 a ha0 ha c2 x (hrp.keeps k2)⟩
      · rw[ho'] at h2
        cases h2;obtain⟨q1,q2⟩:=p4 i e he;refine⟨q1,fun j a ha=>?_⟩;obtain⟨x,hx,hrp⟩:=q2 j a ha;exact⟨x,hx,hrp.keeps k2⟩
  obtain⟨x,v,c',fr,q,hr',hg,hke,rest⟩:=h c2 a rfl rfl g2 (r.keeps k2) b cs hf hk;exact⟨x,v,c',fr,q,hr',hg,k2.trans hke,rest⟩
def DH (K:List bS):Prop:=∀ e ∈ K,∃ v l,e=oI v l
theorem Row.allI {H:Heap}:∀ {K:List bS} {S:List Id},DH K->Row H (K.map (·.1)) (K.map (·.2.1)) (K.map (·.2.2)) S->(∀ i ∈ S,∃ l:List Int,H i=some ⟨1,l.map au⟩)/\∀ e ∈ K,e.2.1 = .v (.slice none 0 0)\/∃ i ∈ S,∃ g,e.2.1 = .arr i g 0 g
  | [],S,_,h=>by simp only[List.map_nil,Row] at h;subst h;exact⟨by simp,by simp⟩
  | e::K,S,hK,h=>by
    obtain⟨v,l,rfl⟩:=hK e (by simp);simp only[List.map_cons,Row] at h;obtain⟨S1,S2,h1,h2,rfl,_⟩:=h;obtain⟨q1,q2⟩:=Row.allI (fun e he=>hK e (by simp[he])) h2;simp only[Tr] at h1;rcases h1 with ⟨rfl,_,rfl⟩ | ⟨id,els,es,T,rfl,he,hm,hr,_,rfl⟩
    · refine⟨fun i hi=>q1 i (by simpa using hi),fun e he=>?_⟩
      rcases List.mem_cons.1 he with rfl | he
      · exact .inl rfl
      · rcases q2 e he with h | ⟨i,hi,g,h⟩
        · exact .inl h
        · exact .inr ⟨i,by simpa using hi,g,h⟩
    · injection he with _ he
      subst he;have hel:els=l.map au/\T=[]:=by
        have:∀ {xs bs:List (List I)} {S:List Id},bE (Row H [.c]) xs bs S->xs=bs/\S=[]:=by
          intro xs
          induction xs with
          | nil=>intro bs S hr;match bs,hr with
            | [],hr=>exact⟨rfl,hr⟩
            | _::_,hr=>exact hr.elim
          | cons a xs ih=>
            intro bs S hr
            match bs,hr with
            | b::bs,⟨T1,T2,q1,q2,q3,_⟩=>
              obtain⟨e1,e2,_⟩:=q1.fill (by simp);obtain⟨e3,e4⟩:=ih q2;exact⟨by rw[e1,e3],by rw[q3,e2,e4];rfl⟩
            | [],hr=>exact hr.elim
        exact this hr
      obtain⟨rfl,rfl⟩:=hel;refine⟨fun i hi=>?_,fun e he=>?_⟩
      · simp only[List.mem_append,List.mem_singleton] at hi
        rcases hi with rfl | hi
        · exact⟨l,hm⟩
        · exact q1 i hi
      · rcases List.mem_cons.1 he with rfl | he
        · exact .inr ⟨id,by simp,_,rfl⟩
        · rcases q2 e he with h | ⟨i,hi,g,h⟩
          · exact .inl h
          · exact .inr ⟨i,by simp[hi],g,h⟩
theorem J.fzT {v:I} {l:List Int} {K:List bS} {ids:List Id} (M:Sep H n (oI v l::K) ids) (hK:DH K)
    (h:∀ (H':Heap) (φ:I->I),Sep H' n K ids->(∀ i ∈ ids,H' i=(H i).map fun o=>⟨o.size,o.els.map fun e=>e.map φ⟩)->(∀ a,fw a->φ a=a)->(∀ e ∈ K,φ e.2.1=e.2.1)->(∀ i ∈ ids,∀ g x y,φ (.ptr i g x y) = .ptr i g x y/\φ (.arr i g x y) = .arr i g x y) ->
      (fw (φ v)/\Sub (φ v) (.list true (l.map au)))->J P f N k (fun t=>φ (O t)) H' n Q):J P f N k O H n Q:=by
  have hform:=Sep.Eo M (by simp);rcases hform with ⟨rfl,rfl⟩ | ⟨id,rfl,hm⟩
  · refine h H (fun a=>a) (Sep.dr M) (fun i _=>?_) (fun _ _=>rfl) (fun _ _=>rfl) (fun _ _ _ _ _=>⟨rfl,rfl⟩) ⟨.v _,Sub.nil true⟩
    cases H i with
    | none=>rfl
    | some o=>simp
  · refine J.D4 id hm (by intro e he a ha;obtain⟨x,_,rfl⟩:=List.mem_map.1 he;simp only[au,List.mem_singleton] at ha;subst ha;rfl) ?_
    have hφ:∀ a,fw a->fz (fun i=>decide (i=id)) H a=a:=fun a ha=>nZ.fz (n:=0) (fun _ _=>Nat.zero_le _) ha.qO
    obtain⟨h0,S1,S2,hr1,hr2,hd,hS1,hS2⟩:=Sep.split (K1:=[oI (.arr id l.length 0 l.length) l]) (K2:=K) M;have hid:id ∈ S1:=by
      simp only[List.map_cons,List.map_nil,Row,Tr] at hr1;obtain⟨T1,T2,q1,rfl,rfl,_⟩:=hr1;rcases q1 with ⟨q,_⟩ | ⟨id',els,es,T,q,_,_,_,_,rfl⟩
      · cases q
      · injection q with q;subst q;simp
    obtain⟨_,hi⟩:=hS1 id hid;obtain⟨hfl,hvs⟩:=Row.allI hK hr2;have hfr:∀ i ∈ S2,Em (fun i=>decide (i=id)) H i=H i:=fun i hi2=>by
      obtain⟨l',hl'⟩:=hfl i hi2;rw[CX (show i ≠ id from fun e=>hd id hid (e ▸ hi2)),hl'];simp only[Option.map_some,Option.some.injEq,Ob.mk.injEq,true_and];exact B0 fun e he a ha=>by obtain⟨x,_,rfl⟩:=List.mem_map.1 he;simp only[au,List.mem_singleton] at ha;subst ha;rfl
    refine h _ _ ?_ (fun i hi2=>?_) hφ (fun e he=>?_) (fun i hi2 g x y=>?_) ?_
    · exact⟨h0,S2,Row.frame hr2 hfr,hS2⟩
    · exact CX (show i ≠ id from fun e=>hi (e ▸ hi2))
    · rcases hvs e he with h1 | ⟨i,hi2,g,h1⟩
      · rw[h1];exact zm _
      · rw[h1,qe,if_neg]
        simp only[decide_eq_true_eq];exact fun e=>hd id hid (e ▸ hi2)
    · have hne:i ≠ id:=fun e=>hi (e ▸ hi2)
      rw[xE,qe];simp[hne]
    · rw[fz_own hm (by simp)]
      refine⟨.list _ _ fun e he a ha=>?_,Sub.refl _⟩;obtain⟨x,_,rfl⟩:=List.mem_map.1 he;simp only[au,List.mem_singleton] at ha;subst ha;exact .v _
theorem J.fzS {v:I} {l:List Int} {K:List bS} {ids:List Id} (M:Sep H n (oI v l::K) ids) (hK:DH K)
    (h:∀ (H':Heap) (φ:I->I),Sep H' n K ids->(∀ i ∈ ids,H' i=(H i).map fun o=>⟨o.size,o.els.map fun e=>e.map φ⟩)->(∀ a,fw a->φ a=a)->(∀ e ∈ K,φ e.2.1=e.2.1)->(∀ i ∈ ids,∀ g x y,φ (.ptr i g x y) = .ptr i g x y/\φ (.arr i g x y) = .arr i g x y) ->
      Sub (φ v) (.list true (l.map au))->J P f N k (fun t=>φ (O t)) H' n Q):J P f N k O H n Q:=
  J.fzT M hK fun H' φ h1 h2 h3 h4 h5 h6=>h H' φ h1 h2 h3 h4 h5 h6.2
theorem J.Ep {ids:List Id}:∀ (es:List (I × List Int)) {O:Env} {H:Heap},Sep H n (es.map fun e=>oI e.1 e.2) ids ->
    (∀ (H':Heap) (φ:I->I),Sep H' n [] ids->(∀ i ∈ ids,H' i=(H i).map fun o=>⟨o.size,o.els.map fun e=>e.map φ⟩)->(∀ a,fw a->φ a=a)->(∀ e ∈ es,Sub (φ e.1) (.list true (e.2.map au)))->(∀ i ∈ ids,∀ g x y,φ (.ptr i g x y) = .ptr i g x y/\φ (.arr i g x y) = .arr i g x y) ->
      J P f N k (fun t=>φ (O t)) H' n Q)->J P f N k O H n Q
  | [],O,H,M,h=>h H (fun a=>a) M (fun i _=>by cases H i with
    | none=>rfl
    | some o=>simp) (fun _ _=>rfl) (by simp) (fun _ _ _ _ _=>⟨rfl,rfl⟩)
  | e::es,O,H,M,h=>by
    replace M:Sep H n (oI e.1 e.2::es.map fun e=>oI e.1 e.2) ids:=by rw[List.map_cons] at M;exact M
    refine J.fzT M (fun x hx=>by obtain⟨y,_,rfl⟩:=List.mem_map.1 hx;exact⟨_,_,rfl⟩) fun H1 φ sp1 fr1 hφ hkv hptr hsub=>?_
    refine J.Ep es sp1 fun H2 ψ sp2 fr2 hψ hes hptr2=>?_
    have:=h H2 (fun a=>ψ (φ a)) sp2 (fun i hi=>?_) (fun a ha=>by rw[hφ a ha,hψ a ha]) (fun x hx=>?_) (fun i hi g x y=>by rw[(hptr i hi g x y).1,(hptr i hi g x y).2];exact hptr2 i hi g x y)
    · exact this
    · rw[fr2 i hi,fr1 i hi]
      cases H i with
      | none=>rfl
      | some o=>simp[Function.comp_def]
    · rcases List.mem_cons.1 hx with rfl | hx
      · rw[hψ _ hsub.1];exact hsub.2
      · have h1:=hkv (oI x.1 x.2) (List.mem_map.2 ⟨x,hx,rfl⟩)
        simp only at h1;rw[h1];exact hes x hx
end
end Go.Ab.Vg
namespace Go.Ab
structure Guard where
  zone:Int
  neg:Bool
  pattern:aG
  deriving Inhabited,DecidableEq
theorem ow (t:Bool) (b:aG):∀ a ∈ b.cells t,fw a:=by
  intro a ha;simp only[aG.cells,List.mem_cons,List.not_mem_nil,or_false] at ha;rcases ha with rfl | rfl | rfl | rfl | rfl | rfl
  · exact .v _
  · exact qi t b.nodes
  · exact mh t b.sites
  · exact .v _
  · exact qj t b.outer
  · exact qk t b.inner
section
variable {H:Heap} {n:Nat}
end
end Go.Ab
namespace Go.Ab
variable [Inhabited cD]
section
variable {P:Program} {N:Nat} {Ty:Types} {O:Env} {H:Heap} {n:Nat}
variable {d:Option Tmp} {ty:TypeId} {pos:String} {af:Array Edge} {gu:Option (Nat × Bool)}
theorem rF {a:Act} {w w':World} {s x:Operand} {t t':TypeId} {u:Value} (h:(Builtin.copy_ #[t,t'] ty #[a.eval s,a.eval x]).run P w = .ok u w') :
    (execOp a.eval ⟨d,.call ⟨.builtin .copy,#[s,x],#[t,t']⟩,ty,pos,af,gu⟩).run P w = .ok (.value u) w':=by
  simp only[execOp,resolve,invoke,builtin,Sem.run_bind,Sem.run_pure,Result.andThen_ok,List.map_toArray,List.map_cons,List.map_nil,h]
def copied (es new:List (List I)) (off len:Nat):List (List I):=es.take off++new.take (min new.length len)++es.drop (off+min new.length len)
theorem pG {es new:List (List I)} {off len:Nat} (h:off+len<=es.length):(copied es new off len).length=es.length:=by simp[copied];omega
theorem aI.EA (hT:aU P Ty) {t t':TypeId} {dst src:Operand} {j:TI} {id:Id} {g0 off len:Nat} {o:Ob} {els:List (List I)} (hk:kd Ty t = .slice j) (hj:j.size=1) (hd:O.ev dst = .arr id g0 off len) (hl:live H id g0=some o) (ho:o.size=1)
    (hs:cb H (O.ev src)=some els) (hes:els.all (·.length == 1)=true) (h1:els.all (fun e=>e.all aF)=true) :
    aI P N ⟨d,.call ⟨.builtin .copy,#[dst,src],#[t,t']⟩,ty,pos,af,gu⟩ O H n fun v1 H1 U=>v1=int (min els.length len:Nat)/\H1=H.set id ⟨1,copied o.els els off len⟩/\U=n:=by
  refine aI.dD fun c a hH hn g r=>?_
  subst hH;obtain⟨i,e,hi,hde,hje⟩:=cq hk;obtain⟨hu,_⟩:=hT t i hi;rw[hde] at hu;obtain⟨_,info,zv,hinfo,his,_,_,_⟩:=hT e j hje;have hs1:(P.info? e).map (·.size)=some 1:=by rw[hinfo];simp[his,hj]
  have rs:=r.ev dst;rw[hd] at rs;obtain⟨l1,l2⟩:=cR hl;have rx:=ft g (r.ev src) hs hes;generalize hsv:a.eval dst=sv at rs;generalize hxv:a.eval src=xv at rx;cases rs with
  | arr _ _ _ _ _ hone hn0 hg hp=>
  obtain⟨p1,ad,cap,rfl,hab,hsp,hlc,hoff,hcl⟩:=hp o l1 l2;obtain⟨ab,ao,asp⟩:=ad;simp only at hab hsp hoff;subst hab hsp;obtain⟨hB,cl,el,E,hsz,hel⟩:=g.obj id o l1;rw[ho] at hsz hoff;have hsame:min els.length len=0->c.H.set id ⟨1,copied o.els els off len⟩=c.H:=fun h0=>by
    funext q
    by_cases hq:q=id
    · subst hq
      rw[Heap.a8,l1];have:copied o.els els off len=o.els:=by simp[copied,h0]
      rw[this,<- ho]
    · exact Heap.aD _ _ hq
  by_cases hm:min els.length len=0
  · have hrun:(Builtin.copy_ #[t,t'] ty #[a.eval dst,a.eval src]).run P c.w = .ok (goInt 0) c.w:=by
      rw[hsv,hxv];rcases rx with ⟨rfl,rfl⟩ | ⟨a2,cap2,news,rfl,_⟩
      · exact run_copy_nil P c.w t t' ty e _ len cap hu (by rw[hs1];rfl)
      · exact run_copy_none c.w t t' ty e _ _ len cap els.length cap2 hu hs1 hm
    exact⟨_,_,c,rF hrun,⟨by rw[hm];rfl,(hsame hm).symm,hn⟩,.v _,g,bn.refl c⟩
  · rcases rx with ⟨rfl,rfl⟩ | ⟨a2,cap2,news,rfl,hnl,hnc,hnr⟩
    · simp at hm
    have hao:ao=off:=by
      rcases hoff with h | h
      · omega
      · omega
    subst hao;have hog:o.els.length=g0:=l2;have hml:(news.take (min els.length len)).length=min els.length len:=by rw[List.length_take,hnl];omega
    have hone':∀ v ∈ news.take (min els.length len),v.oneCell'=true:=fun v hv=>Bp h1 hnl hnr v (List.mem_of_mem_take hv)
    have hfit:ao+(news.take (min els.length len)).length<=cl.size:=by rw[hml];omega
    have hrun:(Builtin.copy_ #[t,t'] ty #[a.eval dst,a.eval src]).run P c.w = .ok (goInt (news.take (min els.length len)).length) (c.w.setRow (c.β id) (cl.toList.take ao++news.take (min els.length len)++cl.toList.drop (ao+(news.take (min els.length len)).length)).toArray):=by
      rw[hsv,hxv];exact run_copy_row P c.w t t' ty e (c.β id) ao len cap a2 els.length cap2 cl el _ hu hs1 E hml (fun j v hj=>hnc j v (by
        rw[List.getElem?_take] at hj
        split at hj
        · exact hj
        · cases hj)) hfit hone'
    have hov:(cl.toList.take ao++news.take (min els.length len)++cl.toList.drop (ao+(news.take (min els.length len)).length)).toArray=over cl ao (news.take (min els.length len)):=rfl;rw[hov] at hrun;have hup:=pT g l1 ⟨1,copied o.els els ao len⟩ (c.w.setRow (c.β id) (over cl ao (news.take (min els.length len)))) cl (over cl ao (news.take (min els.length len))) el el ⟨rfl,rfl,rfl⟩ (by simp[World.setRow]) E (fun k hk=>setRow_other c.w _ k _ hk) (setRow_heap c.w _ cl _ el _ E)
      (by rw[fY hfit];exact Nat.le_refl _) ho (by rw[pG (by omega)];exact Nat.le_refl _) ⟨?_,?_⟩
    · exact⟨int (min els.length len:Nat),goInt (news.take (min els.length len)).length,{ c with H:=c.H.set id ⟨1,copied o.els els ao len⟩,w:=c.w.setRow (c.β id) (over cl ao (news.take (min els.length len))) },rF hrun,⟨rfl,rfl,hn⟩,by rw[hml];exact .v _,hup.2,hup.1⟩
    · rw[fY hfit,pG (by omega)];simpa using hsz
    · intro q e' he
      simp only[copied] at he;have hcell:∀ (x:List I),o.els[q]?=some x->¬ (ao<=q/\q<ao+min els.length len)->x.length=1/\∀ (j:Nat) (y:I),x[j]?=some y->∃ z,(over cl ao (news.take (min els.length len)))[q * 1+j]?=some z/\bT c y z:=fun x hx hnot=>by
        obtain⟨h2,h3⟩:=hel q x hx;rw[ho] at h2 h3;refine⟨h2,fun j y hy=>?_⟩;have hj0:j=0:=by have:=(List.getElem?_eq_some_iff.1 hy).1;omega
        subst hj0;have h4:=h3 0 y hy
        rwa [ib hfit,hml,if_neg (by omega)]
      by_cases c1:q<ao
      · rw[List.append_assoc,List.getElem?_append_left (by simp;omega),List.getElem?_take,if_pos c1] at he
        exact hcell e' he (by omega)
      · by_cases c2:q<ao+min els.length len
        · rw[List.append_assoc,List.getElem?_append_right (by simp;omega),List.getElem?_append_left (by simp;omega),List.getElem?_take] at he
          have hmin:min ao o.els.length=ao:=by omega
          simp only[List.length_take,hmin] at he;rw[if_pos (by omega)] at he;obtain⟨h2,h3⟩:=hnr _ e' he;refine⟨h2,fun j y hy=>?_⟩;have hj0:j=0:=by have:=(List.getElem?_eq_some_iff.1 hy).1;omega
          subst hj0;obtain⟨z,hz,hrep⟩:=h3 0 y hy;refine⟨z,?_,hrep⟩;show (over cl ao (news.take (min els.length len)))[q * 1+0]?=some z;rw[ib hfit,hml,if_pos (by omega),List.getElem?_take,if_pos (by omega)];rw[<- hz];congr 1;omega
        · rw[List.getElem?_append_right (by simp;omega)] at he
          have hmin:min ao o.els.length=ao:=by omega
          have hmin2:min (min els.length len) els.length=min els.length len:=by omega
          simp only[List.length_append,List.length_take,hmin,hmin2,List.getElem?_drop] at he;rw[show ao+min els.length len+(q - (ao+min els.length len))=q by omega] at he;exact hcell e' he (by omega)
theorem aI.copy1' (hT:aU P Ty) {t t':TypeId} {dst src:Operand} {j:TI} {id:Id} {g0 off len m:Nat} {o:Ob} {els es':List (List I)} (hk:kd Ty t = .slice j) (hj:j.size=1) (hd:O.ev dst = .arr id g0 off len) (hl:live H id g0=some o) (ho:o.size=1)
    (hs:cb H (O.ev src)=some els) (hes:els.all (·.length == 1)=true) (h1:els.all (fun e=>e.all aF)=true) (hm:min els.length len=m) (he:copied o.els els off len=es') :
    aI P N ⟨d,.call ⟨.builtin .copy,#[dst,src],#[t,t']⟩,ty,pos,af,gu⟩ O H n (qJ (int m) (H.set id ⟨1,es'⟩) n):=by
  subst hm he;exact aI.EA hT hk hj hd hl ho hs hes h1
end
end Go.Ab
namespace Go.Ab.Vg
open Go.Proofs
theorem rep_vs (c:Ctx) (vs:List Value):bT c (.tup (vs.map I.v)) (.tuple vs.toArray):=.tup _ _ (by simp) fun i a x ha hx=>by
  rw[List.getElem?_map] at ha;rw[hx] at ha;simp only[Option.map_some,Option.some.injEq] at ha;exact ha ▸ .v x
theorem e165:aZ prog 165:=aZ.of func165 (by kernel_rfl) rfl
theorem e140:aZ prog 140:=aZ.of func140 (by kernel_rfl) rfl
theorem wW (x y:Nat) (hx:x<18446744073709551616) (hy:y<18446744073709551616):aC prog 165 [.v (.int .u64 x),.v (.int .u64 y)] (fun r=>r = .tup [.v (.int .u64 ((x * y / 18446744073709551616:Nat):Int)),.v (.int .u64 ((x * y % 18446744073709551616:Nat):Int))]):=by
  refine aC.pU fun c xs _ r=>?_
  obtain⟨a,b,rfl,ha,hb⟩:=r.two2;rw[ha.cn,hb.cn];refine (Tryz.bits_Mul x y hx hy c.w).mono ?_;rintro e w' ⟨he,rfl⟩;exact⟨_,_,he,rfl,.tup _ (by simp),fun c'=>rep_vs c' [.int .u64 ((x * y / 18446744073709551616:Nat):Int),.int .u64 ((x * y % 18446744073709551616:Nat):Int)],Go.RowKit.Below.refl _ _⟩
theorem xr {v:Int} {N m:Nat} (hm:m<=N):copied ((List.replicate m v++List.replicate (N - m) (0:Int)).map au) ((List.replicate m v).map au) m (N - m)=(List.replicate (m+min m (N - m)) v++List.replicate (N - (m+min m (N - m))) (0:Int)).map au:=by
  simp only[copied,List.length_map,List.length_replicate,<- List.map_take,<- List.map_drop,<- List.map_append]
  congr 1
  refine List.ext_getElem (by simp;omega) fun i h1 h2=>?_
  simp only[List.getElem_append,List.getElem_take,List.getElem_drop,List.getElem_replicate,List.length_append,List.length_take,List.length_replicate]
  repeat' split
  all_goals first | rfl | omega
theorem zR (v n:Int) (h:0<=n/\n<=1048576):bK prog 140 [.list false ([v].map au),int n] (.s [.c]) (fun r=>r = .list true ((List.replicate n.toNat v).map au)):=by
  obtain⟨N,rfl⟩:∃ N:Nat,n=N:=⟨n.toNat,by omega⟩
  refine bK.of func140 rfl ntmps140 (by simp) fun Q hQ=>?_
  refine zE fun _ V=>?_
  simp;apply V;refine zS fun _ V=>?_
  simp;apply V;refine J.ite rfl (fun hc1=>?_) (fun hc1=>?_)
  · simp at hc1;omega
  clear hc1 V;apply J.skip;refine zE fun _ V=>?_
  simp;have hw:IntKind.u64.wrap (N:Int)=N:=by simp[IntKind.wrap,IntKind.bits,IntKind.signed];omega
  have hw1:IntKind.u64.wrap 1=1:=by simp[IntKind.wrap,IntKind.bits,IntKind.signed]
  have hwi:IntKind.i64.wrap (N:Int)=N:=wrap64 (by omega) (by omega);refine zA (wW 1 N (by omega) (by omega)) e165 (.cons (.v _ _ _) (.cons (.v _ _ _) .nil)) (by simp[hw,hw1]) ?_;rintro _ rfl;have hd:(N:Int) / 18446744073709551616=0:=by omega
  have hm:(N:Int) % 18446744073709551616=N:=by omega
  simp[hd,hm];apply V;refine zS fun _ V=>?_
  simp;apply V;refine J.ite rfl (fun hc1=>?_) (fun hc1=>?_)
  · simp at hc1;omega
  clear hc1 V hw1 hd hm;apply J.skip;refine zE fun _ V=>?_
  simp[hwi,show (N:Int)<=1073741824 by omega];apply V;refine J.cut (fun O H n=>O 0 = .list false [au v]/\O 7 = .arr (0,30) N 0 N/\H (0,30)=some ⟨1,(List.replicate N (0:Int)).map au⟩/\n=1) (by simp[au]) ?_;clear V hw hwi;rintro O H _ ⟨h0,h7,hH,rfl⟩;refine zE fun _ V=>?_
  simp[h0,h7];refine bw.op av (by decide) (by decide) rfl (aI.EA (id:=(0,30)) (g0:=N) (off:=0) (len:=N) (o:=⟨1,(List.replicate N (0:Int)).map au⟩) (els:=[v].map au) av aO rfl (by simp[h7]) (by simp[live,hH]) rfl (by simp[cb,h0]) (by simp[au]) (by simp[au])) ?_;rintro _ H' n' ⟨rfl,rfl,rfl⟩;simp;apply V;refine J.cut (fun O H n=>∃ m:Nat,O 7 = .arr (0,30) N 0 N/\O 8=int m/\m<=N/\(m=0->N=0)/\H (0,30)=some ⟨1,(List.replicate m v++List.replicate (N - m) (0:Int)).map au⟩/\n=1) ⟨min 1 N,by simp[h7],by simp,by omega,by omega,?_,rfl⟩ ?_
  · have hc:copied (List.replicate N (au 0)) [au v] 0 N=(List.replicate (min 1 N) v++List.replicate (N - min 1 N) (0:Int)).map au:=by
      rcases Nat.eq_zero_or_pos N with h1 | h1
      · subst h1;simp[copied]
      · rw[show min 1 N=1 by omega];simp[copied,show min 1 N=1 by omega]
    simp[hc]
  clear V h0 h7 hH;rintro O H _ ⟨m,h7,h8,hm,hm0,hH,rfl⟩;apply J.seq;refine J.block (J.Ew (fun q O H n=>∃ m:Nat,q=N - m/\O 7 = .arr (0,30) N 0 N/\O 8=int m/\m<=N/\(m=0->N=0)/\H (0,30)=some ⟨1,(List.replicate m v++List.replicate (N - m) (0:Int)).map au⟩/\n=1) (N - m) ⟨m,rfl,h7,h8,hm,hm0,hH,rfl⟩ ?_);clear h7 h8 hm hm0 hH;rintro q O H _ ⟨m,rfl,h7,h8,hm,hm0,hH,rfl⟩ IH;refine zS fun _ V=>?_
  have hlen:((List.replicate m v++List.replicate (N - m) (0:Int)).map au).length=N:=by simp;omega
  generalize hels:(List.replicate m v++List.replicate (N - m) (0:Int)).map au=els at hH hlen;simp[h7,h8,live,hH,hlen];apply V;refine J.ite rfl (fun hc1=>?_) (fun hc1=>?_)
  · have hc1:m<N:=by simpa using hc1
    apply J.skip;apply J.block;refine J.ee av aE bL (by decide) (by kernel_rfl) fun _ V=>?_
    simp[h7,h8,live,hH,hlen,hm];have hmm:((m:Int)+(min m (N - m):Nat))=((m+min m (N - m):Nat):Int):=by omega
    refine bh.op av aE (v:=int (min m (N - m):Nat)) (H':=H.set (0,30) ⟨1,(List.replicate (m+min m (N - m)) v++List.replicate (N - (m+min m (N - m))) (0:Int)).map au⟩) (n':=1) rfl (by decide) (fun h=>by cases h) ?_ ?_
    · have e2:=xr (v:=v) (N:=N) (m:=m) hm
      rw[hels] at e2;exact aI.copy1' (id:=(0,30)) (g0:=N) (off:=m) (len:=N - m) (o:=⟨1,els⟩) (els:=(List.replicate m v).map au) av aO rfl (by rw[dh (by simp[Op.operands,Call.operands])];simp) (by simp[live,hH,hlen]) rfl
        (by rw[dh (by simp[Op.operands,Call.operands])];simp[cb,live,hH,<- hels,List.take_append,show m+(N - m)=N by omega]) (by simp[au]) (by simp[au]) (by simp) e2
    have hwr:IntKind.i64.wrap ((m:Int)+(min m (N - m):Nat))=((m+min m (N - m):Nat):Int):=by rw[hmm];exact wrap64 (by omega) (by omega)
    have hz1:0<min m (N - m):=by omega
    have hz2:m+min m (N - m)<=N:=by omega
    generalize hq:m+min m (N - m)=q at hwr hz2;generalize min m (N - m)=z at hq hwr hz1;simp[hwr];apply V;apply J.inBlock;exact IH (N - q) _ _ _ (by omega) ⟨q,rfl,by simp[h7],by simp,hz2,by omega,by simp,rfl⟩
  · have hc1:¬ m<N:=by simpa using hc1
    refine J.exit rfl ?_;refine zE fun _ V=>?_
    simp[h7];apply V;have hmN:m=N:=by omega
    subst hmN;simp at hels;exact J.bX (v:=.arr (0,30) m 0 m) func140 results140 (by simp) (hQ _ _ _ _ (Sep.ofArr (els:=els) (by simp) hH hlen (by simp) (by simp) (by simp[<- hels,au]) (by simp)) (by simp[<- hels]))
end Go.Ab.Vg
namespace Go.Ab.Vg
open Go.Proofs
def cw (o:Option I) (b:aG) (es pl c:I):List I:=o.toList++(aG.cells false b++[es,pl,c])
def cZ (o:Option I):Nat:=o.toList.length
theorem dJ {o:Option I} {b:aG} {es pl c:I} (k:Nat):(cw o b es pl c)[cZ o+k]?=(aG.cells false b++[es,pl,c])[k]?:=by rw[cw,cZ,List.getElem?_append_right (Nat.le_add_right _ _),Nat.add_sub_cancel_left]
theorem ff {o:Option I} {b:aG} {es pl c:I} (k:Nat):(cw o b es pl c).take (cZ o+k)=o.toList++(aG.cells false b++[es,pl,c]).take k:=by rw[cw,cZ,List.take_length_add_append]
theorem eJ {o:Option I} {b:aG} {es pl c:I} (k:Nat):(cw o b es pl c).drop (cZ o+k)=(aG.cells false b++[es,pl,c]).drop k:=by rw[cw,cZ,List.drop_length_add_append]
theorem fU {o:Option I} {b:aG} {es pl c:I} (k:Nat):(cw o b es pl c).drop (cZ o+k+1)=(aG.cells false b++[es,pl,c]).drop (k+1):=eJ (k+1)
theorem yl (o:Option I):(cZ o+8+1<=9+cZ o)=True:=by simp;omega
theorem Ez (o:Option I):(cZ o+7+1<=9+cZ o)=True:=by simp;omega
theorem qn {H:Heap} {X:Id} {sz idx:Nat} {els:List (List I)} {e:List I} (hX:H X=some ⟨sz,els⟩) (he:els[idx]?=some e):H.set X ⟨sz,els.set idx e⟩=H:=by
  funext i
  rw[Heap.aT]
  split
  · rename_i h
    subst h;obtain⟨hi,he⟩:=List.getElem?_eq_some_iff.1 he;rw[hX,<- he,List.set_getElem_self]
  · rfl
section
variable {H:Heap} {n:Nat} {X:Id} {g idx:Nat} {els:List (List I)} {o:Option I} {b:aG}
theorem xZ {es c:I} {t:Bool} {pl:List Int} (hX:H X=some ⟨9+cZ o,els⟩) (hg:els.length=g) (he:els[idx]?=some (cw o b es (.list t (pl.map au)) c)) {p:Int} (hp:p<pl.length) (h1:bu (-1 - p)) (h2:0<=p->bu (4+at' pl p)) :
    cL prog 141 [.ptr X g idx (cZ o),int p] H n (fun r=>r=int (cp pl p)):=by
  refine bz.of func141 rfl ntmps141 (by simp) fun Q hQ=>?_
  subst hg;obtain⟨hi,he⟩:=List.getElem?_eq_some_iff.1 he;cases o
  all_goals
    refine zE fun _ V=>?_
    simp[cZ];apply V;refine zS fun _ V=>?_
    simp;apply V;refine J.ite rfl (fun hc1=>?_) (fun hc1=>?_)
    · have hp0:0<=p:=by simpa using hc1
      have hb:0<=p/\p<pl.length:=⟨hp0,hp⟩
      have hI:=h2 hp0;refine zE fun _ V=>?_
      have f1:=fun H=>aR (H:=H) (fr:=t) (f:=au) (k:=.i64) aO (fun _=>rfl) hb rfl
      have f2:=aV hI rfl;simp[hX,he,hi,cw,cZ,aG.cells,f1,f2,au,-ar,-aw];apply V;exact J.bX (v:=int (4+at' pl p)) func141 results141 (by simp) (hQ _ _ _ ⟨by rw[cp,if_neg (by omega)],rfl,rfl⟩)
    · have hp0:p<0:=by simpa using hc1
      apply J.skip;refine zE fun _ V=>?_
      have f2:=sB h1 rfl;simp[f2,-aw];apply V;exact J.bX (v:=int (-1 - p)) func141 results141 (by simp) (hQ _ _ _ ⟨by rw[cp,if_pos hp0],rfl,rfl⟩)
end
theorem bh.D6 {P:Program} {N:Nat} {f:FuncId} {k:List Item} {Q:I->Heap->Nat->Prop} {Ty:Types} {κ:Op->Nat} {ops:Array Oper} {L:List Oper} {O:Env} {H:Heap} {n dd:Nat} {ty:TypeId} {pos:String} {af:Array Edge} {t:TypeId} {s x:Operand} {j:TI} {fr t':Bool} {l m:List Int}
    (hT:aU P Ty) (hκ:Cm κ) (h2:κ (.call ⟨.builtin .append,#[s,x],#[t,t]⟩)=2) (hk:kd Ty t = .slice j) (hz:j.size=1/\j.zero.length=1/\j.bytes<=131072) (hs:O.ev s = .clip fr (l.map lV)) (hx:O.ev x = .list t' (m.map au)) (hne:m ≠ []) (hm:l.length+m.length<=1073741824)
    (h:dq P f N k Q Ty κ ops L (O.put (some dd) (.arr (n,dd) (l.length+m.length) 0 (l.length+m.length))) (H.set (n,dd) ⟨1,(l++m).map au⟩) (n+1)):bh P f N k Q κ ops (⟨some dd,.call ⟨.builtin .append,#[s,x],#[t,t]⟩,ty,pos,af,none⟩::L) O H n:=by
  refine bh.op hT hκ (v:=.arr (n,dd) (l.length+m.length) 0 (l.length+m.length)) (H':=H.set (n,dd) ⟨1,(l++m).map au⟩) (n':=n+1) rfl (by simp only[h2];decide) (fun h=>by simp only[h2] at h;cases h) ?_ h;have e1:(loc (.call ⟨.builtin .append,#[s,x],#[t,t]⟩) O).ev s=O.ev s:=dh (by simp[Op.operands,Call.operands]);have e2:(loc (.call ⟨.builtin .append,#[s,x],#[t,t]⟩) O).ev x=O.ev x:=dh (by simp[Op.operands,Call.operands]);have:=aI.DO (P:=P) (N:=N) (O:=loc (.call ⟨.builtin .append,#[s,x],#[t,t]⟩) O) (H:=H) (n:=n) (dd:=dd) (ty:=ty) (pos:=pos) (af:=af) (gu:=none) hT hk (s:=s) (x:=x) (vs:=l.map lV) (els:=m.map au) (e1.trans hs) (by rw[e2,hx];rfl) (by simp[hz.1,lV]) (by simp[hz.1,au]) (by simpa using hne) ⟨by omega,hz.2.2⟩ (by simpa using hm);rw[lJ,<- List.map_append] at this;show aI P N _ _ H n (fun v1 H1 U=>v1 = .arr (n,dd) (l.length+m.length) 0 (l.length+m.length)/\H1=H.set (n,dd) ⟨1,(l++m).map au⟩/\U=n+1);simpa[hz.1] using this
theorem Sep.addI {H:Heap} {n:Nat} {K:List bS} {ids:List Id} {d:Nat} (l:List Int) (h:Sep H n K ids):Sep (H.set (n,d) ⟨1,l.map au⟩) (n+1) (oI (.arr (n,d) l.length 0 l.length) l::K) ids:=by
  have:=Sep.nB (l:=[.c]) (d:=d) (els:=l.map au) (es:=l.map au) h (bE.fresh (by intro e he;obtain⟨a,_,rfl⟩:=List.mem_map.1 he;simp[au]) (by simp));simpa using this
section
variable {H:Heap} {n:Nat} {X:Id} {g idx:Nat} {els:List (List I)} {o:Option I} {b:aG}
def cd (b:aG) (es:List Int) (l:Int):Int × List Int:=if l >= b.edges then (l - b.edges,es) else if l ∈ es then (16+((es.idxOf l:Nat):Int),es) else (16+((es.length:Nat):Int),es++[l])
theorem e141:aZ prog 141:=aZ.of func141 (by kernel_rfl) rfl
theorem A3 {pl c:I} {es:List Int} (hX:H X=some ⟨9+cZ o,els⟩) (hg:els.length=g) (he:els[idx]?=some (cw o b (.list true (es.map au)) pl c)) {l:Int} (hl:bu (l - b.edges)) (hE:es.length<=1048576) :
    bz prog 142 [.ptr X g idx (cZ o),int l] H n (fun r H1 U=>r=int (cd b es l).1/\H1=H.set X ⟨9+cZ o,els.set idx (cw o b (.list true ((cd b es l).2.map au)) pl c)⟩/\U=n):=by
  refine bz.of func142 rfl ntmps142 (by simp) fun Q hQ=>?_
  subst hg;have hsame:=qn hX he;obtain⟨hi,he⟩:=List.getElem?_eq_some_iff.1 he;cases o
  all_goals
    refine zE fun _ V=>?_
    simp[cZ];apply V;refine zS fun _ V=>?_
    simp[hX,he,hi,cw,cZ,aG.cells];apply V;refine J.ite rfl (fun hc1=>?_) (fun hc1=>?_)
    · have hp0:b.edges<=l:=by simpa using hc1
      refine zE fun _ V=>?_
      have f2:=sB hl rfl;simp[hX,he,hi,cw,cZ,aG.cells,f2,-aw];apply V;exact J.bX (v:=int (l - b.edges)) func142 results142 (by simp) (hQ _ _ _ ⟨by rw[cd,if_pos hp0],by rw[cd,if_pos hp0];exact hsame.symm,rfl⟩)
    · have hp0:¬ b.edges<=l:=by simpa using hc1
      apply J.skip;refine zE fun _ V=>?_
      simp[hX,he,hi,cw,cZ,aG.cells];refine zA (rG es l hE) e88 (.cons (aM.pC (fr:=true) (els:=es.map au) (by simp[au])) (.cons (.v _ _ _) .nil)) (by simp) ?_;rintro _ rfl;simp;apply V;refine zS fun _ V=>?_
      simp;apply V;have hidx:=rQ es l;refine J.ite rfl (fun hc2=>?_) (fun hc2=>?_)
      · have hp1:df es l<0:=by simpa using hc2
        have hm:l ∉ es:=fun h=>by have:=hidx.2.2.2 h;omega
        have hk:cd b es l=(16+((es.length:Nat):Int),es++[l]):=by rw[cd,if_neg hp0,if_neg hm]
        refine zE fun _ V=>?_
        have f1:=fun H=>aQ (H:=H) (fr:=true) (f:=au) (l:=es) aO rfl
        simp[hX,he,hi,cw,cZ,aG.cells,f1,-aJ];apply V;refine zF fun _ V=>?_
        simp[hX,he,hi,cw,cZ,aG.cells];refine bw.je av (p0 true es _ _) e116 (by decide) (by decide) rfl (by simp) ?_;rintro _ rfl;simp;refine bw.DE (fr:=true) (t':=true) (l:=es) (m:=[l]) av (by decide) (by decide) aO ⟨rfl,rfl,by decide⟩ (by simp) (by simp[au]) (by simp) (by simp;omega) ?_;simp[hX,he,hi,cw,cZ,aG.cells];apply V;refine zE fun _ V=>?_
        have f3:=aV (show bu (16+(es.length:Int)) by simp only[bu];omega) rfl;simp[f3,-aw];apply V;refine J.bX (v:=int (16+((es.length:Nat):Int))) func142 results142 (by simp) (hQ _ _ _ ⟨by rw[hk],?_,rfl⟩);rw[hk];simp[cw,cZ,aG.cells]
      · have hp1:¬ df es l<0:=by simpa using hc2
        have hm:l ∈ es:=hidx.2.2.1 (by omega);have hk:cd b es l=(16+((es.idxOf l:Nat):Int),es):=by rw[cd,if_neg hp0,if_pos hm]
        have hz:df es l=((es.idxOf l:Nat):Int):=by rw[df,if_pos hm]
        apply J.skip;refine zE fun _ V=>?_
        have f3:=aV (show bu (16+df es l) by simp only[bu];omega) rfl;simp[f3,-aw];apply V;exact J.bX (v:=int (16+df es l)) func142 results142 (by simp) (hQ _ _ _ ⟨by rw[hk,hz],by rw[hk];exact hsame.symm,rfl⟩)
theorem e142:aZ prog 142:=aZ.of func142 (by kernel_rfl) rfl
theorem fq (b:aG):∀ (l es:List Int) (a:Int),bF b es (l++[a])=((bF b es l).1++[(cd b (bF b es l).2 a).1],(cd b (bF b es l).2 a).2)
  | [],es,a=>by
    by_cases h1:a >= b.edges
    · simp[bF,cd,h1]
    · by_cases h2:a ∈ es<;>simp[bF,cd,h1,h2]
  | x::l,es,a=>by
    simp only[List.cons_append,bF]
    split
    · rw[fq b l];rfl
    · split
      · rw[fq b l];rfl
      · rw[fq b l];rfl
theorem eu (b:aG):∀ (l es:List Int),(bF b es l).2.length<=es.length+l.length
  | [],es=>by simp[bF]
  | x::l,es=>by
    simp only[bF]
    split
    · have:=eu b l es;simp;omega
    · split
      · have:=eu b l es;simp;omega
      · have:=eu b l (es++[x]);simp at this ⊢;omega
set_option maxRecDepth 100000 in
theorem node_c {es pl code:List Int} {cv:I} {K:List bS} {ids:List Id} (hX:H X=some ⟨9+cZ o,els⟩) (hg:els.length=g) (he:els[idx]?=some (cw o b (.list true (es.map au)) (.list true (pl.map au)) cv)) (hcv:Sub cv (.list true (code.map au)))
    {k num:Int} (hk:0<=k/\k<b.nodes.length) (hkp:k<pl.length) (hpp:(at' b.nodes k).parent<pl.length) (hp1:bu (-1 - (at' b.nodes k).parent)) (hp2:0<=(at' b.nodes k).parent->bu (4+at' pl (at' b.nodes k).parent))
    (hlk:∀ l ∈ (at' b.nodes k).links,bu (l - b.edges)) (hsz:es.length+(at' b.nodes k).links.length<=1048576) (hcz:code.length+(at' b.nodes k).links.length<=1048576) (hpz:pl.length<=1048576) (hxi:X ∉ ids) (M:Sep H n K (X::ids)) :
    bz prog 117 [.ptr X g idx (cZ o),int k,int num] H n (fun r H1 U=>∃ vp vc,H1 X=some ⟨9+cZ o,els.set idx (cw o b (.list true ((bF b es (at' b.nodes k).links).2.map au)) vp vc)⟩ /\
      Sep H1 U (oI vp (pl.set k.toNat num)::oI vc (code++(at' b.nodes k).control::cp pl (at' b.nodes k).parent::(bF b es (at' b.nodes k).links).1)::K) (X::ids)/\(∀ i ∈ ids,H1 i=H i)/\n<=U):=by
  refine bz.of func117 rfl ntmps117 (by simp) fun Q hQ=>?_
  subst hg;have he0:=he;obtain⟨hi,he⟩:=List.getElem?_eq_some_iff.1 he;have h00:=M.1;have lX:X.1<n:=h00 X (by simp);have neX:∀ m d,n<=m->(X=(m,d))=False:=fun m d hm=>by simp only[eq_iff_iff,iff_false];rintro rfl;simp at lX;omega
  have neI:∀ i ∈ ids,i ≠ (n,6):=fun i hi h=>by have:=h00 i (by simp[hi]);rw[h] at this;simp at this
  have nX0:=neX n 6 (Nat.le_refl _);have nX1:=neX (n+1) 30 (by omega);have nX2:∀ d,(X=(n+1,d))=False:=fun d=>neX (n+1) d (by omega)
  generalize hx:at' b.nodes k=x at *;refine zE fun _ V=>?_
  have f1:=fun H=>aR (H:=H) (fr:=false) (f:=ay.cells false) (k:=.i64) cJ (fun _=>rfl) hk hx.symm
  simp[hX,he,hi,dJ,ff,eJ,aG.cells,bB,f1,ay.cells,encI,-ar];apply V;refine J.cut (fun O H1 U=>O 0 = .ptr X els.length idx (cZ o)/\O 1=int k/\O 2=int num/\O 6 = .ptr (n,6) 1 0 0/\H1 (n,6)=some ⟨3,[ay.cells false x]⟩/\H1 X=some ⟨9+cZ o,els⟩/\U=n+1/\Sep H1 (n+1) K ((n,6)::X::ids)/\∀ i ∈ ids,H1 i=H i)
    ⟨by simp,by simp,by simp,by simp,by simp[ay.cells,encI],by simp[nX0,hX],rfl,Sep.var M,fun i hi=>by rw[Heap.aD _ _ (neI i hi)]⟩ ?_
  clear V f1;rintro O H1 _ ⟨r0,r1,r2,r6,m6,mX,rfl,sp1,fr1⟩;refine J.fv av aE bL (by decide) (by kernel_rfl) fun _ V=>?_
  simp[r0,r6,mX,he,hi,dJ,ff,eJ,aG.cells];refine bh.je av aE (bz.sub (.cons hcv .nil) (p0 true code _ _)) e116 (by decide) rfl (by simp) ?_;simp[r0,r6,m6,ay.cells];refine bh.je av aE (xZ mX rfl he0 hpp hp1 hp2) e141 (by decide) rfl (by simp[r0]) ?_;simp[List.range_succ];have nR:∀ i ∈ (n,6)::X::ids,i ≠ (n+1,30):=fun i hi h=>by have:=sp1.1 i hi;rw[h] at this;simp at this
  have sp2:=Sep.addI (d:=30) (code++[x.control,cp pl x.parent]) sp1;refine bh.D6 (fr:=true) (t':=true) (l:=code) (m:=[x.control,cp pl x.parent]) av aE (by decide) aO ⟨rfl,rfl,by decide⟩ (by simp) (by simp[au]) (by simp) (by simp;omega) ?_;simp[r0,mX,he,hi,dJ,ff,eJ,fU,yl,aG.cells,nX2];apply V;have mX1:((H1.set (n+1,30) ⟨1,(code++[x.control,cp pl x.parent]).map au⟩).set X ⟨9+cZ o,els.set idx (cw o b (.list true (es.map au)) (.list true (pl.map au)) (.arr (n+1,30) (code.length+2) 0 (code.length+2)))⟩) X=some ⟨9+cZ o,els.set idx (cw o b (.list true (es.map au)) (.list true (pl.map au)) (.arr (n+1,30) (code.length+2) 0 (code.length+2)))⟩:=Heap.a8 _ _ _;refine J.cut (fun O H2 n2=>∃ vc,O 0 = .ptr X els.length idx (cZ o)/\O 1=int k/\O 2=int num/\O 6 = .ptr (n,6) 1 0 0/\H2 (n,6)=some ⟨3,[ay.cells false x]⟩/\H2 X=some ⟨9+cZ o,els.set idx (cw o b (.list true (es.map au)) (.list true (pl.map au)) vc)⟩/\n<=n2/\Sep H2 n2 (oI vc (code++[x.control,cp pl x.parent])::K) (X::ids)/\∀ i ∈ ids,H2 i=H i)
    ⟨.arr (n+1,30) (code.length+2) 0 (code.length+2),by simp[r0],by simp[r1],by simp[r2],by simp[r6],?_,by simp[cw,aG.cells],by omega,?_,fun i hi=>?_⟩ ?_
  · rw[Heap.aD _ _ (fun h=>by simp[h] at nX0),Heap.aD _ _ (by simp)];exact m6
  · have:=Sep.sub (dO:=X::ids) (Sep.bG (w:=X) (o:=⟨9+cZ o,els.set idx (cw o b (.list true (es.map au)) (.list true (pl.map au)) (.arr (n+1,30) (code.length+2) 0 (code.length+2)))⟩) sp2 (by simp)) (by simp +contextual)
    simpa[cw,aG.cells] using this
  · rw[Heap.aD _ _ (show i ≠ X from fun h=>hxi (h ▸ hi)),Heap.aD _ _ (nR i (by simp[hi]))];exact fr1 i hi
  clear V mX1 sp2 nR r0 r1 r2 r6 m6 mX sp1 fr1;rintro O H2 n2 ⟨vc,r0,r1,r2,r6,m6,mX,hn2,sp2,fr2⟩;refine zS fun _ V=>?_
  have f1:=fun H=>aQ (H:=H) (fr:=false) (f:=au) (l:=x.links) aO rfl
  simp[r6,m6,ay.cells,encI,f1,-aJ];apply V;refine J.block (J.bM x.links.length (fun i O H3 n3=>∃ vc,O 0 = .ptr X els.length idx (cZ o)/\O 1=int k/\O 2=int num/\O 34 = .list false (x.links.map au)/\O 35=int x.links.length/\O 36=int i /\
    H3 X=some ⟨9+cZ o,els.set idx (cw o b (.list true ((bF b es (x.links.take i)).2.map au)) (.list true (pl.map au)) vc)⟩/\n<=n3/\Sep H3 n3 (oI vc (code++x.control::cp pl x.parent::(bF b es (x.links.take i)).1)::K) (X::ids)/\∀ i ∈ ids,H3 i=H i)
    ⟨vc,by simp[r0],by simp[r1],by simp[r2],by simp,by simp,by simp,by simpa[bF] using mX,hn2,by simpa[bF] using sp2,fr2⟩ ?_)
  clear V f1 r0 r1 r2 r6 m6 mX hn2 sp2 fr2;rintro i O H3 n3 hi3 ⟨vc,r0,r1,r2,c,j,r36,mX,hn3,sp3,fr3⟩ IH;refine zE fun _ V=>?_
  simp[j,r36];apply V;apply J.seq;refine J.ite rfl (fun hc1=>?_) (fun hc1=>?_)
  · have hc1:i<x.links.length:=by simpa using hc1
    apply zK;apply J.block;refine zE fun _ V=>?_
    have f1:=fun H=>aR (H:=H) (fr:=false) (f:=au) (l:=x.links) (k:=.i64) (i:=(i:Int)) aO (fun _=>rfl) ⟨by omega,by omega⟩ rfl
    simp[c,r36,f1,au,-ar];apply V;have hl8:at' x.links (i:Int) ∈ x.links:=by rw[bm hc1];exact List.getElem_mem hc1
    generalize ha:at' x.links (i:Int)=a at hl8;have htk:x.links.take (i+1)=x.links.take i++[a]:=by rw[<- List.take_append_getElem hc1,<- ha,bm hc1]
    have hsn:=fq b (x.links.take i) es a;have hE1:=eu b (x.links.take i) es;have hE2:(bF b es (x.links.take i)).1.length=(x.links.take i).length:=dz _ _;rw[<- htk] at hsn;generalize bF b es (x.links.take i)=L at hsn hE1 hE2 mX sp3;have hti:(x.links.take i).length=i:=by simp;omega
    rw[hti] at hE1 hE2;refine J.BQ (fun H n=>∃ es':List Int,H X=some ⟨9+cZ o,els.set idx (cw o b (.list true (es'.map au)) (.list true (pl.map au)) vc)⟩) [7,9,12] (.free 0 (.free 1 (.free 2 (.free 3 (.free 4 (.free 5 (.free 6 (.aP 7 (.free 8 (.aP 9 (.free 10 (.free 11 (.aP 12 .fin .stop))) .stop)) .stop))))))))
      (fun O H3 n3=>∃ vc,O 0 = .ptr X els.length idx (cZ o)/\O 1=int k/\O 2=int num/\O 34 = .list false (x.links.map au)/\O 35=int x.links.length/\O 36=int i /\
        H3 X=some ⟨9+cZ o,els.set idx (cw o b (.list true ((bF b es (x.links.take (i+1))).2.map au)) (.list true (pl.map au)) vc)⟩/\n<=n3/\Sep H3 n3 (oI vc (code++x.control::cp pl x.parent::(bF b es (x.links.take (i+1))).1)::K) (X::ids)/\∀ i ∈ ids,H3 i=H i) bL (by decide) (by kernel_rfl) ?_ ?_
    · have hgX:∀ es':List Int,(els.set idx (cw o b (.list true (es'.map au)) (.list true (pl.map au)) vc))[idx]?=some (cw o b (.list true (es'.map au)) (.list true (pl.map au)) vc):=fun es'=>by rw[List.getElem?_set_self hi]
      refine RunT.free (.ptr X els.length idx (cZ o)) rfl rfl ⟨_,mX⟩ (fun H n ⟨es',hS⟩=>aA av (by rw[ax];simp[r0])) ?_;refine RunT.free (.ptr X els.length idx (cZ o)) rfl rfl ⟨_,mX⟩ (fun H n ⟨es',hS⟩=>aA av (by rw[ax];simp[r0])) ?_;refine RunT.free (.ptr X els.length idx (cZ o)) rfl rfl ⟨_,mX⟩ (fun H n ⟨es',hS⟩=>aA av (by rw[ax];simp[hS,hi])) ?_;refine RunT.free (.ptr X els.length idx (cZ o+8)) rfl rfl ⟨_,mX⟩ (fun H n ⟨es',hS⟩=>aA av (by rw[ax];simp[hS,hi])) ?_;refine RunT.free vc rfl rfl ⟨_,mX⟩ (fun H n ⟨es',hS⟩=>aA av (by rw[ax];simp[hS,hi,dJ,aG.cells])) ?_;refine RunT.free (.ptr X els.length idx (cZ o)) rfl rfl ⟨_,mX⟩ (fun H n ⟨es',hS⟩=>aA av (by rw[ax];simp[r0])) ?_;refine RunT.free (int a) rfl rfl ⟨_,mX⟩ (fun H n ⟨es',hS⟩=>aA av (by rw[ax];simp)) ?_;refine⟨?_,trivial⟩;refine RunT.rP (fun r H1 U=>r=int (cd b L.2 a).1/\H1=H3.set X ⟨9+cZ o,(els.set idx (cw o b (.list true (L.2.map au)) (.list true (pl.map au)) vc)).set idx (cw o b (.list true ((cd b L.2 a).2.map au)) (.list true (pl.map au)) vc)⟩/\U=n3) rfl rfl
        (aI.call (first:=[]) (captured:=[]) (by rw[eB.2];rfl) e142 (by rw[eB.1];simp[r0];simpa using A3 (n:=n3) mX (by simp) (hgX _) (hlk a hl8) (by omega))) ?_
      rintro _ _ _ ⟨rfl,rfl,rfl⟩;rw[List.set_set];have mX2:=Heap.a8 H3 X ⟨9+cZ o,els.set idx (cw o b (.list true ((cd b L.2 a).2.map au)) (.list true (pl.map au)) vc)⟩;have sp4:=Sep.bG (w:=X) (o:=⟨9+cZ o,els.set idx (cw o b (.list true ((cd b L.2 a).2.map au)) (.list true (pl.map au)) vc)⟩) sp3 (by simp);have fr4:∀ i ∈ ids,(H3.set X ⟨9+cZ o,els.set idx (cw o b (.list true ((cd b L.2 a).2.map au)) (.list true (pl.map au)) vc)⟩) i=H i:=fun i hi=>by rw[Heap.aD _ _ (show i ≠ X from fun h=>hxi (h ▸ hi))];exact fr3 i hi
      generalize H3.set X ⟨9+cZ o,els.set idx (cw o b (.list true ((cd b L.2 a).2.map au)) (.list true (pl.map au)) vc)⟩=H4 at mX2 sp4 fr4;refine⟨fun _=>⟨_,mX2⟩,?_⟩;refine RunT.free (.list true [[int (cd b L.2 a).1]]) rfl rfl ⟨_,mX2⟩ (fun H n ⟨es',hS⟩=>aA av (by rw[ax];simp[List.range_succ])) ?_;refine⟨?_,trivial⟩;refine RunT.append (v:=vc) (xv:=.list true [[int (cd b L.2 a).1]]) av [] K [[int (cd b L.2 a).1]] [au (cd b L.2 a).1] rfl rfl (by simp) (by simp) sp4 aO (by simp) (by simp) (by simp[cb]) (by simp) (b6 (aY.v _ aY.nil)) (by simp) (by simp;omega) ?_;rintro vn H5 n5 sp5 fr5 hn5;have mX5:H5 X=some ⟨9+cZ o,els.set idx (cw o b (.list true ((cd b L.2 a).2.map au)) (.list true (pl.map au)) vc)⟩:=(fr5 X (by simp)).trans mX2;refine⟨fun _=>⟨_,mX5⟩,?_⟩;refine RunT.free (.ptr X els.length idx (cZ o)) rfl rfl ⟨_,mX5⟩ (fun H n ⟨es',hS⟩=>aA av (by rw[ax];simp[hS,hi])) ?_;refine RunT.free (.ptr X els.length idx (cZ o+8)) rfl rfl ⟨_,mX5⟩ (fun H n ⟨es',hS⟩=>aA av (by rw[ax];simp[hS,hi])) ?_;refine⟨?_,trivial⟩;have ho:=Sep.oc sp5;refine RunT.step (v:=.undef) (H':=H5.set X ⟨9+cZ o,els.set idx (cw o b (.list true ((cd b L.2 a).2.map au)) (.list true (pl.map au)) vn)⟩) (n':=n5) av rfl rfl ?_ (fun hl=>absurd (hl.symm.trans (show ba _ _ _=true by kernel_rfl)) (by decide)) ?_
      · simp[mX5,hi,dJ,ff,eJ,fU,yl,aG.cells,ho,-az,-aF,bR,bl]
        simp[cw,aG.cells]
      refine RunT.fin ⟨vn,by simp[r0],by simp[r1],by simp[r2],by simp[c],by simp[j],by simp[r36],by rw[hsn];exact Heap.a8 _ _ _,by omega,?_,fun i hi=>?_⟩
      · rw[hsn]
        have:=Sep.bG (w:=X) (o:=⟨9+cZ o,els.set idx (cw o b (.list true ((cd b L.2 a).2.map au)) (.list true (pl.map au)) vn)⟩) sp5 (by simp);simpa[oI,oE] using this
      · rw[Heap.aD _ _ (show i ≠ X from fun h=>hxi (h ▸ hi)),fr5 i (by simp[hi])];exact fr4 i hi
    · rintro O H4 n4 ⟨vc,r0,r1,r2,c,j,r36,mX,hn3,sp3,fr3⟩
      refine zI fun _ V=>?_
      have f2:=aV (show bu ((i:Int)+1) by simp only[bu];omega) (show ((i+1:Nat):Int)=(i:Int)+1 by omega);simp[r36,f2,-aw];apply V;exact IH hc1 _ _ _ ⟨vc,by simp[r0],by simp[r1],by simp[r2],by simp[c],by simp[j],by simp,mX,hn3,sp3,fr3⟩
  · have hc2:¬ i<x.links.length:=by simpa using hc1
    have hc1:i=x.links.length:=by omega
    subst hc1;refine J.exit rfl ?_;rw[List.take_length] at mX sp3;refine zE fun _ V=>?_
    generalize bF b es x.links=L at mX sp3 hQ;have hgX:∀ e,(els.set idx e)[idx]?=some e:=fun e=>by rw[List.getElem?_set_self hi]
    simp[r0,mX,hi,dJ,aG.cells];refine zW (rb pl hpz) e85 (.cons (aM.pC (fr:=true) (els:=pl.map au) (by simp[au])) .nil) sp3 (by simp) ?_;rintro vp H4 n4 _ sp4 rfl hn4 fr4;have mX4:=(fr4 X (by simp)).trans mX;have ho:=Sep.oc sp4;simp[r0,mX4,hi,dJ,ff,eJ,fU,Ez,aG.cells,ho,-az,-aF,bR,bl];apply V;refine J.cut (fun O H5 n5=>O 0 = .ptr X els.length idx (cZ o)/\O 1=int k/\O 2=int num/\H5 X=some ⟨9+cZ o,els.set idx (cw o b (.list true (L.2.map au)) vp vc)⟩/\n<=n5/\Sep H5 n5 (oI vp pl::oI vc (code++x.control::cp pl x.parent::L.1)::K) (X::ids)/\∀ i ∈ ids,H5 i=H i)
      ⟨by simp[r0],by simp[r1],by simp[r2],by simp[cw,aG.cells],by omega,Sep.bG sp4 (by simp),fun i hi=>by rw[Heap.aD _ _ (show i ≠ X from fun h=>hxi (h ▸ hi)),fr4 i (by simp[hi])];exact fr3 i hi⟩ ?_
    clear V mX4 ho sp4 fr4 r0 r1 r2 mX sp3 fr3 hn4 hn3 c j r36;rintro O H5 n5 ⟨r0,r1,r2,mX,hn5,sp5,fr5⟩;have hkb:0<=k/\k<pl.length:=⟨hk.1,hkp⟩
    obtain⟨id,rfl,mo,ln,ni⟩:=Sep.eg sp5 (by simp) hkb;refine zF fun _ V=>?_
    have f1:=fun H (hm:H id=some ⟨1,pl.map au⟩)=>cM (H:=H) (k:=.i64) (off:=0) (len:=pl.length) (g:=pl.length) aO hm (by simp) rfl hkb
    simp[r0,r1,r2,mX,hi,dJ,ff,eJ,fU,Ez,aG.cells,f1 _ mo,-ar,-cB];refine c8 (q:=k.toNat) (news:=au num) [] (oI vc (code++x.control::cp pl x.parent::L.1)::K) sp5 (by simp) (by simp;omega) (by simp) (by simp[-aF,bl]) (aY.v _ aY.nil) ?_;rintro H6 sp6 fr6;simp;apply V;refine J.fin func117 (aK.zero results117) (hQ _ _ _ ⟨_,vc,(fr6 X (by simp)).trans mX,?_,fun i hi=>(fr6 i (by simp[hi])).trans (fr5 i hi),hn5⟩);have:=sp6;rw[<- List.map_set] at this;exact this
theorem e117:aZ prog 117:=aZ.of func117 (by kernel_rfl) rfl
set_option maxRecDepth 100000 in
theorem rest_c {es pl code:List Int} {cv:I} {K:List bS} {ids:List Id} (hX:H X=some ⟨9+cZ o,els⟩) (hg:els.length=g) (he:els[idx]?=some (cw o b (.list true (es.map au)) (.list true (pl.map au)) cv))
    (hp:∀ p ∈ b.sites,p<pl.length/\bu (-1 - p)/\(0<=p->bu (4+at' pl p))) (hlk:∀ w ∈ b.inner,bu (w.link - b.edges)) (hsz:es.length+b.inner.length<=1048576) (hcz:code.length+b.sites.length+b.inner.length<=1048576) (hxi:X ∉ ids) (M:Sep H n (oI cv code::K) (X::ids)) :
    bz prog 119 [.ptr X g idx (cZ o)] H n (fun r H1 U=>∃ vc,H1 X=some ⟨9+cZ o,els.set idx (cw o b (.list true ((bF b es (b.inner.map fun w=>w.link)).2.map au)) (.list true (pl.map au)) vc)⟩ /\
      Sep H1 U (oI vc (code++(b.sites.map (cp pl)++(bF b es (b.inner.map fun w=>w.link)).1))::K) (X::ids)/\(∀ i ∈ ids,H1 i=H i)/\n<=U):=by
  refine bz.of func119 rfl ntmps119 (by simp) fun Q hQ=>?_
  subst hg;have he0:=he;obtain⟨hi,he⟩:=List.getElem?_eq_some_iff.1 he;have hgX:∀ e,(els.set idx e)[idx]?=some e:=fun e=>by rw[List.getElem?_set_self hi]
  have neX0:∀ (H3:Heap) (n3:Nat),(∀ i ∈ X::ids,i.1<n3)->X ≠ (n3,5):=fun _ n3 h e=>by have:=h X (by simp);rw[e] at this;simp at this
  refine zS fun _ V=>?_
  have f1:=fun H=>aQ (H:=H) (fr:=false) (f:=au) (l:=b.sites) aO rfl
  simp[hX,he,hi,dJ,aG.cells,encI,f1,-aJ];apply V;refine J.block (J.bM b.sites.length (fun i O H3 n3=>∃ vc,O 0 = .ptr X els.length idx (cZ o)/\O 10 = .list false (b.sites.map au)/\O 11=int b.sites.length/\O 12=int i /\
    H3 X=some ⟨9+cZ o,els.set idx (cw o b (.list true (es.map au)) (.list true (pl.map au)) vc)⟩/\n<=n3/\Sep H3 n3 (oI vc (code++(b.sites.take i).map (cp pl))::K) (X::ids)/\∀ i ∈ ids,H3 i=H i)
    ⟨cv,by simp,by simp,by simp,by simp,by rw[<- he,List.set_getElem_self];exact hX,Nat.le_refl _,by simpa using M,fun _ _=>rfl⟩ ?_)
  clear V f1 he0 hX M;rintro i O H3 n3 hi3 ⟨vc,r0,u,y,j,mX,hn3,sp3,fr3⟩ IH;refine zE fun _ V=>?_
  simp[y,j];apply V;apply J.seq;refine J.ite rfl (fun hc1=>?_) (fun hc1=>?_)
  · have hc1:i<b.sites.length:=by simpa using hc1
    apply zK;apply J.block;refine zE fun _ V=>?_
    have f1:=fun H=>aR (H:=H) (fr:=false) (f:=au) (l:=b.sites) (k:=.i64) (i:=(i:Int)) aO (fun _=>rfl) ⟨by omega,by omega⟩ rfl
    simp[u,j,f1,au,-ar];apply V;have hl8:at' b.sites (i:Int) ∈ b.sites:=by rw[bm hc1];exact List.getElem_mem hc1
    generalize ha:at' b.sites (i:Int)=a at hl8;have htk:b.sites.take (i+1)=b.sites.take i++[a]:=by rw[<- List.take_append_getElem hc1,<- ha,bm hc1]
    obtain⟨hp1,hp2,hp3⟩:=hp a hl8;refine J.ee av aE bL (by decide) (by kernel_rfl) fun _ V=>?_
    simp[r0,mX,hi,dJ,aG.cells];refine bh.je av aE (xZ (g:=els.length) mX (by simp) (hgX _) hp1 hp2 hp3) e141 (by decide) rfl (by simp[r0]) ?_;simp[List.range_succ,-bb];refine cO [] K [[int (cp pl a)]] [au (cp pl a)] sp3 aO (by simp) (by simp) (by simp[cb]) (by simp) (b6 (aY.v _ aY.nil)) (by simp) (by simp;omega) ?_;rintro vn H4 n4 sp4 fr4 hn4;have mX4:=(fr4 X (by simp)).trans mX;have ho:=Sep.oc sp4;simp[r0,mX4,hi,dJ,ff,eJ,fU,yl,aG.cells,ho,-az,-aF,bR,bl];apply V;refine zI fun _ V=>?_
    have f2:=aV (show bu ((i:Int)+1) by simp only[bu];omega) (show ((i+1:Nat):Int)=(i:Int)+1 by omega);simp[j,f2,-aw];apply V;refine IH hc1 _ _ _ ⟨vn,by simp[r0],by simp[u],by simp[y],by simp,by simp[cw,aG.cells],by omega,?_,fun i hi=>by rw[Heap.aD _ _ (show i ≠ X from fun h=>hxi (h ▸ hi)),fr4 i (by simp[hi])];exact fr3 i hi⟩;rw[htk];have:=Sep.bG (w:=X) (o:=⟨9+cZ o,els.set idx (cw o b (.list true (es.map au)) (.list true (pl.map au)) vn)⟩) sp4 (by simp);simpa[oI,oE,cw,aG.cells] using this
  · have hc2:¬ i<b.sites.length:=by simpa using hc1
    have hc1:i=b.sites.length:=by omega
    subst hc1;refine J.exit rfl ?_;rw[List.take_length] at sp3;clear IH hi3 u y j;refine zE fun _ V=>?_
    have f1:=fun H=>aQ (H:=H) (fr:=false) (f:=aN.cells) (l:=b.inner) eN rfl
    simp[r0,mX,hi,dJ,aG.cells,bH,f1,-aJ];apply V;refine J.block (J.bM b.inner.length (fun i O H3 n3=>∃ vc,O 0 = .ptr X els.length idx (cZ o)/\O 33 = .list false (b.inner.map aN.cells)/\O 34=int b.inner.length/\O 35=int i /\
      H3 X=some ⟨9+cZ o,els.set idx (cw o b (.list true ((bF b es ((b.inner.map fun w=>w.link).take i)).2.map au)) (.list true (pl.map au)) vc)⟩/\n<=n3/\Sep H3 n3 (oI vc (code++(b.sites.map (cp pl)++(bF b es ((b.inner.map fun w=>w.link).take i)).1))::K) (X::ids)/\∀ i ∈ ids,H3 i=H i)
      ⟨vc,by simp[r0],by simp,by simp,by simp,by simpa[bF] using mX,hn3,by simpa[bF] using sp3,fr3⟩ ?_)
    clear V f1 r0 mX hn3 sp3 fr3;rintro i O H3 n3 hi3 ⟨vc,r0,q,t,c,mX,hn3,sp3,fr3⟩ IH;refine zE fun _ V=>?_
    simp[t,c];apply V;apply J.seq;refine J.ite rfl (fun hc1=>?_) (fun hc1=>?_)
    · have hc1:i<b.inner.length:=by simpa using hc1
      apply zK;apply J.block;refine zE fun _ V=>?_
      have f1:=fun H=>aR (H:=H) (fr:=false) (f:=aN.cells) (l:=b.inner) (k:=.i64) (i:=(i:Int)) eN (fun _=>rfl) ⟨by omega,by omega⟩ rfl
      simp[q,c,f1,aN.cells,-ar];apply V;have hl8:at' b.inner (i:Int) ∈ b.inner:=by rw[bm hc1];exact List.getElem_mem hc1
      have hlw:=hlk _ hl8;generalize ha:at' b.inner (i:Int)=w at hl8 hlw;have htk:(b.inner.map fun w=>w.link).take (i+1)=(b.inner.map fun w=>w.link).take i++[w.link]:=by
        have hcm:i<(b.inner.map fun w=>w.link).length:=by simpa using hc1
        rw[<- List.take_append_getElem hcm,<- ha,bm hc1];simp
      have hsn:=fq b ((b.inner.map fun w=>w.link).take i) es w.link;have hE1:=eu b ((b.inner.map fun w=>w.link).take i) es;have hE2:(bF b es ((b.inner.map fun w=>w.link).take i)).1.length=((b.inner.map fun w=>w.link).take i).length:=dz _ _;rw[<- htk] at hsn;generalize bF b es ((b.inner.map fun w=>w.link).take i)=L at hsn hE1 hE2 mX sp3;have hti:((b.inner.map fun w=>w.link).take i).length=i:=by simp;omega
      rw[hti] at hE1 hE2;have nX:=neX0 H3 n3 sp3.1;have spv:=Sep.var (d:=5) (o:=⟨2,[[str w.name,int w.link]]⟩) sp3;have mXv:(H3.set (n3,5) ⟨2,[[str w.name,int w.link]]⟩) X=some ⟨9+cZ o,els.set idx (cw o b (.list true (L.2.map au)) (.list true (pl.map au)) vc)⟩:=by rw[Heap.aD _ _ nX];exact mX
      have mWv:(H3.set (n3,5) ⟨2,[[str w.name,int w.link]]⟩) (n3,5)=some ⟨2,[[str w.name,int w.link]]⟩:=Heap.a8 _ _ _;have frv:∀ i ∈ ids,(H3.set (n3,5) ⟨2,[[str w.name,int w.link]]⟩) i=H i:=fun i hi=>by rw[Heap.aD _ _ (fun h=>by have:=sp3.1 i (by simp[hi]);rw[h] at this;simp at this)];exact fr3 i hi
      generalize H3.set (n3,5) ⟨2,[[str w.name,int w.link]]⟩=H3v at spv mXv mWv frv;refine J.BQ (fun H n=>(∃ es':List Int,H X=some ⟨9+cZ o,els.set idx (cw o b (.list true (es'.map au)) (.list true (pl.map au)) vc)⟩)/\H (n3,5)=some ⟨2,[[str w.name,int w.link]]⟩) [8,10,13] (.free 0 (.free 1 (.free 2 (.free 3 (.free 4 (.free 5 (.free 6 (.free 7 (.aP 8 (.free 9 (.aP 10 (.free 11 (.free 12 (.aP 13 .fin .stop))) .stop)) .stop)))))))))
        (fun O H3 n3=>∃ vc,O 0 = .ptr X els.length idx (cZ o)/\O 33 = .list false (b.inner.map aN.cells)/\O 34=int b.inner.length/\O 35=int i /\
          H3 X=some ⟨9+cZ o,els.set idx (cw o b (.list true ((bF b es ((b.inner.map fun w=>w.link).take (i+1))).2.map au)) (.list true (pl.map au)) vc)⟩/\n<=n3/\Sep H3 n3 (oI vc (code++(b.sites.map (cp pl)++(bF b es ((b.inner.map fun w=>w.link).take (i+1))).1))::K) (X::ids)/\∀ i ∈ ids,H3 i=H i) bL (by decide) (by kernel_rfl) ?_ ?_
      · refine RunT.free (.ptr X els.length idx (cZ o)) rfl rfl ⟨⟨_,mXv⟩,mWv⟩ (fun H n ⟨⟨es',hS⟩,hW⟩=>aA av (by rw[ax];simp[r0])) ?_
        refine RunT.free (.ptr X els.length idx (cZ o)) rfl rfl ⟨⟨_,mXv⟩,mWv⟩ (fun H n ⟨⟨es',hS⟩,hW⟩=>aA av (by rw[ax];simp[r0])) ?_;refine RunT.free (.ptr X els.length idx (cZ o)) rfl rfl ⟨⟨_,mXv⟩,mWv⟩ (fun H n ⟨⟨es',hS⟩,hW⟩=>aA av (by rw[ax];simp[hS,hi])) ?_;refine RunT.free (.ptr X els.length idx (cZ o+8)) rfl rfl ⟨⟨_,mXv⟩,mWv⟩ (fun H n ⟨⟨es',hS⟩,hW⟩=>aA av (by rw[ax];simp[hS,hi])) ?_;refine RunT.free vc rfl rfl ⟨⟨_,mXv⟩,mWv⟩ (fun H n ⟨⟨es',hS⟩,hW⟩=>aA av (by rw[ax];simp[hS,hi,dJ,aG.cells])) ?_;refine RunT.free (.ptr X els.length idx (cZ o)) rfl rfl ⟨⟨_,mXv⟩,mWv⟩ (fun H n ⟨⟨es',hS⟩,hW⟩=>aA av (by rw[ax];simp[r0])) ?_;refine RunT.free (.ptr (n3,5) 1 0 1) rfl rfl ⟨⟨_,mXv⟩,mWv⟩ (fun H n ⟨⟨es',hS⟩,hW⟩=>aA av (by rw[ax];simp[hW])) ?_;refine RunT.free (int w.link) rfl rfl ⟨⟨_,mXv⟩,mWv⟩ (fun H n ⟨⟨es',hS⟩,hW⟩=>aA av (by rw[ax];simp[hW])) ?_;refine⟨?_,trivial⟩;refine RunT.rP (fun r H1 U=>r=int (cd b L.2 w.link).1/\H1=H3v.set X ⟨9+cZ o,(els.set idx (cw o b (.list true (L.2.map au)) (.list true (pl.map au)) vc)).set idx (cw o b (.list true ((cd b L.2 w.link).2.map au)) (.list true (pl.map au)) vc)⟩/\U=n3+1) rfl rfl
          (aI.call (first:=[]) (captured:=[]) (by rw[eB.2];rfl) e142 (by rw[eB.1];simp[r0];simpa using A3 (n:=n3+1) mXv (by simp) (hgX _) hlw (by omega))) ?_
        rintro _ _ _ ⟨rfl,rfl,rfl⟩;rw[List.set_set];have mX2:=Heap.a8 H3v X ⟨9+cZ o,els.set idx (cw o b (.list true ((cd b L.2 w.link).2.map au)) (.list true (pl.map au)) vc)⟩;have mW2:(H3v.set X ⟨9+cZ o,els.set idx (cw o b (.list true ((cd b L.2 w.link).2.map au)) (.list true (pl.map au)) vc)⟩) (n3,5)=some ⟨2,[[str w.name,int w.link]]⟩:=by rw[Heap.aD _ _ (fun h=>nX h.symm)];exact mWv
        have sp4:=Sep.bG (w:=X) (o:=⟨9+cZ o,els.set idx (cw o b (.list true ((cd b L.2 w.link).2.map au)) (.list true (pl.map au)) vc)⟩) spv (by simp);have fr4:∀ i ∈ ids,(H3v.set X ⟨9+cZ o,els.set idx (cw o b (.list true ((cd b L.2 w.link).2.map au)) (.list true (pl.map au)) vc)⟩) i=H i:=fun i hi=>by rw[Heap.aD _ _ (show i ≠ X from fun h=>hxi (h ▸ hi))];exact frv i hi
        generalize H3v.set X ⟨9+cZ o,els.set idx (cw o b (.list true ((cd b L.2 w.link).2.map au)) (.list true (pl.map au)) vc)⟩=H4 at mX2 sp4 fr4 mW2;refine⟨fun _=>⟨⟨_,mX2⟩,mW2⟩,?_⟩;refine RunT.free (.list true [[int (cd b L.2 w.link).1]]) rfl rfl ⟨⟨_,mX2⟩,mW2⟩ (fun H n ⟨⟨es',hS⟩,hW⟩=>aA av (by rw[ax];simp[List.range_succ])) ?_;refine⟨?_,trivial⟩;refine RunT.append (v:=vc) (xv:=.list true [[int (cd b L.2 w.link).1]]) av [] K [[int (cd b L.2 w.link).1]] [au (cd b L.2 w.link).1] rfl rfl (by simp) (by simp) sp4 aO (by simp) (by simp) (by simp[cb]) (by simp) (b6 (aY.v _ aY.nil)) (by simp) (by simp;omega) ?_;rintro vn H5 n5 sp5 fr5 hn5;have mX5:H5 X=some ⟨9+cZ o,els.set idx (cw o b (.list true ((cd b L.2 w.link).2.map au)) (.list true (pl.map au)) vc)⟩:=(fr5 X (by simp)).trans mX2;have mW5:=(fr5 (n3,5) (by simp)).trans mW2;refine⟨fun _=>⟨⟨_,mX5⟩,mW5⟩,?_⟩;refine RunT.free (.ptr X els.length idx (cZ o)) rfl rfl ⟨⟨_,mX5⟩,mW5⟩ (fun H n ⟨⟨es',hS⟩,hW⟩=>aA av (by rw[ax];simp[hS,hi])) ?_;refine RunT.free (.ptr X els.length idx (cZ o+8)) rfl rfl ⟨⟨_,mX5⟩,mW5⟩ (fun H n ⟨⟨es',hS⟩,hW⟩=>aA av (by rw[ax];simp[hS,hi])) ?_;refine⟨?_,trivial⟩;have ho:=Sep.oc sp5;refine RunT.step (v:=.undef) (H':=H5.set X ⟨9+cZ o,els.set idx (cw o b (.list true ((cd b L.2 w.link).2.map au)) (.list true (pl.map au)) vn)⟩) (n':=n5) av rfl rfl ?_ (fun hl=>absurd (hl.symm.trans (show ba _ _ _=true by kernel_rfl)) (by decide)) ?_
        · simp[mX5,hi,dJ,ff,eJ,fU,yl,aG.cells,ho,-az,-aF,bR,bl]
          simp[cw,aG.cells]
        refine RunT.fin ⟨vn,by simp[r0],by simp[q],by simp[t],by simp[c],by rw[hsn];exact Heap.a8 _ _ _,by omega,?_,fun i hi=>?_⟩
        · rw[hsn]
          have:=Sep.sub (dO:=X::ids) (Sep.bG (w:=X) (o:=⟨9+cZ o,els.set idx (cw o b (.list true ((cd b L.2 w.link).2.map au)) (.list true (pl.map au)) vn)⟩) sp5 (by simp)) (by simp +contextual);simpa[oI,oE] using this
        · rw[Heap.aD _ _ (show i ≠ X from fun h=>hxi (h ▸ hi)),fr5 i (by simp[hi])];exact fr4 i hi
      · rintro O H4 n4 ⟨vc,r0,q,t,c,mX,hn3,sp3,fr3⟩
        refine zI fun _ V=>?_
        have f2:=aV (show bu ((i:Int)+1) by simp only[bu];omega) (show ((i+1:Nat):Int)=(i:Int)+1 by omega);simp[c,f2,-aw];apply V;exact IH hc1 _ _ _ ⟨vc,by simp[r0],by simp[q],by simp[t],by simp,mX,hn3,sp3,fr3⟩
    · have hc2:¬ i<b.inner.length:=by simpa using hc1
      have hc1:i=b.inner.length:=by omega
      subst hc1;refine J.exit rfl ?_;have htl:(b.inner.map fun w=>w.link).take b.inner.length=b.inner.map fun w=>w.link:=List.take_of_length_le (by simp)
      rw[htl] at sp3 mX;exact J.fin func119 (aK.zero results119) (hQ _ _ _ ⟨vc,mX,sp3,fr3,hn3⟩)
end
end Go.Ab.Vg
namespace Go.Ab.Vg
open Go.Proofs
section
variable {H:Heap} {n:Nat}
theorem e115:aZ prog 115:=aZ.of func115 (by kernel_rfl) rfl
theorem e119:aZ prog 119:=aZ.of func119 (by kernel_rfl) rfl
theorem vE {b:aG} {K:List bS} {ids:List Id} (hb:b.nodes.length<=1048576) (M:Sep H n K ids) :
    bz prog 115 [.agg (aG.cells false b)] H n (fun r H1 U=>∃ X,r = .ptr X 1 0 0/\X ∉ ids/\H1 X=some ⟨9,[cw none b (.v (.slice none 0 0)) (.list true ((List.replicate b.nodes.length (-1:Int)).map au)) (.v (.slice none 0 0))]⟩ /\
      Sep H1 U K (X::ids)/\(∀ i ∈ ids,H1 i=H i)/\n<=U):=by
  refine bz.of func115 rfl ntmps115 (by simp) fun Q hQ=>?_
  refine zE fun _ V=>?_
  simp[aG.cells];apply V;refine J.fv av aE bL (by decide) (by kernel_rfl) fun _ V=>?_
  have f1:=fun H=>aQ (H:=H) (fr:=false) (f:=ay.cells false) (l:=b.nodes) cJ rfl
  simp[bB,f1,List.range_succ,-aJ];refine bh.b7 av aE ((zR (-1) b.nodes.length ⟨by omega,by omega⟩).pure) e140 (.cons (aM.pC (fr:=true) (els:=[au (-1)]) (by simp[au])) (.cons (.v _ _ _) .nil)) (by decide) rfl (by simp[au]) ?_;simp;apply V;refine J.bX (v:=.ptr (n+1,10) 1 0 0) func115 results115 (by simp) (hQ _ _ _ ⟨(n+1,10),rfl,fun h=>by have:=M.1 _ h;simp at this;omega,by simp[cw,aG.cells,bB],?_,fun i hi=>?_,by omega⟩)
  · exact Sep.sub (Sep.var (Sep.var M)) (by simp +contextual)
  · have h1:=M.1 i hi
    rw[Heap.aD _ _ (by rintro rfl;simp at h1;omega),Heap.aD _ _ (by rintro rfl;simp at h1)]
theorem xW {o:Option I} {b:aG} {ag P c:I} {φ:I->I} (hφ:∀ a,fw a->φ a=a) (hE:fw ag) (hP:φ P=P\/True):(cw o b ag P c).map φ=cw (o.map φ) b ag (φ P) (φ c):=by
  have h1:(aG.cells false b).map φ=aG.cells false b:=by
    conv=>rhs;rw[<- List.map_id (aG.cells false b)]
    exact List.map_congr_left fun a ha=>hφ a (ow false b a ha)
  simp only[cw,List.map_append,h1,List.map_cons,List.map_nil,hφ ag hE];cases o<;>rfl
theorem zg (l:List Int):fw (.list true (l.map au)):=.list _ _ fun e he a ha=>by
  obtain⟨x,_,rfl⟩:=List.mem_map.1 he;simp only[au,List.mem_singleton] at ha;subst ha;exact .v _
structure sA (b:aG) (m:Nat) (s:Cz):Prop where
  pl:s.pl.length=b.nodes.length
  es:s.es.length<=3 * m
  lo:∀ v ∈ s.pl,-1<=v/\v<=8
  num:s.num=m
theorem Ex (b:aG):sA b 0 (gY b):=⟨by simp[gY],by simp[gY],fun v hv=>by have:=(List.mem_replicate.1 hv).2;omega,rfl⟩
theorem sA.step {sig:cV} {b:aG} {m:Nat} {s:Cz} {k:Int} (hv:bo sig b) (h:sA b m s) (hk:0<=k/\k<b.nodes.length) (hm:m<=8):sA b (m+1) (bA b s k):=by
  have h3:=hv.fB hk;have h4:=eu b (at' b.nodes k).links s.es;refine⟨by simp[bA,h.pl],?_,fun v hx=>?_,by simp[bA,h.num]⟩
  · have:=h.es
    simp only[bA,bj];omega
  · have hn:=h.num
    simp only[bA] at hx;rcases List.mem_or_eq_of_mem_set hx with hx | rfl
    · exact h.lo v hx
    · omega
theorem sA.at {b:aG} {m:Nat} {s:Cz} (h:sA b m s) {p:Int} (hp:0<=p/\p<s.pl.length):bu (4+at' s.pl p):=by
  have:=h.lo _ (at_mem hp);exact⟨by omega,by omega⟩
theorem bo.i64par {sig:cV} {b:aG} (h:bo sig b) {i:Int} (hi:0<=i/\i<b.nodes.length):bu (-1 - (at' b.nodes i).parent):=by
  have h1:=h.jK hi;have h2:=h.roots;have h3:=h.len;exact⟨by omega,by omega⟩
theorem bo.i64lnk {sig:cV} {b:aG} (h:bo sig b) {i:Int} (hi:0<=i/\i<b.nodes.length):∀ l ∈ (at' b.nodes i).links,bu (l - b.edges):=fun l hl=>by
  have h1:=h.iM hi l hl;have h2:=h.edges;have h3:=h.outer;exact⟨by omega,by omega⟩
set_option maxRecDepth 100000 in
end
end Go.Ab.Vg
namespace Go.Ab.Vg
def cg (b:aG) (es:List Int):List Int:=(List.range b.edges.toNat).map fun l:Nat=>if (l:Int) ∈ es then ((es.idxOf (l:Int):Nat):Int) else -1
structure kT (b:aG) (es:List Int):Prop where
  ed:0<=b.edges/\b.edges<=8
  nd:es.Nodup
  rng:∀ x ∈ es,0<=x/\x<b.edges
theorem gz {b:aG} {es:List Int} {l:Int} (h:0<=l/\l<b.edges):at' (cg b es) l=if l ∈ es then ((es.idxOf l:Nat):Int) else -1:=by
  obtain⟨k,rfl⟩:∃ k:Nat,l=k:=⟨l.toNat,by omega⟩
  rw[bm (show k<(cg b es).length by simp[cg];omega)];simp[cg]
theorem iz {b:aG} {es:List Int} (h:kT b es):fO (cg b es)=(es.length:Int):=by
  have h1:(cg b es).filter (fun x=>decide (0<=x))=((List.range b.edges.toNat).filter fun l:Nat=>decide ((l:Int) ∈ es)).map fun l:Nat=>((es.idxOf (l:Int):Nat):Int):=by
    rw[cg,List.filter_map];generalize List.range b.edges.toNat=r
    induction r with
    | nil=>rfl
    | cons x r ih=>
      simp only[List.filter_cons,Function.comp]
      by_cases hx:(x:Int) ∈ es
      · have hx2:(0:Int)<=((es.idxOf (x:Int):Nat):Int):=by omega
        simp only[if_pos hx,hx,hx2,decide_true,if_true,List.map_cons];rw[ih]
      · have hx2:¬ (0:Int) <= -1:=by omega
        simp only[if_neg hx,hx,hx2,decide_false,Bool.false_eq_true,if_false];exact ih
  have h2:(((List.range b.edges.toNat).filter fun l:Nat=>decide ((l:Int) ∈ es)).map fun l:Nat=>(l:Int)).Perm es:=by
    refine (List.perm_ext_iff_of_nodup ?_ h.nd).2 fun a=>?_
    · exact List.Pairwise.map _ (fun a c hac=>by intro h;exact hac (by omega)) (List.Pairwise.filter _ List.nodup_range)
    · simp only[List.mem_map,List.mem_filter,List.mem_range,decide_eq_true_eq]
      refine⟨fun ⟨l,⟨_,h3⟩,h4⟩=>h4 ▸ h3,fun h3=>⟨a.toNat,⟨?_,?_⟩,?_⟩⟩
      · have:=h.rng a h3;omega
      · have:=h.rng a h3;rw[show ((a.toNat:Nat):Int)=a by omega];exact h3
      · have:=h.rng a h3;omega
  have h3:=h2.length_eq;rw[fO,h1];simp only[List.length_map] at h3 ⊢;omega
theorem B5 {b:aG} {es:List Int} (h:kT b es) {l:Int} (hl:0<=l/\l<b.edges) (hm:l ∉ es):(cg b es).set l.toNat (es.length:Int)=cg b (es++[l]):=by
  refine List.ext_getElem (by simp[cg]) fun i h1 h2=>?_
  simp only[cg,List.getElem_set,List.getElem_map,List.getElem_range,List.length_set,List.length_map,List.length_range] at h1 ⊢
  by_cases he:l.toNat=i
  · have hil:(i:Int)=l:=by omega
    rw[if_pos he,hil,if_pos (by simp),List.idxOf_append,if_neg hm];simp
  · rw[if_neg he]
    have hil:(i:Int) ≠ l:=by omega
    by_cases hi:(i:Int) ∈ es
    · rw[if_pos hi,if_pos (by simp[hi]),List.idxOf_append,if_pos hi]
    · rw[if_neg hi,if_neg (by simp[hi,hil])]
theorem kT.add {b:aG} {es:List Int} (h:kT b es) {l:Int} (hl:0<=l/\l<b.edges) (hm:l ∉ es):kT b (es++[l]):=by
  refine⟨h.ed,?_,fun x hx=>?_⟩
  · rw[List.nodup_append]
    exact⟨h.nd,by simp,fun a ha c hc=>by simp only[List.mem_singleton] at hc;subst hc;exact fun e=>hm (e ▸ ha)⟩
  · rcases List.mem_append.1 hx with hx | hx
    · exact h.rng x hx
    · simp only[List.mem_singleton] at hx;subst hx;exact hl
theorem dS {b:aG}:∀ (links es:List Int),kT b es->(∀ l ∈ links,0<=l)->eD b (cg b es) links=((bF b es links).1,cg b (bF b es links).2)/\kT b (bF b es links).2
  | [],es,h,_=>⟨rfl,h⟩
  | l::t,es,h,hl=>by
    have hl0:=hl l (by simp);have ht:∀ x ∈ t,0<=x:=fun x hx=>hl x (by simp[hx])
    simp only[eD,bF]
    by_cases h1:l >= b.edges
    · rw[if_pos h1,if_pos h1]
      obtain⟨e1,e2⟩:=dS t es h ht;exact⟨by rw[e1],e2⟩
    · have hr:0<=l/\l<b.edges:=⟨hl0,by omega⟩
      rw[if_neg h1,if_neg h1,gz hr]
      by_cases h2:l ∈ es
      · rw[if_pos h2,if_pos h2,if_neg (by omega)]
        obtain⟨e1,e2⟩:=dS t es h ht;exact⟨by rw[e1,gz hr,if_pos h2],e2⟩
      · rw[if_neg h2,if_neg h2,if_pos (by omega),iz h,B5 h hr h2]
        obtain⟨e1,e2⟩:=dS t (es++[l]) (h.add hr h2) ht;refine⟨?_,e2⟩;rw[e1,gz hr,if_pos (by simp),List.idxOf_append,if_neg h2];simp
def qE (b:aG) (order:List Int):Nat->List Int × Cz
  | 0=>([],gY b)
  | i+1=>((qE b order i).1++(bj b (qE b order i).2 (at' order (i:Int))).1,bA b (qE b order i).2 (at' order (i:Int)))
theorem C4 {sig:cV} {b:aG} {order:List Int} (hv:bo sig b) (ho:∀ k ∈ order,0<=k/\k<b.nodes.length):∀ i≤order.length,kB b order i=⟨(qE b order i).1,cg b (qE b order i).2.es,(qE b order i).2.pl⟩/\kT b (qE b order i).2.es/\(qE b order i).2.num=i
  | 0,_=>by
    refine⟨?_,⟨hv.edges,by simp[qE,gY],by simp[qE,gY]⟩,rfl⟩;simp only[kB,qE,gY,gr,cg,Rz.mk.injEq,true_and];refine⟨?_,by simp⟩;simp only[List.not_mem_nil,if_false];rw[List.map_const',List.length_range]
  | i+1,h=>by
    obtain⟨e1,e2,e3⟩:=C4 hv ho i (by omega);have hm:=ho (at' order (i:Int)) (by rw[bm (show i<order.length by omega)];exact List.getElem_mem _);have hl:=hv.iM hm;obtain⟨t1,t2⟩:=dS (at' b.nodes (at' order (i:Int))).links _ e2 fun l hl2=>(hl l hl2).1
    refine⟨?_,t2,by simp[qE,bA,e3]⟩;simp only[kB,qE,nk,e1,dP,t1,bj,bA,e3]
theorem zq {sig:cV} {b:aG} {order:List Int} (hv:bo sig b) (ho:∀ k ∈ order,0<=k/\k<b.nodes.length) :
    kP b order=((qE b order order.length).1++(gK b (qE b order order.length).2).1,cg b (gK b (qE b order order.length).2).2):=by
  obtain⟨e1,e2,e3⟩:=C4 hv ho order.length (Nat.le_refl _);obtain⟨t1,t2⟩:=dS (b.inner.map fun w=>w.link) _ e2 fun l hl=>by
    obtain⟨w,hw,rfl⟩:=List.mem_map.1 hl;exact (hv.wires w hw).1
  simp only[kP,e1,kF,t1,gK]
end Go.Ab.Vg
namespace Go.Ab.Vg
section
variable {P:Program} {N:Nat} {Ty:Types} {O:Env} {H:Heap} {n:Nat}
variable {d:Option Tmp} {ty:TypeId} {pos:String} {af:Array Edge} {gu:Option (Nat × Bool)}
theorem aI.Ea (hT:aU P Ty) {t:TypeId} {x hi mx:Operand} {j:TI} {L:Id} {gn sz:Nat} {els:List (List I)} (hk:kd Ty t = .slice j) (hx:O.ev x = .arr L gn 0 gn) (hL:H L=some ⟨sz,els⟩) (hg:els.length=gn)
    (E:O.ev hi=int 0) (hm:O.ev mx=int 0) :
    aI P N ⟨d,.slice t x none (some hi) (some mx),ty,pos,af,gu⟩ O H n fun v1 H1 U=>v1 = .list true []/\H1=H/\U=n:=
  aI.pure fun c a hH g r=>by
    obtain⟨i,e,hi',hd,hj⟩:=cq hk;have hde:=(hT t i hi').bD c.w;have hsz:=(hT e j hj).cF c.w;have rx:=r.ev x;rw[hx] at rx;have e1:=mz r E;have e2:=mz r hm;have hb:∀ len cap:Nat,len<=cap->(Instr.sliceBounds true len cap none (some (a.eval hi)) (some (a.eval mx))).run P c.w = .ok (0,0,0) c.w:=fun len cap dN=>by
      have b1:∀ cap code,(Instr.sliceBound (.int .i64 0) cap code).run P c.w = .ok 0 c.w:=fun cap code=>iy (by omega) (by omega)
      simp[Instr.sliceBounds,e1,e2,b1]
    generalize hvx:a.eval x=vx at rx;cases rx with
    | arr _ _ _ _ _ hone hn hgl hp=>
      obtain⟨p1,ad,cap,rfl,hab,hsp,hlc,hoff,hcl⟩:=hp _ (by rw[hH];exact hL) hg;have h1:=hb gn cap hlc;refine⟨.slice (some ad) 0 0,?_,?_⟩
      · simp[execOp,Instr.sliceAt,Instr.slice,hde,hd,hvx,h1,hsz]
      · exact .list true [] ad 0 0 (fun _ _=>Go.undef) (fun h=>absurd rfl h) (Nat.le_refl _) (fun h=>absurd rfl h) (fun i e he=>by simp at he) (fun i e j x he=>by simp at he) (fun i e j x he=>by simp at he)
end
abbrev pF (_:Int):Bool:=false
def kf (x:Int) (Z:Bool->Prop):Prop:=
  ∀ c2:Bool,c2=decide (x ≠ x)->Z c2
theorem AO (x:Int):kf x (fun y=>y=pF x):=by
  unfold kf;simp
def nO (a b:Int):Int:=if a<b then -1 else if b<a then 1 else 0
def lz (x:Int) (y:Int) (Z:Int->Prop):Prop:=
  ∀ r2:Bool,r2=pF x->∀ r3:Bool,r3=pF y->((r2=true->((r3=true->Z 0)/\(r3=false->Z (-1))))/\(r2=false->((r3=true->Z 1)/\(r3=false->∀ c4:Bool,c4=decide (x<y)->((c4=true->Z (-1))/\(c4=false->∀ c6:Bool,c6=decide (y<x)->((c6=true->Z 1)/\(c6=false->Z 0))))))))
theorem Bg (x y:Int):lz x y (fun z=>z=nO x y):=by
  unfold lz;simp only[forall_eq,decide_eq_true_eq,decide_eq_false_iff_not,pF];refine⟨fun h=>(by cases h),fun _=>⟨fun h=>(by cases h),fun _=>⟨fun h=>by rw[nO,if_pos h],fun h=>⟨fun h2=>by rw[nO,if_neg h,if_pos h2],fun h2=>by rw[nO,if_neg h,if_neg h2]⟩⟩⟩⟩
abbrev vm (a b:List Int):Prop:=a.length<=1048576/\b.length<=1048576
abbrev Ak (a b:List Int):Int:=cmpL a b
def ou (s1:List Int) (s2:List Int) (Z:Int->Prop):Prop:=
  ∀ bI:Int,bI=(s1.length:Int)->aL (σ:=Int) (fun v6 K9=>∀ c10:Bool,c10=decide (v6<bI)->((c10=true->(0<=v6/\v6<s1.length)/\∀ x13:Int,x13=at' s1 v6->∀ len15:Int,len15=(s2.length:Int)->∀ c17:Bool,c17=decide (len15<=v6)->((c17=true->Z 1)/\(c17=false->(0<=v6/\v6<s2.length)/\∀ x20:Int,x20=at' s2 v6->∀ r23:Int,r23=nO x13 x20->∀ c24:Bool,c24=decide (r23 ≠ 0)->((c24=true->Z r23)/\(c24=false->(bu (v6+1))/\∀ v27:Int,v27=v6+1->K9 (v27))))))/\(c10=false->∀ len29:Int,len29=(s1.length:Int)->∀ len31:Int,len31=(s2.length:Int)->∀ c33:Bool,c33=decide (len29<len31)->((c33=true->Z (-1))/\(c33=false->Z 0))))) (0)
theorem DT (a b:List Int) (h:vm a b):ou a b (fun z=>z=Ak a b):=by
  unfold ou;obtain⟨h1,h2⟩:=h;simp only[forall_eq,decide_eq_true_eq,decide_eq_false_iff_not];refine aL.up1 a.length (fun i=>i<=b.length/\cmpL (a.drop i) (b.drop i)=cmpL a b) ⟨by omega,rfl⟩ ?_;rintro i K hi ⟨hib,hI⟩ IH;refine⟨fun h3=>⟨⟨by omega,by omega⟩,fun h4=>?_,fun h4=>⟨⟨by omega,by omega⟩,fun h5=>?_,fun h5=>⟨by simp only[bu];omega,IH (by omega) ⟨by omega,?_⟩⟩⟩⟩,fun h3=>⟨fun h4=>?_,fun h4=>?_⟩⟩
  · rw[Ak,<- hI,List.drop_of_length_le (l:=b) (by omega),List.drop_eq_getElem_cons (show i<a.length by omega)];rfl
  · rw[Ak,<- hI,List.drop_eq_getElem_cons (show i<a.length by omega),List.drop_eq_getElem_cons (show i<b.length by omega)]
    rw[bm (show i<a.length by omega),bm (show i<b.length by omega)] at h5 ⊢;simp only[cmpL,nO] at h5 ⊢
    repeat' split
    all_goals first | rfl | omega | (exfalso;simp_all)
  · rw[<- hI,List.drop_eq_getElem_cons (show i<a.length by omega),List.drop_eq_getElem_cons (show i<b.length by omega)]
    rw[bm (show i<a.length by omega),bm (show i<b.length by omega)] at h5;have h6:=Classical.not_not.1 h5;simp only[nO] at h6;simp only[cmpL]
    split
    · rename_i h7;rw[if_pos h7] at h6;omega
    · rename_i h7
      rw[if_neg h7] at h6
      split
      · rename_i h8;rw[if_pos h8] at h6;omega
      · rfl
  · rw[Ak,<- hI,List.drop_of_length_le (l:=a) (by omega),List.drop_eq_getElem_cons (show i<b.length by omega)];rfl
  · rw[Ak,<- hI,List.drop_of_length_le (l:=a) (by omega),List.drop_of_length_le (l:=b) (by omega)];rfl
end Go.Ab.Vg
namespace Go.Ab.Vg
open Go.Proofs
set_option maxRecDepth 100000
attribute [local simp] au
theorem e166:aZ prog 166:=aZ.of func166 (by kernel_rfl) rfl
theorem tv (x:Int) (Z:Bool->Prop) (h:kf x Z):aC prog 166 [int x] (fun r=>∃ y:Bool,Z y/\r=bool y):=by
  unfold kf at h;refine aC.of func166 rfl ntmps166 (by simp) fun Q hQ=>?_
  refine J.cut (fun O H n=>O 0=int x) (by simp[]) ?_;rintro O H U E;refine zE fun _ V=>?_
  simp[E];apply V;refine zE fun _ V=>?_
  obtain⟨c2,ec2,h⟩:=aH h;have f3:=jy (k:=.i64) ec2;simp[E,f3,-aw];apply V;exact J.bX (v:=bool c2) func166 results166 (by simp[E]) (hQ _ _ _ _ (.of (.v _)) ⟨c2,h,rfl⟩)
theorem rO (x:Int)  : aC prog 166 [int x] (fun r=>r=bool (pF x)):=(tv x _ (AO x )).mono (by rintro _ ⟨_,rfl,rfl⟩;rfl)
theorem e143:aZ prog 143:=aZ.of func143 (by kernel_rfl) rfl
theorem w7 (x:Int) (y:Int) (Z:Int->Prop) (h:lz x y Z):aC prog 143 [int x,int y] (fun r=>∃ y:Int,Z y/\r=int y):=by
  unfold lz at h;refine aC.of func143 rfl ntmps143 (by simp) fun Q hQ=>?_
  refine J.cut (fun O H n=>(O 0=int x/\O 1=int y)) (by simp[]) ?_;rintro O H U E;refine zE fun _ V=>?_
  simp[E];apply V;refine zE fun _ V=>?_
  obtain⟨r2,er2,h⟩:=aH h;simp[E];refine zA (rO x ) e166 (.cons (.v _ _ _) .nil) (by simp[E]) ?_;rintro _ rfl;rw[<- er2];simp[E];apply V;refine zE fun _ V=>?_
  obtain⟨r3,er3,h⟩:=aH h;simp[E];refine zA (rO y ) e166 (.cons (.v _ _ _) .nil) (by simp[E]) ?_;rintro _ rfl;rw[<- er3];simp[E];apply V;refine zS fun _ V=>?_
  simp[E];apply V;refine J.ite (b:=r2) (by simp[E]) (fun dr2=>?_) (fun dr2=>?_)
  · replace h:=h.1 dr2
    refine zS fun _ V=>?_
    simp[E,dr2];apply V;refine J.ite (b:=r3) (by simp[E,dr2]) (fun dr3=>?_) (fun dr3=>?_)
    · replace h:=h.1 dr3
      refine zE fun _ V=>?_
      simp[E,dr2,dr3];apply V;exact J.bX (v:=int 0) func143 results143 (by simp[E,dr2,dr3]) (hQ _ _ _ _ (.of (.v _)) ⟨0,h,rfl⟩)
    replace h:=h.2 dr3;apply J.skip;refine zE fun _ V=>?_
    simp[E,dr2,dr3];apply V;exact J.bX (v:=int (-1)) func143 results143 (by simp[E,dr2,dr3]) (hQ _ _ _ _ (.of (.v _)) ⟨(-1),h,rfl⟩)
  replace h:=h.2 dr2;apply J.skip;refine zS fun _ V=>?_
  simp[E,dr2];apply V;refine J.ite (b:=r3) (by simp[E,dr2]) (fun dr3=>?_) (fun dr3=>?_)
  · replace h:=h.1 dr3
    refine zE fun _ V=>?_
    simp[E,dr2,dr3];apply V;exact J.bX (v:=int 1) func143 results143 (by simp[E,dr2,dr3]) (hQ _ _ _ _ (.of (.v _)) ⟨1,h,rfl⟩)
  replace h:=h.2 dr3;apply J.skip;refine zS fun _ V=>?_
  obtain⟨c4,ec4,h⟩:=aH h;have f5:=bg (k:=.i64) ec4;simp[E,f5,dr2,dr3,-aw];apply V;refine J.ite (b:=c4) (by simp[E,dr2,dr3]) (fun dc4=>?_) (fun dc4=>?_)
  · replace h:=h.1 dc4
    refine zE fun _ V=>?_
    simp[E,dr2,dr3,dc4];apply V;exact J.bX (v:=int (-1)) func143 results143 (by simp[E,dr2,dr3,dc4]) (hQ _ _ _ _ (.of (.v _)) ⟨(-1),h,rfl⟩)
  replace h:=h.2 dc4;apply J.skip;refine zS fun _ V=>?_
  obtain⟨c6,ec6,h⟩:=aH h;have f7:=C3 (k:=.i64) ec6;simp[E,f7,dr2,dr3,dc4,-aw];apply V;refine J.cut (fun O H n=>O 19=bool c6) (by simp[E,f7,dr2,dr3,dc4,-aw]) ?_;clear E;rintro O H n8 E;refine J.ite (b:=c6) (by simp[E]) (fun dc6=>?_) (fun dc6=>?_)
  · replace h:=h.1 dc6
    refine zE fun _ V=>?_
    simp[E,dc6];apply V;exact J.bX (v:=int 1) func143 results143 (by simp[E,dc6]) (hQ _ _ _ _ (.of (.v _)) ⟨1,h,rfl⟩)
  replace h:=h.2 dc6;apply J.skip;refine zE fun _ V=>?_
  simp[E,dc6];apply V;exact J.bX (v:=int 0) func143 results143 (by simp[E,dc6]) (hQ _ _ _ _ (.of (.v _)) ⟨0,h,rfl⟩)
theorem BX (x:Int) (y:Int)  : aC prog 143 [int x,int y] (fun r=>r=int (nO x y)):=(w7 x y _ (Bg x y )).mono (by rintro _ ⟨_,rfl,rfl⟩;rfl)
theorem e120:aZ prog 120:=aZ.of func120 (by kernel_rfl) rfl
theorem AK (s1:List Int) (s2:List Int) (Z:Int->Prop) (h:ou s1 s2 Z):aC prog 120 [.list false (s1.map au),.list false (s2.map au)] (fun r=>∃ y:Int,Z y/\r=int y):=by
  unfold ou at h;refine aC.of func120 rfl ntmps120 (by simp) fun Q hQ=>?_
  refine J.cut (fun O H n=>(O 0 = .list false (s1.map au)/\O 1 = .list false (s2.map au))) (by simp) ?_;rintro O H U E;refine zE fun _ V=>?_
  simp[E];apply V;refine zS fun _ V=>?_
  obtain⟨bI,elen2,h⟩:=aH h;have f3:=fun H=>aQ (H:=H) (fr:=false) (f:=au) aO elen2
  simp[E,f3,-aJ];apply V;apply J.block;refine J.aL h (fun (sJ:Int) O H n=>match sJ with | v6=>(O 0 = .list false (s1.map au)/\O 1 = .list false (s2.map au)/\O 9 = .list false (s1.map au)/\O 10=int bI/\O 11=int v6)) (by simp[E]) ?_;clear E;rintro v6 O H n7 K h E IH8;refine zE fun _ V=>?_
  obtain⟨l,o,h⟩:=aH h;have f11:=bg (k:=.i64) o;simp[E,f11,-aw];apply V;apply J.seq;refine J.ite (b:=l) (by simp[E]) (fun a=>?_) (fun a=>?_)
  · replace h:=h.1 a
    apply zK;apply J.block;refine zE fun _ V=>?_
    obtain⟨p,h⟩:=h;obtain⟨g,q,h⟩:=aH h;have f14:=fun H=>aR (H:=H) (fr:=false) (f:=au) (k:=.i64) aO (fun _=>rfl) p q
    simp[E,f14,a,-ar];apply V;refine zS fun _ V=>?_
    obtain⟨ab,t,h⟩:=aH h;have f16:=fun H=>aQ (H:=H) (fr:=false) (f:=au) aO t
    obtain⟨u,A,h⟩:=aH h;have f18:=kL (k:=.i64) A;simp[E,f16,f18,a,-aw,-aJ];apply V;refine J.ite (b:=u) (by simp[E,a]) (fun c=>?_) (fun c=>?_)
    · replace h:=h.1 c
      refine zE fun _ V=>?_
      simp[E,a,c];apply V;exact J.bX (v:=int 1) func120 results120 (by simp[E,a,c]) (hQ _ _ _ _ (.of (.v _)) ⟨1,h,rfl⟩)
    replace h:=h.2 c;apply J.skip;refine zE fun _ V=>?_
    obtain⟨B,h⟩:=h;obtain⟨i,C,h⟩:=aH h;have f21:=fun H=>aR (H:=H) (fr:=false) (f:=au) (k:=.i64) aO (fun _=>rfl) B C
    simp[E,f21,a,c,-ar];apply V;refine J.cut (fun O H n=>(O 0 = .list false (s1.map au)/\O 1 = .list false (s2.map au)/\O 6=int g/\O 7=int i/\O 9 = .list false (s1.map au)/\O 10=int bI/\O 11=int v6)) (by simp[E,f21,a,c,-ar]) ?_;clear E;rintro O H n22 E;refine zE fun _ V=>?_
    obtain⟨j,D,h⟩:=aH h;simp[E];refine zA (BX g i ) e143 (.cons (.v _ _ _) (.cons (.v _ _ _) .nil)) (by simp[E]) ?_;rintro _ rfl;rw[<- D];simp[E];apply V;refine zE fun _ V=>?_
    obtain⟨F,G,h⟩:=aH h;have f25:=jy (k:=.i64) G;simp[E,f25,-aw];apply V;refine J.ite (b:=F) (by simp[E]) (fun d=>?_) (fun d=>?_)
    · replace h:=h.1 d
      refine zE fun _ V=>?_
      simp[E,d];apply V;exact J.bX (v:=int j) func120 results120 (by simp[E,d]) (hQ _ _ _ _ (.of (.v _)) ⟨j,h,rfl⟩)
    replace h:=h.2 d;apply J.skip;refine zI fun _ V=>?_
    obtain⟨L,h⟩:=h;obtain⟨N,R,h⟩:=aH h;have f28:=aV L R;simp[E,f28,d,-aw];apply V;refine IH8 (N) _ _ _ h (by simp[E,d])
  replace h:=h.2 a;refine J.exit rfl ?_;refine zS fun _ V=>?_
  obtain⟨ac,T,h⟩:=aH h;have f30:=fun H=>aQ (H:=H) (fr:=false) (f:=au) aO T
  obtain⟨ad,W,h⟩:=aH h;have f32:=fun H=>aQ (H:=H) (fr:=false) (f:=au) aO W
  obtain⟨X,Y,h⟩:=aH h;have f34:=bg (k:=.i64) Y;simp[E,f30,f32,f34,a,-aw,-aJ];apply V;refine J.ite (b:=X) (by simp[E,a]) (fun e=>?_) (fun e=>?_)
  · replace h:=h.1 e
    refine zE fun _ V=>?_
    simp[E,a,e];apply V;exact J.bX (v:=int (-1)) func120 results120 (by simp[E,a,e]) (hQ _ _ _ _ (.of (.v _)) ⟨(-1),h,rfl⟩)
  replace h:=h.2 e;apply J.skip;refine zE fun _ V=>?_
  simp[E,a,e];apply V;exact J.bX (v:=int 0) func120 results120 (by simp[E,a,e]) (hQ _ _ _ _ (.of (.v _)) ⟨0,h,rfl⟩)
theorem yc (s1:List Int) (s2:List Int) (hp:vm s1 s2):aC prog 120 [.list false (s1.map au),.list false (s2.map au)] (fun r=>r=int (Ak s1 s2)):=(AK s1 s2 _ (DT s1 s2 hp)).mono (by rintro _ ⟨_,rfl,rfl⟩;rfl)
end Go.Ab.Vg
