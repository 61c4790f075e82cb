/- Merged texts (5 of 11) of the proof that ends in Fpy: Sl Su R Shelf S Q V Ga Sn Vp Se Sd Dr. -/
import Derived.Test.YtiokiodmcghlhaaDoorAbQfp4
import Derived.Lib.SlicesCompact
import Derived.ProofKit
import Derived.LaidMore
import Derived.OpenShut
import Derived.Lay
import Derived.Stop.Joined
import Derived.Shelf.Strings.Trim
import Derived.Shelf.Small.Utf8
import Derived.Shelf.Small.Strs
import Derived.Shelf.Strings.Search1
import Derived.Shelf.Strings.Runes
import Derived.Shelf.Strings.AsciiSet
import Derived.Shelf.Unicode.DecodeSlow
import Derived.Shelf.Slices.Turned
import Derived.Test.YtiokiodmcghlhaaDoorProg
import Derived.Shelf.Strings.SlTrimAscii
import Derived.Lib.Join
/- The abstract machine, part Sl: functions that take a slice of the caller's own and answer with another of the same cells; the library's Compact of strings. -/
namespace Go.Ab
open Go.Proofs Go.RowKit
set_option linter.unusedSectionVars false
section
variable {P:Program} {f:FuncId} {N:Nat} {k:List Item} {Q:AVal→Heap→Nat→Prop} {Ty:Types} {l:List Oper} {ρ:Env} {H:Heap} {n:Nat} {K:List OwnE} {ids:List Id}
end
theorem shorten {c:Ctx} (g:Good c) {id:Id} {o:Ob} (ho:c.H id=some o) (m d:Nat) (hm:m≤o.els.length) :
    let c':Ctx:={ c with H:=fun j=>if j=(c.n,d) then some ⟨o.size,o.els.take m⟩ else if j=id then none else c.H j,β:=fun j=>if j=(c.n,d) then c.β id else c.β j,n:=c.n+1 }
    Keeps c c'∧Good c':=by
  intro c'
  have hne:∀ j o',c.H j=some o'→j ≠ (c.n,d):=fun j o' h he=>by have:=g.stamp j o' h;rw[he] at this;simp at this
  have hH:∀ j o',c'.H j=some o'→(j=(c.n,d)∧o'=⟨o.size,o.els.take m⟩)∨(j ≠ (c.n,d)∧j ≠ id∧c.H j=some o'):=fun j o' h=>by
    simp only[c'] at h
    split at h
    · rename_i hj;cases h;exact .inl ⟨hj,rfl⟩
    · split at h
      · cases h
      · exact .inr ⟨by assumption,by assumption,h⟩
  have hβ:∀ j,j ≠ (c.n,d)→c'.β j=c.β j:=fun j hj=>by simp only[c',if_neg hj]
  have hβ0:c'.β (c.n,d)=c.β id:=by simp[c']
  have hk:Keeps c c':=by
    refine⟨Nat.le_succ _,rfl,Nat.le_refl _,rfl,rfl,rfl,fun k _ hmu=>⟨rfl,?_⟩,fun j o' hj hn=>?_⟩
    · rintro⟨j,o',hj,hb⟩
      rcases hH j o' hj with ⟨rfl,_⟩ | ⟨h1,_,h3⟩
      · rw[hβ0] at hb;exact hmu ⟨id,o,ho,hb⟩
      · rw[hβ j h1] at hb;exact hmu ⟨j,o',h3,hb⟩
    · rcases hH j o' hj with ⟨rfl,_⟩ | ⟨h1,_,h3⟩
      · simp at hn
      · exact⟨o',h3,rfl,Nat.le_refl _,fun _=>⟨hβ j h1,fun cl el fz h=>⟨cl,el,fz,h,Nat.le_refl _⟩⟩⟩
  refine⟨hk,⟨fun j o' hj=>?_,fun j j' o1 o2 h1 h2 hb=>?_,g.Bsize,fun j o' hj=>?_,g.tabOn hk⟩⟩
  · rcases hH j o' hj with ⟨rfl,_⟩ | ⟨_,_,h3⟩
    · exact Nat.lt_succ_self _
    · have:=g.stamp j o' h3;show j.1<c.n+1;omega
  · rcases hH j o1 h1 with ⟨rfl,_⟩ | ⟨a1,a2,a3⟩<;>rcases hH j' o2 h2 with ⟨rfl,_⟩ | ⟨b1,b2,b3⟩
    · rfl
    · rw[hβ0,hβ j' b1] at hb;exact absurd (g.inj _ _ _ _ ho b3 hb).symm b2
    · rw[hβ0,hβ j a1] at hb;exact absurd (g.inj _ _ _ _ a3 ho hb) a2
    · rw[hβ j a1,hβ j' b1] at hb;exact g.inj _ _ _ _ a3 b3 hb
  · rcases hH j o' hj with ⟨rfl,rfl⟩ | ⟨a1,a2,a3⟩
    · obtain⟨p1,cl,el,p2,p3,p4⟩:=g.obj id o ho
      rw[hβ0]
      refine⟨p1,cl,el,p2,?_,fun i e he=>?_⟩
      · have:(o.els.take m).length≤o.els.length:=by simp;omega
        exact Nat.le_trans (Nat.mul_le_mul_right _ this) p3
      · have he':o.els[i]?=some e:=by
          simp only[List.getElem?_take] at he
          split at he
          · exact he
          · cases he
        exact⟨(p4 i e he').1,fun j a ha=>let ⟨x,hx,hr⟩:=(p4 i e he').2 j a ha;⟨x,hx,hr.keeps hk⟩⟩
    · obtain⟨p1,cl,el,p2,p3,p4⟩:=g.obj j o' a3
      rw[hβ j a1]
      exact⟨p1,cl,el,p2,p3,fun i e he=>⟨(p4 i e he).1,fun q a ha=>let ⟨x,hx,hr⟩:=(p4 i e he).2 q a ha;⟨x,hx,hr.keeps hk⟩⟩⟩
end Go.Ab
/- The abstract machine, part Su: regions that draw their order and slice arrays of the call's own; reading what is never written again is told apart from memory, too. -/
namespace Go.Ab
set_option linter.unusedSectionVars false
variable [Inhabited Tabs]
set_option linter.unusedSectionVars false
set_option linter.unusedSimpArgs false
set_option linter.unusedVariables false
section
variable (P:Program) (N:Nat) (ops:Array Oper) (W:List Id)
end
section
variable {P:Program} {N:Nat} {ops:Array Oper} {W:List Id}
end
section
variable {P:Program} {f:FuncId} {N:Nat} {k:List Item} {ρ:Env} {H:Heap} {n:Nat} {Q:AVal→Heap→Nat→Prop}
end
section
variable (P:Program) (f:FuncId) (N:Nat) (k:List Item) (Q:AVal→Heap→Nat→Prop) (Ty:Types) (W:List Id) (ops:Array Oper)
end
section
variable {P:Program} {f:FuncId} {N:Nat} {k:List Item} {Q:AVal→Heap→Nat→Prop} {Ty:Types} {W:List Id} {ops:Array Oper} {o:Oper} {L:List Oper} {ρ:Env} {H:Heap} {n:Nat}
section
variable {H2:Heap} (hw:∀ i ∈ W,H2 i=H i)
include hw
end
end
section
variable {P:Program} {f f':FuncId} {N:Nat} {k:List Item} {Q:AVal→Heap→Nat→Prop} {Ty:Types} {W:List Id} {L:List Oper} {ρ:Env} {H:Heap} {n:Nat} {K K1 K2:List OwnE} {ids:List Id} {t:TypeId} {j:TI} {l:List Sh} {v:AVal} {es:List (List AVal)} {o:Oper}
end
end Go.Ab
/- The abstract machine, part R: what a row's reading tells, as abstract values; and back. -/
namespace Go.Ab
set_option linter.unusedSectionVars false
variable [Inhabited Tabs]
open Go.RowKit Go.ChangeAt Go.WideShapes Go.ChangeShapes
def RepC (w:World) (as1:List AVal) (cs:List Value):Prop:=
  as1.length=cs.length∧∀ (c:Ctx),c.w=w→(∀ id,c.H id=none)→∀ (j:Nat) (a:AVal) (x:Value),as1[j]?=some a→cs[j]?=some x→Rep c a x
def Reader (P:Program) (t:TypeId) {α:Type} (e:α→List AVal) (ok:α→Prop):Prop:=
  ∀ (H:Type) (enc:TypeId × Value→H) (w:World) (base:Nat) (spare:Nat→Bool) (held:Bool) (fuel:Nat) (cs:List Value) (x:DataW H × List MemPlace),DataW.trod enc P w base spare held fuel t cs=some x→∃ a,ok a∧RepC w (e a) cs
section
variable {P:Program} {t:TypeId}
theorem RepC.v (w:World) (x:Value):RepC w [.v x] [x]:=⟨rfl,fun _ _ _ j a y ha hy=>by
  match j with
  | 0=>simp at ha hy;subst ha hy;exact .v _
  | j+1=>simp at ha⟩
theorem Reader.map {α β:Type} {e:α→List AVal} {ok:α→Prop} {e':β→List AVal} {ok':β→Prop} (h:Reader P t e ok) (f:α→β) (he:∀ a,e' (f a)=e a) (hok:∀ a,ok a→ok' (f a)):Reader P t e' ok':=by
  intro H enc w base spare held fuel cs x hx
  obtain⟨a,h1,h2⟩:=h H enc w base spare held fuel cs x hx
  exact⟨f a,hok a h1,by rw[he];exact h2⟩
theorem exists_list {α:Type} {Q:Nat→α→Prop}:∀ n,(∀ i,i<n→∃ a,Q i a)→∃ l:List α,l.length=n∧∀ i a,l[i]?=some a→Q i a
  | 0,_=>⟨[],rfl,by simp⟩
  | n+1,h=>by
    obtain⟨l,hl,hq⟩:=exists_list n fun i hi=>h i (by omega)
    obtain⟨a,ha⟩:=h n (by omega)
    refine⟨l++[a],by simp[hl],fun i b hb=>?_⟩
    rcases Nat.lt_or_ge i n with hi | hi
    · rw[List.getElem?_append_left (by omega)] at hb;exact hq i b hb
    · rw[List.getElem?_append_right (by omega)] at hb
      have:i - l.length=0:=by
        rcases Nat.eq_zero_or_pos (i - l.length) with h | h
        · exact h
        · rw[List.getElem?_eq_none (by simp;omega)] at hb;cases hb
      rw[this] at hb
      simp at hb
      subst hb
      rw[show i=n by omega]
      exact ha
theorem cells_get {w:World} {base n:Nat} {a:Addr} {cs:List Value} (h:w.cells? base a n=some cs):cs.length=n∧∀ (j:Nat) x,cs[j]?=some x→w.cell? (a.add j)=some x:=by
  unfold World.cells? at h
  split at h
  · have hl:=mapM_some_length h
    simp at hl
    refine⟨hl,fun j x hx=>?_⟩
    have hj:j<n:=by rw[← hl];exact (List.getElem?_eq_some_iff.1 hx).1
    rw[mapM_some_get h j j (by simp[hj]),hx]
  · cases h
theorem Reader.slice {t':TypeId} {α:Type} {e:α→List AVal} {ok:α→Prop} (hu:P.underlying t=some (.slice t')) (hpos:0<P.cellsOf t') (h:Reader P t' e ok) :
    Reader P t (fun l:List α=>[.list false (l.map e)]) (fun l=>l.length≤9223372036854775807∧∀ a ∈ l,ok a):=by
  intro H enc w base spare held fuel cs x hx
  rcases DataW.trod_slice hu hx with ⟨rfl,_⟩ | ⟨a,len,cap,elems,rest,n,_,rfl,_,_,hlc,hcm,hel,hat,_,_⟩
  · refine⟨[],⟨by simp,by simp⟩,rfl,fun c hw hH j y z hy hz=>?_⟩
    match j with
    | 0=>simp at hy hz;subst hy hz;exact .lnil false
    | j+1=>simp at hy
  · have hall:∀ i,i<len→∃ b,ok b∧∃ ci,w.cells? base (a.add (i * P.cellsOf t')) (P.cellsOf t')=some ci∧RepC w (e b) ci:=by
      intro i hi
      have:=hat i hi
      rw[List.getElem?_eq_getElem (by omega)] at this
      cases hc:w.cells? base (a.add (i * P.cellsOf t')) (P.cellsOf t') with
      | none=>rw[hc] at this;cases this
      | some ci=>
        rw[hc] at this
        obtain⟨b,hb,hr⟩:=h H enc w base spare held n ci _ this
        exact⟨b,hb,ci,rfl,hr⟩
    obtain⟨l,hl,hq⟩:=exists_list len hall
    have hm:maxLen=9223372036854775807:=by decide
    have hl9:l.length≤9223372036854775807:=by omega
    refine⟨l,⟨hl9,fun b hb=>?_⟩,rfl,fun c hw hH j y z hy hz=>?_⟩
    · obtain⟨i,hi⟩:=List.getElem?_of_mem hb
      exact (hq i b hi).1
    match j with
    | j+1=>simp at hy
    | 0=>
    simp at hy hz
    subst hy hz
    have hcell:∀ (i:Nat) b,l[i]?=some b→∃ ci,RepC w (e b) ci∧ci.length=P.cellsOf t'∧∀ (q:Nat) x,ci[q]?=some x→w.cell? ((a.add (i * P.cellsOf t')).add q)=some x:=by
      intro i b hb
      obtain⟨_,ci,h1,h2⟩:=hq i b hb
      obtain⟨h3,h4⟩:=cells_get h1
      exact⟨ci,h2,h3,h4⟩
    have hfirst:l ≠ []→a.spot=none∧a.block<w.heap.size:=by
      intro hne
      obtain⟨b,hb⟩:∃ b,l[0]?=some b:=get_of_len (List.length_pos_iff.2 hne)
      obtain⟨ci,_,h3,h4⟩:=hcell 0 b hb
      obtain⟨x,hx⟩:∃ x,ci[0]?=some x:=get_of_len (by omega)
      have:=h4 0 x hx
      constructor
      · simpa[Addr.add] using World.cell?_spot this
      · have h5:=this
        unfold World.cell? at h5
        rcases Nat.lt_or_ge a.block w.heap.size with hlt | hge
        · exact hlt
        · have:w.heap[a.block]?=none:=Array.getElem?_eq_none hge
          simp[Addr.add,this] at h5
    have key:∀ (i:Nat) (b:α) (q:Nat) (y:AVal),l[i]?=some b→(e b)[q]?=some y→∃ x,w.cell? ⟨a.block,a.off+(i * P.cellsOf t'+q),none⟩=some x∧Rep c y x:=by
      intro i b q y hb hy
      obtain⟨ci,hr,h3,h4⟩:=hcell i b hb
      have hql:q<ci.length:=by rw[← hr.1];exact (List.getElem?_eq_some_iff.1 hy).1
      obtain⟨x,hx⟩:=get_of_len hql
      refine⟨x,?_,hr.2 c hw hH q y x hy hx⟩
      have h5:=h4 q x hx
      have hsp:=(hfirst (by intro h0;subst h0;simp at hb)).1
      obtain⟨b0,o0,s0⟩:=a
      simp only at hsp
      subst hsp
      simp only[Addr.add_lit] at h5
      rw[← Nat.add_assoc]
      exact h5
    have:=Rep.list (c:=c) false (l.map e) a cap (P.cellsOf t') (fun i q=>(w.cell? ⟨a.block,a.off+(i * P.cellsOf t'+q),none⟩).getD Go.undef) (fun hne=>(hfirst (by intro h0;subst h0;simp at hne)).1) (by simp;omega)
      (fun hne=>⟨no_mu hH _,by rw[hw];exact (hfirst (by intro h0;subst h0;simp at hne)).2,fun h=>by cases h⟩)
      (fun i el he=>by
        obtain⟨b,hb,rfl⟩:=map_get he
        obtain⟨ci,hr,h3,_⟩:=hcell i b hb
        rw[hr.1,h3])
      (fun i el q y he hy=>by
        obtain⟨b,hb,rfl⟩:=map_get he
        obtain⟨x,hx,_⟩:=key i b q y hb hy
        rw[hw,hx]
        rfl)
      (fun i el q y he hy=>by
        obtain⟨b,hb,rfl⟩:=map_get he
        obtain⟨x,hx,hr⟩:=key i b q y hb hy
        rw[hx]
        exact hr)
    rw[List.length_map,hl] at this
    exact this
def ArgR (P:Program) (t:TypeId) {α:Type} (e:α→AVal) (ok:α→Prop):Prop:=
  ∀ (H:Type) (enc:TypeId × Value→H) (W:World) (base:Nat) (v:Value) (d:DataW H) (p:List MemPlace),Value.okWide P W .any base t v→DataW.Trod enc P W 0 (fun _=>true) true t v d p →
    ∃ a,ok a∧∀ c:Ctx,c.w=W→(∀ id,c.H id=none)→Rep c (e a) v
theorem ArgR.cell {α:Type} {x:α→AVal} {ok:α→Prop} (hc:∀ (W:World) (base:Nat) (v:Value),Value.okWide P W .any base t v→v.cells=#[v]) (h:Reader P t (fun a=>[x a]) ok):ArgR P t x ok:=by
  intro H enc W base v d p hv ⟨fuel,hd⟩
  obtain⟨a,ha,hl,hr⟩:=h H enc W 0 _ true fuel _ _ hd
  refine⟨a,ha,fun c hw hH=>?_⟩
  exact hr c hw hH 0 _ v rfl (by rw[hc W base v hv];rfl)
theorem cell_slice {e:TypeId} (hu:P.underlying t=some (.slice e)) (W:World) (base:Nat) (v:Value) (h:Value.okWide P W .any base t v):v.cells=#[v]:=by
  simp only[Value.okWide,hu,Cell.okWide] at h
  cases v<;>first | rfl | (simp[Cell.ok,hu] at h)
def ArgsR (P:Program) (ts:List TypeId) {α:Type} (e:α→List AVal) (ok:α→Prop):Prop:=
  ∀ (H:Type) (enc:TypeId × Value→H) (W:World) (base:Nat) (vs:List Value) (ds:List (DataW H)) (p:List MemPlace),(∀ (j:Nat) t v,ts[j]?=some t→vs[j]?=some v→Value.okWide P W .any base t v) →
    DataW.TrodAll enc P W 0 (fun _=>true) true ts vs ds p→∃ a,ok a∧∀ c:Ctx,c.w=W→(∀ id,c.H id=none)→RepL c (e a) vs
theorem ArgsR.nil:ArgsR P [] (fun _:Unit=>[]) (fun _=>True):=by
  intro H enc W base vs ds p _ h
  obtain⟨rfl,_,_⟩:=ChangeShapes.trodAll_nil h
  exact⟨(),trivial,fun c _ _=>⟨rfl,fun i a x ha=>by simp at ha⟩⟩
theorem ArgsR.cons {ts:List TypeId} {α β:Type} {e:α→AVal} {ok:α→Prop} {e':β→List AVal} {ok':β→Prop} (h:ArgR P t e ok) (k:ArgsR P ts e' ok'):ArgsR P (t::ts) (fun p:α × β=>e p.1::e' p.2) (fun p=>ok p.1∧ok' p.2):=by
  intro H enc W base vs ds p hv hA
  obtain⟨v,vs',d,ds',q1,q2,rfl,rfl,rfl,h1,h2⟩:=ChangeShapes.trodAll_cons hA
  obtain⟨a,ha,hr⟩:=h H enc W base v d q1 (hv 0 t v rfl rfl) h1
  obtain⟨b,hb,hs⟩:=k H enc W base vs' ds' q2 (fun j u x hu hx=>hv (j+1) u x (by simpa using hu) (by simpa using hx)) h2
  refine⟨(a,b),⟨ha,hb⟩,fun c hw hH=>?_⟩
  have r1:=hr c hw hH
  obtain⟨r2,r3⟩:=hs c hw hH
  refine⟨by simp[r2],fun i y x hy hx=>?_⟩
  match i with
  | 0=>simp at hy hx;subst hy hx;exact r1
  | i+1=>exact r3 i y x (by simpa using hy) (by simpa using hx)
theorem PureC.calls {f:FuncId} {args:List AVal} {x:Value} (h:PureC P f args (fun r=>r = .v x)) (W:World) (hT:tabT W W.heap.size) (xs:List Value) (hr:∀ c:Ctx,c.w=W→(∀ id,c.H id=none)→RepL c args xs) :
    Calls P f xs.toArray W fun e W'=>e = .returned x∧Below W.heap.size W W':=by
  refine (h ⟨W.heap.size,fun _=>0,noHeap,0,W⟩ xs rfl rfl (good_bare W hT) (hr _ rfl (fun _=>rfl))).mono ?_
  rintro e w' ⟨y,v,c',he,hw,⟨r,hres,hR⟩,hv,hg,hk⟩
  subst hw hR
  have hy:=(hres c' y rfl rfl hg hv ⟨0,fun _=>0,noHeap,0,c'.w⟩ rfl (fun k hk=>by obtain⟨id,o,ho,_⟩:=hk;cases ho) (Nat.zero_le _)).v_inv
  subst hy
  exact⟨he,hk.os,hk.tape,hk.output,hk.size,fun k hk'=>(hk.imm k hk' (by rintro⟨id,o,ho,_⟩;cases ho)).1⟩
theorem Below.trodAll {H:Type} {enc:TypeId × Value→H} (hl:laidOutB P=true) {W W':World} (hb:Below W.heap.size W W'):∀ {ts:List TypeId} {vs:List Value} {ds:List (DataW H)} {ps:List MemPlace},
    ts.all (fun t=>P.readableRec t && decide (t<P.types.size))=true→DataW.TrodAll enc P W 0 (fun _=>true) true ts vs ds ps→(∀ x ∈ ps,x.block<W.heap.size)→DataW.TrodAll enc P W' 0 (fun b=>decide (b<W.heap.size)) true ts vs ds ps
  | [],vs,ds,ps,_,h,_=>by
    obtain⟨rfl,rfl,rfl⟩:=ChangeShapes.trodAll_nil h
    exact rfl
  | t::ts,vs,ds,ps,hr,h,hp=>by
    obtain⟨v,vs',d,ds',q1,q2,rfl,rfl,rfl,h1,h2⟩:=ChangeShapes.trodAll_cons h
    simp only[List.all_cons,Bool.and_eq_true,decide_eq_true_eq] at hr
    exact⟨q1,q2,Go.RowKit.Below.trod hl hr.1.1 hr.1.2 h1 hb (fun x hx=>hp x (by simp[hx])),Below.trodAll hl hb (by simpa using hr.2) h2 (fun x hx=>hp x (by simp[hx])),rfl⟩
theorem post_true {H:Type} {enc:TypeId × Value→H} {fn:Func} {s:ChangeSpec} {fresh handsOn:Bool} {W W':World} {args:Array Value} {ds gs:List (DataW H)} {before:List MemPlace} {tb:TypeId}
    (hl:laidOutB P=true) (hvars:s.vars=[]) (hrt:fn.resultTypes=#[tb]) (htb:P.underlying tb=some .bool) (hread:fn.params.toList.all (fun t=>P.readableRec t && decide (t<P.types.size))=true)
    (hres:(s.fn H ds).results=[.lit (.bool true)]) (hargs:(s.fn H ds).args=ds) (hvs:(s.fn H ds).vars=[]) (hW:DataW.Whole enc P fn.params.toList s.vars false W args.toList ds gs before) (hb:Below W.heap.size W W') :
    s.post enc P fn false fresh handsOn false W args (.bool true) W':=by
  have hlt:∀ x ∈ before,x.block<W.heap.size:=fun x hx=>by simpa using hW.lt x hx
  have hW0:=hW
  obtain⟨p,q,hA,hV,rfl,_,_⟩:=hW0
  rw[hvars] at hV
  obtain⟨hgs,hq⟩:=ChangeShapes.trodVars_none hV
  subst hgs hq
  refine⟨ds,[],p++[],[],p,[],hW,?_,?_,?_,hb.frame _,fun h=>by cases h⟩
  · rw[List.append_nil,hres,hrt]
    exact ChangeShapes.trodAll_mk1 (shut_bool htb true)
  · rw[List.append_nil,hargs]
    exact Below.trodAll hl hb hread hA (fun x hx=>hlt x (by simp[hx]))
  · rw[List.append_nil,hvs,hvars]
    exact rfl
theorem trodAll_len {H:Type} {enc:TypeId × Value→H} {w:World} {base:Nat} {sp:Nat→Bool} {hd:Bool}:∀ {ts:List TypeId} {vs:List Value} {ds:List (DataW H)} {ps:List MemPlace},DataW.TrodAll enc P w base sp hd ts vs ds ps→ds.length=ts.length
  | [],vs,ds,ps,h=>by obtain⟨_,rfl,_⟩:=ChangeShapes.trodAll_nil h;rfl
  | t::ts,vs,ds,ps,h=>by
    obtain⟨v,vs',d,ds',q1,q2,rfl,rfl,rfl,h1,h2⟩:=ChangeShapes.trodAll_cons h
    simp[trodAll_len h2]
end
theorem lift_law {C:Checked} {os:Os} {f:FuncId} {fn:Func} {s:ChangeSpec} {laid:List (String × DataW Unit)} {α:Type} {e:α→List AVal} {ok:α→Prop} {tb:TypeId} {H:Type} {enc:TypeId × Value→H}
    (own:ownKnob C.prog.godebug=none) (started:os.Started) (hinit:C.prog.inits.idxOf? f=none) (hfn:C.prog.funcs[f]?=some fn) (hl:laidOutB C.prog=true)
    (wit:∃ (w:World) (tape:Tape) (i:Input),w.os=os∧(w.forCall tape i).Shaped C.prog∧i.vars=[]∧Input.okWide C.prog (w.forCall tape i) .any w.heap.size f i ∧
      ((s.pre enc C.prog fn [] false (w.forCall tape i).memory i.args∧laidMetH C.prog laid (w.forCall tape i).memory)∧sizedMet enc C.prog fn (OpenSpec.ofChange s) false (w.forCall tape i).memory i.args)∧({}:Assume).holds C.prog (lone (Frame.enter C.prog f i.args .normal) [] (w.forCall tape i)))
    (hT:∀ W,laidMetH C.prog laid W→tabT W W.heap.size) (hR:ArgsR C.prog fn.params.toList e ok) (hlaw:∀ a,ok a→PureC C.prog f (e a) (fun r=>r = .v (.bool true)))
    (hvars:s.vars=[]) (hrt:fn.resultTypes=#[tb]) (htb:C.prog.underlying tb=some .bool) (hread:fn.params.toList.all (fun t=>C.prog.readableRec t && decide (t<C.prog.types.size))=true)
    (hs:∀ ds:List (DataW H),ds.length=fn.params.toList.length→(s.fn H ds).results=[.lit (.bool true)]∧(s.fn H ds).args=ds∧(s.fn H ds).vars=[]) :
    ReturnsInHanded {} C os f .any (fun w args=>(s.pre enc C.prog fn [] false w args∧laidMetH C.prog laid w)∧sizedMet enc C.prog fn (OpenSpec.ofChange s) false w args)
      (s.post enc C.prog fn false true false false):=by
  refine returnsInHanded_of_change_and (C:=C) (X:=fun w _=>laidMetH C.prog laid w) (fun _ _ _ hh h=>h.of_heap hh) own started hinit hfn wit ?_
  intro W base args ds gs before hval hW _ _ hX _
  have hW0:=hW
  obtain⟨p,q,hA,_,_,_,_⟩:=hW0
  have hlen:=trodAll_len hA
  obtain⟨a,ha,hr⟩:=hR H enc W base args.toList ds p (fun j t v ht hv=>hval j t v (by simpa using ht) (by simpa using hv)) hA
  obtain⟨h1,h2,h3⟩:=hs ds hlen
  have hc:=PureC.calls (hlaw a ha) W (hT W hX) args.toList hr
  rw[Array.toArray_toList] at hc
  refine hc.mono ?_
  rintro e W' ⟨he,hb⟩
  exact⟨_,he,post_true hl hvars hrt htb hread h1 h2 h3 hW hb⟩
end Go.Ab
/-
  DERIVED: THE SHELF's CONTRACTS AT THIS DUMP,IN PLAIN WORDS (tools/lay-plain.mjs out of 'TrydShelf.lean',which tools/lay-shelf.mjs wrote): THE SAME DECLARATIONS UNDER THE SAME NAMES: 'import','namespace','open','def','theorem' AND NOTHING ELSE: no command of the shelf's: FOR A HAND-IN. Each laying: the table of numbers ('.._ren') and one theorem,a field a fact of the dump's own or the kernel's comparison;each contract: ONE APPLICATION.
-/
namespace Go.Proofs
open Go.Shelf
def Tryd.lays160_ren:Go.Shelf.Ren:=⟨fun | 160=>60 | 232=>63 | 231=>62 | 227=>64 | 234=>66 | 233=>65 | 236=>68 | 235=>67 | 228=>69 | 271=>72 | 151=>71 | 197=>70 | 120=>75 | 152=>74 | 260=>73 | 137=>76 | 119=>77 | 224=>78 | 225=>79 | 217=>80 | 266=>81 | n=>n,fun | 9=>9 | 4=>4 | 3=>3 | 5=>5 | 117=>89 | 116=>88 | 0=>0 | 124=>92 | 21=>21 | 105=>94 | 46=>83 | 119=>98 | 139=>101 | 138=>100 | n=>n,fun | 3=>0 | 4=>1 | n=>n⟩
theorem Tryd.lays160:Go.Proofs.Lays.n160 Tryd.prog Tryd.lays160_ren:={
  mixed:=by kernel_rfl
  f119:=Tryd.func77.trans (congrArg some (by kernel_rfl))
  f120:=Tryd.func75.trans (congrArg some (by kernel_rfl))
  f137:=Tryd.func76.trans (congrArg some (by kernel_rfl))
  f151:=Tryd.func71.trans (congrArg some (by kernel_rfl))
  f152:=Tryd.func74.trans (congrArg some (by kernel_rfl))
  f160:=Tryd.func60.trans (congrArg some (by kernel_rfl))
  f197:=Tryd.func70.trans (congrArg some (by kernel_rfl))
  f217:=Tryd.func80.trans (congrArg some (by kernel_rfl))
  f224:=Tryd.func78.trans (congrArg some (by kernel_rfl))
  f225:=Tryd.func79.trans (congrArg some (by kernel_rfl))
  f227:=Tryd.func64.trans (congrArg some (by kernel_rfl))
  f228:=Tryd.func69.trans (congrArg some (by kernel_rfl))
  f231:=Tryd.func62.trans (congrArg some (by kernel_rfl))
  f232:=Tryd.func63.trans (congrArg some (by kernel_rfl))
  f233:=Tryd.func65.trans (congrArg some (by kernel_rfl))
  f234:=Tryd.func66.trans (congrArg some (by kernel_rfl))
  f235:=Tryd.func67.trans (congrArg some (by kernel_rfl))
  f236:=Tryd.func68.trans (congrArg some (by kernel_rfl))
  f260:=Tryd.func73.trans (congrArg some (by kernel_rfl))
  f266:=Tryd.func81.trans (congrArg some (by kernel_rfl))
  f271:=Tryd.func72.trans (congrArg some (by kernel_rfl))
  t0:=Tryd.underlying0
  a0:=Tryd.isAgg0
  z0:=Tryd.sizeOf0
  v0:=Tryd.zeroValue0
  t3:=Tryd.underlying3
  a3:=Tryd.isAgg3
  z3:=Tryd.sizeOf3
  v3:=Tryd.zeroValue3
  t4:=Tryd.underlying4
  a4:=Tryd.isAgg4
  z4:=Tryd.sizeOf4
  v4:=Tryd.zeroValue4
  t5:=Tryd.underlying5
  a5:=Tryd.isAgg5
  z5:=Tryd.sizeOf5
  v5:=Tryd.zeroValue5
  t9:=Tryd.underlying9
  a9:=Tryd.isAgg9
  z9:=Tryd.sizeOf9
  v9:=Tryd.zeroValue9
  t21:=Tryd.underlying21
  a21:=Tryd.isAgg21
  z21:=Tryd.sizeOf21
  v21:=Tryd.zeroValue21
  t46:=Tryd.underlying83
  a46:=Tryd.isAgg83
  z46:=Tryd.sizeOf83
  v46:=Tryd.zeroValue83
  t105:=Tryd.underlying94
  a105:=Tryd.isAgg94
  z105:=Tryd.sizeOf94
  v105:=Tryd.zeroValue94
  t116:=Tryd.underlying88
  a116:=Tryd.isAgg88
  z116:=Tryd.sizeOf88
  t117:=Tryd.underlying89
  a117:=Tryd.isAgg89
  z117:=Tryd.sizeOf89
  v117:=Tryd.zeroValue89
  t119:=Tryd.underlying98
  a119:=Tryd.isAgg98
  z119:=Tryd.sizeOf98
  t124:=Tryd.underlying92
  a124:=Tryd.isAgg92
  z124:=Tryd.sizeOf92
  v124:=Tryd.zeroValue92
  t138:=Tryd.underlying100
  a138:=Tryd.isAgg100
  z138:=Tryd.sizeOf100
  v138:=Tryd.zeroValue100
  t139:=Tryd.underlying101
  a139:=Tryd.isAgg101
  z139:=Tryd.sizeOf101
  v139:=Tryd.zeroValue101
  g3:=by kernel_rfl
  g4:=by kernel_rfl }
end Go.Proofs
/- The abstract machine, part S: the library's functions, by the shelf's contracts. -/
namespace Go.Ab
open Go.Proofs Go.RowKit
theorem PureC.of_below {P:Program} {f:FuncId} {args:List AVal} {R:AVal→Prop}
    (h:∀ (c:Ctx) (xs:List Value),(∀ id,c.H id=none)→RepL c args xs→Calls P f xs.toArray c.w fun e w'=>∃ x v,e = .returned x∧R v∧Fresh v∧(∀ c':Ctx,Rep c' v x)∧Below c.w.heap.size c.w w'):PureC P f args R:=by
  intro c xs hH hn g r
  refine (h c xs (by intro id;rw[hH];rfl) r).mono ?_
  rintro e w' ⟨x,v,he,hR,hf,hv,hb⟩
  obtain⟨hk,hg⟩:=more_blocks g w' ⟨hb.os,hb.tape,hb.output⟩ hb.size hb.block
  exact⟨x,v,{ c with w:=w' },he,rfl,⟨v,.of (Ret.fresh hf),hR⟩,hv _,hg,hk⟩
theorem RepL.two2 {c:Ctx} {a b:AVal} {xs:List Value} (r:RepL c [a,b] xs):∃ x y,xs=[x,y]∧Rep c a x∧Rep c b y:=by
  obtain⟨hl,hr⟩:=r
  match xs,hl with
  | [x,y],_=>exact⟨x,y,rfl,hr 0 a x rfl rfl,hr 1 b y rfl rfl⟩
theorem trim_ok (s cut:Str) (hs:s.length≤4611686018427387904) (hc:cut.length≤1000) (ha:cut.all (fun b=>decide (b.toNat<128))=true):PureC Tryd.prog 60 [str s,str cut] (fun r=>r=str (Lib.trimS s cut)):=by
  refine PureC.of_below fun c xs _ r=>?_
  obtain⟨x,y,rfl,hx,hy⟩:=r.two2
  rw[hx.v_inv,hy.v_inv]
  refine (Any.strings_Trim_laid Tryd.lays160 (by kernel_rfl) ⟨s.toArray⟩ ⟨cut.toArray⟩ c.w (by simp;omega) (by simp;omega) (ascii_of_all (by simpa using ha))).mono ?_
  rintro e w' ⟨he,hb⟩
  exact⟨_,_,he,rfl,.v _,fun _=>.v _,by simpa using hb⟩
end Go.Ab
/- Contracts of impl.joinTexts and (impl.Proc).textIn, at valid processes. -/
namespace Go.Ab
open Go.Proofs
set_option linter.unusedSimpArgs false
theorem e60:Ent Tryd.prog 60:=Ent.of Tryd.func60 (by kernel_rfl) rfl
end Go.Ab
/- Contracts of impl.isName, impl.IsProcess and impl.ProcessText. -/
namespace Go.Ab
open Go.Proofs
set_option linter.unusedSimpArgs false
theorem e54:Ent Tryd.prog 54:=Ent.of Tryd.func54 (by kernel_rfl) rfl
def lower (c:UInt8):Bool:=decide (97≤c.toNat) && decide (c.toNat≤122)
def isNm (s:Str):Bool:=within s.length 1 4 && s.all lower
def alpha:Str:=[97,98,99,100,101,102,103,104,105,106,107,108,109,110,111,112,113,114,115,116,117,118,119,120,121,122]
set_option maxRecDepth 10000 in
theorem alpha_lower (c:UInt8):alpha.contains c=lower c:=by
  have h:∀ n:Fin 256,alpha.contains (UInt8.ofNat n.val)=lower (UInt8.ofNat n.val):=by decide
  have:=h ⟨c.toNat,c.toNat_lt⟩
  simpa using this
theorem dropWhile_nil {q:UInt8→Bool}:∀ l:Str,l.dropWhile q=[]↔l.all q=true
  | []=>by simp
  | a::l=>by
    rw[List.dropWhile_cons]
    cases h:q a<;>simp[h,dropWhile_nil l]
theorem dropWhile_last {q:UInt8→Bool}:∀ l:Str,(l.dropWhile q).reverse.all q=true→l.all q=true
  | [],_=>by simp
  | a::l,h=>by
    rw[List.dropWhile_cons] at h
    cases hq:q a
    · simp[hq] at h
    · simp only[hq,if_true] at h
      have:=dropWhile_last l h
      simp only[List.all_cons,hq,this,Bool.and_self]
theorem trimS_nil (s:Str):(Lib.trimS s alpha=[])↔s.all lower=true:=by
  have he:(fun c=>alpha.contains c)=lower:=funext alpha_lower
  unfold Lib.trimS Lib.trimLeftS Lib.trimRightS
  rw[he,dropWhile_nil]
  constructor
  · intro h
    have:=dropWhile_last _ h
    simpa using this
  · intro h
    have h2:s.reverse.dropWhile lower=[]:=by rw[dropWhile_nil];simpa using h
    rw[h2]
    rfl
theorem isName_ok (s:Str) (hs:s.length≤4294967296):PureC Tryd.prog 54 [str s] (fun r=>r=bool (isNm s)):=by
  refine PureC.of Tryd.func54 rfl Tryd.ntmps54 (by simp) fun Q hQ=>?_
  refine Runs.seqE Ty_ok (by decide) fun k' hk'=>?_
  simp   -- R0
  apply hk'
  refine Runs.seqE Ty_ok (by decide) fun k' hk'=>?_
  simp   -- R1
  refine RunK.callA Ty_ok (within_ok s.length 1 4) e27 (.cons (.v _ _ _) (.cons (.v _ _ _) (.cons (.v _ _ _) .nil))) (by decide) (by decide) rfl (by simp) ?_
  rintro _ rfl
  cases hw:within s.length 1 4
  · simp[hw]
    apply hk'
    exact Runs.ret Tryd.func54 (RetOk.one Tryd.results54) (hQ _ _ _ _ (.v _ _ _) (by simp[isNm,hw]))
  · simp[hw]
    refine RunK.callA Ty_ok (trim_ok s alpha (by omega) (by decide) (by decide)) e60 (.cons (.v _ _ _) (.cons (.v _ _ _) .nil)) (by decide) (by decide) rfl (by simp[alpha]) ?_
    rintro _ rfl
    simp[hw]
    apply hk'
    refine Runs.ret Tryd.func54 (RetOk.one Tryd.results54) (hQ _ _ _ _ (.v _ _ _) ?_)
    have:=trimS_nil s
    cases h:s.all lower<;>simp[h] at this<;>simp[isNm,hw,h,this]
end Go.Ab
/- Bigraphs as values: types of data, and what a valid one is. -/
namespace Go.Ab
set_option linter.unusedSimpArgs false
structure Control where
  name:Str
  ports:Int
  kind:Int
  deriving Inhabited,DecidableEq
structure GNode where
  control:Int
  parent:Int
  links:List Int
  deriving Inhabited,DecidableEq
structure Wire where
  name:Str
  link:Int
  deriving Inhabited,DecidableEq
structure Big where
  roots:Int
  nodes:List GNode
  sites:List Int
  edges:Int
  outer:List Str
  inner:List Wire
  deriving Inhabited,DecidableEq
abbrev Sig:=List Control
def sliceC {α:Type} (fr:Bool) (f:α→List AVal) (l:List α):List AVal:=[.list fr (l.map f)]
def Control.cells (x:Control):List AVal:=[str x.name,int x.ports,int x.kind]
def Wire.cells (x:Wire):List AVal:=[str x.name,int x.link]
def GNode.cells (t:Bool) (x:GNode):List AVal:=[int x.control,int x.parent,.list t (x.links.map intC)]
def encSig (t:Bool) (s:Sig):AVal:=.list t (s.map Control.cells)
def encI (t:Bool) (l:List Int):AVal:=.list t (l.map intC)
def encS (t:Bool) (l:List Str):AVal:=.list t (l.map strC)
def encW (t:Bool) (l:List Wire):AVal:=.list t (l.map Wire.cells)
def encN (t:Bool) (l:List GNode):AVal:=.list t (l.map (GNode.cells t))
def Big.cells (t:Bool) (b:Big):List AVal:=[int b.roots,encN t b.nodes,encI t b.sites,int b.edges,encS t b.outer,encW t b.inner]
def encB (t:Bool) (b:Big):AVal:=.agg (b.cells t)
theorem ints_flat (l:List Int):∀ e ∈ l.map intC,∀ a ∈ e,flat a=true:=by simp[intC]
theorem strs_flat (l:List Str):∀ e ∈ l.map strC,∀ a ∈ e,flat a=true:=by simp[strC]
theorem wires_flat (l:List Wire):∀ e ∈ l.map Wire.cells,∀ a ∈ e,flat a=true:=by simp[Wire.cells]
theorem sig_flat (l:Sig):∀ e ∈ l.map Control.cells,∀ a ∈ e,flat a=true:=by simp[Control.cells]
theorem old_encI (t:Bool) (l:List Int):old (encI t l)=encI false l:=by rw[encI,old_list,maps_old_flat (ints_flat l)];rfl
theorem old_encS (t:Bool) (l:List Str):old (encS t l)=encS false l:=by rw[encS,old_list,maps_old_flat (strs_flat l)];rfl
theorem old_encW (t:Bool) (l:List Wire):old (encW t l)=encW false l:=by rw[encW,old_list,maps_old_flat (wires_flat l)];rfl
theorem old_encSig (t:Bool) (l:Sig):old (encSig t l)=encSig false l:=by rw[encSig,old_list,maps_old_flat (sig_flat l)];rfl
theorem old_node (t:Bool) (x:GNode):(x.cells t).map old=x.cells false:=by
  simp only[GNode.cells,List.map_cons,List.map_nil,old_v]
  have:=old_encI t x.links
  simp only[encI] at this
  rw[this]
theorem old_encN (t:Bool) (l:List GNode):old (encN t l)=encN false l:=by
  rw[encN,old_list,List.map_map]
  simp only[encN]
  congr 1
  exact List.map_congr_left fun x _=>old_node t x
theorem old_encB (t:Bool) (b:Big):old (encB t b)=encB false b:=by
  simp only[encB,Big.cells,old_agg,List.map_cons,List.map_nil,old_v,old_encN,old_encI,old_encS,old_encW]
theorem imm_encI (t:Bool) (l:List Int):Imm (encI t l):=.list _ _ fun e he a ha=>Imm.flat (ints_flat l e he a ha)
theorem imm_encS (t:Bool) (l:List Str):Imm (encS t l):=.list _ _ fun e he a ha=>Imm.flat (strs_flat l e he a ha)
theorem imm_encW (t:Bool) (l:List Wire):Imm (encW t l):=.list _ _ fun e he a ha=>Imm.flat (wires_flat l e he a ha)
theorem imm_encSig (t:Bool) (l:Sig):Imm (encSig t l):=.list _ _ fun e he a ha=>Imm.flat (sig_flat l e he a ha)
theorem imm_node (t:Bool) (x:GNode):∀ a ∈ x.cells t,Imm a:=by
  intro a ha
  simp only[GNode.cells,List.mem_cons,List.not_mem_nil,or_false] at ha
  rcases ha with rfl | rfl | rfl
  · exact .v _
  · exact .v _
  · exact imm_encI t x.links
theorem imm_encN (t:Bool) (l:List GNode):Imm (encN t l):=by
  refine .list _ _ fun e he a ha=>?_
  obtain⟨x,_,rfl⟩:=List.mem_map.1 he
  exact imm_node t x a ha
theorem imm_encB (t:Bool) (b:Big):Imm (encB t b):=by
  refine .agg _ fun a ha=>?_
  simp only[Big.cells,List.mem_cons,List.not_mem_nil,or_false] at ha
  rcases ha with rfl | rfl | rfl | rfl | rfl | rfl
  · exact .v _
  · exact imm_encN t _
  · exact imm_encI t _
  · exact .v _
  · exact imm_encS t _
  · exact imm_encW t _
section
variable {H:Heap} {n:Nat}
theorem ArgOk.encI (t:Bool) (l:List Int):ArgOk H n (encI t l) (encI false l):=ArgOk.imm' (imm_encI t l) (old_encI t l)
theorem ArgOk.encS (t:Bool) (l:List Str):ArgOk H n (encS t l) (encS false l):=ArgOk.imm' (imm_encS t l) (old_encS t l)
theorem ArgOk.encSig (t:Bool) (l:Sig):ArgOk H n (encSig t l) (encSig false l):=ArgOk.imm' (imm_encSig t l) (old_encSig t l)
theorem ArgOk.encB (t:Bool) (b:Big):ArgOk H n (encB t b) (encB false b):=ArgOk.imm' (imm_encB t b) (old_encB t b)
end
def okControl (c:Control):Bool:=isNm c.name && within c.ports 0 3 && within c.kind 0 2
def newName (sig:Sig) (i:Nat):Bool := !(sig.take i).any fun d=>d.name == (sig.getD i default).name
def goodSig (sig:Sig):Bool:=within sig.length 1 6 && (List.range sig.length).all fun i=>okControl (sig.getD i default) && newName sig i
def ascends (l:List Str) (i:Nat):Bool:=decide (i=0) || Op.bytesLess (l.getD (i - 1) []) (l.getD i [])
def goodNames (l:List Str):Bool:=decide (l.length≤16) && (List.range l.length).all fun i=>isNm (l.getD i []) && ascends l i
def okLink (b:Big) (l:Int):Bool:=within l 0 (b.edges+b.outer.length - 1)
def okParent (sig:Sig) (b:Big) (parent:Int) (below:Nat):Bool:=
  if parent<0 then decide (-b.roots≤parent) else decide (parent<below) && decide ((sig.getD (b.nodes.getD parent.toNat default).control.toNat default).kind ≠ 2)
def okNodeB (sig:Sig) (b:Big) (i:Nat):Bool:=
  within (b.nodes.getD i default).control 0 (sig.length - 1) && okParent sig b (b.nodes.getD i default).parent i && decide ((b.nodes.getD i default).links.length=(sig.getD (b.nodes.getD i default).control.toNat default).ports) &&
    (b.nodes.getD i default).links.all (okLink b)
def goodB (sig:Sig) (b:Big):Bool:=
  goodSig sig && within b.roots 0 4 && decide (b.nodes.length≤8) && decide (b.sites.length≤4) && within b.edges 0 8 && goodNames b.outer && goodNames (b.inner.map (·.name)) &&
    (List.range b.nodes.length).all (okNodeB sig b) && b.sites.all (fun p=>okParent sig b p b.nodes.length) && b.inner.all (fun w=>okLink b w.link)
end Go.Ab
/- The abstract machine, part Sn: short names for what a walk by program says often. -/
namespace Go.Ab
set_option linter.unusedSectionVars false
abbrev oE {α:Type} (l:List Sh) (f:α→List AVal) (v:AVal) (es:List α):OwnE:=(.s l,v,.list true (es.map f))
abbrev oI (v:AVal) (es:List Int):OwnE:=(.s [.c],v,.list true (es.map intC))
abbrev oS (v:AVal) (es:List Str):OwnE:=(.s [.c],v,.list true (es.map strC))
abbrev oN (v:AVal) (es:List GNode):OwnE:=(.s [.c,.c,.s [.c]],v,.list true (es.map (GNode.cells true)))
abbrev oW (v:AVal) (es:List Wire):OwnE:=(.s [.c,.c],v,.list true (es.map Wire.cells))
section
variable {H H':Heap} {n n':Nat} {K:List OwnE} {ids:List Id} {x:OwnE}
theorem Sep.f1 {a:OwnE} (h:Sep H n (a::x::K) ids):Sep H n (x::a::K) ids:=Sep.front (K1:=[a]) h
theorem Sep.f2 {a b:OwnE} (h:Sep H n (a::b::x::K) ids):Sep H n (x::a::b::K) ids:=Sep.front (K1:=[a,b]) h
theorem Sep.f3 {a b c:OwnE} (h:Sep H n (a::b::c::x::K) ids):Sep H n (x::a::b::c::K) ids:=Sep.front (K1:=[a,b,c]) h
theorem Sep.f4 {a b c d:OwnE} (h:Sep H n (a::b::c::d::x::K) ids):Sep H n (x::a::b::c::d::K) ids:=Sep.front (K1:=[a,b,c,d]) h
theorem Sep.dr (h:Sep H n (x::K) ids):Sep H n K ids:=Sep.right (K1:=[x]) h
theorem Sep.ap {α:Type} {l:List Sh} {f:α→List AVal} {v:AVal} {xs ys zs:List α} (hz:zs=xs++ys) (h:Sep H n ((.s l,v,.list true (xs.map f++ys.map f))::K) ids):Sep H n ((.s l,v,.list true (zs.map f))::K) ids:=by
  rw[hz,List.map_append];exact h
theorem Sep.oc {l:List Sh} {v e:AVal} (h:Sep H n ((.s l,v,e)::K) ids):cellsA v=some [v]∧Ab.one1 v=true:=⟨h.cells,h.one1⟩
end
theorem o1x:(∀ (k:IntKind) (a:Int),one1 (.v (.int k a))=true)∧(∀ a:Bool,one1 (.v (.bool a))=true)∧(∀ a:ByteArray,one1 (.v (.string a))=true)∧one1 (.v (.slice none 0 0))=true ∧
    (∀ (fr:Bool) (l:List (List AVal)),one1 (.list fr l)=true)∧(∀ (id:Id) (g o l:Nat),one1 (.arr id g o l)=true)∧∀ (id:Id) (g o l:Nat),one1 (.ptr id g o l)=true:=
  ⟨fun _ _=>rfl,fun _=>rfl,fun _=>rfl,rfl,fun _ _=>rfl,fun _ _ _ _=>rfl,fun _ _ _ _=>rfl⟩
theorem cAx:(∀ (k:IntKind) (a:Int),cellsA (.v (.int k a))=some [.v (.int k a)])∧(∀ a:Bool,cellsA (.v (.bool a))=some [.v (.bool a)])∧(∀ a:ByteArray,cellsA (.v (.string a))=some [.v (.string a)])∧cellsA (.v (.slice none 0 0))=some [.v (.slice none 0 0)] ∧
    (∀ l:List AVal,cellsA (.agg l)=some l)∧(∀ (fr:Bool) (l:List (List AVal)),cellsA (.list fr l)=some [.list fr l])∧(∀ (id:Id) (g o l:Nat),cellsA (.arr id g o l)=some [.arr id g o l])∧∀ (id:Id) (g o l:Nat),cellsA (.ptr id g o l)=some [.ptr id g o l]:=
  ⟨fun _ _=>rfl,fun _=>rfl,fun _=>rfl,rfl,fun _=>rfl,fun _ _=>rfl,fun _ _ _ _=>rfl,fun _ _ _ _=>rfl⟩
theorem atm {α:Sort _} {x:α} {p:α→Prop} (h:∀ v,v=x→p v):∃ v,v=x∧p v:=⟨x,rfl,h x rfl⟩
abbrev pA (i n:Nat):AVal:=.ptr (i,n) 1 0 0
abbrev bC (t:Bool) (b:Big):List AVal:=[int b.roots,.list t (b.nodes.map (GNode.cells t)),.list t (b.sites.map intC),int b.edges,.list t (b.outer.map strC),.list t (b.inner.map Wire.cells)]
abbrev zB:List AVal:=[int 0,.v (.slice none 0 0),.v (.slice none 0 0),int 0,.v (.slice none 0 0),.v (.slice none 0 0)]
section
variable {H:Heap} {n:Nat}
theorem argI (t:Bool) (l:List Int):ArgOk H n (.list t (l.map intC)) (.list false (l.map intC)):=ArgOk.encI t l
theorem argC (t:Bool) (l:List Control):ArgOk H n (.list t (l.map Control.cells)) (.list false (l.map Control.cells)):=ArgOk.encSig t l
theorem argB (t:Bool) (b:Big):ArgOk H n (.agg (bC t b)) (.agg (bC false b)):=ArgOk.encB t b
end
end Go.Ab
/- Loops that count: how their conditions are met. -/
namespace Go.Ab.Vg
set_option linter.unusedSimpArgs false
set_option linter.unusedVariables false
theorem loopW.up {σ τ:Type} {body:σ→(σ→Prop)→Prop} {s:σ} (N:Nat) (idx:σ→Int) (mk:Nat→τ→σ) (hidx:∀ k t,idx (mk k t)=(k:Int)) (I:Nat→τ→Prop) (t0:τ) (hs:s=mk 0 t0) (h0:I 0 t0)
    (step:∀ k t (K:σ→Prop),k≤N→I k t→(k<N→∀ t',I (k+1) t'→K (mk (k+1) t'))→body (mk k t) K):loopW body s:=by
  refine⟨fun s=>∃ k t,s=mk k t∧k≤N∧I k t,fun s=>N - (idx s).toNat,⟨0,t0,hs,Nat.zero_le _,h0⟩,?_⟩
  rintro s ⟨k,t,rfl,hk,hI⟩
  refine step k t _ hk hI fun hlt t' hI'=>⟨⟨k+1,t',rfl,hlt,hI'⟩,?_⟩
  show N - (idx _).toNat<N - (idx _).toNat
  rw[hidx,hidx]
  omega
theorem loopW.upL {τ:Type} {body:Int × τ→(Int × τ→Prop)→Prop} (N:Nat) (I:Nat→τ→Prop) (t0:τ) (h0:I 0 t0)
    (step:∀ k t (K:Int × τ→Prop),k≤N→I k t→(k<N→∀ t',I (k+1) t'→K (((k:Int)+1),t'))→body ((k:Int),t) K):loopW body (0,t0):=
  loopW.up N (·.1) (fun k t=>((k:Int),t)) (fun _ _=>rfl) I t0 rfl h0 fun k t K hk hI h=>step k t K hk hI fun hlt t' hI'=>by have:=h hlt t' hI';simpa using this
theorem loopW.up1 {body:Int→(Int→Prop)→Prop} (N:Nat) (I:Nat→Prop) (h0:I 0)
    (step:∀ k (K:Int→Prop),k≤N→I k→(k<N→I (k+1)→K ((k:Int)+1))→body (k:Int) K):loopW body 0:=
  loopW.up (τ:=Unit) N id (fun k _=>(k:Int)) (fun _ _=>rfl) (fun k _=>I k) () rfl h0 fun k _ K hk hI h=>step k K hk hI fun hlt hI'=>by have:=h hlt () hI';simpa using this
theorem loopW.byM {σ:Type} {body:σ→(σ→Prop)→Prop} {s:σ} (I:σ→Prop) (m:σ→Nat) (h0:I s) (step:∀ s,I s→body s (fun s'=>I s'∧m s'<m s)):loopW body s:=⟨I,m,h0,step⟩
theorem at_lt {α:Type} [Inhabited α] {l:List α} {k:Nat} (h:k<l.length):at' l (k:Int)=l[k]:=by simp[at',h]
def idxs {α:Type} [Inhabited α] (l:List α) (p:α→Bool) (k:Nat):List Int:=((List.range k).filter fun i:Nat=>p (at' l (i:Int))).map fun i:Nat=>(i:Int)
section
variable {α:Type} [Inhabited α] (l:List α) (p:α→Bool)
theorem idxs_yes {k:Nat} (h:p (at' l (k:Int))=true):idxs l p (k+1)=idxs l p k++[(k:Int)]:=by simp[idxs,List.range_succ,h]
theorem idxs_no {k:Nat} (h:p (at' l (k:Int))=false):idxs l p (k+1)=idxs l p k:=by simp[idxs,List.range_succ,h]
theorem idxs_len (k:Nat):(idxs l p k).length≤k:=by
  have:=List.length_filter_le (fun i:Nat=>p (at' l (i:Int))) (List.range k)
  simpa[idxs] using this
end
end Go.Ab.Vg
/- The abstract machine, part Se: what is lent to a call by a pointer to a variable, or by a function value. -/
namespace Go.Ab
section
variable {H:Heap} {n:Nat} {K K':List OwnE} {ids:List Id}
theorem Sep.lasts {R K0 D:List OwnE} (h:Sep H n (R++(K0++D)) ids):Sep H n (D++(R++K0)) ids:=Sep.swap (K1:=R++K0) (by simpa using h)
theorem Sep.idm {A B C:List Id} (h:Sep H n K (A++(B++C))):Sep H n K (B++(A++C)):=Sep.sub h fun i hi=>by
  simp only[List.mem_append] at hi ⊢
  rcases hi with h | h | h
  · exact .inr (.inl h)
  · exact .inl h
  · exact .inr (.inr h)
end
section
variable {P:Program} {f:FuncId} {N:Nat} {k:List Item} {Q:AVal→Heap→Nat→Prop} {Ty:Types} {l:List Oper} {ρ:Env} {H:Heap} {n:Nat}
end
end Go.Ab
/- The abstract machine, part Sd: regions that draw their order, with a chain of operations that turn the heap; all other operations give the same whenever they come. -/
namespace Go.Ab
set_option linter.unusedSectionVars false
set_option linter.unusedVariables false
section
variable (P:Program) (N:Nat) (ops:Array Oper) (Stab:Heap→Nat→Prop) (hard:List Nat)
def lateC (j:Nat):Bool:=(List.range ops.size).all fun k=>hard.contains k || (behind ops k).contains j
def StepF (o:Oper) (s s':AS):Prop:=∃ v,s'=(s.1.put o.dst v,s.2)∧((gok ops o s.1=some true∧∀ H n,Stab H n→OpSem P N o (loc o.op s.1) H n (isV v H n))∨(gok ops o s.1=some false∧v=skv))
def AnyC (R:AS→Prop):Nat→Array Bool→AS→Prop
  | 0,listed,s=>Region.ready .any ops listed=[]∧R s
  | fuel+1,listed,s=>(Region.ready .any ops listed=[]→R s)∧∀ i ∈ Region.ready .any ops listed,∃ o,ops[i]?=some o ∧
      ((i ∉ hard∧Stab s.2.1 s.2.2∧∃ s',StepF P N ops Stab o s s'∧AnyC R fuel (listed.setIfInBounds i true) s') ∨
       (i ∈ hard∧gok ops o s.1=some true∧∃ post:AVal→Heap→Nat→Prop,OpSem P N o (loc o.op s.1) s.2.1 s.2.2 post∧∀ v H' n',post v H' n'→(lateC ops hard i=false→Stab H' n')∧AnyC R fuel (listed.setIfInBounds i true) (s.1.put o.dst v,H',n')))
inductive OrdT where
  | fin
  | stop
  | free (i:Nat) (t:OrdT)
  | hard (i:Nat) (t a:OrdT)
def OrdT.alts:OrdT→List Nat
  | .hard i _ a=>i::a.alts
  | _=>[]
def OrdT.depth:OrdT→Nat
  | .free _ t=>t.depth+1
  | .hard _ t a=>max (t.depth+1) a.depth
  | _=>0
def headT (t:OrdT) (listed:Array Bool):Bool:=match t with
  | .hard _ _ _ => !(Region.ready .any ops listed).isEmpty && (Region.ready .any ops listed).all fun i=>t.alts.contains i
  | .stop=>false
  | _=>true
def lexT:OrdT→Array Bool→Bool
  | .fin,listed=>(Region.ready .any ops listed).isEmpty
  | .stop,_=>true
  | .free i t,listed => !hard.contains i && (Region.ready .any ops listed).contains i && freeD (fun _=>0) ops listed i && headT ops t (listed.setIfInBounds i true) && lexT t (listed.setIfInBounds i true)
  | .hard i t a,listed=>hard.contains i && headT ops t (listed.setIfInBounds i true) && lexT t (listed.setIfInBounds i true) && lexT a listed
def HardT (R':AS→Prop) (i:Nat) (s:AS):Prop:=∃ o,ops[i]?=some o∧gok ops o s.1=some true∧∃ post:AVal→Heap→Nat→Prop,OpSem P N o (loc o.op s.1) s.2.1 s.2.2 post∧∀ v H' n',post v H' n'→(lateC ops hard i=false→Stab H' n')∧R' (s.1.put o.dst v,H',n')
def RunT (R:AS→Prop):OrdT→AS→Prop
  | .fin,s=>R s
  | .stop,_=>True
  | .free i t,s=>∃ o,ops[i]?=some o∧Stab s.2.1 s.2.2∧∃ s',StepF P N ops Stab o s s'∧RunT R t s'
  | .hard i t a,s=>HardT P N ops Stab hard (RunT R t) i s∧RunT R a s
def drawT (t:OrdT):Bool:=headT ops t (Array.replicate ops.size false) && lexT ops hard t (Array.replicate ops.size false) && decide (t.depth≤ops.size)
end
section
variable {P:Program} {N:Nat} {ops:Array Oper} {Stab:Heap→Nat→Prop} {hard:List Nat}
theorem AnyC.first {R:AS→Prop} {i:Nat} {oi:Oper} (hi:ops[i]?=some oi) (hih:i ∉ hard) (hD:∀ j oj,ops[j]?=some oj→j ∈ behind ops i→j ≠ i→∃ e ∈ oj.after,Region.binds .any e=true∧e.on ∈ behind ops i):∀ (fuel:Nat) (listed:Array Bool) (s s':AS),
    (∀ j ∈ behind ops i,listed.getD j true=false)→(∀ j oj,ops[j]?=some oj→j ≠ i→listed.getD j true=false→j ∉ behind ops i→oi.apart ops oj=true) →
    i ∈ Region.ready .any ops listed→Stab s.2.1 s.2.2→StepF P N ops Stab oi s s'→AnyC P N ops Stab hard R fuel (listed.setIfInBounds i true) s'→AnyC P N ops Stab hard R (fuel+1) listed s:=by
  intro fuel
  induction fuel with
  | zero=>
    intro listed s s' _ _ hr hS hst H
    refine⟨fun h=>(by rw[h] at hr;cases hr),fun j hj=>?_⟩
    by_cases hji:j=i
    · subst hji;exact⟨oi,hi,.inl ⟨hih,hS,s',hst,H⟩⟩
    · have:=ready_mono hj hji
      rw[H.1] at this
      cases this
  | succ fuel ih=>
    intro listed s s' hinv hfree hr hS hst H
    refine⟨fun h=>(by rw[h] at hr;cases hr),fun j hj=>?_⟩
    by_cases hji:j=i
    · subst hji;exact⟨oi,hi,.inl ⟨hih,hS,s',hst,H⟩⟩
    · obtain⟨oj,hoj,hbr⟩:=H.2 j (ready_mono hj hji)
      obtain⟨hjun,oj',hoj',hall⟩:=mem_ready.1 hj
      rw[hoj] at hoj'
      cases hoj'
      have hnot:j ∉ behind ops i:=fun hd=>by
        obtain⟨e,he,hb,hed⟩:=hD j oj hoj hd hji
        have h1:=hall e he hb
        have h0:=hinv e.on hed
        rcases Nat.lt_or_ge e.on listed.size with h' | h'
        · simp[h'] at h0 h1;rw[h0] at h1;cases h1
        · simp[Array.getElem?_eq_none h'] at h1
      obtain⟨h1,h2,h3⟩:=Oper.apart_spec (hfree j oj hoj hji hjun hnot)
      have hinv':∀ k ∈ behind ops i,(listed.setIfInBounds j true).getD k true=false:=fun k hk=>by
        have hjk:j ≠ k:=fun he=>hnot (he ▸ hk)
        rw[getD_set_ne true hjk]
        exact hinv k hk
      have hfree':∀ k ok,ops[k]?=some ok→k ≠ i→(listed.setIfInBounds j true).getD k true=false→k ∉ behind ops i→oi.apart ops ok=true:=fun k ok hk hki hun hno=>by
        refine hfree k ok hk hki ?_ hno
        by_cases hjk:j=k
        · subst hjk;exact hjun
        · rw[getD_set_ne true hjk] at hun;exact hun
      obtain⟨v,rfl,hv⟩:=hst
      have lj:∀ v,loc oj.op (s.1.put oi.dst v)=loc oj.op s.1:=fun v=>loc_put (looks_tmps h1)
      have li:∀ v,loc oi.op (s.1.put oj.dst v)=loc oi.op s.1:=fun v=>loc_put (looks_tmps h3)
      have gj:∀ v,gok ops oj (s.1.put oi.dst v)=gok ops oj s.1:=fun v=>gok_put h1
      have gi:∀ v,gok ops oi (s.1.put oj.dst v)=gok ops oi s.1:=fun v=>gok_put h3
      have hvi:∀ u,(gok ops oi (s.1.put oj.dst u)=some true∧∀ H n,Stab H n→OpSem P N oi (loc oi.op (s.1.put oj.dst u)) H n (isV v H n))∨(gok ops oi (s.1.put oj.dst u)=some false∧v=skv):=fun u=>by
        rw[gi,li]
        exact hv
      rcases hbr with ⟨hjh,_,s'',⟨u,rfl,hu⟩,hrest⟩ | ⟨hjh,hgj,post,hoq,hrest⟩
      · simp only[lj,gj] at hu
        refine⟨oj,hoj,.inl ⟨hjh,hS,_,⟨u,rfl,hu⟩,ih (listed.setIfInBounds j true) (s.1.put oj.dst u,s.2) ((s.1.put oj.dst u).put oi.dst v,s.2) hinv' hfree' (ready_mono hr (Ne.symm hji)) hS ⟨v,rfl,hvi u⟩ ?_⟩⟩
        rw[Array.setIfInBounds_comm _ _ hji,← put_comm v u h2]
        exact hrest
      · simp only[lj,gj] at hoq hgj
        refine⟨oj,hoj,.inr ⟨hjh,hgj,post,hoq,fun u H' n' hp=>?_⟩⟩
        obtain⟨hS',hrest'⟩:=hrest u H' n' hp
        refine⟨hS',?_⟩
        have hlate:lateC ops hard j=false:=by
          rw[Bool.eq_false_iff]
          intro hl
          have:=List.all_eq_true.1 hl i (List.mem_range.2 (Array.getElem?_eq_some_iff.1 hi).1)
          simp only[Bool.or_eq_true,List.contains_iff_mem] at this
          exact this.elim hih hnot
        refine ih (listed.setIfInBounds j true) (s.1.put oj.dst u,H',n') ((s.1.put oj.dst u).put oi.dst v,H',n') hinv' hfree' (ready_mono hr (Ne.symm hji)) (hS' hlate) ⟨v,rfl,hvi u⟩ ?_
        rw[Array.setIfInBounds_comm _ _ hji,← put_comm v u h2]
        exact hrest'
theorem RunT.alt {R:AS→Prop} {s:AS} {listed:Array Bool} {j:Nat}:∀ {t:OrdT},RunT P N ops Stab hard R t s→lexT ops hard t listed=true→j ∈ t.alts→j ∈ hard∧∃ t',t'.depth+1≤t.depth∧headT ops t' (listed.setIfInBounds j true)=true∧lexT ops hard t' (listed.setIfInBounds j true)=true∧HardT P N ops Stab hard (RunT P N ops Stab hard R t') j s
  | .hard i t a,h,hl,hj=>by
    simp only[lexT,Bool.and_eq_true,List.contains_iff_mem] at hl
    rcases List.mem_cons.1 hj with rfl | hj
    · exact⟨hl.1.1.1,t,by simp only[OrdT.depth];omega,hl.1.1.2,hl.1.2,h.1⟩
    · obtain⟨h1,t',h2,h3⟩:=RunT.alt (t:=a) h.2 hl.2 hj
      exact⟨h1,t',by simp only[OrdT.depth];omega,h3⟩
  | .fin,_,_,hj=>by cases hj
  | .stop,_,_,hj=>by cases hj
  | .free _ _,_,_,hj=>by cases hj
theorem AnyC.none {R:AS→Prop} {fuel:Nat} {listed:Array Bool} {s:AS} (h:Region.ready .any ops listed=[]) (hR:R s):AnyC P N ops Stab hard R fuel listed s:=by
  cases fuel with
  | zero=>exact⟨h,hR⟩
  | succ fuel=>exact⟨fun _=>hR,fun i hi=>by rw[h] at hi;cases hi⟩
theorem AnyC.lex {R:AS→Prop}:∀ (fuel:Nat) (t:OrdT) (listed:Array Bool) (s:AS),t.depth≤fuel→headT ops t listed=true→lexT ops hard t listed=true→RunT P N ops Stab hard R t s→AnyC P N ops Stab hard R fuel listed s
  | _,.fin,listed,s,_,_,hB,h=>AnyC.none (by simpa[lexT] using hB) h
  | _,.stop,_,_,_,hh,_,_=>by cases hh
  | 0,.free i t,_,_,hd,_,_,_=>by simp[OrdT.depth] at hd
  | fuel+1,.free i t,listed,s,hd,_,hB,⟨o,ho,hS,s',hst,hrest⟩=>by
    simp only[lexT,Bool.and_eq_true,Bool.not_eq_true',List.contains_iff_mem] at hB
    obtain⟨⟨⟨⟨h1,h2⟩,h3⟩,h4⟩,h5⟩:=hB
    obtain⟨f1,f2,f3⟩:=freeD_spec ho h3
    exact AnyC.first ho (by simpa using h1) f1 fuel listed s s' f2 (fun j oj h1 h2 h3 h4=>(f3 j oj h1 h2 h3 h4).1) h2 hS hst (AnyC.lex fuel t _ _ (by simp only[OrdT.depth] at hd;omega) h4 h5 hrest)
  | 0,.hard i t a,_,_,hd,_,_,_=>by simp only[OrdT.depth] at hd;omega
  | fuel+1,.hard i t a,listed,s,hd,hh,hB,h=>by
    simp only[headT,Bool.and_eq_true,Bool.not_eq_true',List.isEmpty_eq_false_iff] at hh
    refine⟨fun h=>absurd h hh.1,fun j hj=>?_⟩
    have hja:j ∈ (OrdT.hard i t a).alts:=by
      have:=List.all_eq_true.1 hh.2 j hj
      simpa using this
    obtain⟨hjh,t',hd',h1,h2,o,ho,hg,post,hop,hrest⟩:=RunT.alt h hB hja
    exact⟨o,ho,.inr ⟨hjh,hg,post,hop,fun v H' n' hp=>⟨(hrest v H' n' hp).1,AnyC.lex fuel t' _ _ (by omega) h1 h2 (hrest v H' n' hp).2⟩⟩⟩
theorem AnyC.sound {R:AS→Prop} (hN:ops.toList.all (fun o=>dok N o.dst)=true) {Q:Exit→Act→World→Prop} {c0:Ctx} (hQ:∀ a c ρ,Keeps c0 c→Good c→RelE N c ρ a→R (ρ,c.H,c.n)→Q .normal a c.w) :
    ∀ (fuel:Nat) (listed:Array Bool) (ρ:Env) (c:Ctx) (a:Act),Keeps c0 c→Good c→RelE N c ρ a→AnyC P N ops Stab hard R fuel listed (ρ,c.H,c.n)→wpAny P .any ops Q fuel listed a c.w
  | 0,_,_,_,_,hk,g,r,h=>⟨h.1,hQ _ _ _ hk g r h.2⟩
  | fuel+1,listed,ρ,c,a,hk,g,r,h=>by
    refine⟨fun h0=>hQ _ _ _ hk g r (h.1 h0),fun i hi=>?_⟩
    obtain⟨o,ho,hbr⟩:=h.2 i hi
    have hd:dok N o.dst=true:=List.all_eq_true.1 hN o (by rw[← Array.getElem?_toList] at ho;exact List.mem_of_getElem? ho)
    unfold wpOp
    simp only[ho]
    rcases hbr with ⟨_,hS,s',⟨v,rfl,⟨hg,hop⟩ | ⟨hg,rfl⟩⟩,hrest⟩ | ⟨_,hg,post,hop,hrest⟩
    · rw[if_pos (wanted_of_gok r hN hg)]
      refine .inl (hop c.H c.n hS c a rfl rfl g (r.loc o.op) _ _ ?_)
      rintro v1 x c' ⟨rfl,hH,hn⟩ hrep hgood hkeep
      exact AnyC.sound hN hQ fuel _ _ c' _ (hk.trans hkeep) hgood ((r.keeps hkeep).put hd hrep) (by rw[hH,hn];exact hrest)
    · rw[if_neg (by rw[wanted_of_gok r hN hg];simp)]
      exact AnyC.sound hN hQ fuel _ _ c _ hk g (r.put hd (.v _)) hrest
    · rw[if_pos (wanted_of_gok r hN hg)]
      refine .inl (hop c a rfl rfl g (r.loc o.op) _ _ ?_)
      rintro v1 x c' hpost hrep hgood hkeep
      exact AnyC.sound hN hQ fuel _ _ c' _ (hk.trans hkeep) hgood ((r.keeps hkeep).put hd hrep) (hrest v1 c'.H c'.n hpost).2
end
section
variable {P:Program} {f:FuncId} {N:Nat} {k:List Item} {ρ:Env} {H:Heap} {n:Nat} {Q:AVal→Heap→Nat→Prop}
def atS (J:Env→Heap→Nat→Prop):AS→Prop:=fun s=>J s.1 s.2.1 s.2.2
theorem Runs.drawC (Stab:Heap→Nat→Prop) (hard:List Nat) (t:OrdT) (J:Env→Heap→Nat→Prop) {id:Nat} {ops:List Oper} (hm:P.follows .mixedOrders=true) (hN:ops.all (fun o=>dok N o.dst)=true) (hB:Ab.drawT ops.toArray hard t=true)
    (h:RunT P N ops.toArray Stab hard (atS J) t (ρ,H,n)) (hR:∀ ρ H n,J ρ H n→Runs P f N k ρ H n Q):Runs P f N (.code (.region id ops.toArray true)::k) ρ H n Q:=by
  intro c a hH hn g r b cs hf hk
  subst hH
  subst hn
  obtain⟨d1,d2⟩:=draw_keeps g
  simp only[Ab.drawT,Bool.and_eq_true,decide_eq_true_eq] at hB
  have hany:=AnyC.lex (P:=P) (N:=N) (Stab:=Stab) (hard:=hard) (ops:=ops.toArray) ops.toArray.size t (Array.replicate ops.toArray.size false) (ρ,c.H,c.n) hB.2 hB.1.1 hB.1.2 h
  have hw:(Code.region id ops.toArray true).wp P (fun e a' w'=>e = .normal∧∃ c' ρ',c'.w=w'∧Keeps c c'∧Good c'∧RelE N c' ρ' a'∧Runs P f N k ρ' c'.H c'.n Q) a c.w:=by
    refine wp_region_any hm ?_
    have:=AnyC.sound (P:=P) (N:=N) (Stab:=Stab) (hard:=hard) (ops:=ops.toArray) (c0:=c) (by simpa using hN) (Q:=fun e a' w'=>e = .normal∧∃ c' ρ',c'.w=w'∧Keeps c c'∧Good c'∧RelE N c' ρ' a'∧Runs P f N k ρ' c'.H c'.n Q)
      (R:=atS J) (fun a' c' ρ' hk' hg' hr' hR'=>⟨rfl,c',ρ',rfl,hk',hg',hr',hR _ _ _ hR'⟩) ops.toArray.size (Array.replicate ops.toArray.size false) ρ { c with w:={ c.w with drawn:=c.w.drawn+1 } } a d1 d2 (r.keeps d1) hany
    simpa using this
  obtain⟨e,a',w',⟨rfl,c',ρ',rfl,hk',hg',hr',hR⟩,harr⟩:=hw b k cs
  obtain⟨x,v,c'',fr,q,hr,hg,hke,hst,rest⟩:=hR c' a' rfl rfl hg' hr' b cs hf hk
  exact⟨x,v,c'',fr,q,hr,hg,hk'.trans hke,Steps.trans harr hst,rest⟩
theorem Runs.seqC (Stab:Heap→Nat→Prop) (hard:List Nat) (t:OrdT) (J:Env→Heap→Nat→Prop) {id:Nat} {ops:List Oper} {y:Code} (hm:P.follows .mixedOrders=true) (hN:ops.all (fun o=>dok N o.dst)=true) (hB:Ab.drawT ops.toArray hard t=true)
    (h:RunT P N ops.toArray Stab hard (atS J) t (ρ,H,n)) (hR:∀ ρ H n,J ρ H n→Runs P f N (.code y::k) ρ H n Q):Runs P f N (.code (.seq (.region id ops.toArray true) y)::k) ρ H n Q:=
  Runs.seq (Runs.drawC Stab hard t J hm hN hB h hR)
end
section
variable {P:Program} {N:Nat} {ops:Array Oper} {Stab:Heap→Nat→Prop} {hard:List Nat} {R:AS→Prop} {ρ:Env} {H:Heap} {n:Nat} {i:Nat} {l:OrdT} {Ty:Types}
theorem RunT.fin {J:Env→Heap→Nat→Prop} (h:J ρ H n):RunT P N ops Stab hard (atS J) .fin (ρ,H,n):=h
theorem RunT.free {o:Oper} (v:AVal) (ho:ops.toList[i]?=some o) (hg:gok ops o ρ=some true) (hS:Stab H n) (hop:∀ H n,Stab H n→OpSem P N o (loc o.op ρ) H n (isV v H n)) (h:RunT P N ops Stab hard R l (ρ.put o.dst v,H,n)):RunT P N ops Stab hard R (.free i l) (ρ,H,n):=
  ⟨o,by rw[← Array.getElem?_toList];exact ho,hS,_,⟨v,rfl,.inl ⟨hg,hop⟩⟩,h⟩
theorem RunT.heavy {o:Oper} (post:AVal→Heap→Nat→Prop) (ho:ops.toList[i]?=some o) (hg:gok ops o ρ=some true) (hop:OpSem P N o (loc o.op ρ) H n post) (h:∀ v H' n',post v H' n'→(lateC ops hard i=false→Stab H' n')∧RunT P N ops Stab hard R l (ρ.put o.dst v,H',n')):HardT P N ops Stab hard (RunT P N ops Stab hard R l) i (ρ,H,n):=
  ⟨o,by rw[← Array.getElem?_toList];exact ho,hg,post,hop,h⟩
theorem RunT.step (hT:TypesOk P Ty) {o:Oper} {v:AVal} {H':Heap} {n':Nat} (ho:ops.toList[i]?=some o) (hg:gok ops o ρ=some true) (hs:stepF Ty o.dst o.op ρ H n=some (v,H',n')) (hS:lateC ops hard i=false→Stab H' n') (h:RunT P N ops Stab hard R l (ρ.put o.dst v,H',n')):HardT P N ops Stab hard (RunT P N ops Stab hard R l) i (ρ,H,n):=
  RunT.heavy (isV v H' n') ho hg (stepF_ok hT (by rw[stepF_loc];exact hs)) (by rintro _ _ _ ⟨rfl,rfl,rfl⟩;exact⟨hS,h⟩)
theorem RunT.same (hT:TypesOk P Ty) {o:Oper} {v:AVal} (ho:ops.toList[i]?=some o) (hg:gok ops o ρ=some true) (hs:stepF Ty o.dst o.op ρ H n=some (v,H,n)) (hS:lateC ops hard i=false→Stab H n) (h:RunT P N ops Stab hard R l (ρ.put o.dst v,H,n)):HardT P N ops Stab hard (RunT P N ops Stab hard R l) i (ρ,H,n):=
  RunT.step hT ho hg hs hS h
theorem loc_argsC {d:Operand} {args:Array Operand} {ats:Array TypeId}:args.toList.map (loc (.call ⟨.value d,args,ats⟩) ρ).ev=args.toList.map ρ.ev∧(loc (.call ⟨.value d,args,ats⟩) ρ).ev d=ρ.ev d:=
  ⟨List.map_congr_left fun x hx=>loc_ev (by simp[Op.operands,Call.operands];exact .inr (by simpa using hx)),loc_ev (by simp[Op.operands,Call.operands])⟩
end
end Go.Ab
/- The abstract machine, part Dr: functions that draw from a cursor: a variable of the caller's that they turn, beside what they give. -/
namespace Go.Ab
set_option linter.unusedSectionVars false
def DrawS (P:Program) (f:FuncId) (args:AVal→List AVal) {σ:Type} (sz:Nat) (C:σ→List AVal) (s:σ) (M:List OwnE) (h:Sh) (Y:σ→AVal→Prop):Prop:=
  ∀ (X:Id) (H:Heap) (n:Nat) (K:List OwnE) (ids:List Id),H X=some ⟨sz,[C s]⟩→X ∉ ids→Sep H n (M++K) (X::ids)→CallsA P f (args (.ptr X 1 0 0)) H n fun r H1 n1=>∃ s' e,Y s' e∧H1 X=some ⟨sz,[C s']⟩∧Sep H1 n1 ((h,r,e)::K) (X::ids)∧(∀ i ∈ ids,H1 i=H i)∧n≤n1
theorem DrawS.mono {P:Program} {f:FuncId} {args:AVal→List AVal} {σ:Type} {sz:Nat} {C:σ→List AVal} {s:σ} {M:List OwnE} {h:Sh} {Y Y':σ→AVal→Prop} (hc:DrawS P f args sz C s M h Y) (hy:∀ s' r,Y s' r→Y' s' r):DrawS P f args sz C s M h Y':=fun X H n K ids h1 h2 h3=>
  CallsA.mono (hc X H n K ids h1 h2 h3) fun _ _ _ ⟨s',e,q1,q2⟩=>⟨s',e,hy _ _ q1,q2⟩
theorem DrawS.of {P:Program} {f:FuncId} {fn:Func} {body:Code} {args:AVal→List AVal} {σ:Type} {sz:Nat} {C:σ→List AVal} {s:σ} {M:List OwnE} {h:Sh} {Y:σ→AVal→Prop} {N:Nat} (hfn:P.funcs[f]?=some fn) (hb:fn.body=some body) (hn:fn.ntmps=N) (hN:∀ v,(args v).length≤N)
    (hq:∀ (X:Id) (H0:Heap) (n0:Nat) (K0:List OwnE) (ids0:List Id),H0 X=some ⟨sz,[C s]⟩→X ∉ ids0→Sep H0 n0 (M++K0) (X::ids0)→∀ Q:AVal→Heap→Nat→Prop,(∀ r H1 n1 s' e,H1 X=some ⟨sz,[C s']⟩→Sep H1 n1 ((h,r,e)::K0) (X::ids0)→(∀ i ∈ ids0,H1 i=H0 i)→n0≤n1→Y s' e→Q r H1 n1)→Runs P f N [.code body] (argEnv (args (.ptr X 1 0 0))) H0 n0 Q) :
    DrawS P f args sz C s M h Y:=fun X H n K ids h1 h2 h3=>
  CallsA.of hfn hb hn (hN _) fun Q hQ=>hq X H n K ids h1 h2 h3 Q fun r H1 n1 s' e q1 q2 q3 q4 q5=>hQ r H1 n1 ⟨s',e,q5,q1,q2,q3,q4⟩
section
variable {P:Program} {f:FuncId} {N:Nat} {k:List Item} {Q:AVal→Heap→Nat→Prop} {Ty:Types} {l:List Oper} {ρ:Env} {H:Heap} {n:Nat}
theorem OpSem.callDr {d:Option Tmp} {g:Operand} {args:Array Operand} {ats:Array TypeId} {ty:TypeId} {pos:String} {af:Array Edge} {gu:Option (Nat × Bool)} {f':FuncId} {argf:AVal→List AVal} {xsA:List AVal} {σ:Type} {sz:Nat} {C:σ→List AVal} {s:σ} {M K0:List OwnE} {h0:Sh} {Y:σ→AVal→Prop} {X:Id} {A B:List Id}
    (h:DrawS P f' argf sz C s M h0 Y) (hsub:SubL xsA (argf (.ptr X 1 0 0))) (hent:Ent P f') (hm:H X=some ⟨sz,[C s]⟩) (hw:X ∉ A++B) (hs:Sep H n (M++K0) (A++(X::B))) (hg:ρ.ev g = .fn (.func f') [] []) (has:args.toList.map ρ.ev=xsA) :
    OpSem P N ⟨d,.call ⟨.value g,args,ats⟩,ty,pos,af,gu⟩ ρ H n fun r H1 n1=>∃ s' e,Y s' e∧H1 X=some ⟨sz,[C s']⟩∧Sep H1 n1 ((h0,r,e)::K0) (A++(X::B))∧(∀ i ∈ A++B,H1 i=H i)∧n≤n1:=by
  have hs':Sep H n (M++K0) (X::(A++B)):=Sep.idm (A:=A) (B:=[X]) (C:=B) hs
  refine (OpSem.call (first:=[]) (captured:=[]) hg hent (by rw[has,List.nil_append,List.append_nil];exact CallsA.sub hsub (h X H n K0 (A++B) hm hw hs'))).mono ?_
  rintro r H1 n1 ⟨s',e,h1,h2,h3,h4,h5⟩
  exact⟨s',e,h1,h2,Sep.idm (A:=[X]) (B:=A) (C:=B) h3,h4,h5⟩
theorem RunK.callDr (hT:TypesOk P Ty) {d:Option Tmp} {g:Operand} {args:Array Operand} {ats:Array TypeId} {ty:TypeId} {pos:String} {af:Array Edge} {f':FuncId} {ops:List Oper} {argf:AVal→List AVal} {xsA:List AVal} {σ:Type} {sz:Nat} {C:σ→List AVal} {s:σ} {M K0:List OwnE} {h0:Sh} {Y:σ→AVal→Prop} {X:Id} {A B:List Id}
    (h:DrawS P f' argf sz C s M h0 Y) (hsub:SubL xsA (argf (.ptr X 1 0 0))) (hent:Ent P f') (hm:H X=some ⟨sz,[C s]⟩) (hw:X ∉ A++B) (hs:Sep H n (M++K0) (A++(X::B)))
    (hN:ops.all (fun o=>dok N o.dst)=true) (hl:(⟨d,.call ⟨.value g,args,ats⟩,ty,pos,af,none⟩::l:List Oper).all (fun o=>dok N o.dst)=true) (hg:ρ.ev g = .fn (.func f') [] []) (has:args.toList.map ρ.ev=xsA)
    (hk:∀ r H1 n1 s' e,Y s' e→H1 X=some ⟨sz,[C s']⟩→Sep H1 n1 ((h0,r,e)::K0) (A++(X::B))→n≤n1→(∀ i ∈ A++B,H1 i=H i)→evalK P f N k Q Ty ops.toArray l (ρ.put d r) H1 n1) :
    RunK P f N k Q ops.toArray (⟨d,.call ⟨.value g,args,ats⟩,ty,pos,af,none⟩::l) ρ H n:=
  RunK.op hT hN hl rfl (OpSem.callDr h hsub hent hm hw hs hg has) fun r H' n' ⟨s',e,h1,h2,h3,h4,h5⟩=>hk r H' n' s' e h1 h2 h3 h5 h4
theorem RunK.callDr2 (hT:TypesOk P Ty) {d:Option Tmp} {g:Operand} {args:Array Operand} {ats:Array TypeId} {ty:TypeId} {pos:String} {af:Array Edge} {f':FuncId} {ops:Array Oper} {argf:AVal→List AVal} {xsA:List AVal} {σ:Type} {sz:Nat} {C:σ→List AVal} {s:σ} {M K0:List OwnE} {h0:Sh} {Y:σ→AVal→Prop} {X:Id} {A B:List Id}
    (h:DrawS P f' argf sz C s M h0 Y) (hsub:SubL xsA (argf (.ptr X 1 0 0))) (hent:Ent P f') (hm:H X=some ⟨sz,[C s]⟩) (hw:X ∉ A++B) (hs:Sep H n (M++K0) (A++(X::B)))
    (hd:dok N d=true) (hg:ρ.ev g = .fn (.func f') [] []) (has:args.toList.map ρ.ev=xsA)
    (hk:∀ r H1 n1 s' e,Y s' e→H1 X=some ⟨sz,[C s']⟩→Sep H1 n1 ((h0,r,e)::K0) (A++(X::B))→n≤n1→(∀ i ∈ A++B,H1 i=H i)→RunK P f N k Q ops l (ρ.put d r) H1 n1) :
    RunK P f N k Q ops (⟨d,.call ⟨.value g,args,ats⟩,ty,pos,af,none⟩::l) ρ H n:=
  RunO.op rfl hd ((OpSem.callDr h hsub hent hm hw hs hg has).mono fun r H' n' ⟨s',e,h1,h2,h3,h4,h5⟩=>hk r H' n' s' e h1 h2 h3 h5 h4)
end
section
variable {P:Program} {N:Nat} {ops:Array Oper} {Stab:Heap→Nat→Prop} {hard:List Nat} {R:AS→Prop} {l:OrdT} {i:Nat} {ρ:Env} {H:Heap} {n:Nat}
theorem RunT.callDr {d:Option Tmp} {g:Operand} {args:Array Operand} {ats:Array TypeId} {ty:TypeId} {pos:String} {af:Array Edge} {gu:Option (Nat × Bool)} {f':FuncId} {argf:AVal→List AVal} {xsA:List AVal} {σ:Type} {sz:Nat} {C:σ→List AVal} {s:σ} {M K0:List OwnE} {h0:Sh} {Y:σ→AVal→Prop} {X:Id} {A B:List Id}
    (ho:ops.toList[i]?=some ⟨d,.call ⟨.value g,args,ats⟩,ty,pos,af,gu⟩) (hgu:gok ops ⟨d,.call ⟨.value g,args,ats⟩,ty,pos,af,gu⟩ ρ=some true) (h:DrawS P f' argf sz C s M h0 Y) (hsub:SubL xsA (argf (.ptr X 1 0 0))) (hent:Ent P f') (hm:H X=some ⟨sz,[C s]⟩) (hw:X ∉ A++B) (hs:Sep H n (M++K0) (A++(X::B)))
    (hg:ρ.ev g = .fn (.func f') [] []) (has:args.toList.map ρ.ev=xsA)
    (hk:∀ r H1 n1 s' e,Y s' e→H1 X=some ⟨sz,[C s']⟩→Sep H1 n1 ((h0,r,e)::K0) (A++(X::B))→n≤n1→(∀ i ∈ A++B,H1 i=H i)→(lateC ops hard i=false→Stab H1 n1)∧RunT P N ops Stab hard R l (ρ.put d r,H1,n1)) :
    HardT P N ops Stab hard (RunT P N ops Stab hard R l) i (ρ,H,n):=
  RunT.heavy (fun r H1 n1=>∃ s' e,Y s' e∧H1 X=some ⟨sz,[C s']⟩∧Sep H1 n1 ((h0,r,e)::K0) (A++(X::B))∧(∀ i ∈ A++B,H1 i=H i)∧n≤n1) ho hgu (OpSem.callDr (xsA:=xsA) h hsub hent hm hw hs (loc_argsC.2.trans hg) (loc_argsC.1.trans has)) fun r H' n' ⟨s',e,h1,h2,h3,h4,h5⟩=>hk r H' n' s' e h1 h2 h3 h5 h4
end
theorem Runs.short {P:Program} {f:FuncId} {N:Nat} {k:List Item} {ρ ρ':Env} {H:Heap} {n:Nat} {Q:AVal→Heap→Nat→Prop} {id:Id} {sz m d:Nat} {rows:List (List AVal)} (hid:H id=some ⟨sz,rows⟩) (hm:m≤rows.length)
    (hρ:∀ t,ρ' t=ρ t∨(ρ t = .arr id rows.length 0 m∧ρ' t = .arr (n,d) m 0 m)) (h:Runs P f N k ρ' (fun j=>if j=(n,d) then some ⟨sz,rows.take m⟩ else if j=id then none else H j) (n+1) Q):Runs P f N k ρ H n Q:=by
  intro c a hH hn g r b cs hf hk
  subst hH hn
  have hne:id ≠ (c.n,d):=fun he=>by have:=g.stamp _ _ hid;rw[he] at this;simp at this
  let c2:Ctx:={ c with β:=fun j=>if j=(c.n,d) then c.β id else c.β j,H:=fun j=>if j=(c.n,d) then some ⟨sz,rows.take m⟩ else if j=id then none else c.H j,n:=c.n+1 }
  have hdom:∀ i o,c2.H i=some o→(i=(c.n,d)∧o=⟨sz,rows.take m⟩∧c2.β i=c.β id)∨(i ≠ (c.n,d)∧i ≠ id∧c.H i=some o∧c2.β i=c.β i):=by
    intro i o ho
    simp only[c2] at ho ⊢
    split at ho
    · rename_i he;cases ho;exact .inl ⟨he,rfl,by rw[if_pos he]⟩
    · rename_i he
      split at ho
      · cases ho
      · rename_i h2;exact .inr ⟨he,h2,ho,by rw[if_neg he]⟩
  have k2:Keeps c c2:=by
    refine⟨Nat.le_succ _,rfl,Nat.le_refl _,rfl,rfl,rfl,fun k hk hm=>⟨rfl,?_⟩,fun i o' ho hi=>?_⟩
    · rintro⟨i,o,ho,hb⟩
      rcases hdom i o ho with ⟨_,_,q⟩ | ⟨_,_,q1,q2⟩
      · exact hm ⟨id,_,hid,q.symm.trans hb⟩
      · exact hm ⟨i,o,q1,q2.symm.trans hb⟩
    · rcases hdom i o' ho with ⟨rfl,_,_⟩ | ⟨_,_,q1,q2⟩
      · simp at hi
      · exact⟨o',q1,rfl,Nat.le_refl _,fun _=>⟨q2,fun cl el fz h=>⟨cl,el,fz,h,Nat.le_refl _⟩⟩⟩
  have g2:Good c2:=by
    refine⟨fun i o ho=>?_,fun i i' o o' ho ho' hb=>?_,g.Bsize,fun i o ho=>?_,g.tabOn k2⟩
    · rcases hdom i o ho with ⟨rfl,_,_⟩ | ⟨_,_,q1,q2⟩
      · exact Nat.lt_succ_self _
      · exact Nat.lt_succ_of_lt (g.stamp i o q1)
    · rcases hdom i o ho with ⟨rfl,_,e1⟩ | ⟨_,n1,q1,e1⟩<;>rcases hdom i' o' ho' with ⟨rfl,_,e2⟩ | ⟨_,n2,q2,e2⟩
      · rfl
      · exact absurd (g.inj id i' _ _ hid q2 (e1.symm.trans (hb.trans e2))).symm n2
      · exact absurd (g.inj i id _ _ q1 hid (e1.symm.trans (hb.trans e2))) n1
      · exact g.inj i i' _ _ q1 q2 (e1.symm.trans (hb.trans e2))
    · rcases hdom i o ho with ⟨rfl,rfl,e1⟩ | ⟨_,_,q1,e1⟩
      · obtain⟨p1,cl,el,p2,p3,p4⟩:=g.obj id _ hid
        refine⟨by rw[e1];exact p1,cl,el,by rw[e1];exact p2,Nat.le_trans (Nat.mul_le_mul_right _ (by simp;omega)) p3,fun i e he=>?_⟩
        have he':rows[i]?=some e:=by
          simp only[List.getElem?_take] at he
          split at he
          · exact he
          · cases he
        refine⟨(p4 i e he').1,fun j a ha=>?_⟩
        obtain⟨x,hx,hr⟩:=(p4 i e he').2 j a ha
        exact⟨x,hx,hr.keeps k2⟩
      · obtain⟨p1,cl,el,p2,p3,p4⟩:=g.obj i o q1
        refine⟨by rw[e1];exact p1,cl,el,by rw[e1];exact p2,p3,fun i e he=>⟨(p4 i e he).1,fun j a ha=>?_⟩⟩
        obtain⟨x,hx,hr⟩:=(p4 i e he).2 j a ha
        exact⟨x,hx,hr.keeps k2⟩
  have r2:RelE N c2 ρ' a:=⟨r.defers,r.size,fun t=>by
    rcases hρ t with q | ⟨q1,q2⟩
    · rw[q];exact (r.rep t).keeps k2
    · have hr:=r.rep t
      rw[q1] at hr
      rw[q2]
      cases hr with
      | arr _ _ _ _ _ h1 hn hg h=>
        obtain⟨s1,b,cap,s2,s3,s4,s5,s6,s7⟩:=h _ hid rfl
        refine .arr _ _ _ _ _ h1 (Nat.lt_succ_self _) (fun o ho=>?_) (fun o ho _=>?_)
        · rcases hdom _ o ho with ⟨_,rfl,_⟩ | ⟨q,_⟩
          · simp;omega
          · exact absurd rfl q
        · rcases hdom _ o ho with ⟨_,rfl,e1⟩ | ⟨q,_⟩
          · exact⟨by omega,b,cap,s2,by rw[e1];exact s3,s4,s5,s6,fun cl el fz hc=>s7 cl el fz (by rw[e1] at hc;exact hc)⟩
          · exact absurd rfl q⟩
  obtain⟨x,v,c',fr,q,hr',hg,hke,rest⟩:=h c2 a rfl rfl g2 r2 b cs hf hk
  exact⟨x,v,c',fr,q,hr',hg,k2.trans hke,rest⟩
theorem rowsP.get {R:List AVal→List AVal→List Id→Prop}:∀ {as1 bs:List (List AVal)} {S:List Id},rowsP R as1 bs S→∀ (i:Nat) (f:List AVal),bs[i]?=some f→∃ e T,as1[i]?=some e∧R e f T∧∀ j ∈ T,j ∈ S
  | [],[],_,_,i,f,hi=>by simp at hi
  | e::es,b::bs,S,⟨T1,T2,h1,h2,h3,_⟩,i,f,hi=>by
    cases i with
    | zero=>simp at hi;subst hi;exact⟨e,T1,rfl,h1,fun j hj=>by simp[h3,hj]⟩
    | succ i=>
      obtain⟨e',T,p1,p2,p3⟩:=rowsP.get h2 i f (by simpa using hi)
      exact⟨e',T,by simpa using p1,p2,fun j hj=>by simp[h3,p3 j hj]⟩
  | [],_::_,_,h,_,_,_=>h.elim
  | _::_,[],_,h,_,_,_=>h.elim
def Ctx.less (c:Ctx) (S:List Id):Ctx:={ c with H:=fun j=>if j ∈ S then none else c.H j }
theorem less_some {c:Ctx} {S:List Id} {i:Id} {o:Ob} (h:(c.less S).H i=some o):i ∉ S∧c.H i=some o:=by
  simp only[Ctx.less] at h
  split at h
  · cases h
  · rename_i q;exact⟨q,h⟩
theorem Keeps.less (c:Ctx) (S:List Id):Keeps c (c.less S):=by
  refine⟨Nat.le_refl _,rfl,Nat.le_refl _,rfl,rfl,rfl,fun k hk hm=>⟨rfl,?_⟩,fun i o' ho hi=>?_⟩
  · rintro⟨i,o,ho,hb⟩
    exact hm ⟨i,o,(less_some ho).2,hb⟩
  · exact⟨o',(less_some ho).2,rfl,Nat.le_refl _,fun _=>⟨rfl,fun cl el fz h=>⟨cl,el,fz,h,Nat.le_refl _⟩⟩⟩
theorem Good.less {c:Ctx} (g:Good c) (S:List Id):Good (c.less S):=by
  refine⟨fun i o ho=>g.stamp i o (less_some ho).2,fun i i' o o' ho ho' hb=>g.inj i i' o o' (less_some ho).2 (less_some ho').2 hb,g.Bsize,fun i o ho=>?_,g.tabOn (Keeps.less c S)⟩
  obtain⟨p1,cl,el,p2,p3,p4⟩:=g.obj i o (less_some ho).2
  refine⟨p1,cl,el,p2,p3,fun i e he=>⟨(p4 i e he).1,fun j a ha=>?_⟩⟩
  obtain⟨x,hx,hr⟩:=(p4 i e he).2 j a ha
  exact⟨x,hx,hr.keeps (Keeps.less c S)⟩
mutual
theorem Tr.less {c:Ctx} (g:Good c) {S:List Id}:∀ {h:Sh} {a b:AVal} {T:List Id} {x:Value},Tr c.H h a b T→(∀ i ∈ T,i ∈ S)→Rep c a x→Rep (c.less S) b x
  | .c,a,b,T,x,h,_,hr=>by
    simp only[Tr] at h
    obtain⟨rfl,_,_⟩:=h
    exact hr.keeps (Keeps.less c S)
  | .s l,a,b,T,x,h,hT,hr=>by
    simp only[Tr] at h
    rcases h with ⟨rfl,rfl,_⟩ | ⟨id,els,es,U,rfl,rfl,hid,hrow,_,rfl⟩
    · cases hr with
      | v _=>exact .lnil true
    · cases hr with
      | arr _ _ _ _ _ h1 hn hg hs=>
        obtain⟨_,b,cap,rfl,s3,s4,s5,s6,s7⟩:=hs _ hid rfl
        obtain⟨p1,cl,el,p2,p3,p4⟩:=g.obj id _ hid
        have hl:=hrow.len
        have hnm:¬ (c.less S).mu b.block:=by
          rintro⟨i,o,ho,hb⟩
          obtain⟨q1,q2⟩:=less_some ho
          exact q1 (by rw[g.inj i id o _ q2 hid (hb.trans s3)];exact hT _ (by simp))
        have hrows:∀ (i:Nat) (f:List AVal),es[i]?=some f→f.length=l.length∧∀ (j:Nat) (y:AVal),f[j]?=some y→∃ z,cl[i * l.length+j]?=some z∧Rep (c.less S) y z:=by
          intro i f hf
          obtain⟨e,T1,q1,q2,q3⟩:=hrow.get i f hf
          obtain⟨r1,r2⟩:=p4 i e q1
          obtain⟨t1,t2⟩:=Row.less g (S:=S) q2 (fun j hj=>hT j (by simp[q3 j hj]))
          refine⟨by rw[← t1];exact r1,fun j y hy=>?_⟩
          have hj:j<e.length:=by rw[t1];exact (List.getElem?_eq_some_iff.1 hy).1
          obtain⟨z,hz,hrz⟩:=r2 j e[j] (List.getElem?_eq_getElem hj)
          exact⟨z,hz,t2 j _ _ z (List.getElem?_eq_getElem hj) hy hrz⟩
        have key:=Rep.list (c:=c.less S) true es b cap l.length (fun i j=>(cl[i * l.length+j]?).getD default) (fun _=>s4) (by rw[← hl];exact s5) (fun _=>⟨hnm,by rw[s3];exact g.lt hid,fun _=>by rw[s3];exact p1⟩) (fun i f hf=>(hrows i f hf).1)
          (fun i f j y hf hy=>by
            obtain⟨z,hz,_⟩:=(hrows i f hf).2 j y hy
            have hoff:b.off=0:=by
              rcases s6 with q | q
              · simpa using q
              · have:0<es.length:=by have:=(List.getElem?_eq_some_iff.1 hf).1;omega
                omega
            show c.w.cell? ⟨b.block,b.off+(i * l.length+j),none⟩=_
            rw[hoff,s3,Nat.zero_add]
            simp[World.cell?,p2,hz])
          (fun i f j y hf hy=>by
            obtain⟨z,hz,hrz⟩:=(hrows i f hf).2 j y hy
            simp only[hz,Option.getD_some]
            exact hrz)
        rw[← hl] at key
        exact key
  | .a l,a,b,T,x,h,hT,hr=>by
    simp only[Tr] at h
    obtain⟨as1,bs,rfl,rfl,hrow⟩:=h
    obtain⟨t1,t2⟩:=Row.less g (S:=S) hrow hT
    cases hr with
    | agg _ vs hl hv=>
      refine .agg bs vs (by rw[← t1];exact hl) fun i b x hb hx=>?_
      have hi:i<as1.length:=by rw[t1];exact (List.getElem?_eq_some_iff.1 hb).1
      exact t2 i _ b x (List.getElem?_eq_getElem hi) hb (hv i _ x (List.getElem?_eq_getElem hi) hx)
  | .t l,a,b,T,x,h,hT,hr=>by
    simp only[Tr] at h
    obtain⟨as1,bs,rfl,rfl,hrow⟩:=h
    obtain⟨t1,t2⟩:=Row.less g (S:=S) hrow hT
    cases hr with
    | tup _ vs hl hv=>
      refine .tup bs vs (by rw[← t1];exact hl) fun i b x hb hx=>?_
      have hi:i<as1.length:=by rw[t1];exact (List.getElem?_eq_some_iff.1 hb).1
      exact t2 i _ b x (List.getElem?_eq_getElem hi) hb (hv i _ x (List.getElem?_eq_getElem hi) hx)
theorem Row.less {c:Ctx} (g:Good c) {S:List Id}:∀ {l:List Sh} {as1 bs:List AVal} {T:List Id},Row c.H l as1 bs T→(∀ i ∈ T,i ∈ S)→as1.length=bs.length∧∀ (j:Nat) (a b:AVal) (x:Value),as1[j]?=some a→bs[j]?=some b→Rep c a x→Rep (c.less S) b x
  | [],[],[],_,_,_=>⟨rfl,fun j a b x h=>by simp at h⟩
  | h::l,a::as1,b::bs,T,hr,hT=>by
    simp only[Row] at hr
    obtain⟨S1,S2,h1,h2,rfl,_⟩:=hr
    obtain⟨t1,t2⟩:=Row.less g (S:=S) h2 (fun i hi=>hT i (by simp[hi]))
    refine⟨by simp[t1],fun j a' b' x ha hb hx=>?_⟩
    cases j with
    | zero=>simp at ha hb;subst ha hb;exact Tr.less g h1 (fun i hi=>hT i (by simp[hi])) hx
    | succ j=>exact t2 j a' b' x (by simpa using ha) (by simpa using hb) hx
  | [],_::_,_,_,h,_=>by simp[Row] at h
  | [],[],_::_,_,h,_=>by simp[Row] at h
  | _::_,[],_,_,h,_=>by simp[Row] at h
  | _::_,_::_,[],_,h,_=>by simp[Row] at h
end
theorem DrawS.fz {P:Program} {f:FuncId} {args:AVal→List AVal} {σ:Type} {sz:Nat} {C:σ→List AVal} {s:σ} {M:List OwnE} {h:Sh} {Y:σ→AVal→Prop} (hc:DrawS P f args sz C s M h Y) (hF:∀ s' e,Y s' e→Fresh e):DrawS P f args sz C s M .c Y:=by
  intro X H n K ids h1 h2 h3 c xs hH hn g r
  refine (hc X H n K ids h1 h2 h3 c xs hH hn g r).mono ?_
  rintro e w' ⟨x,v,c',he,hw,⟨s',e1,q1,q2,⟨i0,S,hr,hS⟩,q4,q5⟩,hx,hg,hk⟩
  simp only[List.map_cons,Row] at hr
  obtain⟨S1,S2,p1,p2,rfl,p4⟩:=hr
  have hk2:∀ i,i ∉ S1→(c'.less S1).H i=c'.H i:=fun i hi=>by simp[Ctx.less,hi]
  have hni:∀ i ∈ X::ids,i ∉ S1:=fun i hi hm=>(hS i (by simp[hm])).2 hi
  refine⟨x,e1,c'.less S1,he,hw,⟨s',e1,q1,(hk2 X (hni X (by simp))).trans q2,⟨i0,S2,?_,fun i hi=>hS i (by simp[hi])⟩,fun i hi=>(hk2 i (hni i (by simp[hi]))).trans (q4 i hi),q5⟩,Tr.less hg p1 (fun i hi=>hi) hx,hg.less S1,hk.trans (Keeps.less c' S1)⟩
  simp only[List.map_cons,Row,Tr]
  exact⟨[],S2,⟨trivial,hF _ _ q1,rfl⟩,p2.frame fun i hi=>hk2 i fun hm=>p4 i hm hi,rfl,by simp⟩
end Go.Ab
