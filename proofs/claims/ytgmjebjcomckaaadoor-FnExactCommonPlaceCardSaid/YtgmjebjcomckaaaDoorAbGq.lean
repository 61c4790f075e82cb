/- Contract of laws.szBigraph; what the sizes bound. -/
import Derived.Test.YtgmjebjcomckaaaDoorAbGp
namespace Go.Ab
open Go.Proofs
set_option linter.unusedSimpArgs false
theorem e35 : Ent Tryd.prog 35 := Ent.of Tryd.func35 (by kernel_rfl) rfl

def szB (b : Big) (left : Int) : Int :=
  if szS szN b.nodes left < 0 then -1 else if szI b.sites (szS szN b.nodes left) < 0 then -1 else
  if szS szStr b.outer (szI b.sites (szS szN b.nodes left)) < 0 then -1 else
  if szS szW b.inner (szS szStr b.outer (szI b.sites (szS szN b.nodes left))) < 0 then -1 else szS szW b.inner (szS szStr b.outer (szI b.sites (szS szN b.nodes left)))

/-- What a reader tells of a bigraph. -/
structure HugeB (b : Big) : Prop where
  nodes : b.nodes.length ≤ 9223372036854775807
  links : ∀ x ∈ b.nodes, x.links.length ≤ 9223372036854775807
  sites : b.sites.length ≤ 9223372036854775807
  outer : b.outer.length ≤ 9223372036854775807
  names : ∀ x ∈ b.outer, x.length ≤ 9223372036854775807
  inner : b.inner.length ≤ 9223372036854775807
  wnames : ∀ x ∈ b.inner, x.name.length ≤ 9223372036854775807
  parents : ∀ x ∈ b.nodes, I64 x.parent
  sites64 : ∀ p ∈ b.sites, I64 p

theorem szL_le {α : Type} (f : α → Int → Int) [SzF f] : ∀ (l : List α) (left : Int), 0 ≤ left → szL f l left ≤ left
  | [], _, _ => Int.le_refl _
  | x :: r, left, h => by
    rw [szL]
    have := f_le f x left h
    split
    · omega
    · have := szL_le f r (f x left) (by omega)
      omega
theorem szS_le {α : Type} (f : α → Int → Int) [SzF f] (l : List α) (left : Int) (h : 0 ≤ left) : szS f l left ≤ left := by
  unfold szS
  split
  · omega
  · have := szL_le f l (left - l.length) (by omega)
    omega
theorem szL_mem {α : Type} (f : α → Int → Int) [SzF f] : ∀ (l : List α) (left : Int), 0 ≤ left → 0 ≤ szL f l left → ∀ x ∈ l, ∃ c, 0 ≤ c ∧ c ≤ left ∧ 0 ≤ f x c
  | [], _, _, _, x, hx => by cases hx
  | y :: r, left, h, h2, x, hx => by
    rw [szL] at h2
    have hle := f_le f y left h
    split at h2
    · omega
    · rcases List.mem_cons.1 hx with rfl | hx
      · exact ⟨left, h, Int.le_refl _, by omega⟩
      · obtain ⟨c, h3, h4, h5⟩ := szL_mem f r (f y left) (by omega) h2 x hx
        exact ⟨c, h3, by omega, h5⟩
theorem szS_mem {α : Type} (f : α → Int → Int) [SzF f] (l : List α) (left : Int) (h : 0 ≤ left) (h2 : 0 ≤ szS f l left) : (l.length : Int) ≤ left ∧ ∀ x ∈ l, ∃ c, 0 ≤ c ∧ c ≤ left ∧ 0 ≤ f x c := by
  unfold szS at h2
  split at h2
  · omega
  · refine ⟨by omega, fun x hx => ?_⟩
    obtain ⟨c, h3, h4, h5⟩ := szL_mem f l _ (by omega) h2 x hx
    exact ⟨c, h3, by omega, h5⟩
theorem szStr_len {s : Str} {c : Int} (h : 0 ≤ szStr s c) : (s.length : Int) ≤ c := by
  unfold szStr at h
  split at h <;> omega
theorem szI_len {s : List Int} {c : Int} (h : 0 ≤ szI s c) : (s.length : Int) ≤ c := by
  unfold szI at h
  split at h <;> omega

theorem szBigraph_ok (b : Big) (left : Int) (h0 : 0 ≤ left) (h1 : left ≤ 1048576) (hb : HugeB b) : PureC Tryd.prog 35 [encB false b, int left] (fun r => r = int (szB b left)) := by
  have le1 := szS_le szN b.nodes left h0
  refine PureC.of Tryd.func35 rfl Tryd.ntmps35 (by simp) fun Q hQ => ?_
  refine Runs.seqE Ty_ok (by decide) fun k' hk' => ?_
  simp [encB, Big.cells, encN, encI, encS, encW]   -- R0
  refine hk' _ _ _ ?_
  refine Runs.seqE Ty_ok (by decide) fun k' hk' => ?_
  simp
  refine RunK.callA Ty_ok (szNodeS_ok b.nodes left h0 h1 hb.nodes hb.links) e86 (.cons (ArgOk.encN false b.nodes) (.cons (.v _ _ _) .nil)) (by decide) (by decide) rfl (by simp [encN, encI, encS, encW]) ?_
  rintro _ rfl
  simp
  refine hk' _ _ _ ?_
  refine Runs.seq ?_
  refine Runs.seqE Ty_ok (by decide) fun k' hk' => ?_
  simp
  refine hk' _ _ _ ?_
  refine Runs.ite rfl (fun hc => ?_) (fun hd0 => ?_)
  · simp only [decide_eq_true_eq] at hc
    refine Runs.seqE Ty_ok (by decide) fun k' hk' => ?_
    simp
    refine hk' _ _ _ ?_
    exact Runs.ret Tryd.func35 (RetOk.one Tryd.results35) (hQ _ _ _ _ (.v _ _ _) (by rw [szB, if_pos hc]))
  simp only [decide_eq_false_iff_not] at hd0
  have le2 := f_le szI b.sites (szS szN b.nodes left) (by omega)
  refine Runs.skip ?_
  refine Runs.seqE Ty_ok (by decide) fun k' hk' => ?_
  simp
  refine RunK.callA Ty_ok (szIntS_ok b.sites (szS szN b.nodes left) (by omega) (by omega) hb.sites) e87 (.cons (ArgOk.encI false b.sites) (.cons (.v _ _ _) .nil)) (by decide) (by decide) rfl (by simp [encN, encI, encS, encW]) ?_
  rintro _ rfl
  simp
  refine hk' _ _ _ ?_
  refine Runs.seq ?_
  refine Runs.seqE Ty_ok (by decide) fun k' hk' => ?_
  simp
  refine hk' _ _ _ ?_
  refine Runs.ite rfl (fun hc => ?_) (fun hd1 => ?_)
  · simp only [decide_eq_true_eq] at hc
    refine Runs.seqE Ty_ok (by decide) fun k' hk' => ?_
    simp
    refine hk' _ _ _ ?_
    exact Runs.ret Tryd.func35 (RetOk.one Tryd.results35) (hQ _ _ _ _ (.v _ _ _) (by rw [szB, if_neg hd0, if_pos hc]))
  simp only [decide_eq_false_iff_not] at hd1
  have le3 := szS_le szStr b.outer (szI b.sites (szS szN b.nodes left)) (by omega)
  refine Runs.skip ?_
  refine Runs.seqE Ty_ok (by decide) fun k' hk' => ?_
  simp
  refine RunK.callA Ty_ok (szStringS_ok b.outer (szI b.sites (szS szN b.nodes left)) (by omega) (by omega) hb.outer hb.names) e88 (.cons (ArgOk.encS false b.outer) (.cons (.v _ _ _) .nil)) (by decide) (by decide) rfl (by simp [encN, encI, encS, encW]) ?_
  rintro _ rfl
  simp
  refine hk' _ _ _ ?_
  refine Runs.seq ?_
  refine Runs.seqE Ty_ok (by decide) fun k' hk' => ?_
  simp
  refine hk' _ _ _ ?_
  refine Runs.ite rfl (fun hc => ?_) (fun hd2 => ?_)
  · simp only [decide_eq_true_eq] at hc
    refine Runs.seqE Ty_ok (by decide) fun k' hk' => ?_
    simp
    refine hk' _ _ _ ?_
    exact Runs.ret Tryd.func35 (RetOk.one Tryd.results35) (hQ _ _ _ _ (.v _ _ _) (by rw [szB, if_neg hd0, if_neg hd1, if_pos hc]))
  simp only [decide_eq_false_iff_not] at hd2
  refine Runs.skip ?_
  refine Runs.seqE Ty_ok (by decide) fun k' hk' => ?_
  simp
  refine RunK.callA Ty_ok (szWireS_ok b.inner (szS szStr b.outer (szI b.sites (szS szN b.nodes left))) (by omega) (by omega) hb.inner hb.wnames) e89 (.cons (ArgOk.encW false b.inner) (.cons (.v _ _ _) .nil)) (by decide) (by decide) rfl (by simp [encN, encI, encS, encW]) ?_
  rintro _ rfl
  simp
  refine hk' _ _ _ ?_
  refine Runs.seq ?_
  refine Runs.seqE Ty_ok (by decide) fun k' hk' => ?_
  simp
  refine hk' _ _ _ ?_
  refine Runs.ite rfl (fun hc => ?_) (fun hd3 => ?_)
  · simp only [decide_eq_true_eq] at hc
    refine Runs.seqE Ty_ok (by decide) fun k' hk' => ?_
    simp
    refine hk' _ _ _ ?_
    exact Runs.ret Tryd.func35 (RetOk.one Tryd.results35) (hQ _ _ _ _ (.v _ _ _) (by rw [szB, if_neg hd0, if_neg hd1, if_neg hd2, if_pos hc]))
  simp only [decide_eq_false_iff_not] at hd3
  refine Runs.skip ?_
  refine Runs.seqE Ty_ok (by decide) fun k' hk' => ?_
  simp
  refine hk' _ _ _ ?_
  exact Runs.ret Tryd.func35 (RetOk.one Tryd.results35) (hQ _ _ _ _ (.v _ _ _) (by rw [szB, if_neg hd0, if_neg hd1, if_neg hd2, if_neg hd3]))

theorem smallB {sig : Sig} {b : Big} {left : Int} (h0 : 0 ≤ left) (h1 : left ≤ 1048576) (hs : 0 ≤ szS szC sig left) (hb : 0 ≤ szB b (szS szC sig left)) (hh : HugeB b) : SmallB sig b := by
  have hle := szS_le szC sig left h0
  obtain ⟨a1, a2⟩ := szS_mem szC sig left h0 hs
  generalize szS szC sig left = l0 at *
  unfold szB at hb
  split at hb
  · omega
  split at hb
  · omega
  split at hb
  · omega
  split at hb
  · omega
  rename_i n1 n2 n3 n4
  have le1 := szS_le szN b.nodes l0 hs
  obtain ⟨b1, b2⟩ := szS_mem szN b.nodes l0 hs (by omega)
  generalize szS szN b.nodes l0 = l1 at *
  have le2 := f_le szI b.sites l1 (by omega)
  have c1 := szI_len (s := b.sites) (c := l1) (by omega)
  generalize szI b.sites l1 = l2 at *
  have le3 := szS_le szStr b.outer l2 (by omega)
  obtain ⟨d1, d2⟩ := szS_mem szStr b.outer l2 (by omega) (by omega)
  generalize szS szStr b.outer l2 = l3 at *
  obtain ⟨f1, f2⟩ := szS_mem szW b.inner l3 (by omega) (by omega)
  refine ⟨by omega, fun c hc => ?_, by omega, by omega, by omega, by omega, fun s hs => ?_, fun w hw => ?_, fun x hx => ?_, hh.parents, hh.sites64⟩
  · obtain ⟨q, _, q2, q3⟩ := a2 c hc
    have := szStr_len q3
    omega
  · obtain ⟨q, _, q2, q3⟩ := d2 s hs
    have := szStr_len q3
    omega
  · obtain ⟨q, _, q2, q3⟩ := f2 w hw
    have := szStr_len q3
    omega
  · obtain ⟨q, _, q2, q3⟩ := b2 x hx
    have := szI_len q3
    omega
end Go.Ab
