/- Contracts of impl.areNames and spec.l2Names. -/
import Derived.Test.YtgmjebjcomckaaaDoorAbGb
namespace Go.Ab
open Go.Proofs
set_option linter.unusedSimpArgs false
theorem e72 : Ent Tryd.prog 72 := Ent.of Tryd.func72 (by kernel_rfl) rfl
theorem e129 : Ent Tryd.prog 129 := Ent.of Tryd.func129 (by kernel_rfl) rfl

theorem less_not : ∀ (s p : Str), (Op.bytesLess s p || s == p) = !Op.bytesLess p s
  | [], [] => by simp [Op.bytesLess]
  | [], _ :: _ => by simp [Op.bytesLess]
  | _ :: _, [] => by simp [Op.bytesLess]
  | a :: x, b :: y => by
    have ih := less_not x y
    simp only [Op.bytesLess]
    rcases Nat.lt_trichotomy a.toNat b.toNat with h | h | h
    · have h1 : a < b := h
      have h2 : ¬ b < a := fun h' => by have h' : b.toNat < a.toNat := h'; omega
      have h3 : (b == a) = false := by
        rw [beq_eq_false_iff_ne]
        rintro rfl
        omega
      simp [h1, h2, h3]
    · have h0 : a = b := UInt8.toNat_inj.1 h
      subst h0
      have h2 : ¬ a < a := fun h' => by have h' : a.toNat < a.toNat := h'; omega
      simp [h2]
      rw [← ih]
      try (cases Op.bytesLess x y <;> simp)
      try (by_cases hxy : x = y <;> simp [hxy])
    · have h1 : b < a := h
      have h2 : ¬ a < b := fun h' => by have h' : a.toNat < b.toNat := h'; omega
      have h3 : (a == b) = false := by
        rw [beq_eq_false_iff_ne]
        rintro rfl
        omega
      have h4 : ¬ a = b := by simpa using h3
      simp [h1, h2, h4]

theorem all_range_bad {n k : Nat} {q : Nat → Bool} (hk : k < n) (h : q k = false) : (List.range n).all q = false := by
  rw [List.all_eq_false]
  exact ⟨k, by simpa using hk, by simp [h]⟩
theorem all_range_end {n : Nat} {q : Nat → Bool} (h : ∀ i, i < n → q i = true) : (List.range n).all q = true := by
  simpa [List.all_eq_true] using h

def okName (l : List Str) (i : Nat) : Bool := isNm (l.getD i []) && ascends l i
theorem goodNames_eq (l : List Str) : goodNames l = (decide (l.length ≤ 16) && (List.range l.length).all (okName l)) := rfl

theorem areNames_ok (l : List Str) (hl : l.length ≤ 1048576) (hs : ∀ s ∈ l, s.length ≤ 1048576) : PureC Tryd.prog 72 [encS false l] (fun r => r = bool (goodNames l)) := by
  refine PureC.of Tryd.func72 rfl Tryd.ntmps72 (by simp) fun Q hQ => ?_
  refine Runs.seqE Ty_ok (by decide) fun k' hk' => ?_
  simp [encS]   -- R0
  refine hk' _ _ _ ?_
  refine Runs.seq ?_
  refine Runs.seqE Ty_ok (by decide) fun k' hk' => ?_
  simp   -- R1
  refine hk' _ _ _ ?_
  refine Runs.block (Runs.loopUp l.length (fun k ρ H n => ρ 0 = .list false (l.map strC) ∧ ρ 5 = .list false (l.map strC) ∧ ρ 6 = int l.length ∧ ρ 7 = int k ∧ ∀ i, i < k → okName l i = true) ?_ ?_)
  · simp
  · rintro k ρ H n hk ⟨h0, h5, h6, h7, hall⟩ IH
    refine Runs.seqE Ty_ok (by decide) fun k' hk' => ?_
    simp [h6, h7]   -- R2
    refine hk' _ _ _ ?_
    refine Runs.seq ?_
    refine Runs.ite rfl (fun hc1 => ?_) (fun hc1 => ?_)   -- t8
    · have hc1 : k < l.length := by simpa using hc1
      refine Runs.skip ?_
      refine Runs.seq ?_
      refine Runs.block ?_
      refine Runs.seqE Ty_ok (by decide) fun k' hk' => ?_
      simp [h5, h7, hc1, strC]   -- R3
      refine hk' _ _ _ ?_
      refine Runs.seqE Ty_ok (by decide) fun k' hk' => ?_
      have fin : ∀ ρ : Env, ρ 0 = .list false (l.map strC) → ρ 5 = .list false (l.map strC) → ρ 6 = int l.length → ρ 7 = int k → ρ 27 = bool (!okName l k) → Runs Tryd.prog 72 32 k' ρ H n Q := by
        intro ρ h0 h5 h6 h7 h27
        refine hk' _ _ _ ?_
        refine Runs.ite h27 (fun hc2 => ?_) (fun hc2 => ?_)   -- t27
        · have hb : okName l k = false := by simpa using hc2
          refine Runs.seqE Ty_ok (by decide) fun k' hk' => ?_
          simp   -- R5
          refine hk' _ _ _ ?_
          exact Runs.ret Tryd.func72 (RetOk.one Tryd.results72) (hQ _ _ _ _ (.v _ _ _) (by rw [goodNames_eq, all_range_bad hc1 hb, Bool.and_false]))
        · have hb : okName l k = true := by simpa using hc2
          refine Runs.skip ?_
          refine Runs.inBlock ?_
          refine Runs.evalE Ty_ok (by decide) fun k' hk' => ?_
          simp [h7, wrap_succ (show k < 4611686018427387904 by omega)]   -- R6
          refine hk' _ _ _ ?_
          refine IH hc1 _ _ _ ⟨by simp [h0], by simp [h5], by simp [h6], by simp, fun i hi => ?_⟩
          rcases Nat.lt_or_ge i k with h | h
          · exact hall i h
          · rw [show i = k by omega]; exact hb
      have hgk : l.getD k [] = l[k] := by simp [hc1]
      simp   -- R4
      refine RunK.callA Ty_ok (isName_ok l[k] (hs _ (List.getElem_mem hc1))) e109 (.cons (.v _ _ _) .nil) (by decide) (by decide) rfl (by simp) ?_
      rintro _ rfl
      cases hnm : isNm l[k]
      · simp [guardOf]
        exact fin _ (by simp [h0]) (by simp [h5]) (by simp [h6]) (by simp [h7]) (by simp [okName, hc1, hnm])
      · by_cases hk0 : k = 0
        · subst hk0
          simp [guardOf]
          exact fin _ (by simp [h0]) (by simp [h5]) (by simp [h6]) (by simp [h7]) (by simp [okName, hc1, hnm, ascends])
        · have hk1 : 0 < k := by omega
          have hw : IntKind.i64.wrap ((k : Int) - 1) = ((k - 1 : Nat) : Int) := by rw [wrap64] <;> omega
          have hkl : k - 1 < l.length := by omega
          have hgk1 : l.getD (k - 1) [] = l[k - 1] := by simp [hkl]
          have hp := less_not l[k] l[k - 1]
          simp [guardOf, hk1, h0, hw, hkl, strC]
          refine fin _ (by simp [h0]) (by simp [h5]) (by simp [h6]) (by simp [h7]) ?_
          simp only [okName, hgk, hnm, ascends, hgk1, hk0, decide_false, Bool.false_or, Bool.true_and]
          rw [← hp]
          simp
    · have hc1 : ¬ k < l.length := by simpa using hc1
      have hke : k = l.length := by omega
      subst hke
      refine Runs.exit rfl ?_
      refine Runs.seqE Ty_ok (by decide) fun k' hk' => ?_
      simp [h0]   -- R7
      refine hk' _ _ _ ?_
      refine Runs.ret Tryd.func72 (RetOk.one Tryd.results72) (hQ _ _ _ _ (.v _ _ _) ?_)
      rw [goodNames_eq, all_range_end hall]
      simp
      omega
end Go.Ab
