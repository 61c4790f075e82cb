/- Contracts of spec.l2Names, impl.innerNames and spec.l2Inner. -/
import Derived.Test.YtgmjebjcomckaaaDoorAbGc
namespace Go.Ab
open Go.Proofs
set_option linter.unusedSimpArgs false
theorem e73 : Ent Tryd.prog 73 := Ent.of Tryd.func73 (by kernel_rfl) rfl
theorem e130 : Ent Tryd.prog 130 := Ent.of Tryd.func130 (by kernel_rfl) rfl

theorem l2Names_ok (l : List Str) (hl : l.length ≤ 1048576) (hs : ∀ s ∈ l, s.length ≤ 1048576) : PureC Tryd.prog 129 [encS false l] (fun r => r = bool (goodNames l)) := by
  refine PureC.of Tryd.func129 rfl Tryd.ntmps129 (by simp) fun Q hQ => ?_
  refine Runs.seqE Ty_ok (by decide) fun k' hk' => ?_
  simp [encS]   -- R0
  refine hk' _ _ _ ?_
  refine Runs.seq ?_
  refine Runs.seqE Ty_ok (by decide) fun k' hk' => ?_
  simp   -- R1
  refine hk' _ _ _ ?_
  refine Runs.block (Runs.loopUp l.length (fun k ρ H n => ρ 0 = .list false (l.map strC) ∧ ρ 3 = int k ∧ ∀ i, i < k → okName l i = true) ?_ ?_)
  · simp
  · rintro k ρ H n hk ⟨h0, h3, hall⟩ IH
    refine Runs.seq ?_
    refine Runs.seqE Ty_ok (by decide) fun k' hk' => ?_
    simp [h0, h3]   -- R2
    refine hk' _ _ _ ?_
    refine Runs.ite rfl (fun hc1 => ?_) (fun hc1 => ?_)   -- t7
    · have hc1 : k < l.length := by simpa using hc1
      refine Runs.skip ?_
      refine Runs.seq ?_
      refine Runs.block ?_
      refine Runs.seqD Ty_ok kindOp_ok draws (by decide) (by kernel_rfl) fun k' hk' => ?_
      have fin : ∀ ρ : Env, ρ 0 = .list false (l.map strC) → ρ 3 = int k → ρ 31 = bool (!okName l k) → Runs Tryd.prog 129 35 k' ρ H n Q := by
        intro ρ h0 h3 h31
        refine hk' _ _ _ ?_
        refine Runs.ite h31 (fun hc2 => ?_) (fun hc2 => ?_)
        · have hb : okName l k = false := by simpa using hc2
          refine Runs.seqE Ty_ok (by decide) fun k' hk' => ?_
          simp   -- R5
          refine hk' _ _ _ ?_
          exact Runs.ret Tryd.func129 (RetOk.one Tryd.results129) (hQ _ _ _ _ (.v _ _ _) (by rw [goodNames_eq, all_range_bad hc1 hb, Bool.and_false]))
        · have hb : okName l k = true := by simpa using hc2
          refine Runs.skip ?_
          refine Runs.inBlock ?_
          refine Runs.evalE Ty_ok (by decide) fun k' hk' => ?_
          simp [h3, wrap_succ (show k < 4611686018427387904 by omega)]   -- R3
          refine hk' _ _ _ ?_
          refine IH hc1 _ _ _ ⟨by simp [h0], by simp, fun i hi => ?_⟩
          rcases Nat.lt_or_ge i k with h | h
          · exact hall i h
          · rw [show i = k by omega]; exact hb
      have hgk : l.getD k [] = l[k] := by simp [hc1]
      simp [h0, h3, hc1, strC]   -- R4
      refine RunDK.callA Ty_ok kindOp_ok (l2Name_ok l[k] (hs _ (List.getElem_mem hc1))) e105 (.cons (.v _ _ _) .nil) (by decide) rfl (by simp) ?_
      cases hnm : isNm l[k]
      · simp [guardOf]
        exact fin _ (by simp [h0, strC]) (by simp [h3]) (by simp [okName, hc1, hnm])
      · by_cases hk0 : k = 0
        · subst hk0
          simp [h3, guardOf]
          exact fin _ (by simp [h0, strC]) (by simp [h3]) (by simp [okName, hc1, hnm, ascends])
        · have hk1 : 0 < k := by omega
          have hw : IntKind.i64.wrap ((k : Int) - 1) = ((k - 1 : Nat) : Int) := by rw [wrap64] <;> omega
          have hkl : k - 1 < l.length := by omega
          have hgk1 : l.getD (k - 1) [] = l[k - 1] := by simp [hkl]
          simp [guardOf, hk1, h0, h3, hw, hkl, hc1, strC]
          refine fin _ (by simp [h0, strC]) (by simp [h3]) ?_
          simp only [okName, hgk, hnm, ascends, hgk1, hk0, decide_false, Bool.false_or, Bool.true_and]
          simp
    · have hc1 : ¬ k < l.length := by simpa using hc1
      have hke : k = l.length := by omega
      subst hke
      refine Runs.exit rfl ?_
      refine Runs.seqE Ty_ok (by decide) fun k' hk' => ?_
      simp [h0]   -- R6
      refine hk' _ _ _ ?_
      refine Runs.ret Tryd.func129 (RetOk.one Tryd.results129) (hQ _ _ _ _ (.v _ _ _) ?_)
      rw [goodNames_eq, all_range_end hall]
      simp
      omega

def names (b : Big) : List Str := b.inner.map (·.name)

theorem innerNames_ok (b : Big) (hl : b.inner.length ≤ 1048576) : PureC Tryd.prog 73 [encB false b] (fun r => r = encS true (names b)) := by
  refine PureC.of Tryd.func73 rfl Tryd.ntmps73 (by simp) fun Q hQ => ?_
  refine Runs.seqE Ty_ok (by decide) fun k' hk' => ?_
  simp [encB, Big.cells]   -- R0
  refine hk' _ _ _ ?_
  refine Runs.seqE Ty_ok (by decide) fun k' hk' => ?_
  simp   -- R1
  refine hk' _ _ _ ?_
  refine Runs.seq ?_
  refine Runs.seqE Ty_ok (by decide) fun k' hk' => ?_
  simp [encW]   -- R2
  refine hk' _ _ _ ?_
  refine Runs.block (Runs.loopUp b.inner.length (fun k ρ H n => ρ 8 = .list false (b.inner.map Wire.cells) ∧ ρ 9 = int b.inner.length ∧ ρ 10 = int k ∧ ρ 3 = .arr (1, 6) k 0 k ∧ H (1, 6) = some ⟨1, ((names b).take k).map strC⟩) ?_ ?_)
  · simp
  · rintro k ρ H n hk ⟨h8, h9, h10, h3, hH⟩ IH
    refine Runs.seqE Ty_ok (by decide) fun k' hk' => ?_
    simp [h9, h10]   -- R3
    refine hk' _ _ _ ?_
    refine Runs.seq ?_
    refine Runs.ite rfl (fun hc1 => ?_) (fun hc1 => ?_)   -- t11
    · have hc1 : k < b.inner.length := by simpa using hc1
      have htk : (((names b).take k).map strC).length = k := by simp [names]; omega
      have hts : (names b).take (k + 1) = (names b).take k ++ [b.inner[k].name] := by
        rw [List.take_succ_eq_append_getElem (by simpa [names] using hc1)]
        simp [names]
      refine Runs.skip ?_
      refine Runs.seq ?_
      refine Runs.block ?_
      refine Runs.seqE Ty_ok (by decide) fun k' hk' => ?_
      simp [h8, h10, hc1, Wire.cells]   -- R4
      refine hk' _ _ _ ?_
      refine Runs.evalE Ty_ok (by decide) fun k' hk' => ?_
      generalize hels : ((names b).take k).map strC = els at hH htk
      simp [h3, hH, htk, live, show k ≤ 1073741823 by omega]   -- R5
      refine hk' _ _ _ ?_
      refine Runs.inBlock ?_
      refine Runs.evalE Ty_ok (by decide) fun k' hk' => ?_
      simp [h10, wrap_succ (show k < 4611686018427387904 by omega)]   -- R6
      refine hk' _ _ _ ?_
      refine IH hc1 _ _ _ ⟨by simp [h8], by simp [h9], by simp, by simp, ?_⟩
      simp [hts, ← hels, strC]
    · have hc1 : ¬ k < b.inner.length := by simpa using hc1
      have hke : k = b.inner.length := by omega
      subst hke
      refine Runs.exit rfl ?_
      refine Runs.seqE Ty_ok (by decide) fun k' hk' => ?_
      simp [h3]   -- R7
      refine hk' _ _ _ ?_
      have he : (names b).take b.inner.length = names b := List.take_of_length_le (by simp [names])
      rw [he] at hH
      exact Runs.ret Tryd.func73 (RetOk.one Tryd.results73) (hQ _ _ _ _ (.of (Ret.arrF (by simp [live, hH, names]; rfl) (by simp [strC]))) rfl)

theorem l2Inner_ok (b : Big) (hl : b.inner.length ≤ 1048576) : PureC Tryd.prog 130 [encB false b] (fun r => r = encS true (names b)) := by
  refine PureC.of Tryd.func130 rfl Tryd.ntmps130 (by simp) fun Q hQ => ?_
  refine Runs.seqE Ty_ok (by decide) fun k' hk' => ?_
  simp [encB, Big.cells]   -- R0
  refine hk' _ _ _ ?_
  refine Runs.seqE Ty_ok (by decide) fun k' hk' => ?_
  simp   -- R1
  refine hk' _ _ _ ?_
  refine Runs.seq ?_
  refine Runs.seqE Ty_ok (by decide) fun k' hk' => ?_
  simp [encW]   -- R2
  refine hk' _ _ _ ?_
  refine Runs.block (Runs.loopUp b.inner.length (fun k ρ H n => ρ 1 = .ptr (0, 1) 1 0 0 ∧ H (0, 1) = some ⟨6, [b.cells false]⟩ ∧ ρ 4 = int k ∧ ρ 3 = .arr (1, 5) k 0 k ∧ H (1, 5) = some ⟨1, ((names b).take k).map strC⟩) ?_ ?_)
  · simp [Big.cells, encW]
  · rintro k ρ H n hk ⟨h1, hb, h4, h3, hH⟩ IH
    refine Runs.seq ?_
    refine Runs.seqE Ty_ok (by decide) fun k' hk' => ?_
    simp [h1, hb, h4, Big.cells, encW]   -- R3
    refine hk' _ _ _ ?_
    refine Runs.ite rfl (fun hc1 => ?_) (fun hc1 => ?_)   -- t10
    · have hc1 : k < b.inner.length := by simpa using hc1
      have htk : (((names b).take k).map strC).length = k := by simp [names]; omega
      have hts : (names b).take (k + 1) = (names b).take k ++ [b.inner[k].name] := by
        rw [List.take_succ_eq_append_getElem (by simpa [names] using hc1)]
        simp [names]
      refine Runs.skip ?_
      refine Runs.seq ?_
      refine Runs.block ?_
      refine Runs.evalE Ty_ok (by decide) fun k' hk' => ?_
      generalize hels : ((names b).take k).map strC = els at hH htk
      simp [h1, hb, h3, h4, hH, htk, hc1, live, Big.cells, encW, Wire.cells, show k ≤ 1073741823 by omega]   -- R5
      refine hk' _ _ _ ?_
      refine Runs.inBlock ?_
      refine Runs.evalE Ty_ok (by decide) fun k' hk' => ?_
      simp [h4, wrap_succ (show k < 4611686018427387904 by omega)]   -- R4
      refine hk' _ _ _ ?_
      refine IH hc1 _ _ _ ⟨by simp [h1], by simp [hb, Big.cells, encW], by simp, by simp, ?_⟩
      simp [hts, ← hels, strC]
    · have hc1 : ¬ k < b.inner.length := by simpa using hc1
      have hke : k = b.inner.length := by omega
      subst hke
      refine Runs.exit rfl ?_
      refine Runs.seqE Ty_ok (by decide) fun k' hk' => ?_
      simp [h3]   -- R6
      refine hk' _ _ _ ?_
      have he : (names b).take b.inner.length = names b := List.take_of_length_le (by simp [names])
      rw [he] at hH
      exact Runs.ret Tryd.func130 (RetOk.one Tryd.results130) (hQ _ _ _ _ (.of (Ret.arrF (by simp [live, hH, names]; rfl) (by simp [strC]))) rfl)
end Go.Ab
