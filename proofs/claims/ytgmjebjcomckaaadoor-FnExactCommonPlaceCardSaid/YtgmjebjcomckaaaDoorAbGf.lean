/- Contracts of impl.IsSignature and spec.l2Sig. -/
import Derived.Test.YtgmjebjcomckaaaDoorAbGe
namespace Go.Ab
open Go.Proofs
set_option linter.unusedSimpArgs false
theorem e70 : Ent Tryd.prog 70 := Ent.of Tryd.func70 (by kernel_rfl) rfl
theorem e128 : Ent Tryd.prog 128 := Ent.of Tryd.func128 (by kernel_rfl) rfl
theorem e135 : Ent Tryd.prog 135 := Ent.of Tryd.func135 (by kernel_rfl) rfl

theorem clos135 {H : Heap} {n : Nat} {X : Id} (c : Control) (hX : H X = some ⟨3, [c.cells]⟩) (d : Control) : ClosC Tryd.prog H n (.fn (.func 135) [] [.ptr X 1 0 0]) [.agg d.cells] (fun r => r = bool (d.name == c.name)) := by
  refine ⟨135, [], [.ptr X 1 0 0], rfl, e135, ?_⟩
  refine StillC.of Tryd.func135 rfl Tryd.ntmps135 (by simp) fun Q hB hQ => ?_
  have hXn := (hB X _ hX).1
  have hX2 : ¬ X = (n, 2) := by rintro rfl; simp at hXn
  refine Runs.seqE Ty_ok (by decide) fun k' hk' => ?_
  simp [Control.cells]   -- R0
  refine hk' _ _ _ ?_
  refine Runs.seqE Ty_ok (by decide) fun k' hk' => ?_
  simp [hX2, hX, Control.cells]   -- R1
  refine hk' _ _ _ ?_
  exact Runs.ret Tryd.func135 (RetOk.one Tryd.results135) (hQ _ _ _ _ (.bnd (.v _)) (Frame.set (by simp) (Frame.refl _ _)) (by simp))

def okCtl (sig : Sig) (i : Nat) : Bool := okControl (sig.getD i default) && newName sig i
theorem goodSig_eq (sig : Sig) : goodSig sig = (within sig.length 1 6 && (List.range sig.length).all (okCtl sig)) := rfl

theorem IsSignature_ok (sig : Sig) (hl : sig.length ≤ 1048576) (hs : ∀ c ∈ sig, c.name.length ≤ 1048576) : PureC Tryd.prog 70 [encSig false sig] (fun r => r = bool (goodSig sig)) := by
  refine PureC.of Tryd.func70 rfl Tryd.ntmps70 (by simp) fun Q hQ => ?_
  refine Runs.seqE Ty_ok (by decide) fun k' hk' => ?_
  simp [encSig]   -- R0
  refine hk' _ _ _ ?_
  refine Runs.seq ?_
  refine Runs.seqE Ty_ok (by decide) fun k' hk' => ?_
  simp   -- R1
  refine RunK.callA Ty_ok (within_ok sig.length 1 6) e71 (.cons (.v _ _ _) (.cons (.v _ _ _) (.cons (.v _ _ _) .nil))) (by decide) (by decide) rfl (by simp) ?_
  rintro _ rfl
  simp
  refine hk' _ _ _ ?_
  refine Runs.ite rfl (fun hc1 => ?_) (fun hc1 => ?_)   -- t8
  · have hw : within sig.length 1 6 = false := by simpa using hc1
    refine Runs.seqE Ty_ok (by decide) fun k' hk' => ?_
    simp   -- R2
    refine hk' _ _ _ ?_
    exact Runs.ret Tryd.func70 (RetOk.one Tryd.results70) (hQ _ _ _ _ (.v _ _ _) (by rw [goodSig_eq, hw, Bool.false_and]))
  · have hw : within sig.length 1 6 = true := by simpa using hc1
    refine Runs.skip ?_
    refine Runs.seq ?_
    refine Runs.seqE Ty_ok (by decide) fun k' hk' => ?_
    simp   -- R3
    refine hk' _ _ _ ?_
    refine Runs.block (Runs.loopUp sig.length (fun k ρ H n => ρ 0 = .list false (sig.map Control.cells) ∧ ρ 9 = .list false (sig.map Control.cells) ∧ ρ 10 = int sig.length ∧ ρ 11 = int k ∧ ∀ i, i < k → okCtl sig i = true) ?_ ?_)
    · simp
    · rintro k ρ H n hk ⟨h0, h9, h10, h11, hall⟩ IH
      refine Runs.seqE Ty_ok (by decide) fun k' hk' => ?_
      simp [h10, h11]   -- R4
      refine hk' _ _ _ ?_
      refine Runs.seq ?_
      refine Runs.ite rfl (fun hc1 => ?_) (fun hc1 => ?_)   -- t12
      · have hc1 : k < sig.length := by simpa using hc1
        have hgk : sig.getD k default = sig[k] := by simp [hc1]
        refine Runs.skip ?_
        refine Runs.seq ?_
        refine Runs.block ?_
        refine Runs.seqE Ty_ok (by decide) fun k' hk' => ?_
        simp [h9, h11, hc1, Control.cells]   -- R5
        refine hk' _ _ _ ?_
        refine Runs.cut (fun ρ H n => ρ 0 = .list false (sig.map Control.cells) ∧ ρ 9 = .list false (sig.map Control.cells) ∧ ρ 10 = int sig.length ∧ ρ 11 = int k ∧ ρ 3 = int k ∧ ∃ m, ρ 4 = .ptr (m, 4) 1 0 0 ∧ H (m, 4) = some ⟨3, [sig[k].cells]⟩) ?_ ?_
        · exact ⟨by simp [h0], by simp [h9], by simp [h10], by simp [h11], by simp, n, by simp, by simp [Control.cells]⟩
        clear hk' h0 h9 h10 h11
        rintro ρ H n ⟨h0, h9, h10, h11, h3, m, h4, hm⟩
        refine Runs.seqE Ty_ok (by decide) fun k' hk' => ?_
        have fin : ∀ ρ : Env, ρ 0 = .list false (sig.map Control.cells) → ρ 9 = .list false (sig.map Control.cells) → ρ 10 = int sig.length → ρ 11 = int k → ρ 38 = bool (!okCtl sig k) → Runs Tryd.prog 70 40 k' ρ H n Q := by
          intro ρ h0 h9 h10 h11 h38
          refine hk' _ _ _ ?_
          refine Runs.ite h38 (fun hc2 => ?_) (fun hc2 => ?_)   -- t38
          · have hb : okCtl sig k = false := by simpa using hc2
            refine Runs.seqE Ty_ok (by decide) fun k' hk' => ?_
            simp   -- R7
            refine hk' _ _ _ ?_
            exact Runs.ret Tryd.func70 (RetOk.one Tryd.results70) (hQ _ _ _ _ (.v _ _ _) (by rw [goodSig_eq, all_range_bad hc1 hb, Bool.and_false]))
          · have hb : okCtl sig k = true := by simpa using hc2
            refine Runs.skip ?_
            refine Runs.inBlock ?_
            refine Runs.evalE Ty_ok (by decide) fun k' hk' => ?_
            simp [h11, wrap_succ (show k < 4611686018427387904 by omega)]   -- R8
            refine hk' _ _ _ ?_
            refine IH hc1 _ _ _ ⟨by simp [h0], by simp [h9], by simp [h10], by simp, fun i hi => ?_⟩
            rcases Nat.lt_or_ge i k with h | h
            · exact hall i h
            · rw [show i = k by omega]; exact hb
        have hm' := hm
        simp only [Control.cells] at hm'
        simp [h4, hm']   -- R6
        refine RunK.callA Ty_ok (isName_ok sig[k].name (hs _ (List.getElem_mem hc1))) e109 (.cons (.v _ _ _) .nil) (by decide) (by decide) rfl (by simp) ?_
        rintro _ rfl
        cases hnm : isNm sig[k].name
        · simp [guardOf]
          exact fin _ (by simp [h0]) (by simp [h9]) (by simp [h10]) (by simp [h11]) (by simp only [okCtl, hgk, okControl, hnm]; simp)
        · simp [h4, hm', guardOf]
          refine RunK.callA Ty_ok (within_ok sig[k].ports 0 3) e71 (.cons (.v _ _ _) (.cons (.v _ _ _) (.cons (.v _ _ _) .nil))) (by decide) (by decide) rfl (by simp) ?_
          rintro _ rfl
          cases hpo : within sig[k].ports 0 3
          · simp [guardOf]
            exact fin _ (by simp [h0]) (by simp [h9]) (by simp [h10]) (by simp [h11]) (by simp only [okCtl, hgk, okControl, hnm, hpo]; simp)
          · simp [h4, hm', guardOf]
            refine RunK.callA Ty_ok (within_ok sig[k].kind 0 2) e71 (.cons (.v _ _ _) (.cons (.v _ _ _) (.cons (.v _ _ _) .nil))) (by decide) (by decide) rfl (by simp) ?_
            rintro _ rfl
            cases hki : within sig[k].kind 0 2
            · simp [guardOf]
              exact fin _ (by simp [h0]) (by simp [h9]) (by simp [h10]) (by simp [h11]) (by simp only [okCtl, hgk, okControl, hnm, hpo, hki]; simp)
            · have hkl : (k : Int) ≤ sig.length := by omega
              simp [h0, h3, h4, hkl, guardOf, Control.cells]
              refine RunK.callT Ty_ok (containsFuncC_ok false (sig.take k) (fun d => d.name == sig[k].name) (by simp; omega) (fun d _ => clos135 sig[k] hm d)) e134 (by decide) (by decide) rfl (by simp [Control.cells]) ?_
              rintro _ rfl
              simp [guardOf]
              refine fin _ (by simp [h0, Control.cells]) (by simp [h9, Control.cells]) (by simp [h10]) (by simp [h11]) ?_
              simp only [okCtl, hgk, okControl, hnm, hpo, hki, newName]
              simp
      · have hc1 : ¬ k < sig.length := by simpa using hc1
        have hke : k = sig.length := by omega
        subst hke
        refine Runs.exit rfl ?_
        refine Runs.seqE Ty_ok (by decide) fun k' hk' => ?_
        simp   -- R9
        refine hk' _ _ _ ?_
        exact Runs.ret Tryd.func70 (RetOk.one Tryd.results70) (hQ _ _ _ _ (.v _ _ _) (by rw [goodSig_eq, hw, all_range_end hall]; rfl))
end Go.Ab
