/- Contracts of the laws' to.. functions of bigraphs' slices. By program. -/
import Derived.Test.YtgmjebjcomckaaaDoorAbGm
namespace Go.Ab
open Go.Proofs
set_option linter.unusedSimpArgs false
theorem e92 : Ent Tryd.prog 92 := Ent.of Tryd.func92 (by kernel_rfl) rfl
theorem toIntS_ok (p : List (Int)) (hp : p.length ≤ 1048576) : PureC Tryd.prog 92 [.list false (p.map intC)] (fun r => r = .list true (p.map intC)) := by
  refine PureC.of Tryd.func92 rfl Tryd.ntmps92 (by simp) fun Q hQ => ?_
  refine Runs.seqE Ty_ok (by decide) fun k' hk' => ?_
  simp   -- R0
  refine hk' _ _ _ ?_
  refine Runs.seqE Ty_ok (by decide) fun k' hk' => ?_
  simp [show (p.length : Int) ≤ 1073741824 by omega]   -- R1
  refine hk' _ _ _ ?_
  refine Runs.seq ?_
  refine Runs.seqE Ty_ok (by decide) fun k' hk' => ?_
  simp   -- R2
  refine hk' _ _ _ ?_
  refine Runs.block (Runs.loopUp p.length (fun k ρ H n => ρ 0 = .list false (p.map intC) ∧ ρ 4 = int k ∧ ρ 3 = .arr (0, 7) p.length 0 p.length ∧ H (0, 7) = some ⟨1, part intC [int 0] p k⟩) ?_ ?_)
  · simp [intC, part_zero]
  · rintro k ρ H n hk ⟨h0, h4, h3, hH⟩ IH
    refine Runs.seq ?_
    refine Runs.seqE Ty_ok (by decide) fun k' hk' => ?_
    simp [h0, h4]   -- R3
    refine hk' _ _ _ ?_
    refine Runs.ite rfl (fun hc1 => ?_) (fun hc1 => ?_)
    · simp at hc1
      refine Runs.skip ?_
      refine Runs.seq ?_
      refine Runs.block ?_
      refine Runs.evalE Ty_ok (by decide) fun k' hk' => ?_
      simp [h0, h3, h4, hH, hc1, part_len hk, part_get hc1, intC]   -- R5
      refine hk' _ _ _ ?_
      refine Runs.inBlock ?_
      refine Runs.evalE Ty_ok (by decide) fun k' hk' => ?_
      simp [h4, wrap_succ (show k < 4611686018427387904 by omega)]   -- R4
      refine hk' _ _ _ ?_
      refine IH hc1 _ _ _ ?_
      rw [← part_set hc1]
      simp [h0, h3, intC, part_get' hc1]
    · simp at hc1
      have hke : k = p.length := by omega
      subst hke
      rw [part_end] at hH
      refine Runs.exit rfl ?_
      refine Runs.seqE Ty_ok (by decide) fun k' hk' => ?_
      simp [h3]   -- R6
      refine hk' _ _ _ ?_
      exact Runs.ret Tryd.func92 (RetOk.one Tryd.results92) (hQ _ _ _ _ (.of (Ret.arrF (by simp [hH]; rfl) (by simp [intC, intC]))) rfl)

theorem e93 : Ent Tryd.prog 93 := Ent.of Tryd.func93 (by kernel_rfl) rfl
theorem toStringS_ok (p : List (Str)) (hp : p.length ≤ 1048576) : PureC Tryd.prog 93 [.list false (p.map strC)] (fun r => r = .list true (p.map strC)) := by
  refine PureC.of Tryd.func93 rfl Tryd.ntmps93 (by simp) fun Q hQ => ?_
  refine Runs.seqE Ty_ok (by decide) fun k' hk' => ?_
  simp   -- R0
  refine hk' _ _ _ ?_
  refine Runs.seqE Ty_ok (by decide) fun k' hk' => ?_
  simp [show (p.length : Int) ≤ 1073741824 by omega]   -- R1
  refine hk' _ _ _ ?_
  refine Runs.seq ?_
  refine Runs.seqE Ty_ok (by decide) fun k' hk' => ?_
  simp   -- R2
  refine hk' _ _ _ ?_
  refine Runs.block (Runs.loopUp p.length (fun k ρ H n => ρ 0 = .list false (p.map strC) ∧ ρ 4 = int k ∧ ρ 3 = .arr (0, 7) p.length 0 p.length ∧ H (0, 7) = some ⟨1, part strC [str []] p k⟩) ?_ ?_)
  · simp [strC, part_zero]
  · rintro k ρ H n hk ⟨h0, h4, h3, hH⟩ IH
    refine Runs.seq ?_
    refine Runs.seqE Ty_ok (by decide) fun k' hk' => ?_
    simp [h0, h4]   -- R3
    refine hk' _ _ _ ?_
    refine Runs.ite rfl (fun hc1 => ?_) (fun hc1 => ?_)
    · simp at hc1
      refine Runs.skip ?_
      refine Runs.seq ?_
      refine Runs.block ?_
      refine Runs.evalE Ty_ok (by decide) fun k' hk' => ?_
      simp [h0, h3, h4, hH, hc1, part_len hk, part_get hc1, strC]   -- R5
      refine hk' _ _ _ ?_
      refine Runs.inBlock ?_
      refine Runs.evalE Ty_ok (by decide) fun k' hk' => ?_
      simp [h4, wrap_succ (show k < 4611686018427387904 by omega)]   -- R4
      refine hk' _ _ _ ?_
      refine IH hc1 _ _ _ ?_
      rw [← part_set hc1]
      simp [h0, h3, strC, part_get' hc1]
    · simp at hc1
      have hke : k = p.length := by omega
      subst hke
      rw [part_end] at hH
      refine Runs.exit rfl ?_
      refine Runs.seqE Ty_ok (by decide) fun k' hk' => ?_
      simp [h3]   -- R6
      refine hk' _ _ _ ?_
      exact Runs.ret Tryd.func93 (RetOk.one Tryd.results93) (hQ _ _ _ _ (.of (Ret.arrF (by simp [hH]; rfl) (by simp [strC, intC]))) rfl)

end Go.Ab
