/- Contracts of laws.toAmbNode, laws.toProcess, laws.eqAmbNode and laws.eqProcess. -/
import Derived.Test.YtgmjebjcomckaaaDoorAbY
namespace Go.Ab
open Go.Proofs
set_option linter.unusedSimpArgs false

theorem toAmbNode_ok (x : AmbNode) : PureC Tryd.prog 108 [.agg x.cells] (fun r => r = .agg x.cells) := by
  refine PureC.of Tryd.func108 rfl Tryd.ntmps108 (by simp) fun Q hQ => ?_
  refine Runs.seqE Ty_ok (by decide) fun k' hk' => ?_
  simp [AmbNode.cells]   -- R0
  refine hk' _ _ _ ?_
  refine Runs.seqE Ty_ok (by decide) fun k' hk' => ?_
  simp   -- R1
  refine hk' _ _ _ ?_
  refine Runs.seqE Ty_ok (by decide) fun k' hk' => ?_
  simp   -- R2
  refine hk' _ _ _ ?_
  refine Runs.seqE Ty_ok (by decide) fun k' hk' => ?_
  simp   -- R3
  refine hk' _ _ _ ?_
  refine Runs.seqE Ty_ok (by decide) fun k' hk' => ?_
  simp   -- R4
  refine hk' _ _ _ ?_
  refine Runs.seqE Ty_ok (by decide) fun k' hk' => ?_
  simp   -- R5
  refine hk' _ _ _ ?_
  exact Runs.ret Tryd.func108 (RetOk.cell (cs := x.cells) (v := .agg x.cells) Ty_ok Tryd.results108 Ty_144 (by simp [AmbNode.cells]) (by simp [loadA, AmbNode.cells])) (hQ _ _ _ _ (.of (Ret.fresh (by simp [AmbNode.cells]))) rfl)

theorem toAmbNodeS_ok (p : Proc) (hp : p.length ≤ 1048576) : PureC Tryd.prog 48 [.list false (p.map AmbNode.cells)] (fun r => r = .list true (p.map AmbNode.cells)) := by
  refine PureC.of Tryd.func48 rfl Tryd.ntmps48 (by simp) fun Q hQ => ?_
  refine Runs.seqE Ty_ok (by decide) fun k' hk' => ?_
  simp   -- R0
  refine hk' _ _ _ ?_
  refine Runs.seqE Ty_ok (by decide) fun k' hk' => ?_
  simp [show (p.length : Int) ≤ 1073741824 by omega]   -- R1
  refine hk' _ _ _ ?_
  refine Runs.seq ?_
  refine Runs.seqE Ty_ok (by decide) fun k' hk' => ?_
  simp   -- R2
  refine hk' _ _ _ ?_
  refine Runs.block (Runs.loopUp p.length (fun k ρ H n => ρ 0 = .list false (p.map AmbNode.cells) ∧ ρ 4 = int k ∧ ρ 3 = .arr (0, 7) p.length 0 p.length ∧ H (0, 7) = some ⟨3, part AmbNode.cells (AmbNode.cells ⟨0, [], 0⟩) p k⟩) ?_ ?_)
  · simp [AmbNode.cells, part_zero]
  · rintro k ρ H n hk ⟨h0, h4, h3, hH⟩ IH
    refine Runs.seq ?_
    refine Runs.seqE Ty_ok (by decide) fun k' hk' => ?_
    simp [h0, h4]   -- R3
    refine hk' _ _ _ ?_
    refine Runs.ite rfl (fun hc1 => ?_) (fun hc1 => ?_)   -- t11
    · simp at hc1
      refine Runs.skip ?_
      refine Runs.seq ?_
      refine Runs.block ?_
      refine Runs.evalE Ty_ok (by decide) fun k' hk' => ?_
      simp [h0, h3, h4, hc1, AmbNode.cells]   -- R5
      refine RunK.callA Ty_ok (toAmbNode_ok p[k]) e108 (.cons (ArgOk.node _) .nil) (by decide) (by decide) rfl (by simp [AmbNode.cells]) ?_
      rintro _ rfl
      simp [h3, h4, hH, hc1, part_len hk, part_get hc1, AmbNode.cells]
      refine hk' _ _ _ ?_
      refine Runs.inBlock ?_
      refine Runs.evalE Ty_ok (by decide) fun k' hk' => ?_
      simp [h4, wrap_succ (show k < 4611686018427387904 by omega)]   -- R4
      refine hk' _ _ _ ?_
      refine IH hc1 _ _ _ ?_
      rw [← part_set hc1]
      simp [h0, h3, AmbNode.cells, part_get' hc1]
    · simp at hc1
      have hke : k = p.length := by omega
      subst hke
      rw [part_end] at hH
      refine Runs.exit rfl ?_
      refine Runs.seqE Ty_ok (by decide) fun k' hk' => ?_
      simp [h3]   -- R6
      refine hk' _ _ _ ?_
      exact Runs.ret Tryd.func48 (RetOk.one Tryd.results48) (hQ _ _ _ _ (.of (Ret.arrF (by simp [hH]; rfl) (by simp [AmbNode.cells]))) rfl)

theorem toProcess_ok (p : Proc) (hp : p.length ≤ 1048576) : PureC Tryd.prog 11 [encP false p] (fun r => r = encP true p) := by
  refine PureC.of Tryd.func11 rfl Tryd.ntmps11 (by simp) fun Q hQ => ?_
  refine Runs.seqE Ty_ok (by decide) fun k' hk' => ?_
  simp [encP]   -- R0
  refine hk' _ _ _ ?_
  refine Runs.seqE Ty_ok (by decide) fun k' hk' => ?_
  simp   -- R1
  refine hk' _ _ _ ?_
  refine Runs.seqE Ty_ok (by decide) fun k' hk' => ?_
  simp   -- R2
  refine RunK.callA Ty_ok (toAmbNodeS_ok p hp) e48 (.cons (.listF (fr := false) (by simp [AmbNode.cells])) .nil) (by decide) (by decide) rfl (by simp) ?_
  rintro _ rfl
  simp
  refine hk' _ _ _ ?_
  refine Runs.seqE Ty_ok (by decide) fun k' hk' => ?_
  simp   -- R3
  refine hk' _ _ _ ?_
  exact Runs.ret Tryd.func11 (RetOk.cell (cs := [.list true (p.map AmbNode.cells)]) (v := encP true p) Ty_ok Tryd.results11 Ty_30 (by simp) (by simp [loadA, encP])) (hQ _ _ _ _ (.of (Ret.fresh (by simp [encP, AmbNode.cells]))) rfl)

theorem eqAmbNode_ok (x y : AmbNode) : PureC Tryd.prog 113 [.agg x.cells, .agg y.cells] (fun r => r = bool (decide (x = y))) := by
  obtain ⟨k1, n1, p1⟩ := x
  obtain ⟨k2, n2, p2⟩ := y
  refine PureC.of Tryd.func113 rfl Tryd.ntmps113 (by simp) fun Q hQ => ?_
  refine Runs.seqE Ty_ok (by decide) fun k' hk' => ?_
  simp [AmbNode.cells]   -- R0
  refine hk' _ _ _ ?_
  refine Runs.seq ?_
  refine Runs.seqE Ty_ok (by decide) fun k' hk' => ?_
  simp   -- R1
  refine hk' _ _ _ ?_
  refine Runs.ite rfl (fun hc1 => ?_) (fun hc1 => ?_)   -- t9
  · simp at hc1
    refine Runs.seqE Ty_ok (by decide) fun k' hk' => ?_
    simp   -- R2
    refine hk' _ _ _ ?_
    exact Runs.ret Tryd.func113 (RetOk.one Tryd.results113) (hQ _ _ _ _ (.v _ _ _) (by simp [hc1]))
  · simp at hc1
    refine Runs.skip ?_
    refine Runs.seq ?_
    refine Runs.seqE Ty_ok (by decide) fun k' hk' => ?_
    simp   -- R3
    refine hk' _ _ _ ?_
    refine Runs.ite rfl (fun hc2 => ?_) (fun hc2 => ?_)   -- t14
    · simp at hc2
      refine Runs.seqE Ty_ok (by decide) fun k' hk' => ?_
      simp   -- R4
      refine hk' _ _ _ ?_
      exact Runs.ret Tryd.func113 (RetOk.one Tryd.results113) (hQ _ _ _ _ (.v _ _ _) (by simp [hc2]))
    · simp at hc2
      refine Runs.skip ?_
      refine Runs.seq ?_
      refine Runs.seqE Ty_ok (by decide) fun k' hk' => ?_
      simp   -- R5
      refine hk' _ _ _ ?_
      refine Runs.ite rfl (fun hc3 => ?_) (fun hc3 => ?_)   -- t19
      · simp at hc3
        refine Runs.seqE Ty_ok (by decide) fun k' hk' => ?_
        simp   -- R6
        refine hk' _ _ _ ?_
        exact Runs.ret Tryd.func113 (RetOk.one Tryd.results113) (hQ _ _ _ _ (.v _ _ _) (by simp [hc3]))
      · simp at hc3
        refine Runs.skip ?_
        refine Runs.seqE Ty_ok (by decide) fun k' hk' => ?_
        simp   -- R7
        refine hk' _ _ _ ?_
        exact Runs.ret Tryd.func113 (RetOk.one Tryd.results113) (hQ _ _ _ _ (.v _ _ _) (by simp [hc1, hc2, hc3]))

theorem eqAmbNodeS_ok (p q : Proc) (hp : p.length ≤ 1048576) : PureC Tryd.prog 51 [.list false (p.map AmbNode.cells), .list false (q.map AmbNode.cells)] (fun r => r = bool (decide (p = q))) := by
  refine PureC.of Tryd.func51 rfl Tryd.ntmps51 (by simp) fun Q hQ => ?_
  refine Runs.seqE Ty_ok (by decide) fun k' hk' => ?_
  simp   -- R0
  refine hk' _ _ _ ?_
  refine Runs.seq ?_
  refine Runs.seqE Ty_ok (by decide) fun k' hk' => ?_
  simp   -- R1
  refine hk' _ _ _ ?_
  refine Runs.ite rfl (fun hc1 => ?_) (fun hc1 => ?_)   -- t10
  · simp at hc1
    refine Runs.seqE Ty_ok (by decide) fun k' hk' => ?_
    simp   -- R2
    refine hk' _ _ _ ?_
    refine Runs.ret Tryd.func51 (RetOk.one Tryd.results51) (hQ _ _ _ _ (.v _ _ _) ?_)
    have : p ≠ q := by intro h; subst h; omega
    simp [this]
  · simp at hc1
    have hlen : p.length = q.length := by omega
    refine Runs.skip ?_
    refine Runs.seq ?_
    refine Runs.seqE Ty_ok (by decide) fun k' hk' => ?_
    simp   -- R3
    refine hk' _ _ _ ?_
    refine Runs.block (Runs.loopUp p.length (fun k ρ H n => ρ 0 = .list false (p.map AmbNode.cells) ∧ ρ 1 = .list false (q.map AmbNode.cells) ∧ ρ 5 = int k ∧ p.take k = q.take k) ?_ ?_)
    · simp
    · rintro k ρ H n hk ⟨h0, h1, h5, heq⟩ IH
      refine Runs.seq ?_
      refine Runs.seqE Ty_ok (by decide) fun k' hk' => ?_
      simp [h0, h5]   -- R4
      refine hk' _ _ _ ?_
      refine Runs.ite rfl (fun hc2 => ?_) (fun hc2 => ?_)   -- t14
      · simp at hc2
        have hq2 : k < q.length := by omega
        refine Runs.skip ?_
        refine Runs.seq ?_
        refine Runs.block ?_
        refine Runs.seqD Ty_ok kindOp_ok draws (by decide) (by kernel_rfl) fun k' hk' => ?_
        simp [h0, h1, h5, hc2, hq2, AmbNode.cells]   -- R6
        refine RunDK.callA Ty_ok kindOp_ok (eqAmbNode_ok p[k] q[k]) e113 (.cons (ArgOk.node _) (.cons (ArgOk.node _) .nil)) (by decide) rfl (by simp [AmbNode.cells]) ?_
        simp
        refine hk' _ _ _ ?_
        refine Runs.ite rfl (fun hc3 => ?_) (fun hc3 => ?_)   -- t26
        · simp at hc3
          refine Runs.seqE Ty_ok (by decide) fun k' hk' => ?_
          simp   -- R7
          refine hk' _ _ _ ?_
          refine Runs.ret Tryd.func51 (RetOk.one Tryd.results51) (hQ _ _ _ _ (.v _ _ _) ?_)
          have : p ≠ q := by intro h; subst h; exact hc3 rfl
          simp [this]
        · simp at hc3
          refine Runs.skip ?_
          refine Runs.inBlock ?_
          refine Runs.evalE Ty_ok (by decide) fun k' hk' => ?_
          simp [h5, wrap_succ (show k < 4611686018427387904 by omega)]   -- R5
          refine hk' _ _ _ ?_
          refine IH hc2 _ _ _ ?_
          refine ⟨by simp [h0], by simp [h1], by simp, ?_⟩
          rw [List.take_succ_eq_append_getElem hc2, List.take_succ_eq_append_getElem hq2, heq, hc3]
      · simp at hc2
        refine Runs.exit rfl ?_
        refine Runs.seqE Ty_ok (by decide) fun k' hk' => ?_
        simp   -- R8
        refine hk' _ _ _ ?_
        refine Runs.ret Tryd.func51 (RetOk.one Tryd.results51) (hQ _ _ _ _ (.v _ _ _) ?_)
        rw [List.take_of_length_le hc2, List.take_of_length_le (by omega)] at heq
        simp [heq]

theorem eqProcess_ok (p q : Proc) (hp : p.length ≤ 1048576) : PureC Tryd.prog 13 [encP false p, encP false q] (fun r => r = bool (decide (p = q))) := by
  refine PureC.of Tryd.func13 rfl Tryd.ntmps13 (by simp) fun Q hQ => ?_
  refine Runs.seqE Ty_ok (by decide) fun k' hk' => ?_
  simp [encP]   -- R0
  refine hk' _ _ _ ?_
  refine Runs.seq ?_
  refine Runs.seqE Ty_ok (by decide) fun k' hk' => ?_
  simp   -- R1
  refine RunK.callA Ty_ok (eqAmbNodeS_ok p q hp) e51 (.cons (.listF (fr := false) (by simp [AmbNode.cells])) (.cons (.listF (fr := false) (by simp [AmbNode.cells])) .nil)) (by decide) (by decide) rfl (by simp) ?_
  rintro _ rfl
  simp
  refine hk' _ _ _ ?_
  refine Runs.ite rfl (fun hc1 => ?_) (fun hc1 => ?_)   -- t10
  · simp at hc1
    refine Runs.seqE Ty_ok (by decide) fun k' hk' => ?_
    simp   -- R2
    refine hk' _ _ _ ?_
    exact Runs.ret Tryd.func13 (RetOk.one Tryd.results13) (hQ _ _ _ _ (.v _ _ _) (by simp [hc1]))
  · simp at hc1
    refine Runs.skip ?_
    refine Runs.seqE Ty_ok (by decide) fun k' hk' => ?_
    simp   -- R3
    refine hk' _ _ _ ?_
    exact Runs.ret Tryd.func13 (RetOk.one Tryd.results13) (hQ _ _ _ _ (.v _ _ _) (by simp [hc1]))
end Go.Ab
