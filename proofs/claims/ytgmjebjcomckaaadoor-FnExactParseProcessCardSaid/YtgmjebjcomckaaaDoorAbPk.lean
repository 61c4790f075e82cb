/- Contract of laws.heldAmbNodeS, by program; and of laws.heldProcess. -/
import Derived.Test.YtgmjebjcomckaaaDoorAbUm
import Derived.Test.YtgmjebjcomckaaaDoorAbP
namespace Go.Ab
open Go.Proofs
set_option linter.unusedSimpArgs false
theorem e22 : Ent Tryd.prog 22 := Ent.of Tryd.func22 (by kernel_rfl) rfl
theorem e58 : Ent Tryd.prog 58 := Ent.of Tryd.func58 (by kernel_rfl) rfl

theorem heldAmbNodeS_ok (k c : Nat) (hk : k + 3 * c ≤ 1152921504606846976) : PureC Tryd.prog 58 [.list false ((markNodes k c).map AmbNode.cells), int k] (fun r => r = int ((k + 3 * c : Nat) : Int)) := by
  have hlen : (markNodes k c).length = c := by simp [markNodes]
  refine PureC.of Tryd.func58 rfl Tryd.ntmps58 (by simp) fun Q hQ => ?_
  refine Runs.seqE Ty_ok (by decide) fun k' hk' => ?_
  simp   -- R0
  refine hk' _ _ _ ?_
  refine Runs.seq ?_
  refine Runs.seqE Ty_ok (by decide) fun k' hk' => ?_
  simp   -- R1
  refine hk' _ _ _ ?_
  refine Runs.block (Runs.loopUp c (fun j ρ H n => ρ 0 = .list false ((markNodes k c).map AmbNode.cells) ∧ ρ 5 = int j ∧ ρ 1 = int ((k + 3 * j : Nat) : Int)) ?_ ?_)
  · simp
  · rintro j ρ H n hj ⟨h0, h5, h1⟩ IH
    refine Runs.seq ?_
    refine Runs.seqE Ty_ok (by decide) fun k' hk' => ?_
    simp [h0, h5, hlen]   -- R2
    refine hk' _ _ _ ?_
    refine Runs.ite rfl (fun hc1 => ?_) (fun hc1 => ?_)
    · simp at hc1
      have hg : (markNodes k c)[j]? = some (markNode k j) := by simp [markNodes, hc1]
      have hg' : ∀ h : j < (markNodes k c).length, (markNodes k c)[j] = markNode k j := fun h => by simp [markNodes]
      have w1 := wrap_one (a := k + 3 * j) rfl (by omega)
      have w2 := wrap_one (a := k + 3 * j + 1) rfl (by omega)
      have w3 := wrap_one (a := k + 3 * j + 2) rfl (by omega)
      refine Runs.skip ?_
      refine Runs.seq ?_
      refine Runs.block ?_
      refine Runs.seq ?_
      refine Runs.seqE Ty_ok (by decide) fun k' hk' => ?_
      simp [h0, h5, h1, hlen, hc1, hg, hg', AmbNode.cells, markNode, -Int.natCast_add]
      refine hk' _ _ _ ?_
      refine Runs.ite rfl (fun hc => by simp at hc) (fun _ => ?_)
      refine Runs.skip ?_
      refine Runs.seqE Ty_ok (by decide) fun k' hk' => ?_
      simp [h1, w1, -Int.natCast_add]
      refine hk' _ _ _ ?_
      refine Runs.seq ?_
      refine Runs.seqD Ty_ok kindOp_ok draws (by decide) (by kernel_rfl) fun k' hk' => ?_
      simp [h0, h5, h1, hlen, hc1, hg, hg', AmbNode.cells, markNode, -Int.natCast_add]
      refine RunDK.callA Ty_ok kindOp_ok (markText_ok (k + 3 * j + 1) (by omega)) e99 (.cons (.v _ _ _) .nil) (by decide) rfl (by simp [h1, -Int.natCast_add]) ?_
      simp [h0, h5, h1, hlen, hc1, hg, hg', AmbNode.cells, markNode, -Int.natCast_add]
      refine hk' _ _ _ ?_
      refine Runs.ite rfl (fun hc => by simp at hc) (fun _ => ?_)
      refine Runs.skip ?_
      refine Runs.seqE Ty_ok (by decide) fun k' hk' => ?_
      simp [h1, w2, -Int.natCast_add]
      refine hk' _ _ _ ?_
      refine Runs.seq ?_
      refine Runs.seqE Ty_ok (by decide) fun k' hk' => ?_
      simp [h0, h5, h1, hlen, hc1, hg, hg', AmbNode.cells, markNode, -Int.natCast_add]
      refine hk' _ _ _ ?_
      refine Runs.ite rfl (fun hc => by simp at hc) (fun _ => ?_)
      refine Runs.skip ?_
      refine Runs.evalE Ty_ok (by decide) fun k' hk' => ?_
      simp [h1, w3, -Int.natCast_add]
      refine hk' _ _ _ ?_
      refine Runs.inBlock ?_
      refine Runs.evalE Ty_ok (by decide) fun k' hk' => ?_
      simp [h5, wrap_succ (show j < 4611686018427387904 by omega), -Int.natCast_add]
      refine hk' _ _ _ ?_
      refine IH hc1 _ _ _ ?_
      simp [h0, -Int.natCast_add]
      omega
    · simp at hc1
      have hje : j = c := by omega
      subst hje
      refine Runs.exit rfl ?_
      refine Runs.seqE Ty_ok (by decide) fun k' hk' => ?_
      simp [h1, -Int.natCast_add]
      refine hk' _ _ _ ?_
      exact Runs.ret Tryd.func58 (RetOk.one Tryd.results58) (hQ _ _ _ _ (.v _ _ _) rfl)


theorem heldProcess_ok (k c : Nat) (hk : k + 3 * c ≤ 1152921504606846976) : PureC Tryd.prog 22 [encP false (markNodes k c), int k] (fun r => r = int ((k + 3 * c : Nat) : Int)) := by
  refine PureC.of Tryd.func22 rfl Tryd.ntmps22 (by simp) fun Q hQ => ?_
  refine Runs.seqE Ty_ok (by decide) fun k' hk' => ?_
  simp [encP]   -- R0
  refine hk' _ _ _ ?_
  refine Runs.seqE Ty_ok (by decide) fun k' hk' => ?_
  simp   -- R1
  refine RunK.callA Ty_ok (heldAmbNodeS_ok k c hk) e58 (.cons (.listF (fr := false) (by simp [AmbNode.cells])) (.cons (.v _ _ _) .nil)) (by decide) (by decide) rfl (by simp) ?_
  rintro _ rfl
  simp [-Int.natCast_add]
  refine hk' _ _ _ ?_
  refine Runs.seq ?_
  refine Runs.seqE Ty_ok (by decide) fun k' hk' => ?_
  simp [show ¬ ((k + 3 * c : Nat) : Int) < 0 by omega, -Int.natCast_add]   -- R2
  refine hk' _ _ _ ?_
  refine Runs.ite rfl (fun hc1 => by simp at hc1) (fun hc1 => ?_)   -- t10
  refine Runs.skip ?_
  refine Runs.seqE Ty_ok (by decide) fun k' hk' => ?_
  simp [-Int.natCast_add]   -- R4
  refine hk' _ _ _ ?_
  exact Runs.ret Tryd.func22 (RetOk.one Tryd.results22) (hQ _ _ _ _ (.v _ _ _) rfl)
end Go.Ab
