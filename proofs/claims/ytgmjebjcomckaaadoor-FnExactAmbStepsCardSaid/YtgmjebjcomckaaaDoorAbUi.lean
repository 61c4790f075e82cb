/- laws.toAmbNodeS, whose result the caller owns. -/
import Derived.Test.YtgmjebjcomckaaaDoorAbUh
import Derived.Test.YtgmjebjcomckaaaDoorAbYb
namespace Go.Ab
open Go.Proofs
set_option linter.unusedSimpArgs false

theorem toAmbNodeS_own (p : Proc) (hp : p.length ≤ 1048576) : OwnC Tryd.prog 48 [.list false (p.map AmbNode.cells)] 1 (fun r => r = .list true (p.map AmbNode.cells)) := by
  refine OwnC.of Tryd.func48 rfl Tryd.ntmps48 (by simp) fun Q hQ => ?_
  refine Runs.seqE Ty_ok (by decide) fun k' hk' => ?_
  simp   -- R0
  refine hk' _ _ _ ?_
  refine Runs.seqE Ty_ok (by decide) fun k' hk' => ?_
  simp [show (p.length : Int) ≤ 1073741824 by omega]   -- R1
  refine hk' _ _ _ ?_
  refine Runs.seq ?_
  refine Runs.seqE Ty_ok (by decide) fun k' hk' => ?_
  simp   -- R2
  refine hk' _ _ _ ?_
  refine Runs.block (Runs.loopUp p.length (fun k ρ H n => ρ 0 = .list false (p.map AmbNode.cells) ∧ ρ 4 = int k ∧ ρ 3 = .arr (0, 7) p.length 0 p.length ∧ H (0, 7) = some ⟨3, part AmbNode.cells (AmbNode.cells ⟨0, [], 0⟩) p k⟩) ?_ ?_)
  · simp [AmbNode.cells, part_zero]
  · rintro k ρ H n hk ⟨h0, h4, h3, hH⟩ IH
    refine Runs.seq ?_
    refine Runs.seqE Ty_ok (by decide) fun k' hk' => ?_
    simp [h0, h4]   -- R3
    refine hk' _ _ _ ?_
    refine Runs.ite rfl (fun hc1 => ?_) (fun hc1 => ?_)   -- t11
    · simp at hc1
      refine Runs.skip ?_
      refine Runs.seq ?_
      refine Runs.block ?_
      refine Runs.evalE Ty_ok (by decide) fun k' hk' => ?_
      simp [h0, h3, h4, hc1, AmbNode.cells]   -- R5
      refine RunK.callA Ty_ok (toAmbNode_ok p[k]) e108 (.cons (ArgOk.node _) .nil) (by decide) (by decide) rfl (by simp [AmbNode.cells]) ?_
      rintro _ rfl
      simp [h3, h4, hH, hc1, part_len hk, part_get hc1, AmbNode.cells]
      refine hk' _ _ _ ?_
      refine Runs.inBlock ?_
      refine Runs.evalE Ty_ok (by decide) fun k' hk' => ?_
      simp [h4, wrap_succ (show k < 4611686018427387904 by omega)]   -- R4
      refine hk' _ _ _ ?_
      refine IH hc1 _ _ _ ?_
      rw [← part_set hc1]
      simp [h0, h3, AmbNode.cells, part_get' hc1]
    · simp at hc1
      have hke : k = p.length := by omega
      subst hke
      rw [part_end] at hH
      refine Runs.exit rfl ?_
      refine Runs.seqE Ty_ok (by decide) fun k' hk' => ?_
      simp [h3]   -- R6
      refine hk' _ _ _ ?_
      exact Runs.ret Tryd.func48 (RetOk.one Tryd.results48) (hQ _ _ _ _ _ (Own.arrF (by simp [hH]; rfl) (by simp) (by simp [AmbNode.cells])) rfl)


theorem toProcess_own (p : Proc) (hp : p.length ≤ 1048576) : OwnC Tryd.prog 11 [encP false p] 2 (fun r => r = encP true p) := by
  refine OwnC.of Tryd.func11 rfl Tryd.ntmps11 (by simp) fun Q hQ => ?_
  refine Runs.seqE Ty_ok (by decide) fun k' hk' => ?_
  simp [encP]   -- R0
  refine hk' _ _ _ ?_
  refine Runs.seqE Ty_ok (by decide) fun k' hk' => ?_
  simp   -- R1
  refine hk' _ _ _ ?_
  refine Runs.seqE Ty_ok (by decide) fun k' hk' => ?_
  simp   -- R2
  refine RunK.callO Ty_ok (toAmbNodeS_own p hp) e48 (.cons (.listF (fr := false) (by simp [AmbNode.cells])) .nil) (by decide) (by decide) rfl (by simp) ?_
  intro v H1 n1 r S hO hR hn hS hfr
  subst hR
  have h3 := hfr (2, 3) (by decide)
  have h2 := hfr (1, 2) (by decide)
  simp at h3 h2
  have hv : v = .v (.slice none 0 0) ∨ ∃ id g, v = .arr id g 0 g := by
    rcases hO with ⟨⟨x, _, hx⟩, _⟩ | ⟨cs, ds, _, hx, _⟩ | ⟨cs, ds, _, hx, _⟩ | ⟨rfl, _, _⟩ | ⟨id, o, els, T, rfl, _, _⟩
    · cases hx
    · cases hx
    · cases hx
    · exact .inl rfl
    · exact .inr ⟨id, _, rfl⟩
  have hOx : ∀ H2 : Heap, (∀ i ∈ S, H2 i = H1 i) → Own H2 2 (.agg [v]) (encP true p) S := fun H2 h => Own.agg1 (hO.frame h)
  have hne3 : ∀ i ∈ S, i ≠ (2, 3) := fun i hi he => by have := (hS i hi).1; rw [he] at this; simp at this
  have hne2 : ∀ i ∈ S, i ≠ (1, 2) := fun i hi he => by have := (hS i hi).1; rw [he] at this; simp at this
  rcases hv with rfl | ⟨id, g, rfl⟩
  all_goals
    simp [h3]
    refine hk' _ _ _ ?_
    refine Runs.seqE Ty_ok (by decide) fun k' hk' => ?_
    simp [h2]   -- R3
    refine hk' _ _ _ ?_
    refine Runs.ret Tryd.func11 (RetOk.cell Ty_ok Tryd.results11 Ty_30 (by simp; rfl) (by simp [loadA])) (hQ _ _ _ _ _ (hOx _ fun i hi => ?_) rfl)
    rw [Heap.get_set_ne _ _ (hne2 i hi), Heap.get_set_ne _ _ (hne3 i hi)]
end Go.Ab
