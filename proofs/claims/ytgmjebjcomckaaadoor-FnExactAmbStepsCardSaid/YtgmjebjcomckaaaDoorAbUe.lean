/- The contract of (impl.Proc).possible: the list of all possible steps, which the caller owns. -/
import Derived.Test.YtgmjebjcomckaaaDoorAbUd
namespace Go.Ab
open Go.Proofs
set_option linter.unusedSimpArgs false

def InvS (p : Proc) (ρ : Env) (H : Heap) (L : List AmbStep) : Prop :=
  ρ 1 = .ptr (0, 1) 1 0 0 ∧ H (0, 1) = some ⟨1, [[.list false (p.map AmbNode.cells)]]⟩ ∧ ρ 3 = .arr (1, 8) L.length 0 L.length ∧ H (1, 8) = some ⟨3, L.map AmbStep.cells⟩

def encSteps (t : Bool) (l : List AmbStep) : AVal := .list t (l.map AmbStep.cells)

theorem possible_ok {p : Proc} (hp : Valid p) : OwnC Tryd.prog 53 [encP false p] 1 (fun r => r = encSteps true (kindS p 3)) := by
  have hp8 := hp.len
  refine OwnC.of Tryd.func53 rfl Tryd.ntmps53 (by simp) fun Q hQ => ?_
  refine Runs.seqE Ty_ok (by decide) fun k' hk' => ?_
  simp [encP]   -- R0
  refine hk' _ _ _ ?_
  refine Runs.seqE Ty_ok (by decide) fun k' hk' => ?_
  simp   -- R1
  refine hk' _ _ _ ?_
  refine Runs.seq ?_
  refine Runs.seqE Ty_ok (by decide) fun k' hk' => ?_
  simp   -- R2
  refine hk' _ _ _ ?_
  refine Runs.block (Runs.loopUp 3 (fun k ρ H n => InvS p ρ H (kindS p k) ∧ ρ 4 = int ((k : Int) + 1)) ?_ ?_)
  · simp [InvS, kindS_zero]
  · rintro k ρ H n hk ⟨⟨h1, hH1, h3, hH3⟩, h4⟩ IH
    refine Runs.seq ?_
    refine Runs.seqE Ty_ok (by decide) fun k' hk' => ?_
    simp [h4]   -- R3
    refine hk' _ _ _ ?_
    refine Runs.ite rfl (fun hc1 => ?_) (fun hc1 => ?_)   -- t10
    · have hk3 : k < 3 := by simp at hc1; omega
      refine Runs.skip ?_
      refine Runs.seq ?_
      refine Runs.block ?_
      refine Runs.seqE Ty_ok (by decide) fun k' hk' => ?_
      simp [h1, hH1]   -- R5
      refine hk' _ _ _ ?_
      refine Runs.block (Runs.loopUp p.length (fun i ρ H n => InvS p ρ H (kindS p k ++ capS p (k + 1) i) ∧ ρ 4 = int ((k : Int) + 1) ∧ ρ 15 = int p.length ∧ ρ 16 = int i) ?_ ?_)
      · simp [InvS, capS_zero, h1, hH1, h3, hH3, h4]
      · clear h1 hH1 h3 hH3 h4
        rintro i ρ H n hi ⟨⟨h1, hH1, h3, hH3⟩, h4, h15, h16⟩ IH2
        refine Runs.seqE Ty_ok (by decide) fun k' hk' => ?_
        simp [h15, h16]   -- R6
        refine hk' _ _ _ ?_
        refine Runs.seq ?_
        refine Runs.ite rfl (fun hc2 => ?_) (fun hc2 => ?_)   -- t17
        · simp at hc2
          refine Runs.skip ?_
          refine Runs.seq ?_
          refine Runs.block ?_
          refine Runs.seqE Ty_ok (by decide) fun k' hk' => ?_
          simp [h16]   -- R7
          refine hk' _ _ _ ?_
          refine Runs.seqE Ty_ok (by decide) fun k' hk' => ?_
          simp [h1, hH1]   -- R8
          refine hk' _ _ _ ?_
          refine Runs.block (Runs.loopUp p.length (fun j ρ H n => InvS p ρ H (kindS p k ++ capS p (k + 1) i ++ rowS p (k + 1) i j) ∧ ρ 4 = int ((k : Int) + 1) ∧ ρ 15 = int p.length ∧ ρ 16 = int i ∧ ρ 5 = int i ∧ ρ 21 = int p.length ∧ ρ 22 = int j) ?_ ?_)
          · simp [InvS, rowS_zero, h1, hH1, h3, hH3, h4, h15, h16]
          · clear h1 hH1 h3 hH3 h4 h15 h16
            rintro j ρ H n hj ⟨⟨h1, hH1, h3, hH3⟩, h4, h15, h16, h5, h21, h22⟩ IH3
            refine Runs.seqE Ty_ok (by decide) fun k' hk' => ?_
            simp [h21, h22]   -- R9
            refine hk' _ _ _ ?_
            refine Runs.seq ?_
            refine Runs.ite rfl (fun hc3 => ?_) (fun hc3 => ?_)   -- t23
            · simp at hc3
              refine Runs.skip ?_
              refine Runs.seq ?_
              refine Runs.block ?_
              refine Runs.seqE Ty_ok (by decide) fun k' hk' => ?_
              simp [h22]   -- R10
              refine hk' _ _ _ ?_
              refine Runs.seqE Ty_ok (by decide) fun k' hk' => ?_
              simp [h4, h5]   -- R11
              refine hk' _ _ _ ?_
              refine Runs.seqE Ty_ok (by decide) fun k' hk' => ?_
              simp [h1, hH1]   -- R12
              refine RunK.callA Ty_ok (isPossible_ok hp (k + 1) i j (by omega) hc2 hc3) e116 (.cons (ArgOk.encP false p) (.cons (ArgOk.step _) .nil)) (by decide) (by decide) rfl (by simp [encP, AmbStep.cells]) ?_
              rintro _ rfl
              have hl1 := kindS_len p hp8 k
              have hl2 := capS_len p hp8 (k + 1) i
              have hl3 := rowS_len p (k + 1) i j
              have hrs := rowS_succ p (k + 1) i j
              have hLl : (kindS p k ++ capS p (k + 1) i ++ rowS p (k + 1) i j).length ≤ 1073741823 := by simp only [List.length_append]; omega
              simp
              refine hk' _ _ _ ?_
              refine Runs.ite rfl (fun hc4 => ?_) (fun hc4 => ?_)   -- t31
              · rw [if_pos hc4] at hrs
                generalize hL : kindS p k ++ capS p (k + 1) i ++ rowS p (k + 1) i j = L at h3 hH3 hLl
                refine Runs.evalE Ty_ok (by decide) fun k' hk' => ?_
                simp [h3, hH3, hLl, AmbStep.cells]   -- R13
                refine hk' _ _ _ ?_
                refine Runs.inBlock ?_
                refine Runs.evalE Ty_ok (by decide) fun k' hk' => ?_
                simp [h22, wrap_succ (show j < 4611686018427387904 by omega)]   -- R14
                refine hk' _ _ _ ?_
                refine IH3 hc3 _ _ _ ?_
                rw [hrs, ← List.append_assoc, hL]
                simp [InvS, h1, hH1, h4, h15, h16, h5, h21, AmbStep.cells]
              · rw [if_neg (by rw [hc4]; simp)] at hrs
                refine Runs.skip ?_
                refine Runs.inBlock ?_
                refine Runs.evalE Ty_ok (by decide) fun k' hk' => ?_
                simp [h22, wrap_succ (show j < 4611686018427387904 by omega)]   -- R14
                refine hk' _ _ _ ?_
                refine IH3 hc3 _ _ _ ?_
                rw [hrs]
                generalize hL : kindS p k ++ capS p (k + 1) i ++ rowS p (k + 1) i j = L at h3 hH3 hLl
                simp [InvS, h1, hH1, h3, hH3, h4, h15, h16, h5, h21]
            · simp at hc3
              have hje : j = p.length := by omega
              subst hje
              refine Runs.exit rfl ?_
              refine Runs.inBlock ?_
              refine Runs.evalE Ty_ok (by decide) fun k' hk' => ?_
              simp [h16, wrap_succ (show i < 4611686018427387904 by omega)]   -- R15
              refine hk' _ _ _ ?_
              refine IH2 hc2 _ _ _ ?_
              rw [capS_succ, ← List.append_assoc]
              generalize hL : kindS p k ++ capS p (k + 1) i ++ rowS p (k + 1) i p.length = L at h3 hH3
              simp [InvS, h1, hH1, h3, hH3, h4, h15]
        · simp at hc2
          have hie : i = p.length := by omega
          subst hie
          refine Runs.exit rfl ?_
          refine Runs.inBlock ?_
          refine Runs.evalE Ty_ok (by decide) fun k' hk' => ?_
          have hw : IntKind.i64.wrap ((k : Int) + 1 + 1) = ((k + 1 : Nat) : Int) + 1 := by rw [wrap64 (by omega) (by omega)]; omega
          simp [h4, hw]   -- R4
          refine hk' _ _ _ ?_
          refine IH hk3 _ _ _ ?_
          rw [kindS_succ]
          generalize hL : kindS p k ++ capS p (k + 1) p.length = L at h3 hH3
          simp [InvS, h1, hH1, h3, hH3]
    · have hke : k = 3 := by simp at hc1; omega
      subst hke
      refine Runs.exit rfl ?_
      refine Runs.seqE Ty_ok (by decide) fun k' hk' => ?_
      simp [h3]   -- R16
      refine hk' _ _ _ ?_
      exact Runs.ret Tryd.func53 (RetOk.one Tryd.results53) (hQ _ _ _ _ _ (Own.arrF (by simp [hH3]; rfl) (by simp) (by simp [AmbStep.cells])) rfl)
end Go.Ab
