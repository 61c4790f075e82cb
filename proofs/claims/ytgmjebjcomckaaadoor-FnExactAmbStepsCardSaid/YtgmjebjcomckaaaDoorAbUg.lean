/- The contract of spec.AmbSteps. -/
import Derived.Test.YtgmjebjcomckaaaDoorAbUf
namespace Go.Ab
open Go.Proofs
set_option linter.unusedSimpArgs false

def InvT (p : Proc) (ρ : Env) (H : Heap) (L : List AmbStep) : Prop :=
  ρ 1 = .ptr (0, 1) 1 0 0 ∧ H (0, 1) = some ⟨1, [[.list false (p.map AmbNode.cells)]]⟩ ∧ ρ 4 = .arr (1, 9) L.length 0 L.length ∧ H (1, 9) = some ⟨3, L.map AmbStep.cells⟩

theorem specAmbSteps_ok (p : Proc) (hp : p.length ≤ 1048576) (hn : ∀ i, i < p.length → (p.getD i default).name.length ≤ 1048576) : PureC Tryd.prog 14 [encP false p] (fun r => r = .tup [encSteps true (ambSteps p), bool (goodP p)]) := by
  refine PureC.of Tryd.func14 rfl Tryd.ntmps14 (by simp) fun Q hQ => ?_
  refine Runs.seqE Ty_ok (by decide) fun k' hk' => ?_
  simp [encP]   -- R0
  refine hk' _ _ _ ?_
  refine Runs.seqE Ty_ok (by decide) fun k' hk' => ?_
  simp   -- R1
  refine hk' _ _ _ ?_
  refine Runs.seq ?_
  refine Runs.seqE Ty_ok (by decide) fun k' hk' => ?_
  simp   -- R2
  refine RunK.callA Ty_ok (l12Good_ok p hp hn) e46 (.cons (ArgOk.encP false p) .nil) (by decide) (by decide) rfl (by simp [encP]) ?_
  rintro _ rfl
  cases hg : goodP p
  · simp
    refine hk' _ _ _ ?_
    refine Runs.ite rfl (fun _ => ?_) (fun h => by simp at h)
    refine Runs.seqE Ty_ok (by decide) fun k' hk' => ?_
    simp   -- R3
    refine hk' _ _ _ ?_
    refine Runs.ret Tryd.func14 (RetOk.two Tryd.results14) (hQ _ _ _ _ (.of ?_) (by simp [ambSteps, hg, encSteps]; rfl))
    refine Ret.tup rfl fun i a b ha hb => ?_
    match i with
    | 0 => simp at ha hb; subst ha hb; exact Ret.arrF (by simp; rfl) (by simp)
    | 1 => simp at ha hb; subst ha hb; exact .v _
    | i + 2 => simp at ha
  · have hv := goodP_valid hg
    have hp8 := hv.len
    simp
    refine hk' _ _ _ ?_
    refine Runs.ite rfl (fun h => by simp at h) (fun _ => ?_)
    refine Runs.skip ?_
    refine Runs.seq ?_
    refine Runs.seqE Ty_ok (by decide) fun k' hk' => ?_
    simp   -- R4
    refine hk' _ _ _ ?_
    refine Runs.block (Runs.loopUp 3 (fun k ρ H n => InvT p ρ H (kindS p k) ∧ ρ 5 = int ((k : Int) + 1)) ?_ ?_)
    · simp [InvT, kindS_zero]
    · rintro k ρ H n hk ⟨⟨h1, hH1, h4, hH4⟩, h5⟩ IH
      refine Runs.seq ?_
      refine Runs.seqE Ty_ok (by decide) fun k' hk' => ?_
      simp [h5]   -- R5
      refine hk' _ _ _ ?_
      refine Runs.ite rfl (fun hc1 => ?_) (fun hc1 => ?_)
      · have hk3 : k < 3 := by simp at hc1; omega
        refine Runs.skip ?_
        refine Runs.seq ?_
        refine Runs.block ?_
        refine Runs.seqE Ty_ok (by decide) fun k' hk' => ?_
        simp   -- R7
        refine hk' _ _ _ ?_
        refine Runs.block (Runs.loopUp p.length (fun i ρ H n => InvT p ρ H (kindS p k ++ capS p (k + 1) i) ∧ ρ 5 = int ((k : Int) + 1) ∧ ρ 6 = int i) ?_ ?_)
        · simp [InvT, capS_zero, h1, hH1, h4, hH4, h5]
        · clear h1 hH1 h4 hH4 h5
          rintro i ρ H n hi ⟨⟨h1, hH1, h4, hH4⟩, h5, h6⟩ IH2
          refine Runs.seq ?_
          refine Runs.seqE Ty_ok (by decide) fun k' hk' => ?_
          simp [h6, h1, hH1]   -- R8
          refine hk' _ _ _ ?_
          refine Runs.ite rfl (fun hc2 => ?_) (fun hc2 => ?_)
          · simp at hc2
            refine Runs.skip ?_
            refine Runs.seq ?_
            refine Runs.block ?_
            refine Runs.seqE Ty_ok (by decide) fun k' hk' => ?_
            simp   -- R10
            refine hk' _ _ _ ?_
            refine Runs.block (Runs.loopUp p.length (fun j ρ H n => InvT p ρ H (kindS p k ++ capS p (k + 1) i ++ rowS p (k + 1) i j) ∧ ρ 5 = int ((k : Int) + 1) ∧ ρ 6 = int i ∧ ρ 7 = int j) ?_ ?_)
            · simp [InvT, rowS_zero, h1, hH1, h4, hH4, h5, h6]
            · clear h1 hH1 h4 hH4 h5 h6
              rintro j ρ H n hj ⟨⟨h1, hH1, h4, hH4⟩, h5, h6, h7⟩ IH3
              refine Runs.seq ?_
              refine Runs.seqE Ty_ok (by decide) fun k' hk' => ?_
              simp [h7, h1, hH1]   -- R11
              refine hk' _ _ _ ?_
              refine Runs.ite rfl (fun hc3 => ?_) (fun hc3 => ?_)
              · simp at hc3
                refine Runs.skip ?_
                refine Runs.seq ?_
                refine Runs.block ?_
                refine Runs.seqE Ty_ok (by decide) fun k' hk' => ?_
                simp [h5, h6, h7]   -- R13
                refine hk' _ _ _ ?_
                refine Runs.seqE Ty_ok (by decide) fun k' hk' => ?_
                simp [h1, hH1]   -- R14
                refine RunK.callA Ty_ok (l12Can_ok hv (k + 1) i j (by omega) hc2 hc3) e52 (.cons (ArgOk.encP false p) (.cons (ArgOk.step _) .nil)) (by decide) (by decide) rfl (by simp [encP, AmbStep.cells]) ?_
                rintro _ rfl
                have hl1 := kindS_len p hp8 k
                have hl2 := capS_len p hp8 (k + 1) i
                have hl3 := rowS_len p (k + 1) i j
                have hrs := rowS_succ p (k + 1) i j
                have hLl : (kindS p k ++ capS p (k + 1) i ++ rowS p (k + 1) i j).length ≤ 1073741823 := by simp only [List.length_append]; omega
                simp
                refine hk' _ _ _ ?_
                refine Runs.ite rfl (fun hc4 => ?_) (fun hc4 => ?_)
                · rw [if_pos hc4] at hrs
                  generalize hL : kindS p k ++ capS p (k + 1) i ++ rowS p (k + 1) i j = L at h4 hH4 hLl
                  refine Runs.evalE Ty_ok (by decide) fun k' hk' => ?_
                  simp [h4, hH4, hLl, AmbStep.cells]   -- R15
                  refine hk' _ _ _ ?_
                  refine Runs.inBlock ?_
                  refine Runs.evalE Ty_ok (by decide) fun k' hk' => ?_
                  simp [h7, wrap_succ (show j < 4611686018427387904 by omega)]   -- R12
                  refine hk' _ _ _ ?_
                  refine IH3 hc3 _ _ _ ?_
                  rw [hrs, ← List.append_assoc, hL]
                  simp [InvT, h1, hH1, h5, h6, AmbStep.cells]
                · rw [if_neg (by rw [hc4]; simp)] at hrs
                  refine Runs.skip ?_
                  refine Runs.inBlock ?_
                  refine Runs.evalE Ty_ok (by decide) fun k' hk' => ?_
                  simp [h7, wrap_succ (show j < 4611686018427387904 by omega)]   -- R12
                  refine hk' _ _ _ ?_
                  refine IH3 hc3 _ _ _ ?_
                  rw [hrs]
                  generalize hL : kindS p k ++ capS p (k + 1) i ++ rowS p (k + 1) i j = L at h4 hH4 hLl
                  simp [InvT, h1, hH1, h4, hH4, h5, h6]
              · simp at hc3
                have hje : j = p.length := by omega
                subst hje
                refine Runs.exit rfl ?_
                refine Runs.inBlock ?_
                refine Runs.evalE Ty_ok (by decide) fun k' hk' => ?_
                simp [h6, wrap_succ (show i < 4611686018427387904 by omega)]   -- R9
                refine hk' _ _ _ ?_
                refine IH2 hc2 _ _ _ ?_
                rw [capS_succ, ← List.append_assoc]
                generalize hL : kindS p k ++ capS p (k + 1) i ++ rowS p (k + 1) i p.length = L at h4 hH4
                simp [InvT, h1, hH1, h4, hH4, h5]
          · simp at hc2
            have hie : i = p.length := by omega
            subst hie
            refine Runs.exit rfl ?_
            refine Runs.inBlock ?_
            refine Runs.evalE Ty_ok (by decide) fun k' hk' => ?_
            have hw : IntKind.i64.wrap ((k : Int) + 1 + 1) = ((k + 1 : Nat) : Int) + 1 := by rw [wrap64 (by omega) (by omega)]; omega
            simp [h5, hw]   -- R6
            refine hk' _ _ _ ?_
            refine IH hk3 _ _ _ ?_
            rw [kindS_succ]
            generalize hL : kindS p k ++ capS p (k + 1) p.length = L at h4 hH4
            simp [InvT, h1, hH1, h4, hH4]
      · have hke : k = 3 := by simp at hc1; omega
        subst hke
        refine Runs.exit rfl ?_
        refine Runs.seqE Ty_ok (by decide) fun k' hk' => ?_
        simp [h4]   -- R16
        refine hk' _ _ _ ?_
        refine Runs.ret Tryd.func14 (RetOk.two Tryd.results14) (hQ _ _ _ _ (.of ?_) (by simp [ambSteps, hg, encSteps]; rfl))
        refine Ret.tup rfl fun i a b ha hb => ?_
        match i with
        | 0 => simp at ha hb; subst ha hb; exact Ret.arrF (by simp [hH4]; rfl) (by simp [AmbStep.cells])
        | 1 => simp at ha hb; subst ha hb; exact .v _
        | i + 2 => simp at ha
end Go.Ab
