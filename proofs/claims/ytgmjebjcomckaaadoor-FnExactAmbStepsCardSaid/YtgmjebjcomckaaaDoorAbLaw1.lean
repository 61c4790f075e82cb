/- The contract of laws.FnExactProcessText: it answers true. -/
import Derived.Test.YtgmjebjcomckaaaDoorAbYb
namespace Go.Ab
open Go.Proofs
set_option linter.unusedSimpArgs false

theorem exactProcessText_ok (p : Proc) (hp : Small p) : PureC Tryd.prog 3 [encP false p] (fun r => r = bool true) := by
  refine PureC.of Tryd.func3 rfl Tryd.ntmps3 (by simp) fun Q hQ => ?_
  refine Runs.seqE Ty_ok (by decide) fun k' hk' => ?_
  simp [encP]   -- R0
  refine hk' _ _ _ ?_
  refine Runs.seqE Ty_ok (by decide) fun k' hk' => ?_
  simp   -- R1
  refine hk' _ _ _ ?_
  refine Runs.seqE Ty_ok (by decide) fun k' hk' => ?_
  simp   -- R2
  refine RunK.callA Ty_ok (szProcess_ok p 1048576 (by omega) (by omega) hp) e9 (.cons (ArgOk.encP false p) (.cons (.v _ _ _) .nil)) (by decide) (by decide) rfl (by simp [encP]) ?_
  rintro _ rfl
  simp
  refine hk' _ _ _ ?_
  refine Runs.seq ?_
  refine Runs.seqE Ty_ok (by decide) fun k' hk' => ?_
  simp   -- R3
  refine hk' _ _ _ ?_
  refine Runs.ite rfl (fun hc1 => ?_) (fun hc1 => ?_)   -- t13
  · refine Runs.seqE Ty_ok (by decide) fun k' hk' => ?_
    simp   -- R4
    refine hk' _ _ _ ?_
    exact Runs.ret Tryd.func3 (RetOk.one Tryd.results3) (hQ _ _ _ _ (.v _ _ _) rfl)
  · simp only [decide_eq_false_iff_not] at hc1
    have hsz : 0 ≤ szProc p 1048576 := by
      split at hc1
      · omega
      · omega
    obtain ⟨hl, hn⟩ := szProc_le hsz
    have hl' : p.length ≤ 1048576 := by omega
    have hn' : ∀ i, i < p.length → (p.getD i default).name.length ≤ 1048576 := by
      intro i hi
      have hx : p.getD i default = p[i] := by simp [hi]
      have := hn p[i] (List.getElem_mem hi)
      rw [hx]
      omega
    refine Runs.skip ?_
    refine Runs.seqE Ty_ok (by decide) fun k' hk' => ?_
    simp   -- R5
    refine RunK.callA Ty_ok (toProcess_ok p hl') e11 (.cons (ArgOk.encP false p) .nil) (by decide) (by decide) rfl (by simp [encP]) ?_
    rintro _ rfl
    simp
    refine RunK.callA Ty_ok (specProcessText_ok p hl' hn') e10 (.cons (ArgOk.encP true p) .nil) (by decide) (by decide) rfl (by simp) ?_
    rintro _ rfl
    simp
    refine hk' _ _ _ ?_
    refine Runs.seqE Ty_ok (by decide) fun k' hk' => ?_
    simp   -- R6
    refine RunK.callA Ty_ok (toProcess_ok p hl') e11 (.cons (ArgOk.encP false p) .nil) (by decide) (by decide) rfl (by simp [encP]) ?_
    rintro _ rfl
    simp [encP]
    refine hk' _ _ _ ?_
    refine Runs.seqE Ty_ok (by decide) fun k' hk' => ?_
    simp   -- R7
    refine RunK.callA Ty_ok (ProcessText_ok p hl' hn') e12 (.cons (ArgOk.encP true p) .nil) (by decide) (by decide) rfl (by simp [encP]) ?_
    rintro _ rfl
    simp
    refine hk' _ _ _ ?_
    refine Runs.seq ?_
    refine Runs.seqE Ty_ok (by decide) fun k' hk' => ?_
    simp   -- R8
    refine hk' _ _ _ ?_
    refine Runs.ite rfl (fun hc2 => by simp at hc2) (fun hc2 => ?_)   -- t34
    refine Runs.skip ?_
    refine Runs.seq ?_
    refine Runs.seqD Ty_ok kindOp_ok draws (by decide) (by kernel_rfl) fun k' hk' => ?_
    simp   -- R10
    refine RunDK.callA Ty_ok kindOp_ok (toProcess_ok p hl') e11 (.cons (ArgOk.encP false p) .nil) (by decide) rfl (by simp [encP]) ?_
    simp
    refine RunDK.callA Ty_ok kindOp_ok (eqProcess_ok p p hl') e13 (.cons (ArgOk.encP true p) (.cons (ArgOk.encP true p) .nil)) (by decide) rfl (by simp [encP]) ?_
    simp
    refine hk' _ _ _ ?_
    refine Runs.ite rfl (fun hc3 => by simp at hc3) (fun hc3 => ?_)   -- t39
    refine Runs.skip ?_
    refine Runs.seqE Ty_ok (by decide) fun k' hk' => ?_
    simp   -- R12
    refine hk' _ _ _ ?_
    exact Runs.ret Tryd.func3 (RetOk.one Tryd.results3) (hQ _ _ _ _ (.v _ _ _) rfl)
end Go.Ab
