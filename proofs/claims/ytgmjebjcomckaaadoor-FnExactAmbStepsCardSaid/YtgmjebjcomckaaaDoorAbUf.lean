/- The contract of impl.AmbSteps: the caller owns the list. -/
import Derived.Test.YtgmjebjcomckaaaDoorAbUe
namespace Go.Ab
open Go.Proofs
set_option linter.unusedSimpArgs false
def ambSteps (p : Proc) : List AmbStep := if goodP p then kindS p 3 else []

theorem AmbSteps_ok (p : Proc) (hp : p.length ≤ 1048576) (hn : ∀ i, i < p.length → (p.getD i default).name.length ≤ 1048576) : OwnC Tryd.prog 15 [encP false p] 2 (fun r => r = .tup [encSteps true (ambSteps p), bool (goodP p)]) := by
  refine OwnC.of Tryd.func15 rfl Tryd.ntmps15 (by simp) fun Q hQ => ?_
  refine Runs.seqE Ty_ok (by decide) fun k' hk' => ?_
  simp [encP]   -- R0
  refine hk' _ _ _ ?_
  refine Runs.seq ?_
  refine Runs.seqE Ty_ok (by decide) fun k' hk' => ?_
  simp   -- R1
  refine RunK.callA Ty_ok (IsProcess_ok p hp hn) e49 (.cons (ArgOk.encP false p) .nil) (by decide) (by decide) rfl (by simp [encP]) ?_
  rintro _ rfl
  cases hg : goodP p
  · simp
    refine hk' _ _ _ ?_
    refine Runs.ite rfl (fun _ => ?_) (fun h => by simp at h)
    refine Runs.seqE Ty_ok (by decide) fun k' hk' => ?_
    simp   -- R2
    refine hk' _ _ _ ?_
    exact Runs.ret Tryd.func15 (RetOk.two Tryd.results15) (hQ _ _ _ _ _ (Own.tup2 Own.nilS _) (by simp [ambSteps, hg, encSteps]))
  · simp
    refine hk' _ _ _ ?_
    refine Runs.ite rfl (fun h => by simp at h) (fun _ => ?_)
    refine Runs.skip ?_
    refine Runs.seqE Ty_ok (by decide) fun k' hk' => ?_
    simp   -- R3
    refine RunK.callO Ty_ok (possible_ok (goodP_valid hg)) e53 (.cons (ArgOk.encP false p) .nil) (by decide) (by decide) rfl (by simp [encP]) ?_
    intro v H1 n1 r S hO hR _ _ _
    subst hR
    simp
    refine hk' _ _ _ ?_
    exact Runs.ret Tryd.func15 (RetOk.two Tryd.results15) (hQ _ _ _ _ _ (Own.tup2 hO _) (by simp [ambSteps, hg]))
end Go.Ab
