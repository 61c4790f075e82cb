/- Contract of laws.markProcess. -/
import Derived.Test.YtgmjebjcomckaaaDoorAbUl
namespace Go.Ab
open Go.Proofs
set_option linter.unusedSimpArgs false
theorem e17 : Ent Tryd.prog 17 := Ent.of Tryd.func17 (by kernel_rfl) rfl

theorem markProcess_ok {H : Heap} {n : Nat} {v : AVal} {S : List Id} (p : Proc) (hO : Own H 2 v (encP true p) S) (k : Nat) (hk : k + 3 * p.length ≤ 1152921504606846976) :
    CallsA Tryd.prog 17 [v, int k] H n (fun r H1 n1 => r = int ((k + 3 * p.length : Nat) : Int) ∧ n ≤ n1 ∧ ∀ i : Id, i.1 < n → i ∉ S → H1 i = H i) := by
  refine CallsA.sized fun hsz => ?_
  obtain ⟨g, rfl, hg⟩ := hO.agg1Inv
  have hlt : ∀ i ∈ S, i.1 < n := fun i hi => by
    obtain ⟨o, ho⟩ := hg.has i hi
    exact (hsz i o ho).1
  refine CallsA.of Tryd.func17 rfl Tryd.ntmps17 (by simp) fun Q hQ => ?_
  refine Runs.seqE Ty_ok (by decide) fun k' hk' => ?_
  simp   -- R0
  refine hk' _ _ _ ?_
  refine Runs.seqE Ty_ok (by decide) fun k' hk' => ?_
  have hg2 : Own (H.set (n, 2) ⟨1, [[g]]⟩) 1 g (.list true (p.map AmbNode.cells)) S := hg.frame fun i hi => Heap.get_set_ne _ _ fun he => by have := hlt i hi; rw [he] at this; simp at this
  rcases hg.formS with rfl | ⟨id, c, rfl⟩
  all_goals
    simp   -- R1
    refine RunK.callS Ty_ok (markAmbNodeS_ok p hg2 k hk) e55 (by decide) (by decide) rfl (by simp) ?_
    rintro v H1 n1 ⟨rfl, rfl, hO2, hfr⟩
    simp [-Int.natCast_add]
    refine hk' _ _ _ ?_
    refine Runs.seqE Ty_ok (by decide) fun k' hk' => ?_
    simp [-Int.natCast_add]   -- R2
    refine hk' _ _ _ ?_
    refine Runs.ret Tryd.func17 (RetOk.one Tryd.results17) (hQ _ _ _ ⟨by simp, by omega, fun i hi hS => ?_⟩)
    rw [hfr i hS]
    exact Heap.get_set_ne _ _ fun he => by rw [he] at hi; simp at hi
end Go.Ab
