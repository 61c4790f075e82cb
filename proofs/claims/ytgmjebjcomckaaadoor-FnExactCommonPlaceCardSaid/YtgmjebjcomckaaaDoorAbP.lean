/- Contracts of impl.prefixWords and impl.nodeText. -/
import Derived.Test.YtgmjebjcomckaaaDoorAbX
import Derived.Test.YtgmjebjcomckaaaDoorAbN
namespace Go.Ab
open Go.Proofs
set_option linter.unusedSimpArgs false
theorem draws : Tryd.prog.follows .mixedOrders = true := by kernel_rfl
theorem e71 : Ent Tryd.prog 71 := Ent.of Tryd.func71 (by kernel_rfl) rfl
theorem e146 : Ent Tryd.prog 146 := Ent.of Tryd.func146 (by kernel_rfl) rfl

def word (k : Nat) : Str := match k with
  | 0 => [105, 110, 32]
  | 1 => [111, 117, 116, 32]
  | _ => [111, 112, 101, 110, 32]
def encStrs (t : Bool) (l : List Str) : AVal := .list t (l.map fun s => [str s])

theorem prefixWords_ok : PureC Tryd.prog 146 [] (fun r => r = encStrs true [word 0, word 1, word 2]) := by
  refine PureC.of Tryd.func146 rfl Tryd.ntmps146 (by simp) fun Q hQ => ?_
  refine Runs.seqE Ty_ok (by decide) fun k' hk' => ?_
  simp
  refine hk' _ _ _ (Runs.seqE Ty_ok (by decide) fun k' hk' => ?_)
  simp [List.range_succ]
  refine hk' _ _ _ (Runs.ret Tryd.func146 (RetOk.one Tryd.results146) (hQ _ _ _ _ (.of (Ret.fresh ?_)) rfl))
  simp [encStrs]

def nodeText (x : AmbNode) (inside : Str) : Str :=
  if x.kind = 0 then x.name ++ [91] ++ inside ++ [93] else word (x.kind - 1).toNat ++ x.name ++ [46, 40] ++ inside ++ [41]

theorem word_len (k : Nat) : (word k).length ≤ 5 := by
  unfold word
  split <;> simp

theorem nodeText_ok (x : AmbNode) (s : Str) (hk : 0 ≤ x.kind ∧ x.kind ≤ 3) (hn : x.name.length ≤ 1073741824) (hs : s.length ≤ 1152921504606846976) : PureC Tryd.prog 111 [.agg x.cells, str s] (fun r => r = str (nodeText x s)) := by
  refine PureC.of Tryd.func111 rfl Tryd.ntmps111 (by simp) fun Q hQ => ?_
  refine Runs.seqE Ty_ok (by decide) fun k' hk' => ?_
  simp
  refine hk' _ _ _ (Runs.seq (Runs.seqE Ty_ok (by decide) fun k' hk' => ?_))
  simp [AmbNode.cells]
  refine hk' _ _ _ (Runs.ite rfl (fun h => ?_) (fun h => ?_))
  · simp at h
    refine Runs.seqE Ty_ok (by decide) fun k' hk' => ?_
    simp (disch := first | omega | simp) [AmbNode.cells, if_pos]

    refine hk' _ _ _ (Runs.ret Tryd.func111 (RetOk.one Tryd.results111) (hQ _ _ _ _ (.v _ _ _) ?_))
    simp [nodeText, h]
  · simp at h
    refine Runs.skip ?_
    refine Runs.seqD Ty_ok kindOp_ok draws (by decide) (by kernel_rfl) fun k' hk' => ?_
    simp [AmbNode.cells]
    refine RunDK.callA Ty_ok kindOp_ok prefixWords_ok e146 .nil (by decide) rfl (by simp) ?_
    obtain ⟨kd, nm, par⟩ := x
    simp only at hk hn h
    have : kd = 1 ∨ kd = 2 ∨ kd = 3 := by omega
    rcases this with rfl | rfl | rfl
    all_goals
      simp (disch := first | omega | simp) [encStrs, word, if_pos]
      refine hk' _ _ _ (Runs.ret Tryd.func111 (RetOk.one Tryd.results111) (hQ _ _ _ _ (.v _ _ _) ?_))
      simp [nodeText, word]
end Go.Ab
