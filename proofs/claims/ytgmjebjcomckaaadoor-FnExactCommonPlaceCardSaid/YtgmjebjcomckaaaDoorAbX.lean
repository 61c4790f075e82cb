/- Contracts of impl.within and (impl.Proc).kids, on abstract values; no conditions but a bound on the length. -/
import Derived.Test.YtgmjebjcomckaaaDoorAbTy
import Derived.Test.YtgmjebjcomckaaaDoorAbK
namespace Go.Ab
open Go.Proofs
def within (n lo hi : Int) : Bool := decide (lo ≤ n) && decide (n ≤ hi)

theorem within_ok (n lo hi : Int) : PureC Tryd.prog 71 [int n, int lo, int hi] (fun r => r = bool (within n lo hi)) := by
  refine PureC.of Tryd.func71 rfl Tryd.ntmps71 (by simp) fun Q hQ => ?_
  refine Runs.seqE Ty_ok (by decide) fun k' hk' => ?_
  simp
  refine hk' _ _ _ (Runs.seqE Ty_ok (by decide) fun k' hk' => ?_)
  simp
  by_cases h : lo ≤ n
  all_goals
    simp [h]
    refine hk' _ _ _ (Runs.ret Tryd.func71 (RetOk.one Tryd.results71) (hQ _ _ _ _ (ResOk.v _ _ _) ?_))
    simp [within, h]

structure AmbNode where
  kind : Int
  name : Str
  parent : Int
  deriving Inhabited, DecidableEq
abbrev Proc := List AmbNode
def AmbNode.cells (x : AmbNode) : List AVal := [int x.kind, str x.name, int x.parent]
def encP (t : Bool) (p : Proc) : AVal := .agg [.list t (p.map AmbNode.cells)]
def kidsFrom (p : Proc) (parent : Int) (k : Nat) : List Nat := (List.range k).filter fun i => (p.getD i default).parent == parent
def encInts (t : Bool) (l : List Int) : AVal := .list t (l.map fun i => [int i])
def encNats (t : Bool) (l : List Nat) : AVal := .list t (l.map fun (i : Nat) => [int (i : Int)])

theorem kids_succ (p : Proc) (parent : Int) (k : Nat) : kidsFrom p parent (k + 1) = if (p.getD k default).parent == parent then kidsFrom p parent k ++ [k] else kidsFrom p parent k := by
  simp only [kidsFrom, List.range_succ, List.filter_append, List.filter_cons, List.filter_nil]
  split <;> simp
theorem kids_len (p : Proc) (parent : Int) (k : Nat) : (kidsFrom p parent k).length ≤ k := by
  have := List.length_filter_le (fun i => (p.getD i default).parent == parent) (List.range k)
  simpa [kidsFrom] using this

set_option linter.unusedSimpArgs false
theorem kids_ok (p : Proc) (parent : Int) (hp : p.length ≤ 1048576) : PureC Tryd.prog 110 [encP false p, int parent] (fun r => r = encNats true (kidsFrom p parent p.length)) := by
  refine PureC.of Tryd.func110 rfl Tryd.ntmps110 (by simp) fun Q hQ => ?_
  refine Runs.seqE Ty_ok (by decide) fun k' hk' => ?_
  simp [encP]
  refine hk' _ _ _ (Runs.seqE Ty_ok (by decide) fun k' hk' => ?_)
  simp
  refine hk' _ _ _ (Runs.seq (Runs.seqE Ty_ok (by decide) fun k' hk' => ?_))
  simp
  refine hk' _ _ _ (Runs.block (Runs.loopUp p.length (fun k ρ H n => ρ 1 = int parent ∧ ρ 10 = .list false (p.map AmbNode.cells) ∧ ρ 11 = int p.length ∧ ρ 12 = int k ∧ ρ 5 = .arr (1, 8) (kidsFrom p parent k).length 0 (kidsFrom p parent k).length ∧ H (1, 8) = some ⟨1, (kidsFrom p parent k).map fun (i : Nat) => [int (i : Int)]⟩) ?_ ?_))
  · simp [kidsFrom]
  · rintro k ρ H n hk ⟨h1, h10, h11, h12, h5, hH⟩ IH
    refine Runs.seqE Ty_ok (by decide) fun k' hk' => ?_
    simp [h1, h10, h11, h12, h5]
    refine hk' _ _ _ (Runs.seq (Runs.ite rfl (fun hlt => ?_) (fun hlt => ?_)))
    · simp at hlt
      refine Runs.skip (Runs.seq (Runs.block (Runs.seqE Ty_ok (by decide) fun k' hk' => ?_)))
      simp [h1, h10, h11, h12, h5, hlt, AmbNode.cells]
      refine hk' _ _ _ (Runs.seqE Ty_ok (by decide) fun k' hk' => ?_)
      simp [h1, h10, h11, h12, h5, hlt]
      have hks := kids_succ p parent k
      have hkl := kids_len p parent k
      simp [hlt] at hks
      refine hk' _ _ _ (Runs.ite rfl (fun hpar => ?_) (fun hpar => ?_))
      · simp at hpar
        refine Runs.evalE Ty_ok (by decide) fun k' hk' => ?_
        simp [h1, h10, h11, h12, h5, hlt, hH, show (kidsFrom p parent k).length ≤ 1073741823 by omega]
        refine hk' _ _ _ (Runs.inBlock (Runs.evalE Ty_ok (by decide) fun k' hk' => ?_))
        simp [h1, h10, h11, h12, h5, hlt, wrap_succ (show k < 4611686018427387904 by omega)]
        refine hk' _ _ _ (IH hlt _ _ _ ?_)
        simp [h1, h10, h11, h12, h5, hlt, hks, hpar]
      · simp at hpar
        refine Runs.skip (Runs.inBlock (Runs.evalE Ty_ok (by decide) fun k' hk' => ?_))
        simp [h1, h10, h11, h12, h5, hlt, wrap_succ (show k < 4611686018427387904 by omega)]
        refine hk' _ _ _ (IH hlt _ _ _ ?_)
        simp [h1, h10, h11, h12, h5, hlt, hks, hpar, hH]
    · simp at hlt
      have hkk : k = p.length := by omega
      subst hkk
      refine Runs.exit rfl (Runs.seqE Ty_ok (by decide) fun k' hk' => ?_)
      simp [h5]
      refine hk' _ _ _ (Runs.ret Tryd.func110 (RetOk.one Tryd.results110) (hQ _ _ _ _ (.of ?_) rfl))
      exact Ret.arrF (by simp [hH]; rfl) (by simp; exact fun _ _ => .v _)
end Go.Ab
