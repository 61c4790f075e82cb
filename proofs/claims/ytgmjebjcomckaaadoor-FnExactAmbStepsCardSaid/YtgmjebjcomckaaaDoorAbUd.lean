/- All possible steps of a process, in order, as lists. -/
import Derived.Test.YtgmjebjcomckaaaDoorAbUc
import Derived.Test.YtgmjebjcomckaaaDoorAbTb
namespace Go.Ab
open Go.Proofs
set_option linter.unusedSimpArgs false

def rowS (p : Proc) (q i j : Nat) : List AmbStep := ((List.range j).filter fun y => can p q i y).map fun (y : Nat) => (⟨q, i, y⟩ : AmbStep)
def capS (p : Proc) (q i : Nat) : List AmbStep := (List.range i).flatMap fun x => rowS p q x p.length
def kindS (p : Proc) (k : Nat) : List AmbStep := (List.range k).flatMap fun q => capS p (q + 1) p.length

theorem rowS_succ (p : Proc) (q i j : Nat) : rowS p q i (j + 1) = if can p q i j then rowS p q i j ++ [⟨q, i, j⟩] else rowS p q i j := by
  simp only [rowS, List.range_succ, List.filter_append, List.filter_cons, List.filter_nil]
  split <;> simp
theorem capS_succ (p : Proc) (q i : Nat) : capS p q (i + 1) = capS p q i ++ rowS p q i p.length := by simp [capS, List.range_succ]
theorem kindS_succ (p : Proc) (k : Nat) : kindS p (k + 1) = kindS p k ++ capS p (k + 1) p.length := by simp [kindS, List.range_succ]
theorem rowS_len (p : Proc) (q i j : Nat) : (rowS p q i j).length ≤ j := by
  have := List.length_filter_le (fun y => can p q i y) (List.range j)
  simpa [rowS] using this
theorem capS_len (p : Proc) (hp : p.length ≤ 8) (q : Nat) : ∀ i, (capS p q i).length ≤ i * 8
  | 0 => by simp [capS]
  | i + 1 => by
    rw [capS_succ, List.length_append]
    have := capS_len p hp q i
    have := rowS_len p q i p.length
    omega
theorem kindS_len (p : Proc) (hp : p.length ≤ 8) : ∀ k, (kindS p k).length ≤ k * 64
  | 0 => by simp [kindS]
  | k + 1 => by
    rw [kindS_succ, List.length_append]
    have := kindS_len p hp k
    have := capS_len p hp (k + 1) p.length
    omega
theorem rowS_zero (p : Proc) (q i : Nat) : rowS p q i 0 = [] := by simp [rowS]
theorem capS_zero (p : Proc) (q : Nat) : capS p q 0 = [] := by simp [capS]
theorem kindS_zero (p : Proc) : kindS p 0 = [] := by simp [kindS]
end Go.Ab
