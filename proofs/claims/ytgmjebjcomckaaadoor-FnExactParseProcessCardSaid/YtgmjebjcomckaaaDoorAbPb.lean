/- Contracts of spec.l12Takes and spec.l12Starts. -/
import Derived.Test.YtgmjebjcomckaaaDoorAbPa
import Derived.Test.YtgmjebjcomckaaaDoorAbTd
import Derived.Test.YtgmjebjcomckaaaDoorAbWc
namespace Go.Ab
open Go.Proofs
set_option linter.unusedSimpArgs false
theorem e118 : Ent Tryd.prog 118 := Ent.of Tryd.func118 (by kernel_rfl) rfl
theorem e117 : Ent Tryd.prog 117 := Ent.of Tryd.func117 (by kernel_rfl) rfl

/-- The reader of the reference: nodes, place, whether all is well. -/
def encR (l : Proc) (a : Nat) (ok : Bool) : AVal := .agg [.list true (l.map AmbNode.cells), int a, bool ok]
def takes (s : Str) (a : Nat) (ok : Bool) (w : Str) : Bool := ok && w.isPrefixOf (s.drop a)

theorem prefix_take (w r : Str) : (r.take w.length == w) = w.isPrefixOf r := by
  rw [Bool.eq_iff_iff, beq_iff_eq, List.isPrefixOf_iff_prefix, List.prefix_iff_eq_take]
  exact eq_comm

theorem bnd_encR (n : Nat) (l : Proc) (a : Nat) (ok : Bool) : Bnd n (encR l a ok) := by
  refine .agg _ fun x hx => ?_
  simp at hx
  rcases hx with rfl | rfl | rfl
  · refine .list _ _ fun e he y hy => ?_
    simp at he
    obtain ⟨z, _, rfl⟩ := he
    simp [AmbNode.cells] at hy
    rcases hy with rfl | rfl | rfl <;> exact .v _
  · exact .v _
  · exact .v _

theorem l12Takes_ok (s : Str) (l : Proc) (a : Nat) (ok : Bool) (w : Str) (hs : s.length ≤ 1048576) (ha : a ≤ s.length) (hw : w.length ≤ 100) :
    ShareC Tryd.prog 118 [str s, encR l a ok, str w] (fun r => r = if takes s a ok w then encR l (a + w.length) true else encR l a false) := by
  refine ShareC.of Tryd.func118 rfl Tryd.ntmps118 (by simp) fun H n Q _ hQ => ?_
  refine Runs.seqE Ty_ok (by decide) fun k' hk' => ?_
  simp [encR]   -- R0
  refine hk' _ _ _ ?_
  refine Runs.seq ?_
  refine Runs.seqE Ty_ok (by decide) fun k' hk' => ?_
  have fin : ∀ (ρ : Env) (H' : Heap) (n' : Nat), (ρ 2 = str w ∧ ρ 4 = .ptr (n, 4) 1 0 0 ∧ ρ 6 = .ptr (n + 1, 6) 1 0 0 ∧ ρ 32 = bool (!takes s a ok w) ∧
      H' = (H.set (n, 4) ⟨3, [[.list true (l.map AmbNode.cells), int a, bool ok]]⟩).set (n + 1, 6) ⟨3, [[.v (.slice none 0 0), int 0, bool false]]⟩) → Runs Tryd.prog 118 42 k' ρ H' n' Q := by
    rintro ρ H' n' ⟨h2, h4, h6, h32, rfl⟩
    refine hk' _ _ _ ?_
    refine Runs.ite h32 (fun hc1 => ?_) (fun hc1 => ?_)   -- t32
    · simp only [Bool.not_eq_true'] at hc1
      refine Runs.seqE Ty_ok (by decide) fun k' hk' => ?_
      simp [h4]   -- R2
      refine hk' _ _ _ ?_
      refine Runs.seqE Ty_ok (by decide) fun k' hk' => ?_
      simp [h4, h6]   -- R3
      refine hk' _ _ _ ?_
      refine Runs.ret Tryd.func118 (RetOk.cell (cs := [.list true (l.map AmbNode.cells), int a, bool false]) (v := encR l a false) Ty_ok Tryd.results118 Ty_94 (by simp [h6]) (by simp [loadA, encR])) (hQ _ _ _ _ (.bnd (bnd_encR n l a false)) (by repeat (first | exact Frame.refl _ _ | refine Frame.set (by simp) ?_)) (by rw [hc1]; rfl))
    · simp only [Bool.not_eq_false'] at hc1
      have hle : a + w.length ≤ s.length := by
        simp only [takes, Bool.and_eq_true] at hc1
        have := (List.isPrefixOf_iff_prefix.1 hc1.2).length_le
        simp at this
        omega
      have hok : ok = true := by
        simp only [takes, Bool.and_eq_true] at hc1
        exact hc1.1
      subst hok
      refine Runs.skip ?_
      refine Runs.seqE Ty_ok (by decide) fun k' hk' => ?_
      have hw1 : IntKind.i64.wrap ((a : Int) + w.length) = (a : Int) + w.length := by rw [wrap64] <;> omega
      simp [h4, h2, hw1]   -- R4
      refine hk' _ _ _ ?_
      refine Runs.seqE Ty_ok (by decide) fun k' hk' => ?_
      simp [h4, h6]   -- R5
      refine hk' _ _ _ ?_
      refine Runs.ret Tryd.func118 (RetOk.cell (cs := [.list true (l.map AmbNode.cells), int ((a : Int) + w.length), bool true]) (v := encR l (a + w.length) true) Ty_ok Tryd.results118 Ty_94 (by simp [h6]) (by simp [loadA, encR])) (hQ _ _ _ _ (.bnd (bnd_encR n l _ true)) (by repeat (first | exact Frame.refl _ _ | refine Frame.set (by simp) ?_)) (by rw [hc1]; rfl))
  have hx := prefix_take w (s.drop a)
  have hw1 : IntKind.i64.wrap ((a : Int) + w.length) = (a : Int) + w.length := by rw [wrap64] <;> omega
  cases ok
  · simp [guardOf]
    exact fin _ _ _ ⟨by simp, by simp, by simp, by simp [takes], rfl⟩
  · by_cases hb : (s.length : Int) < (a : Int) + w.length
    · simp [hb, hw1, guardOf]
      refine fin _ _ _ ⟨by simp, by simp, by simp, ?_, rfl⟩
      have : w.isPrefixOf (s.drop a) = false := by
        rw [Bool.eq_false_iff]
        intro h
        have := (List.isPrefixOf_iff_prefix.1 h).length_le
        simp at this
        omega
      simp [takes, this]
    · simp [hb, hw1, guardOf, show (0 : Int) ≤ (a : Int) + w.length by omega, show (a : Int) + w.length ≤ s.length by omega, show ((a : Int) + w.length).toNat = a + w.length by omega, show (a : Int) ≤ (a : Int) + w.length by omega]
      refine fin _ _ _ ⟨by simp, by simp, by simp, ?_, rfl⟩
      simp [takes, ← hx]

theorem l12Starts_ok (s : Str) (l : Proc) (a : Nat) (ok : Bool) (w : Str) (hs : s.length ≤ 1048576) (ha : a ≤ s.length) (hw : w.length ≤ 100) :
    ShareC Tryd.prog 117 [str s, encR l a ok, str w] (fun r => r = bool (takes s a ok w)) := by
  refine ShareC.of Tryd.func117 rfl Tryd.ntmps117 (by simp) fun H n Q _ hQ => ?_
  refine Runs.seqE Ty_ok (by decide) fun k' hk' => ?_
  simp [encR]   -- R0
  refine hk' _ _ _ ?_
  refine Runs.seqE Ty_ok (by decide) fun k' hk' => ?_
  simp   -- R1
  refine RunK.callH Ty_ok (l12Takes_ok s l a ok w hs ha hw) e118 (.refl _) (by decide) (by decide) rfl (by simp [encR]) ?_
  rintro _ rfl
  cases ht : takes s a ok w
  all_goals
    simp [encR]
    refine hk' _ _ _ ?_
    exact Runs.ret Tryd.func117 (RetOk.one Tryd.results117) (hQ _ _ _ _ (.bnd (.v _)) (by repeat (first | exact Frame.refl _ _ | refine Frame.set (by simp) ?_)) (by simp [ht]))
end Go.Ab
