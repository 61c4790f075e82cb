/- Contract of spec.l12Kind. -/
import Derived.Test.YtgmjebjcomckaaaDoorAbPb
namespace Go.Ab
open Go.Proofs
set_option linter.unusedSimpArgs false
theorem e150 : Ent Tryd.prog 150 := Ent.of Tryd.func150 (by kernel_rfl) rfl

def kindA (s : Str) (a : Nat) (ok : Bool) : Nat × Nat :=
  if takes s a ok (word 0) then (1, a + (word 0).length) else if takes s a ok (word 1) then (2, a + (word 1).length) else if takes s a ok (word 2) then (3, a + (word 2).length) else (0, a)

theorem kindA_at {s : Str} {a : Nat} {ok : Bool} {k : Nat} (hk : k < 3) (h0 : ∀ j, j < k → takes s a ok (word j) = false) (h : takes s a ok (word k) = true) : kindA s a ok = (k + 1, a + (word k).length) := by
  match k, hk with
  | 0, _ => simp [kindA, h]
  | 1, _ => simp [kindA, h, h0 0 (by omega)]
  | 2, _ => simp [kindA, h, h0 0 (by omega), h0 1 (by omega)]
theorem kindA_no {s : Str} {a : Nat} {ok : Bool} (h0 : ∀ j, j < 3 → takes s a ok (word j) = false) : kindA s a ok = (0, a) := by
  simp [kindA, h0 0 (by omega), h0 1 (by omega), h0 2 (by omega)]

theorem l12Kind_ok (s : Str) (l : Proc) (a : Nat) (ok : Bool) (hs : s.length ≤ 1048576) (ha : a ≤ s.length) :
    ShareC Tryd.prog 150 [str s, encR l a ok] (fun r => r = .tup [int (kindA s a ok).1, encR l (kindA s a ok).2 ok]) := by
  have hwl : ∀ k, (word k).length ≤ 100 := fun k => by have := word_len k; omega
  refine ShareC.of Tryd.func150 rfl Tryd.ntmps150 (by simp) fun H n Q _ hQ => ?_
  refine Runs.seqE Ty_ok (by decide) fun k' hk' => ?_
  simp [encR]   -- R0
  refine hk' _ _ _ ?_
  refine Runs.seq ?_
  refine Runs.seqE Ty_ok (by decide) fun k' hk' => ?_
  simp   -- R1
  refine hk' _ _ _ ?_
  refine Runs.block (Runs.loopUp 3 (fun k ρ H' n' => ρ 0 = str s ∧ ρ 3 = .ptr (n, 3) 1 0 0 ∧ ρ 5 = .ptr (n + 1, 5) 1 0 0 ∧ ρ 6 = int ((k + 1 : Nat) : Int) ∧ (∀ j, j < k → takes s a ok (word j) = false) ∧
    H' = (H.set (n, 3) ⟨3, [[.list true (l.map AmbNode.cells), int a, bool ok]]⟩).set (n + 1, 5) ⟨3, [[.v (.slice none 0 0), int 0, bool false]]⟩) ?_ ?_)
  · simp
  · rintro k ρ H' n' hk ⟨h0, h3, h5, h6, hno, rfl⟩ IH
    refine Runs.seq ?_
    refine Runs.seqE Ty_ok (by decide) fun k' hk' => ?_
    simp [h6, -Int.natCast_add]   -- R2
    refine hk' _ _ _ ?_
    refine Runs.ite rfl (fun hc1 => ?_) (fun hc1 => ?_)   -- t8
    · simp only [decide_eq_true_eq] at hc1
      have hk3 : k < 3 := by omega
      refine Runs.skip ?_
      refine Runs.seq ?_
      refine Runs.block ?_
      refine Runs.seqD Ty_ok kindOp_ok draws (by decide) (by kernel_rfl) fun k' hk' => ?_
      simp [h0, h3, h6, -Int.natCast_add]   -- R4
      refine RunDK.callA Ty_ok kindOp_ok (l12Word_ok ((k + 1 : Nat) : Int) (by omega)) e144 (.cons (.v _ _ _) .nil) (by decide) rfl (by simp [h6]) ?_
      simp [show (((k + 1 : Nat) : Int) - 1).toNat = k by omega, -Int.natCast_add]
      refine RunDK.callH Ty_ok kindOp_ok (l12Starts_ok s l a ok (word k) hs ha (hwl k)) e117 (.refl _) (by decide) rfl (by simp [h0, encR]) ?_
      simp
      refine hk' _ _ _ ?_
      refine Runs.ite rfl (fun hc2 => ?_) (fun hc2 => ?_)   -- t15
      · have hc2 : takes s a ok (word k) = true := hc2
        refine Runs.seqD Ty_ok kindOp_ok draws (by decide) (by kernel_rfl) fun k' hk' => ?_
        simp [h0, h3, h6, -Int.natCast_add]   -- R5
        refine RunDK.callA Ty_ok kindOp_ok (l12Word_ok ((k + 1 : Nat) : Int) (by omega)) e144 (.cons (.v _ _ _) .nil) (by decide) rfl (by simp [h6]) ?_
        simp [show (((k + 1 : Nat) : Int) - 1).toNat = k by omega, -Int.natCast_add]
        refine RunDK.callH Ty_ok kindOp_ok (l12Takes_ok s l a ok (word k) hs ha (hwl k)) e118 (.refl _) (by decide) rfl (by simp [h0, encR]) ?_
        simp [hc2, h5, encR, -Int.natCast_add]
        refine hk' _ _ _ ?_
        have hok : ok = true := by simp only [takes, Bool.and_eq_true] at hc2; exact hc2.1
        subst hok
        refine Runs.ret Tryd.func150 (RetOk.mix2 (v1 := int ((k + 1 : Nat) : Int)) (v2 := encR l (a + (word k).length) true) Ty_ok Tryd.results150 (by simp [resA]) (by simp [resA, h5, loadA, encR])) (hQ _ _ _ _ (.bnd (.tup2 (.v _) (bnd_encR _ _ _ _))) (by repeat (first | exact Frame.refl _ _ | refine Frame.set (by simp) ?_)) (by rw [kindA_at hk3 hno hc2]))
      · have hc2 : takes s a ok (word k) = false := hc2
        refine Runs.skip ?_
        refine Runs.inBlock ?_
        refine Runs.evalE Ty_ok (by decide) fun k' hk' => ?_
        simp [h6, wrap_one (a := k + 1) rfl (by omega), -Int.natCast_add]   -- R3
        refine hk' _ _ _ ?_
        refine IH hk3 _ _ _ ⟨by simp [h0], by simp [h3], by simp [h5], by simp, fun j hj => ?_, rfl⟩
        rcases Nat.lt_or_ge j k with h | h
        · exact hno j h
        · rw [show j = k by omega]; exact hc2
    · simp only [decide_eq_false_iff_not] at hc1
      have hk3 : k = 3 := by omega
      subst hk3
      refine Runs.exit rfl ?_
      refine Runs.seqD Ty_ok kindOp_ok draws (by decide) (by kernel_rfl) fun k' hk' => ?_
      simp [h3, h5]   -- R6
      refine hk' _ _ _ ?_
      refine Runs.ret Tryd.func150 (RetOk.mix2 (v1 := int 0) (v2 := encR l a ok) Ty_ok Tryd.results150 (by simp [resA]) (by simp [resA, h5, loadA, encR])) (hQ _ _ _ _ (.bnd (.tup2 (.v _) (bnd_encR _ _ _ _))) (by repeat (first | exact Frame.refl _ _ | refine Frame.set (by simp) ?_)) (by rw [kindA_no hno]; rfl))
end Go.Ab
