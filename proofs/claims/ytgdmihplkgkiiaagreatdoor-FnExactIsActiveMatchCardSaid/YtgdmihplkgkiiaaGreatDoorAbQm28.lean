/- Merged texts (8 of 15) of the proof that ends in M2y: Gp Gq Gr. -/
import Derived.Test.YtgdmihplkgkiiaaGreatDoorAbQm27
/- Contracts of the laws' sz.. functions of bigraphs. By program. -/
namespace Go.Ab
open Go.Proofs
set_option linter.unusedSimpArgs false

def szL {α : Type} (f : α → Int → Int) : List α → Int → Int
  | [], left => left
  | x :: r, left => if f x left < 0 then -1 else szL f r (f x left)
def szS {α : Type} (f : α → Int → Int) (l : List α) (left : Int) : Int := if left - l.length < 0 then -1 else szL f l (left - l.length)
def szI (l : List Int) (left : Int) : Int := if left - l.length < 0 then -1 else left - l.length
def szC (x : Control) (left : Int) : Int := szStr x.name left
def szW (x : Wire) (left : Int) : Int := szStr x.name left
def szN (x : GNode) (left : Int) : Int := szI x.links left
class SzF {α : Type} (f : α → Int → Int) : Prop where
  le : ∀ x left, 0 ≤ left → f x left ≤ left
theorem f_le {α : Type} (f : α → Int → Int) [SzF f] (x : α) (left : Int) (h : 0 ≤ left) : f x left ≤ left := SzF.le x left h
instance : SzF szStr := ⟨fun x left h => by unfold szStr; split <;> omega⟩
instance : SzF szI := ⟨fun x left h => by unfold szI; split <;> omega⟩
instance : SzF szC := ⟨fun x left h => by unfold szC szStr; split <;> omega⟩
instance : SzF szW := ⟨fun x left h => by unfold szW szStr; split <;> omega⟩
instance : SzF szN := ⟨fun x left h => by unfold szN szI; split <;> omega⟩

theorem e27 : Ent Tryz.prog 27 := Ent.of Tryz.func27 (by kernel_rfl) rfl
theorem szControl_ok (x : Control) (left : Int) (h0 : 0 ≤ left) (h1 : left ≤ 1048576) (hn : x.name.length ≤ 9223372036854775807) : PureC Tryz.prog 27 [.agg x.cells, int left] (fun r => r = int (szC x left)) := by
  refine PureC.of Tryz.func27 rfl Tryz.ntmps27 (by simp) fun Q hQ => ?_
  refine Runs.seqE Ty_ok (by decide) fun k' hk' => ?_
  simp [Control.cells]   -- R0
  refine hk' _ _ _ ?_
  refine Runs.seqE Ty_ok (by decide) fun k' hk' => ?_
  simp [show -9223372036854775808 ≤ left - (x.name.length : Int) by omega, show left - (x.name.length : Int) ≤ 9223372036854775807 by omega]
  refine hk' _ _ _ ?_
  refine Runs.seq ?_
  refine Runs.seqE Ty_ok (by decide) fun k' hk' => ?_
  simp   -- R2
  refine hk' _ _ _ ?_
  refine Runs.ite rfl (fun hc1 => ?_) (fun hc1 => ?_)
  · simp only [decide_eq_true_eq] at hc1
    refine Runs.seqE Ty_ok (by decide) fun k' hk' => ?_
    simp   -- R3
    refine hk' _ _ _ ?_
    refine Runs.ret Tryz.func27 (RetOk.one Tryz.results27) (hQ _ _ _ _ (.v _ _ _) ?_)
    rw [szC, szStr, if_pos hc1]
  · simp only [decide_eq_false_iff_not] at hc1
    refine Runs.skip ?_
    refine Runs.seqE Ty_ok (by decide) fun k' hk' => ?_
    simp   -- R4
    refine hk' _ _ _ ?_
    refine Runs.ret Tryz.func27 (RetOk.one Tryz.results27) (hQ _ _ _ _ (.v _ _ _) ?_)
    rw [szC, szStr, if_neg hc1]

theorem e56 : Ent Tryz.prog 56 := Ent.of Tryz.func56 (by kernel_rfl) rfl
theorem szWire_ok (x : Wire) (left : Int) (h0 : 0 ≤ left) (h1 : left ≤ 1048576) (hn : x.name.length ≤ 9223372036854775807) : PureC Tryz.prog 56 [.agg x.cells, int left] (fun r => r = int (szW x left)) := by
  refine PureC.of Tryz.func56 rfl Tryz.ntmps56 (by simp) fun Q hQ => ?_
  refine Runs.seqE Ty_ok (by decide) fun k' hk' => ?_
  simp [Wire.cells]   -- R0
  refine hk' _ _ _ ?_
  refine Runs.seqE Ty_ok (by decide) fun k' hk' => ?_
  simp [show -9223372036854775808 ≤ left - (x.name.length : Int) by omega, show left - (x.name.length : Int) ≤ 9223372036854775807 by omega]
  refine hk' _ _ _ ?_
  refine Runs.seq ?_
  refine Runs.seqE Ty_ok (by decide) fun k' hk' => ?_
  simp   -- R2
  refine hk' _ _ _ ?_
  refine Runs.ite rfl (fun hc1 => ?_) (fun hc1 => ?_)
  · simp only [decide_eq_true_eq] at hc1
    refine Runs.seqE Ty_ok (by decide) fun k' hk' => ?_
    simp   -- R3
    refine hk' _ _ _ ?_
    refine Runs.ret Tryz.func56 (RetOk.one Tryz.results56) (hQ _ _ _ _ (.v _ _ _) ?_)
    rw [szW, szStr, if_pos hc1]
  · simp only [decide_eq_false_iff_not] at hc1
    refine Runs.skip ?_
    refine Runs.seqE Ty_ok (by decide) fun k' hk' => ?_
    simp   -- R4
    refine hk' _ _ _ ?_
    refine Runs.ret Tryz.func56 (RetOk.one Tryz.results56) (hQ _ _ _ _ (.v _ _ _) ?_)
    rw [szW, szStr, if_neg hc1]

theorem e29 : Ent Tryz.prog 29 := Ent.of Tryz.func29 (by kernel_rfl) rfl
theorem szIntS_ok (x : List Int) (left : Int) (h0 : 0 ≤ left) (h1 : left ≤ 1048576) (hn : x.length ≤ 9223372036854775807) : PureC Tryz.prog 29 [encI false x, int left] (fun r => r = int (szI x left)) := by
  refine PureC.of Tryz.func29 rfl Tryz.ntmps29 (by simp) fun Q hQ => ?_
  refine Runs.seqE Ty_ok (by decide) fun k' hk' => ?_
  simp [encI]   -- R0
  refine hk' _ _ _ ?_
  refine Runs.seqE Ty_ok (by decide) fun k' hk' => ?_
  simp [show -9223372036854775808 ≤ left - (x.length : Int) by omega, show left - (x.length : Int) ≤ 9223372036854775807 by omega]
  refine hk' _ _ _ ?_
  refine Runs.seq ?_
  refine Runs.seqE Ty_ok (by decide) fun k' hk' => ?_
  simp   -- R2
  refine hk' _ _ _ ?_
  refine Runs.ite rfl (fun hc1 => ?_) (fun hc1 => ?_)
  · simp only [decide_eq_true_eq] at hc1
    refine Runs.seqE Ty_ok (by decide) fun k' hk' => ?_
    simp   -- R3
    refine hk' _ _ _ ?_
    refine Runs.ret Tryz.func29 (RetOk.one Tryz.results29) (hQ _ _ _ _ (.v _ _ _) ?_)
    rw [szI, if_pos hc1]
  · simp only [decide_eq_false_iff_not] at hc1
    refine Runs.skip ?_
    refine Runs.seqE Ty_ok (by decide) fun k' hk' => ?_
    simp   -- R4
    refine hk' _ _ _ ?_
    refine Runs.ret Tryz.func29 (RetOk.one Tryz.results29) (hQ _ _ _ _ (.v _ _ _) ?_)
    rw [szI, if_neg hc1]

theorem e55 : Ent Tryz.prog 55 := Ent.of Tryz.func55 (by kernel_rfl) rfl
theorem szNode_ok (x : GNode) (left : Int) (h0 : 0 ≤ left) (h1 : left ≤ 1048576) (hn : x.links.length ≤ 9223372036854775807) : PureC Tryz.prog 55 [.agg (x.cells false), int left] (fun r => r = int (szN x left)) := by
  refine PureC.of Tryz.func55 rfl Tryz.ntmps55 (by simp) fun Q hQ => ?_
  refine Runs.seqE Ty_ok (by decide) fun k' hk' => ?_
  simp [GNode.cells]   -- R0
  refine hk' _ _ _ ?_
  refine Runs.seqE Ty_ok (by decide) fun k' hk' => ?_
  simp
  refine RunK.callA Ty_ok (szIntS_ok x.links left h0 h1 hn) e29 (.cons (ArgOk.encI false x.links) (.cons (.v _ _ _) .nil)) (by decide) (by decide) rfl (by simp [encI]) ?_
  rintro _ rfl
  simp
  refine hk' _ _ _ ?_
  refine Runs.seq ?_
  refine Runs.seqE Ty_ok (by decide) fun k' hk' => ?_
  simp   -- R2
  refine hk' _ _ _ ?_
  refine Runs.ite rfl (fun hc1 => ?_) (fun hc1 => ?_)
  · simp only [decide_eq_true_eq] at hc1
    refine Runs.seqE Ty_ok (by decide) fun k' hk' => ?_
    simp   -- R3
    refine hk' _ _ _ ?_
    refine Runs.ret Tryz.func55 (RetOk.one Tryz.results55) (hQ _ _ _ _ (.v _ _ _) ?_)
    simp only [Env.put]
    have : szI x.links left = -1 := by
      unfold szI at hc1 ⊢
      split <;> rename_i h
      · rfl
      · rw [if_neg h] at hc1; omega
    simp [szN, this]
  · simp only [decide_eq_false_iff_not] at hc1
    refine Runs.skip ?_
    refine Runs.seqE Ty_ok (by decide) fun k' hk' => ?_
    simp   -- R4
    refine hk' _ _ _ ?_
    refine Runs.ret Tryz.func55 (RetOk.one Tryz.results55) (hQ _ _ _ _ (.v _ _ _) ?_)
    rfl

theorem e6 : Ent Tryz.prog 6 := Ent.of Tryz.func6 (by kernel_rfl) rfl
theorem szControlS_ok (p : List (Control)) (left : Int) (h0 : 0 ≤ left) (h1 : left ≤ 1048576) (hp1 : p.length ≤ 9223372036854775807) (hp2 : ∀ x ∈ p, x.name.length ≤ 9223372036854775807) : PureC Tryz.prog 6 [.list false (p.map Control.cells), int left] (fun r => r = int (szS szC p left)) := by
  refine PureC.of Tryz.func6 rfl Tryz.ntmps6 (by simp) fun Q hQ => ?_
  refine Runs.seqE Ty_ok (by decide) fun k' hk' => ?_
  simp   -- R0
  refine hk' _ _ _ ?_
  refine Runs.seqE Ty_ok (by decide) fun k' hk' => ?_
  simp [show -9223372036854775808 ≤ left - p.length by omega, show left - p.length ≤ 9223372036854775807 by omega]   -- R1
  refine hk' _ _ _ ?_
  refine Runs.seq ?_
  refine Runs.seqE Ty_ok (by decide) fun k' hk' => ?_
  simp   -- R2
  refine hk' _ _ _ ?_
  refine Runs.ite rfl (fun hc1 => ?_) (fun hc1 => ?_)
  · simp only [decide_eq_true_eq] at hc1
    refine Runs.seqE Ty_ok (by decide) fun k' hk' => ?_
    simp   -- R3
    refine hk' _ _ _ ?_
    refine Runs.ret Tryz.func6 (RetOk.one Tryz.results6) (hQ _ _ _ _ (.v _ _ _) ?_)
    rw [szS, if_pos hc1]
  · simp only [decide_eq_false_iff_not] at hc1
    refine Runs.skip ?_
    refine Runs.seq ?_
    refine Runs.seqE Ty_ok (by decide) fun k' hk' => ?_
    simp   -- R4
    refine hk' _ _ _ ?_
    refine Runs.block (Runs.loopUp p.length (fun k ρ H n => ρ 0 = .list false (p.map Control.cells) ∧ ρ 5 = int k ∧ ∃ cur : Int, ρ 1 = int cur ∧ 0 ≤ cur ∧ cur ≤ left ∧ szL szC (p.drop k) cur = szS szC p left) ?_ ?_)
    · refine ⟨by simp, by simp, left - p.length, by simp, by omega, by omega, ?_⟩
      rw [szS, if_neg hc1, List.drop_zero]
    · rintro k ρ H n hk ⟨h0, h5, cur, h1', hcur, hcl, hsz⟩ IH
      refine Runs.seq ?_
      refine Runs.seqE Ty_ok (by decide) fun k' hk' => ?_
      simp [h0, h5]   -- R5
      refine hk' _ _ _ ?_
      refine Runs.ite rfl (fun hc2 => ?_) (fun hc2 => ?_)
      · simp at hc2
        have hel := hp2 _ (List.getElem_mem hc2)
        refine Runs.skip ?_
        refine Runs.seq ?_
        refine Runs.block ?_
        refine Runs.seqE Ty_ok (by decide) fun k' hk' => ?_
        simp [h0, h5, h1', hc2, Control.cells]   -- R7
        refine RunK.callA Ty_ok (szControl_ok p[k] cur hcur (by omega) hel) e27 (.cons (ArgOk.ctlB _) (.cons (.v _ _ _) .nil)) (by decide) (by decide) rfl (by simp [Control.cells, h1']) ?_
        rintro _ rfl
        simp
        refine hk' _ _ _ ?_
        rw [List.drop_eq_getElem_cons hc2, szL] at hsz
        refine Runs.seqE Ty_ok (by decide) fun k' hk' => ?_
        simp   -- R8
        refine hk' _ _ _ ?_
        refine Runs.ite rfl (fun hc3 => ?_) (fun hc3 => ?_)
        · simp only [decide_eq_true_eq] at hc3
          refine Runs.seqE Ty_ok (by decide) fun k' hk' => ?_
          simp   -- R9
          refine hk' _ _ _ ?_
          refine Runs.ret Tryz.func6 (RetOk.one Tryz.results6) (hQ _ _ _ _ (.v _ _ _) ?_)
          rw [← hsz]
          rw [if_pos hc3]
        · simp only [decide_eq_false_iff_not] at hc3
          refine Runs.skip ?_
          refine Runs.inBlock ?_
          refine Runs.evalE Ty_ok (by decide) fun k' hk' => ?_
          simp [h5, wrap_succ (show k < 4611686018427387904 by omega)]   -- R6
          refine hk' _ _ _ ?_
          refine IH hc2 _ _ _ ?_
          have hle := f_le szC p[k] cur hcur
          rw [if_neg hc3] at hsz
          exact ⟨by simp [h0, Control.cells], by simp, szC p[k] cur, by simp, by omega, by omega, hsz⟩
      · simp at hc2
        have hke : k = p.length := by omega
        subst hke
        rw [List.drop_length, szL] at hsz
        refine Runs.exit rfl ?_
        refine Runs.seqE Ty_ok (by decide) fun k' hk' => ?_
        simp [h1']   -- R10
        refine hk' _ _ _ ?_
        exact Runs.ret Tryz.func6 (RetOk.one Tryz.results6) (hQ _ _ _ _ (.v _ _ _) (by rw [hsz]))

theorem e31 : Ent Tryz.prog 31 := Ent.of Tryz.func31 (by kernel_rfl) rfl
theorem szWireS_ok (p : List (Wire)) (left : Int) (h0 : 0 ≤ left) (h1 : left ≤ 1048576) (hp1 : p.length ≤ 9223372036854775807) (hp2 : ∀ x ∈ p, x.name.length ≤ 9223372036854775807) : PureC Tryz.prog 31 [.list false (p.map Wire.cells), int left] (fun r => r = int (szS szW p left)) := by
  refine PureC.of Tryz.func31 rfl Tryz.ntmps31 (by simp) fun Q hQ => ?_
  refine Runs.seqE Ty_ok (by decide) fun k' hk' => ?_
  simp   -- R0
  refine hk' _ _ _ ?_
  refine Runs.seqE Ty_ok (by decide) fun k' hk' => ?_
  simp [show -9223372036854775808 ≤ left - p.length by omega, show left - p.length ≤ 9223372036854775807 by omega]   -- R1
  refine hk' _ _ _ ?_
  refine Runs.seq ?_
  refine Runs.seqE Ty_ok (by decide) fun k' hk' => ?_
  simp   -- R2
  refine hk' _ _ _ ?_
  refine Runs.ite rfl (fun hc1 => ?_) (fun hc1 => ?_)
  · simp only [decide_eq_true_eq] at hc1
    refine Runs.seqE Ty_ok (by decide) fun k' hk' => ?_
    simp   -- R3
    refine hk' _ _ _ ?_
    refine Runs.ret Tryz.func31 (RetOk.one Tryz.results31) (hQ _ _ _ _ (.v _ _ _) ?_)
    rw [szS, if_pos hc1]
  · simp only [decide_eq_false_iff_not] at hc1
    refine Runs.skip ?_
    refine Runs.seq ?_
    refine Runs.seqE Ty_ok (by decide) fun k' hk' => ?_
    simp   -- R4
    refine hk' _ _ _ ?_
    refine Runs.block (Runs.loopUp p.length (fun k ρ H n => ρ 0 = .list false (p.map Wire.cells) ∧ ρ 5 = int k ∧ ∃ cur : Int, ρ 1 = int cur ∧ 0 ≤ cur ∧ cur ≤ left ∧ szL szW (p.drop k) cur = szS szW p left) ?_ ?_)
    · refine ⟨by simp, by simp, left - p.length, by simp, by omega, by omega, ?_⟩
      rw [szS, if_neg hc1, List.drop_zero]
    · rintro k ρ H n hk ⟨h0, h5, cur, h1', hcur, hcl, hsz⟩ IH
      refine Runs.seq ?_
      refine Runs.seqE Ty_ok (by decide) fun k' hk' => ?_
      simp [h0, h5]   -- R5
      refine hk' _ _ _ ?_
      refine Runs.ite rfl (fun hc2 => ?_) (fun hc2 => ?_)
      · simp at hc2
        have hel := hp2 _ (List.getElem_mem hc2)
        refine Runs.skip ?_
        refine Runs.seq ?_
        refine Runs.block ?_
        refine Runs.seqE Ty_ok (by decide) fun k' hk' => ?_
        simp [h0, h5, h1', hc2, Wire.cells]   -- R7
        refine RunK.callA Ty_ok (szWire_ok p[k] cur hcur (by omega) hel) e56 (.cons (ArgOk.wireB _) (.cons (.v _ _ _) .nil)) (by decide) (by decide) rfl (by simp [Wire.cells, h1']) ?_
        rintro _ rfl
        simp
        refine hk' _ _ _ ?_
        rw [List.drop_eq_getElem_cons hc2, szL] at hsz
        refine Runs.seqE Ty_ok (by decide) fun k' hk' => ?_
        simp   -- R8
        refine hk' _ _ _ ?_
        refine Runs.ite rfl (fun hc3 => ?_) (fun hc3 => ?_)
        · simp only [decide_eq_true_eq] at hc3
          refine Runs.seqE Ty_ok (by decide) fun k' hk' => ?_
          simp   -- R9
          refine hk' _ _ _ ?_
          refine Runs.ret Tryz.func31 (RetOk.one Tryz.results31) (hQ _ _ _ _ (.v _ _ _) ?_)
          rw [← hsz]
          rw [if_pos hc3]
        · simp only [decide_eq_false_iff_not] at hc3
          refine Runs.skip ?_
          refine Runs.inBlock ?_
          refine Runs.evalE Ty_ok (by decide) fun k' hk' => ?_
          simp [h5, wrap_succ (show k < 4611686018427387904 by omega)]   -- R6
          refine hk' _ _ _ ?_
          refine IH hc2 _ _ _ ?_
          have hle := f_le szW p[k] cur hcur
          rw [if_neg hc3] at hsz
          exact ⟨by simp [h0, Wire.cells], by simp, szW p[k] cur, by simp, by omega, by omega, hsz⟩
      · simp at hc2
        have hke : k = p.length := by omega
        subst hke
        rw [List.drop_length, szL] at hsz
        refine Runs.exit rfl ?_
        refine Runs.seqE Ty_ok (by decide) fun k' hk' => ?_
        simp [h1']   -- R10
        refine hk' _ _ _ ?_
        exact Runs.ret Tryz.func31 (RetOk.one Tryz.results31) (hQ _ _ _ _ (.v _ _ _) (by rw [hsz]))

theorem e28 : Ent Tryz.prog 28 := Ent.of Tryz.func28 (by kernel_rfl) rfl
theorem szNodeS_ok (p : List (GNode)) (left : Int) (h0 : 0 ≤ left) (h1 : left ≤ 1048576) (hp1 : p.length ≤ 9223372036854775807) (hp2 : ∀ x ∈ p, x.links.length ≤ 9223372036854775807) : PureC Tryz.prog 28 [.list false (p.map (GNode.cells false)), int left] (fun r => r = int (szS szN p left)) := by
  refine PureC.of Tryz.func28 rfl Tryz.ntmps28 (by simp) fun Q hQ => ?_
  refine Runs.seqE Ty_ok (by decide) fun k' hk' => ?_
  simp   -- R0
  refine hk' _ _ _ ?_
  refine Runs.seqE Ty_ok (by decide) fun k' hk' => ?_
  simp [show -9223372036854775808 ≤ left - p.length by omega, show left - p.length ≤ 9223372036854775807 by omega]   -- R1
  refine hk' _ _ _ ?_
  refine Runs.seq ?_
  refine Runs.seqE Ty_ok (by decide) fun k' hk' => ?_
  simp   -- R2
  refine hk' _ _ _ ?_
  refine Runs.ite rfl (fun hc1 => ?_) (fun hc1 => ?_)
  · simp only [decide_eq_true_eq] at hc1
    refine Runs.seqE Ty_ok (by decide) fun k' hk' => ?_
    simp   -- R3
    refine hk' _ _ _ ?_
    refine Runs.ret Tryz.func28 (RetOk.one Tryz.results28) (hQ _ _ _ _ (.v _ _ _) ?_)
    rw [szS, if_pos hc1]
  · simp only [decide_eq_false_iff_not] at hc1
    refine Runs.skip ?_
    refine Runs.seq ?_
    refine Runs.seqE Ty_ok (by decide) fun k' hk' => ?_
    simp   -- R4
    refine hk' _ _ _ ?_
    refine Runs.block (Runs.loopUp p.length (fun k ρ H n => ρ 0 = .list false (p.map (GNode.cells false)) ∧ ρ 5 = int k ∧ ∃ cur : Int, ρ 1 = int cur ∧ 0 ≤ cur ∧ cur ≤ left ∧ szL szN (p.drop k) cur = szS szN p left) ?_ ?_)
    · refine ⟨by simp, by simp, left - p.length, by simp, by omega, by omega, ?_⟩
      rw [szS, if_neg hc1, List.drop_zero]
    · rintro k ρ H n hk ⟨h0, h5, cur, h1', hcur, hcl, hsz⟩ IH
      refine Runs.seq ?_
      refine Runs.seqE Ty_ok (by decide) fun k' hk' => ?_
      simp [h0, h5]   -- R5
      refine hk' _ _ _ ?_
      refine Runs.ite rfl (fun hc2 => ?_) (fun hc2 => ?_)
      · simp at hc2
        have hel := hp2 _ (List.getElem_mem hc2)
        refine Runs.skip ?_
        refine Runs.seq ?_
        refine Runs.block ?_
        refine Runs.seqE Ty_ok (by decide) fun k' hk' => ?_
        simp [h0, h5, h1', hc2, GNode.cells]   -- R7
        refine RunK.callA Ty_ok (szNode_ok p[k] cur hcur (by omega) hel) e55 (.cons (ArgOk.nodeB false _) (.cons (.v _ _ _) .nil)) (by decide) (by decide) rfl (by simp [GNode.cells, h1']) ?_
        rintro _ rfl
        simp
        refine hk' _ _ _ ?_
        rw [List.drop_eq_getElem_cons hc2, szL] at hsz
        refine Runs.seqE Ty_ok (by decide) fun k' hk' => ?_
        simp   -- R8
        refine hk' _ _ _ ?_
        refine Runs.ite rfl (fun hc3 => ?_) (fun hc3 => ?_)
        · simp only [decide_eq_true_eq] at hc3
          refine Runs.seqE Ty_ok (by decide) fun k' hk' => ?_
          simp   -- R9
          refine hk' _ _ _ ?_
          refine Runs.ret Tryz.func28 (RetOk.one Tryz.results28) (hQ _ _ _ _ (.v _ _ _) ?_)
          rw [← hsz]
          rw [if_pos hc3]
        · simp only [decide_eq_false_iff_not] at hc3
          refine Runs.skip ?_
          refine Runs.inBlock ?_
          refine Runs.evalE Ty_ok (by decide) fun k' hk' => ?_
          simp [h5, wrap_succ (show k < 4611686018427387904 by omega)]   -- R6
          refine hk' _ _ _ ?_
          refine IH hc2 _ _ _ ?_
          have hle := f_le szN p[k] cur hcur
          rw [if_neg hc3] at hsz
          exact ⟨by simp [h0, GNode.cells], by simp, szN p[k] cur, by simp, by omega, by omega, hsz⟩
      · simp at hc2
        have hke : k = p.length := by omega
        subst hke
        rw [List.drop_length, szL] at hsz
        refine Runs.exit rfl ?_
        refine Runs.seqE Ty_ok (by decide) fun k' hk' => ?_
        simp [h1']   -- R10
        refine hk' _ _ _ ?_
        exact Runs.ret Tryz.func28 (RetOk.one Tryz.results28) (hQ _ _ _ _ (.v _ _ _) (by rw [hsz]))

theorem e30 : Ent Tryz.prog 30 := Ent.of Tryz.func30 (by kernel_rfl) rfl
theorem szStringS_ok (p : List (Str)) (left : Int) (h0 : 0 ≤ left) (h1 : left ≤ 1048576) (hp1 : p.length ≤ 9223372036854775807) (hp2 : ∀ x ∈ p, x.length ≤ 9223372036854775807) : PureC Tryz.prog 30 [.list false (p.map strC), int left] (fun r => r = int (szS szStr p left)) := by
  refine PureC.of Tryz.func30 rfl Tryz.ntmps30 (by simp) fun Q hQ => ?_
  refine Runs.seqE Ty_ok (by decide) fun k' hk' => ?_
  simp   -- R0
  refine hk' _ _ _ ?_
  refine Runs.seqE Ty_ok (by decide) fun k' hk' => ?_
  simp [show -9223372036854775808 ≤ left - p.length by omega, show left - p.length ≤ 9223372036854775807 by omega]   -- R1
  refine hk' _ _ _ ?_
  refine Runs.seq ?_
  refine Runs.seqE Ty_ok (by decide) fun k' hk' => ?_
  simp   -- R2
  refine hk' _ _ _ ?_
  refine Runs.ite rfl (fun hc1 => ?_) (fun hc1 => ?_)
  · simp only [decide_eq_true_eq] at hc1
    refine Runs.seqE Ty_ok (by decide) fun k' hk' => ?_
    simp   -- R3
    refine hk' _ _ _ ?_
    refine Runs.ret Tryz.func30 (RetOk.one Tryz.results30) (hQ _ _ _ _ (.v _ _ _) ?_)
    rw [szS, if_pos hc1]
  · simp only [decide_eq_false_iff_not] at hc1
    refine Runs.skip ?_
    refine Runs.seq ?_
    refine Runs.seqE Ty_ok (by decide) fun k' hk' => ?_
    simp   -- R4
    refine hk' _ _ _ ?_
    refine Runs.block (Runs.loopUp p.length (fun k ρ H n => ρ 0 = .list false (p.map strC) ∧ ρ 5 = int k ∧ ∃ cur : Int, ρ 1 = int cur ∧ 0 ≤ cur ∧ cur ≤ left ∧ szL szStr (p.drop k) cur = szS szStr p left) ?_ ?_)
    · refine ⟨by simp, by simp, left - p.length, by simp, by omega, by omega, ?_⟩
      rw [szS, if_neg hc1, List.drop_zero]
    · rintro k ρ H n hk ⟨h0, h5, cur, h1', hcur, hcl, hsz⟩ IH
      refine Runs.seq ?_
      refine Runs.seqE Ty_ok (by decide) fun k' hk' => ?_
      simp [h0, h5]   -- R5
      refine hk' _ _ _ ?_
      refine Runs.ite rfl (fun hc2 => ?_) (fun hc2 => ?_)
      · simp at hc2
        have hel := hp2 _ (List.getElem_mem hc2)
        refine Runs.skip ?_
        refine Runs.seq ?_
        refine Runs.block ?_
        refine Runs.seqE Ty_ok (by decide) fun k' hk' => ?_
        simp [h0, h5, h1', hc2, strC, show -9223372036854775808 ≤ cur - (p[k].length : Int) by omega, show cur - (p[k].length : Int) ≤ 9223372036854775807 by omega]   -- R7
        refine hk' _ _ _ ?_
        rw [List.drop_eq_getElem_cons hc2, szL] at hsz
        refine Runs.seqE Ty_ok (by decide) fun k' hk' => ?_
        simp   -- R8
        refine hk' _ _ _ ?_
        refine Runs.ite rfl (fun hc3 => ?_) (fun hc3 => ?_)
        · simp only [decide_eq_true_eq] at hc3
          refine Runs.seqE Ty_ok (by decide) fun k' hk' => ?_
          simp   -- R9
          refine hk' _ _ _ ?_
          refine Runs.ret Tryz.func30 (RetOk.one Tryz.results30) (hQ _ _ _ _ (.v _ _ _) ?_)
          rw [← hsz]
          rw [if_pos (by unfold szStr; rw [if_pos hc3]; omega)]
        · simp only [decide_eq_false_iff_not] at hc3
          refine Runs.skip ?_
          refine Runs.inBlock ?_
          refine Runs.evalE Ty_ok (by decide) fun k' hk' => ?_
          simp [h5, wrap_succ (show k < 4611686018427387904 by omega)]   -- R6
          refine hk' _ _ _ ?_
          refine IH hc2 _ _ _ ?_
          have hse : szStr p[k] cur = cur - p[k].length := by unfold szStr; rw [if_neg hc3]
          rw [if_neg (by rw [hse]; exact hc3), hse] at hsz
          exact ⟨by simp [h0, strC], by simp, cur - p[k].length, by simp, by omega, by omega, hsz⟩
      · simp at hc2
        have hke : k = p.length := by omega
        subst hke
        rw [List.drop_length, szL] at hsz
        refine Runs.exit rfl ?_
        refine Runs.seqE Ty_ok (by decide) fun k' hk' => ?_
        simp [h1']   -- R10
        refine hk' _ _ _ ?_
        exact Runs.ret Tryz.func30 (RetOk.one Tryz.results30) (hQ _ _ _ _ (.v _ _ _) (by rw [hsz]))

end Go.Ab

/- Contract of laws.szBigraph; what the sizes bound. -/
namespace Go.Ab
open Go.Proofs
set_option linter.unusedSimpArgs false
theorem e7 : Ent Tryz.prog 7 := Ent.of Tryz.func7 (by kernel_rfl) rfl

def szB (b : Big) (left : Int) : Int :=
  if szS szN b.nodes left < 0 then -1 else if szI b.sites (szS szN b.nodes left) < 0 then -1 else
  if szS szStr b.outer (szI b.sites (szS szN b.nodes left)) < 0 then -1 else
  if szS szW b.inner (szS szStr b.outer (szI b.sites (szS szN b.nodes left))) < 0 then -1 else szS szW b.inner (szS szStr b.outer (szI b.sites (szS szN b.nodes left)))

/-- What a reader tells of a bigraph. -/
structure HugeB (b : Big) : Prop where
  nodes : b.nodes.length ≤ 9223372036854775807
  links : ∀ x ∈ b.nodes, x.links.length ≤ 9223372036854775807
  sites : b.sites.length ≤ 9223372036854775807
  outer : b.outer.length ≤ 9223372036854775807
  names : ∀ x ∈ b.outer, x.length ≤ 9223372036854775807
  inner : b.inner.length ≤ 9223372036854775807
  wnames : ∀ x ∈ b.inner, x.name.length ≤ 9223372036854775807
  parents : ∀ x ∈ b.nodes, I64 x.parent
  sites64 : ∀ p ∈ b.sites, I64 p

theorem szL_le {α : Type} (f : α → Int → Int) [SzF f] : ∀ (l : List α) (left : Int), 0 ≤ left → szL f l left ≤ left
  | [], _, _ => Int.le_refl _
  | x :: r, left, h => by
    rw [szL]
    have := f_le f x left h
    split
    · omega
    · have := szL_le f r (f x left) (by omega)
      omega
theorem szS_le {α : Type} (f : α → Int → Int) [SzF f] (l : List α) (left : Int) (h : 0 ≤ left) : szS f l left ≤ left := by
  unfold szS
  split
  · omega
  · have := szL_le f l (left - l.length) (by omega)
    omega
theorem szL_mem {α : Type} (f : α → Int → Int) [SzF f] : ∀ (l : List α) (left : Int), 0 ≤ left → 0 ≤ szL f l left → ∀ x ∈ l, ∃ c, 0 ≤ c ∧ c ≤ left ∧ 0 ≤ f x c
  | [], _, _, _, x, hx => by cases hx
  | y :: r, left, h, h2, x, hx => by
    rw [szL] at h2
    have hle := f_le f y left h
    split at h2
    · omega
    · rcases List.mem_cons.1 hx with rfl | hx
      · exact ⟨left, h, Int.le_refl _, by omega⟩
      · obtain ⟨c, h3, h4, h5⟩ := szL_mem f r (f y left) (by omega) h2 x hx
        exact ⟨c, h3, by omega, h5⟩
theorem szS_mem {α : Type} (f : α → Int → Int) [SzF f] (l : List α) (left : Int) (h : 0 ≤ left) (h2 : 0 ≤ szS f l left) : (l.length : Int) ≤ left ∧ ∀ x ∈ l, ∃ c, 0 ≤ c ∧ c ≤ left ∧ 0 ≤ f x c := by
  unfold szS at h2
  split at h2
  · omega
  · refine ⟨by omega, fun x hx => ?_⟩
    obtain ⟨c, h3, h4, h5⟩ := szL_mem f l _ (by omega) h2 x hx
    exact ⟨c, h3, by omega, h5⟩
theorem szStr_len {s : Str} {c : Int} (h : 0 ≤ szStr s c) : (s.length : Int) ≤ c := by
  unfold szStr at h
  split at h <;> omega
theorem szI_len {s : List Int} {c : Int} (h : 0 ≤ szI s c) : (s.length : Int) ≤ c := by
  unfold szI at h
  split at h <;> omega

theorem szBigraph_ok (b : Big) (left : Int) (h0 : 0 ≤ left) (h1 : left ≤ 1048576) (hb : HugeB b) : PureC Tryz.prog 7 [encB false b, int left] (fun r => r = int (szB b left)) := by
  have le1 := szS_le szN b.nodes left h0
  refine PureC.of Tryz.func7 rfl Tryz.ntmps7 (by simp) fun Q hQ => ?_
  refine Runs.seqE Ty_ok (by decide) fun k' hk' => ?_
  simp [encB, Big.cells, encN, encI, encS, encW]   -- R0
  refine hk' _ _ _ ?_
  refine Runs.seqE Ty_ok (by decide) fun k' hk' => ?_
  simp
  refine RunK.callA Ty_ok (szNodeS_ok b.nodes left h0 h1 hb.nodes hb.links) e28 (.cons (ArgOk.encN false b.nodes) (.cons (.v _ _ _) .nil)) (by decide) (by decide) rfl (by simp [encN, encI, encS, encW]) ?_
  rintro _ rfl
  simp
  refine hk' _ _ _ ?_
  refine Runs.seq ?_
  refine Runs.seqE Ty_ok (by decide) fun k' hk' => ?_
  simp
  refine hk' _ _ _ ?_
  refine Runs.ite rfl (fun hc => ?_) (fun hd0 => ?_)
  · simp only [decide_eq_true_eq] at hc
    refine Runs.seqE Ty_ok (by decide) fun k' hk' => ?_
    simp
    refine hk' _ _ _ ?_
    exact Runs.ret Tryz.func7 (RetOk.one Tryz.results7) (hQ _ _ _ _ (.v _ _ _) (by rw [szB, if_pos hc]))
  simp only [decide_eq_false_iff_not] at hd0
  have le2 := f_le szI b.sites (szS szN b.nodes left) (by omega)
  refine Runs.skip ?_
  refine Runs.seqE Ty_ok (by decide) fun k' hk' => ?_
  simp
  refine RunK.callA Ty_ok (szIntS_ok b.sites (szS szN b.nodes left) (by omega) (by omega) hb.sites) e29 (.cons (ArgOk.encI false b.sites) (.cons (.v _ _ _) .nil)) (by decide) (by decide) rfl (by simp [encN, encI, encS, encW]) ?_
  rintro _ rfl
  simp
  refine hk' _ _ _ ?_
  refine Runs.seq ?_
  refine Runs.seqE Ty_ok (by decide) fun k' hk' => ?_
  simp
  refine hk' _ _ _ ?_
  refine Runs.ite rfl (fun hc => ?_) (fun hd1 => ?_)
  · simp only [decide_eq_true_eq] at hc
    refine Runs.seqE Ty_ok (by decide) fun k' hk' => ?_
    simp
    refine hk' _ _ _ ?_
    exact Runs.ret Tryz.func7 (RetOk.one Tryz.results7) (hQ _ _ _ _ (.v _ _ _) (by rw [szB, if_neg hd0, if_pos hc]))
  simp only [decide_eq_false_iff_not] at hd1
  have le3 := szS_le szStr b.outer (szI b.sites (szS szN b.nodes left)) (by omega)
  refine Runs.skip ?_
  refine Runs.seqE Ty_ok (by decide) fun k' hk' => ?_
  simp
  refine RunK.callA Ty_ok (szStringS_ok b.outer (szI b.sites (szS szN b.nodes left)) (by omega) (by omega) hb.outer hb.names) e30 (.cons (ArgOk.encS false b.outer) (.cons (.v _ _ _) .nil)) (by decide) (by decide) rfl (by simp [encN, encI, encS, encW]) ?_
  rintro _ rfl
  simp
  refine hk' _ _ _ ?_
  refine Runs.seq ?_
  refine Runs.seqE Ty_ok (by decide) fun k' hk' => ?_
  simp
  refine hk' _ _ _ ?_
  refine Runs.ite rfl (fun hc => ?_) (fun hd2 => ?_)
  · simp only [decide_eq_true_eq] at hc
    refine Runs.seqE Ty_ok (by decide) fun k' hk' => ?_
    simp
    refine hk' _ _ _ ?_
    exact Runs.ret Tryz.func7 (RetOk.one Tryz.results7) (hQ _ _ _ _ (.v _ _ _) (by rw [szB, if_neg hd0, if_neg hd1, if_pos hc]))
  simp only [decide_eq_false_iff_not] at hd2
  refine Runs.skip ?_
  refine Runs.seqE Ty_ok (by decide) fun k' hk' => ?_
  simp
  refine RunK.callA Ty_ok (szWireS_ok b.inner (szS szStr b.outer (szI b.sites (szS szN b.nodes left))) (by omega) (by omega) hb.inner hb.wnames) e31 (.cons (ArgOk.encW false b.inner) (.cons (.v _ _ _) .nil)) (by decide) (by decide) rfl (by simp [encN, encI, encS, encW]) ?_
  rintro _ rfl
  simp
  refine hk' _ _ _ ?_
  refine Runs.seq ?_
  refine Runs.seqE Ty_ok (by decide) fun k' hk' => ?_
  simp
  refine hk' _ _ _ ?_
  refine Runs.ite rfl (fun hc => ?_) (fun hd3 => ?_)
  · simp only [decide_eq_true_eq] at hc
    refine Runs.seqE Ty_ok (by decide) fun k' hk' => ?_
    simp
    refine hk' _ _ _ ?_
    exact Runs.ret Tryz.func7 (RetOk.one Tryz.results7) (hQ _ _ _ _ (.v _ _ _) (by rw [szB, if_neg hd0, if_neg hd1, if_neg hd2, if_pos hc]))
  simp only [decide_eq_false_iff_not] at hd3
  refine Runs.skip ?_
  refine Runs.seqE Ty_ok (by decide) fun k' hk' => ?_
  simp
  refine hk' _ _ _ ?_
  exact Runs.ret Tryz.func7 (RetOk.one Tryz.results7) (hQ _ _ _ _ (.v _ _ _) (by rw [szB, if_neg hd0, if_neg hd1, if_neg hd2, if_neg hd3]))

theorem smallB {sig : Sig} {b : Big} {left : Int} (h0 : 0 ≤ left) (h1 : left ≤ 1048576) (hs : 0 ≤ szS szC sig left) (hb : 0 ≤ szB b (szS szC sig left)) (hh : HugeB b) : SmallB sig b := by
  have hle := szS_le szC sig left h0
  obtain ⟨a1, a2⟩ := szS_mem szC sig left h0 hs
  generalize szS szC sig left = l0 at *
  unfold szB at hb
  split at hb
  · omega
  split at hb
  · omega
  split at hb
  · omega
  split at hb
  · omega
  rename_i n1 n2 n3 n4
  have le1 := szS_le szN b.nodes l0 hs
  obtain ⟨b1, b2⟩ := szS_mem szN b.nodes l0 hs (by omega)
  generalize szS szN b.nodes l0 = l1 at *
  have le2 := f_le szI b.sites l1 (by omega)
  have c1 := szI_len (s := b.sites) (c := l1) (by omega)
  generalize szI b.sites l1 = l2 at *
  have le3 := szS_le szStr b.outer l2 (by omega)
  obtain ⟨d1, d2⟩ := szS_mem szStr b.outer l2 (by omega) (by omega)
  generalize szS szStr b.outer l2 = l3 at *
  obtain ⟨f1, f2⟩ := szS_mem szW b.inner l3 (by omega) (by omega)
  refine ⟨by omega, fun c hc => ?_, by omega, by omega, by omega, by omega, fun s hs => ?_, fun w hw => ?_, fun x hx => ?_, hh.parents, hh.sites64⟩
  · obtain ⟨q, _, q2, q3⟩ := a2 c hc
    have := szStr_len q3
    omega
  · obtain ⟨q, _, q2, q3⟩ := d2 s hs
    have := szStr_len q3
    omega
  · obtain ⟨q, _, q2, q3⟩ := f2 w hw
    have := szStr_len q3
    omega
  · obtain ⟨q, _, q2, q3⟩ := b2 x hx
    have := szI_len q3
    omega
end Go.Ab

/- The contract of laws.FnExactCommonPlace: it answers true. -/
namespace Go.Ab
open Go.Proofs
set_option linter.unusedSimpArgs false

structure HugeS (sig : Sig) : Prop where
  len : sig.length ≤ 9223372036854775807
  names : ∀ c ∈ sig, c.name.length ≤ 9223372036854775807

end Go.Ab
