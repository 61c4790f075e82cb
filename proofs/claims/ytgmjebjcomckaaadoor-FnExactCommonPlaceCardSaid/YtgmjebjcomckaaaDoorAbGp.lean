/- Contracts of the laws' sz.. functions of bigraphs. By program. -/
import Derived.Test.YtgmjebjcomckaaaDoorAbGo
import Derived.Test.YtgmjebjcomckaaaDoorAbY
namespace Go.Ab
open Go.Proofs
set_option linter.unusedSimpArgs false

def szL {α : Type} (f : α → Int → Int) : List α → Int → Int
  | [], left => left
  | x :: r, left => if f x left < 0 then -1 else szL f r (f x left)
def szS {α : Type} (f : α → Int → Int) (l : List α) (left : Int) : Int := if left - l.length < 0 then -1 else szL f l (left - l.length)
def szI (l : List Int) (left : Int) : Int := if left - l.length < 0 then -1 else left - l.length
def szC (x : Control) (left : Int) : Int := szStr x.name left
def szW (x : Wire) (left : Int) : Int := szStr x.name left
def szN (x : GNode) (left : Int) : Int := szI x.links left
class SzF {α : Type} (f : α → Int → Int) : Prop where
  le : ∀ x left, 0 ≤ left → f x left ≤ left
theorem f_le {α : Type} (f : α → Int → Int) [SzF f] (x : α) (left : Int) (h : 0 ≤ left) : f x left ≤ left := SzF.le x left h
instance : SzF szStr := ⟨fun x left h => by unfold szStr; split <;> omega⟩
instance : SzF szI := ⟨fun x left h => by unfold szI; split <;> omega⟩
instance : SzF szC := ⟨fun x left h => by unfold szC szStr; split <;> omega⟩
instance : SzF szW := ⟨fun x left h => by unfold szW szStr; split <;> omega⟩
instance : SzF szN := ⟨fun x left h => by unfold szN szI; split <;> omega⟩

theorem e85 : Ent Tryd.prog 85 := Ent.of Tryd.func85 (by kernel_rfl) rfl
theorem szControl_ok (x : Control) (left : Int) (h0 : 0 ≤ left) (h1 : left ≤ 1048576) (hn : x.name.length ≤ 9223372036854775807) : PureC Tryd.prog 85 [.agg x.cells, int left] (fun r => r = int (szC x left)) := by
  refine PureC.of Tryd.func85 rfl Tryd.ntmps85 (by simp) fun Q hQ => ?_
  refine Runs.seqE Ty_ok (by decide) fun k' hk' => ?_
  simp [Control.cells]   -- R0
  refine hk' _ _ _ ?_
  refine Runs.seqE Ty_ok (by decide) fun k' hk' => ?_
  simp [show -9223372036854775808 ≤ left - (x.name.length : Int) by omega, show left - (x.name.length : Int) ≤ 9223372036854775807 by omega]
  refine hk' _ _ _ ?_
  refine Runs.seq ?_
  refine Runs.seqE Ty_ok (by decide) fun k' hk' => ?_
  simp   -- R2
  refine hk' _ _ _ ?_
  refine Runs.ite rfl (fun hc1 => ?_) (fun hc1 => ?_)
  · simp only [decide_eq_true_eq] at hc1
    refine Runs.seqE Ty_ok (by decide) fun k' hk' => ?_
    simp   -- R3
    refine hk' _ _ _ ?_
    refine Runs.ret Tryd.func85 (RetOk.one Tryd.results85) (hQ _ _ _ _ (.v _ _ _) ?_)
    rw [szC, szStr, if_pos hc1]
  · simp only [decide_eq_false_iff_not] at hc1
    refine Runs.skip ?_
    refine Runs.seqE Ty_ok (by decide) fun k' hk' => ?_
    simp   -- R4
    refine hk' _ _ _ ?_
    refine Runs.ret Tryd.func85 (RetOk.one Tryd.results85) (hQ _ _ _ _ (.v _ _ _) ?_)
    rw [szC, szStr, if_neg hc1]

theorem e139 : Ent Tryd.prog 139 := Ent.of Tryd.func139 (by kernel_rfl) rfl
theorem szWire_ok (x : Wire) (left : Int) (h0 : 0 ≤ left) (h1 : left ≤ 1048576) (hn : x.name.length ≤ 9223372036854775807) : PureC Tryd.prog 139 [.agg x.cells, int left] (fun r => r = int (szW x left)) := by
  refine PureC.of Tryd.func139 rfl Tryd.ntmps139 (by simp) fun Q hQ => ?_
  refine Runs.seqE Ty_ok (by decide) fun k' hk' => ?_
  simp [Wire.cells]   -- R0
  refine hk' _ _ _ ?_
  refine Runs.seqE Ty_ok (by decide) fun k' hk' => ?_
  simp [show -9223372036854775808 ≤ left - (x.name.length : Int) by omega, show left - (x.name.length : Int) ≤ 9223372036854775807 by omega]
  refine hk' _ _ _ ?_
  refine Runs.seq ?_
  refine Runs.seqE Ty_ok (by decide) fun k' hk' => ?_
  simp   -- R2
  refine hk' _ _ _ ?_
  refine Runs.ite rfl (fun hc1 => ?_) (fun hc1 => ?_)
  · simp only [decide_eq_true_eq] at hc1
    refine Runs.seqE Ty_ok (by decide) fun k' hk' => ?_
    simp   -- R3
    refine hk' _ _ _ ?_
    refine Runs.ret Tryd.func139 (RetOk.one Tryd.results139) (hQ _ _ _ _ (.v _ _ _) ?_)
    rw [szW, szStr, if_pos hc1]
  · simp only [decide_eq_false_iff_not] at hc1
    refine Runs.skip ?_
    refine Runs.seqE Ty_ok (by decide) fun k' hk' => ?_
    simp   -- R4
    refine hk' _ _ _ ?_
    refine Runs.ret Tryd.func139 (RetOk.one Tryd.results139) (hQ _ _ _ _ (.v _ _ _) ?_)
    rw [szW, szStr, if_neg hc1]

theorem e87 : Ent Tryd.prog 87 := Ent.of Tryd.func87 (by kernel_rfl) rfl
theorem szIntS_ok (x : List Int) (left : Int) (h0 : 0 ≤ left) (h1 : left ≤ 1048576) (hn : x.length ≤ 9223372036854775807) : PureC Tryd.prog 87 [encI false x, int left] (fun r => r = int (szI x left)) := by
  refine PureC.of Tryd.func87 rfl Tryd.ntmps87 (by simp) fun Q hQ => ?_
  refine Runs.seqE Ty_ok (by decide) fun k' hk' => ?_
  simp [encI]   -- R0
  refine hk' _ _ _ ?_
  refine Runs.seqE Ty_ok (by decide) fun k' hk' => ?_
  simp [show -9223372036854775808 ≤ left - (x.length : Int) by omega, show left - (x.length : Int) ≤ 9223372036854775807 by omega]
  refine hk' _ _ _ ?_
  refine Runs.seq ?_
  refine Runs.seqE Ty_ok (by decide) fun k' hk' => ?_
  simp   -- R2
  refine hk' _ _ _ ?_
  refine Runs.ite rfl (fun hc1 => ?_) (fun hc1 => ?_)
  · simp only [decide_eq_true_eq] at hc1
    refine Runs.seqE Ty_ok (by decide) fun k' hk' => ?_
    simp   -- R3
    refine hk' _ _ _ ?_
    refine Runs.ret Tryd.func87 (RetOk.one Tryd.results87) (hQ _ _ _ _ (.v _ _ _) ?_)
    rw [szI, if_pos hc1]
  · simp only [decide_eq_false_iff_not] at hc1
    refine Runs.skip ?_
    refine Runs.seqE Ty_ok (by decide) fun k' hk' => ?_
    simp   -- R4
    refine hk' _ _ _ ?_
    refine Runs.ret Tryd.func87 (RetOk.one Tryd.results87) (hQ _ _ _ _ (.v _ _ _) ?_)
    rw [szI, if_neg hc1]

theorem e138 : Ent Tryd.prog 138 := Ent.of Tryd.func138 (by kernel_rfl) rfl
theorem szNode_ok (x : GNode) (left : Int) (h0 : 0 ≤ left) (h1 : left ≤ 1048576) (hn : x.links.length ≤ 9223372036854775807) : PureC Tryd.prog 138 [.agg (x.cells false), int left] (fun r => r = int (szN x left)) := by
  refine PureC.of Tryd.func138 rfl Tryd.ntmps138 (by simp) fun Q hQ => ?_
  refine Runs.seqE Ty_ok (by decide) fun k' hk' => ?_
  simp [GNode.cells]   -- R0
  refine hk' _ _ _ ?_
  refine Runs.seqE Ty_ok (by decide) fun k' hk' => ?_
  simp
  refine RunK.callA Ty_ok (szIntS_ok x.links left h0 h1 hn) e87 (.cons (ArgOk.encI false x.links) (.cons (.v _ _ _) .nil)) (by decide) (by decide) rfl (by simp [encI]) ?_
  rintro _ rfl
  simp
  refine hk' _ _ _ ?_
  refine Runs.seq ?_
  refine Runs.seqE Ty_ok (by decide) fun k' hk' => ?_
  simp   -- R2
  refine hk' _ _ _ ?_
  refine Runs.ite rfl (fun hc1 => ?_) (fun hc1 => ?_)
  · simp only [decide_eq_true_eq] at hc1
    refine Runs.seqE Ty_ok (by decide) fun k' hk' => ?_
    simp   -- R3
    refine hk' _ _ _ ?_
    refine Runs.ret Tryd.func138 (RetOk.one Tryd.results138) (hQ _ _ _ _ (.v _ _ _) ?_)
    simp only [Env.put]
    have : szI x.links left = -1 := by
      unfold szI at hc1 ⊢
      split <;> rename_i h
      · rfl
      · rw [if_neg h] at hc1; omega
    simp [szN, this]
  · simp only [decide_eq_false_iff_not] at hc1
    refine Runs.skip ?_
    refine Runs.seqE Ty_ok (by decide) fun k' hk' => ?_
    simp   -- R4
    refine hk' _ _ _ ?_
    refine Runs.ret Tryd.func138 (RetOk.one Tryd.results138) (hQ _ _ _ _ (.v _ _ _) ?_)
    rfl

theorem e34 : Ent Tryd.prog 34 := Ent.of Tryd.func34 (by kernel_rfl) rfl
theorem szControlS_ok (p : List (Control)) (left : Int) (h0 : 0 ≤ left) (h1 : left ≤ 1048576) (hp1 : p.length ≤ 9223372036854775807) (hp2 : ∀ x ∈ p, x.name.length ≤ 9223372036854775807) : PureC Tryd.prog 34 [.list false (p.map Control.cells), int left] (fun r => r = int (szS szC p left)) := by
  refine PureC.of Tryd.func34 rfl Tryd.ntmps34 (by simp) fun Q hQ => ?_
  refine Runs.seqE Ty_ok (by decide) fun k' hk' => ?_
  simp   -- R0
  refine hk' _ _ _ ?_
  refine Runs.seqE Ty_ok (by decide) fun k' hk' => ?_
  simp [show -9223372036854775808 ≤ left - p.length by omega, show left - p.length ≤ 9223372036854775807 by omega]   -- R1
  refine hk' _ _ _ ?_
  refine Runs.seq ?_
  refine Runs.seqE Ty_ok (by decide) fun k' hk' => ?_
  simp   -- R2
  refine hk' _ _ _ ?_
  refine Runs.ite rfl (fun hc1 => ?_) (fun hc1 => ?_)
  · simp only [decide_eq_true_eq] at hc1
    refine Runs.seqE Ty_ok (by decide) fun k' hk' => ?_
    simp   -- R3
    refine hk' _ _ _ ?_
    refine Runs.ret Tryd.func34 (RetOk.one Tryd.results34) (hQ _ _ _ _ (.v _ _ _) ?_)
    rw [szS, if_pos hc1]
  · simp only [decide_eq_false_iff_not] at hc1
    refine Runs.skip ?_
    refine Runs.seq ?_
    refine Runs.seqE Ty_ok (by decide) fun k' hk' => ?_
    simp   -- R4
    refine hk' _ _ _ ?_
    refine Runs.block (Runs.loopUp p.length (fun k ρ H n => ρ 0 = .list false (p.map Control.cells) ∧ ρ 5 = int k ∧ ∃ cur : Int, ρ 1 = int cur ∧ 0 ≤ cur ∧ cur ≤ left ∧ szL szC (p.drop k) cur = szS szC p left) ?_ ?_)
    · refine ⟨by simp, by simp, left - p.length, by simp, by omega, by omega, ?_⟩
      rw [szS, if_neg hc1, List.drop_zero]
    · rintro k ρ H n hk ⟨h0, h5, cur, h1', hcur, hcl, hsz⟩ IH
      refine Runs.seq ?_
      refine Runs.seqE Ty_ok (by decide) fun k' hk' => ?_
      simp [h0, h5]   -- R5
      refine hk' _ _ _ ?_
      refine Runs.ite rfl (fun hc2 => ?_) (fun hc2 => ?_)
      · simp at hc2
        have hel := hp2 _ (List.getElem_mem hc2)
        refine Runs.skip ?_
        refine Runs.seq ?_
        refine Runs.block ?_
        refine Runs.seqE Ty_ok (by decide) fun k' hk' => ?_
        simp [h0, h5, h1', hc2, Control.cells]   -- R7
        refine RunK.callA Ty_ok (szControl_ok p[k] cur hcur (by omega) hel) e85 (.cons (ArgOk.ctlB _) (.cons (.v _ _ _) .nil)) (by decide) (by decide) rfl (by simp [Control.cells, h1']) ?_
        rintro _ rfl
        simp
        refine hk' _ _ _ ?_
        rw [List.drop_eq_getElem_cons hc2, szL] at hsz
        refine Runs.seqE Ty_ok (by decide) fun k' hk' => ?_
        simp   -- R8
        refine hk' _ _ _ ?_
        refine Runs.ite rfl (fun hc3 => ?_) (fun hc3 => ?_)
        · simp only [decide_eq_true_eq] at hc3
          refine Runs.seqE Ty_ok (by decide) fun k' hk' => ?_
          simp   -- R9
          refine hk' _ _ _ ?_
          refine Runs.ret Tryd.func34 (RetOk.one Tryd.results34) (hQ _ _ _ _ (.v _ _ _) ?_)
          rw [← hsz]
          rw [if_pos hc3]
        · simp only [decide_eq_false_iff_not] at hc3
          refine Runs.skip ?_
          refine Runs.inBlock ?_
          refine Runs.evalE Ty_ok (by decide) fun k' hk' => ?_
          simp [h5, wrap_succ (show k < 4611686018427387904 by omega)]   -- R6
          refine hk' _ _ _ ?_
          refine IH hc2 _ _ _ ?_
          have hle := f_le szC p[k] cur hcur
          rw [if_neg hc3] at hsz
          exact ⟨by simp [h0, Control.cells], by simp, szC p[k] cur, by simp, by omega, by omega, hsz⟩
      · simp at hc2
        have hke : k = p.length := by omega
        subst hke
        rw [List.drop_length, szL] at hsz
        refine Runs.exit rfl ?_
        refine Runs.seqE Ty_ok (by decide) fun k' hk' => ?_
        simp [h1']   -- R10
        refine hk' _ _ _ ?_
        exact Runs.ret Tryd.func34 (RetOk.one Tryd.results34) (hQ _ _ _ _ (.v _ _ _) (by rw [hsz]))

theorem e89 : Ent Tryd.prog 89 := Ent.of Tryd.func89 (by kernel_rfl) rfl
theorem szWireS_ok (p : List (Wire)) (left : Int) (h0 : 0 ≤ left) (h1 : left ≤ 1048576) (hp1 : p.length ≤ 9223372036854775807) (hp2 : ∀ x ∈ p, x.name.length ≤ 9223372036854775807) : PureC Tryd.prog 89 [.list false (p.map Wire.cells), int left] (fun r => r = int (szS szW p left)) := by
  refine PureC.of Tryd.func89 rfl Tryd.ntmps89 (by simp) fun Q hQ => ?_
  refine Runs.seqE Ty_ok (by decide) fun k' hk' => ?_
  simp   -- R0
  refine hk' _ _ _ ?_
  refine Runs.seqE Ty_ok (by decide) fun k' hk' => ?_
  simp [show -9223372036854775808 ≤ left - p.length by omega, show left - p.length ≤ 9223372036854775807 by omega]   -- R1
  refine hk' _ _ _ ?_
  refine Runs.seq ?_
  refine Runs.seqE Ty_ok (by decide) fun k' hk' => ?_
  simp   -- R2
  refine hk' _ _ _ ?_
  refine Runs.ite rfl (fun hc1 => ?_) (fun hc1 => ?_)
  · simp only [decide_eq_true_eq] at hc1
    refine Runs.seqE Ty_ok (by decide) fun k' hk' => ?_
    simp   -- R3
    refine hk' _ _ _ ?_
    refine Runs.ret Tryd.func89 (RetOk.one Tryd.results89) (hQ _ _ _ _ (.v _ _ _) ?_)
    rw [szS, if_pos hc1]
  · simp only [decide_eq_false_iff_not] at hc1
    refine Runs.skip ?_
    refine Runs.seq ?_
    refine Runs.seqE Ty_ok (by decide) fun k' hk' => ?_
    simp   -- R4
    refine hk' _ _ _ ?_
    refine Runs.block (Runs.loopUp p.length (fun k ρ H n => ρ 0 = .list false (p.map Wire.cells) ∧ ρ 5 = int k ∧ ∃ cur : Int, ρ 1 = int cur ∧ 0 ≤ cur ∧ cur ≤ left ∧ szL szW (p.drop k) cur = szS szW p left) ?_ ?_)
    · refine ⟨by simp, by simp, left - p.length, by simp, by omega, by omega, ?_⟩
      rw [szS, if_neg hc1, List.drop_zero]
    · rintro k ρ H n hk ⟨h0, h5, cur, h1', hcur, hcl, hsz⟩ IH
      refine Runs.seq ?_
      refine Runs.seqE Ty_ok (by decide) fun k' hk' => ?_
      simp [h0, h5]   -- R5
      refine hk' _ _ _ ?_
      refine Runs.ite rfl (fun hc2 => ?_) (fun hc2 => ?_)
      · simp at hc2
        have hel := hp2 _ (List.getElem_mem hc2)
        refine Runs.skip ?_
        refine Runs.seq ?_
        refine Runs.block ?_
        refine Runs.seqE Ty_ok (by decide) fun k' hk' => ?_
        simp [h0, h5, h1', hc2, Wire.cells]   -- R7
        refine RunK.callA Ty_ok (szWire_ok p[k] cur hcur (by omega) hel) e139 (.cons (ArgOk.wireB _) (.cons (.v _ _ _) .nil)) (by decide) (by decide) rfl (by simp [Wire.cells, h1']) ?_
        rintro _ rfl
        simp
        refine hk' _ _ _ ?_
        rw [List.drop_eq_getElem_cons hc2, szL] at hsz
        refine Runs.seqE Ty_ok (by decide) fun k' hk' => ?_
        simp   -- R8
        refine hk' _ _ _ ?_
        refine Runs.ite rfl (fun hc3 => ?_) (fun hc3 => ?_)
        · simp only [decide_eq_true_eq] at hc3
          refine Runs.seqE Ty_ok (by decide) fun k' hk' => ?_
          simp   -- R9
          refine hk' _ _ _ ?_
          refine Runs.ret Tryd.func89 (RetOk.one Tryd.results89) (hQ _ _ _ _ (.v _ _ _) ?_)
          rw [← hsz]
          rw [if_pos hc3]
        · simp only [decide_eq_false_iff_not] at hc3
          refine Runs.skip ?_
          refine Runs.inBlock ?_
          refine Runs.evalE Ty_ok (by decide) fun k' hk' => ?_
          simp [h5, wrap_succ (show k < 4611686018427387904 by omega)]   -- R6
          refine hk' _ _ _ ?_
          refine IH hc2 _ _ _ ?_
          have hle := f_le szW p[k] cur hcur
          rw [if_neg hc3] at hsz
          exact ⟨by simp [h0, Wire.cells], by simp, szW p[k] cur, by simp, by omega, by omega, hsz⟩
      · simp at hc2
        have hke : k = p.length := by omega
        subst hke
        rw [List.drop_length, szL] at hsz
        refine Runs.exit rfl ?_
        refine Runs.seqE Ty_ok (by decide) fun k' hk' => ?_
        simp [h1']   -- R10
        refine hk' _ _ _ ?_
        exact Runs.ret Tryd.func89 (RetOk.one Tryd.results89) (hQ _ _ _ _ (.v _ _ _) (by rw [hsz]))

theorem e86 : Ent Tryd.prog 86 := Ent.of Tryd.func86 (by kernel_rfl) rfl
theorem szNodeS_ok (p : List (GNode)) (left : Int) (h0 : 0 ≤ left) (h1 : left ≤ 1048576) (hp1 : p.length ≤ 9223372036854775807) (hp2 : ∀ x ∈ p, x.links.length ≤ 9223372036854775807) : PureC Tryd.prog 86 [.list false (p.map (GNode.cells false)), int left] (fun r => r = int (szS szN p left)) := by
  refine PureC.of Tryd.func86 rfl Tryd.ntmps86 (by simp) fun Q hQ => ?_
  refine Runs.seqE Ty_ok (by decide) fun k' hk' => ?_
  simp   -- R0
  refine hk' _ _ _ ?_
  refine Runs.seqE Ty_ok (by decide) fun k' hk' => ?_
  simp [show -9223372036854775808 ≤ left - p.length by omega, show left - p.length ≤ 9223372036854775807 by omega]   -- R1
  refine hk' _ _ _ ?_
  refine Runs.seq ?_
  refine Runs.seqE Ty_ok (by decide) fun k' hk' => ?_
  simp   -- R2
  refine hk' _ _ _ ?_
  refine Runs.ite rfl (fun hc1 => ?_) (fun hc1 => ?_)
  · simp only [decide_eq_true_eq] at hc1
    refine Runs.seqE Ty_ok (by decide) fun k' hk' => ?_
    simp   -- R3
    refine hk' _ _ _ ?_
    refine Runs.ret Tryd.func86 (RetOk.one Tryd.results86) (hQ _ _ _ _ (.v _ _ _) ?_)
    rw [szS, if_pos hc1]
  · simp only [decide_eq_false_iff_not] at hc1
    refine Runs.skip ?_
    refine Runs.seq ?_
    refine Runs.seqE Ty_ok (by decide) fun k' hk' => ?_
    simp   -- R4
    refine hk' _ _ _ ?_
    refine Runs.block (Runs.loopUp p.length (fun k ρ H n => ρ 0 = .list false (p.map (GNode.cells false)) ∧ ρ 5 = int k ∧ ∃ cur : Int, ρ 1 = int cur ∧ 0 ≤ cur ∧ cur ≤ left ∧ szL szN (p.drop k) cur = szS szN p left) ?_ ?_)
    · refine ⟨by simp, by simp, left - p.length, by simp, by omega, by omega, ?_⟩
      rw [szS, if_neg hc1, List.drop_zero]
    · rintro k ρ H n hk ⟨h0, h5, cur, h1', hcur, hcl, hsz⟩ IH
      refine Runs.seq ?_
      refine Runs.seqE Ty_ok (by decide) fun k' hk' => ?_
      simp [h0, h5]   -- R5
      refine hk' _ _ _ ?_
      refine Runs.ite rfl (fun hc2 => ?_) (fun hc2 => ?_)
      · simp at hc2
        have hel := hp2 _ (List.getElem_mem hc2)
        refine Runs.skip ?_
        refine Runs.seq ?_
        refine Runs.block ?_
        refine Runs.seqE Ty_ok (by decide) fun k' hk' => ?_
        simp [h0, h5, h1', hc2, GNode.cells]   -- R7
        refine RunK.callA Ty_ok (szNode_ok p[k] cur hcur (by omega) hel) e138 (.cons (ArgOk.nodeB false _) (.cons (.v _ _ _) .nil)) (by decide) (by decide) rfl (by simp [GNode.cells, h1']) ?_
        rintro _ rfl
        simp
        refine hk' _ _ _ ?_
        rw [List.drop_eq_getElem_cons hc2, szL] at hsz
        refine Runs.seqE Ty_ok (by decide) fun k' hk' => ?_
        simp   -- R8
        refine hk' _ _ _ ?_
        refine Runs.ite rfl (fun hc3 => ?_) (fun hc3 => ?_)
        · simp only [decide_eq_true_eq] at hc3
          refine Runs.seqE Ty_ok (by decide) fun k' hk' => ?_
          simp   -- R9
          refine hk' _ _ _ ?_
          refine Runs.ret Tryd.func86 (RetOk.one Tryd.results86) (hQ _ _ _ _ (.v _ _ _) ?_)
          rw [← hsz]
          rw [if_pos hc3]
        · simp only [decide_eq_false_iff_not] at hc3
          refine Runs.skip ?_
          refine Runs.inBlock ?_
          refine Runs.evalE Ty_ok (by decide) fun k' hk' => ?_
          simp [h5, wrap_succ (show k < 4611686018427387904 by omega)]   -- R6
          refine hk' _ _ _ ?_
          refine IH hc2 _ _ _ ?_
          have hle := f_le szN p[k] cur hcur
          rw [if_neg hc3] at hsz
          exact ⟨by simp [h0, GNode.cells], by simp, szN p[k] cur, by simp, by omega, by omega, hsz⟩
      · simp at hc2
        have hke : k = p.length := by omega
        subst hke
        rw [List.drop_length, szL] at hsz
        refine Runs.exit rfl ?_
        refine Runs.seqE Ty_ok (by decide) fun k' hk' => ?_
        simp [h1']   -- R10
        refine hk' _ _ _ ?_
        exact Runs.ret Tryd.func86 (RetOk.one Tryd.results86) (hQ _ _ _ _ (.v _ _ _) (by rw [hsz]))

theorem e88 : Ent Tryd.prog 88 := Ent.of Tryd.func88 (by kernel_rfl) rfl
theorem szStringS_ok (p : List (Str)) (left : Int) (h0 : 0 ≤ left) (h1 : left ≤ 1048576) (hp1 : p.length ≤ 9223372036854775807) (hp2 : ∀ x ∈ p, x.length ≤ 9223372036854775807) : PureC Tryd.prog 88 [.list false (p.map strC), int left] (fun r => r = int (szS szStr p left)) := by
  refine PureC.of Tryd.func88 rfl Tryd.ntmps88 (by simp) fun Q hQ => ?_
  refine Runs.seqE Ty_ok (by decide) fun k' hk' => ?_
  simp   -- R0
  refine hk' _ _ _ ?_
  refine Runs.seqE Ty_ok (by decide) fun k' hk' => ?_
  simp [show -9223372036854775808 ≤ left - p.length by omega, show left - p.length ≤ 9223372036854775807 by omega]   -- R1
  refine hk' _ _ _ ?_
  refine Runs.seq ?_
  refine Runs.seqE Ty_ok (by decide) fun k' hk' => ?_
  simp   -- R2
  refine hk' _ _ _ ?_
  refine Runs.ite rfl (fun hc1 => ?_) (fun hc1 => ?_)
  · simp only [decide_eq_true_eq] at hc1
    refine Runs.seqE Ty_ok (by decide) fun k' hk' => ?_
    simp   -- R3
    refine hk' _ _ _ ?_
    refine Runs.ret Tryd.func88 (RetOk.one Tryd.results88) (hQ _ _ _ _ (.v _ _ _) ?_)
    rw [szS, if_pos hc1]
  · simp only [decide_eq_false_iff_not] at hc1
    refine Runs.skip ?_
    refine Runs.seq ?_
    refine Runs.seqE Ty_ok (by decide) fun k' hk' => ?_
    simp   -- R4
    refine hk' _ _ _ ?_
    refine Runs.block (Runs.loopUp p.length (fun k ρ H n => ρ 0 = .list false (p.map strC) ∧ ρ 5 = int k ∧ ∃ cur : Int, ρ 1 = int cur ∧ 0 ≤ cur ∧ cur ≤ left ∧ szL szStr (p.drop k) cur = szS szStr p left) ?_ ?_)
    · refine ⟨by simp, by simp, left - p.length, by simp, by omega, by omega, ?_⟩
      rw [szS, if_neg hc1, List.drop_zero]
    · rintro k ρ H n hk ⟨h0, h5, cur, h1', hcur, hcl, hsz⟩ IH
      refine Runs.seq ?_
      refine Runs.seqE Ty_ok (by decide) fun k' hk' => ?_
      simp [h0, h5]   -- R5
      refine hk' _ _ _ ?_
      refine Runs.ite rfl (fun hc2 => ?_) (fun hc2 => ?_)
      · simp at hc2
        have hel := hp2 _ (List.getElem_mem hc2)
        refine Runs.skip ?_
        refine Runs.seq ?_
        refine Runs.block ?_
        refine Runs.seqE Ty_ok (by decide) fun k' hk' => ?_
        simp [h0, h5, h1', hc2, strC, show -9223372036854775808 ≤ cur - (p[k].length : Int) by omega, show cur - (p[k].length : Int) ≤ 9223372036854775807 by omega]   -- R7
        refine hk' _ _ _ ?_
        rw [List.drop_eq_getElem_cons hc2, szL] at hsz
        refine Runs.seqE Ty_ok (by decide) fun k' hk' => ?_
        simp   -- R8
        refine hk' _ _ _ ?_
        refine Runs.ite rfl (fun hc3 => ?_) (fun hc3 => ?_)
        · simp only [decide_eq_true_eq] at hc3
          refine Runs.seqE Ty_ok (by decide) fun k' hk' => ?_
          simp   -- R9
          refine hk' _ _ _ ?_
          refine Runs.ret Tryd.func88 (RetOk.one Tryd.results88) (hQ _ _ _ _ (.v _ _ _) ?_)
          rw [← hsz]
          rw [if_pos (by unfold szStr; rw [if_pos hc3]; omega)]
        · simp only [decide_eq_false_iff_not] at hc3
          refine Runs.skip ?_
          refine Runs.inBlock ?_
          refine Runs.evalE Ty_ok (by decide) fun k' hk' => ?_
          simp [h5, wrap_succ (show k < 4611686018427387904 by omega)]   -- R6
          refine hk' _ _ _ ?_
          refine IH hc2 _ _ _ ?_
          have hse : szStr p[k] cur = cur - p[k].length := by unfold szStr; rw [if_neg hc3]
          rw [if_neg (by rw [hse]; exact hc3), hse] at hsz
          exact ⟨by simp [h0, strC], by simp, cur - p[k].length, by simp, by omega, by omega, hsz⟩
      · simp at hc2
        have hke : k = p.length := by omega
        subst hke
        rw [List.drop_length, szL] at hsz
        refine Runs.exit rfl ?_
        refine Runs.seqE Ty_ok (by decide) fun k' hk' => ?_
        simp [h1']   -- R10
        refine hk' _ _ _ ?_
        exact Runs.ret Tryd.func88 (RetOk.one Tryd.results88) (hQ _ _ _ _ (.v _ _ _) (by rw [hsz]))

end Go.Ab
