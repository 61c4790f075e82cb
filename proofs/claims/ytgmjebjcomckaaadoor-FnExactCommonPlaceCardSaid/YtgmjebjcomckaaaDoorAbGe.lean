/- Contracts of slices.IndexFunc and slices.ContainsFunc at three types. By program. -/
import Derived.Test.YtgmjebjcomckaaaDoorAbGd
namespace Go.Ab
open Go.Proofs
set_option linter.unusedSimpArgs false

def idxF {α : Type} (l : List α) (p : α → Bool) : Int := if l.findIdx p < l.length then (l.findIdx p : Int) else -1
theorem idxF_at {α : Type} {l : List α} {p : α → Bool} {k : Nat} (hk : k < l.length) (h : p l[k] = true) (hno : ∀ i (h : i < l.length), i < k → p l[i] = false) : idxF l p = k := by
  have : l.findIdx p = k := (List.findIdx_eq hk).2 ⟨h, fun j hj => hno j (by omega) hj⟩
  rw [idxF, this, if_pos hk]
theorem idxF_no {α : Type} {l : List α} {p : α → Bool} (hno : ∀ i (h : i < l.length), p l[i] = false) : idxF l p = -1 := by
  have : l.findIdx p = l.length := List.findIdx_eq_length.2 fun x hx => by
    obtain ⟨i, hi, rfl⟩ := List.getElem_of_mem hx
    exact hno i hi
  rw [idxF, this, if_neg (Nat.lt_irrefl _)]
theorem idxF_any {α : Type} (l : List α) (p : α → Bool) : decide (0 ≤ idxF l p) = l.any p := by
  unfold idxF
  cases h : l.any p
  · have : l.findIdx p = l.length := List.findIdx_eq_length.2 fun x hx => by
      rw [List.any_eq_false] at h
      simpa using h x hx
    rw [if_neg (by omega)]
    simp
  · have : l.findIdx p < l.length := by
      rw [List.findIdx_lt_length]
      simpa [List.any_eq_true] using h
    rw [if_pos this]
    simp

theorem e136 : Ent Tryd.prog 136 := Ent.of Tryd.func136 (by kernel_rfl) rfl
theorem e75 : Ent Tryd.prog 75 := Ent.of Tryd.func75 (by kernel_rfl) rfl

theorem indexFuncI_ok {H : Heap} {n : Nat} {cl : AVal} (t : Bool) (l : List (Int)) (p : Int → Bool) (hl : l.length ≤ 1048576) (hcl : ∀ x ∈ l, ClosC Tryd.prog H n cl [int x] (fun r => r = bool (p x))) :
    StillC Tryd.prog 136 [.list t (l.map intC), cl] H n (fun r => r = int (idxF l p)) := by
  refine StillC.of Tryd.func136 rfl Tryd.ntmps136 (by simp) fun Q _ hQ => ?_
  refine Runs.seqE Ty_ok (by decide) fun k' hk' => ?_
  simp   -- R0
  refine hk' _ _ _ ?_
  refine Runs.seq ?_
  refine Runs.seqE Ty_ok (by decide) fun k' hk' => ?_
  simp   -- R1
  refine hk' _ _ _ ?_
  refine Runs.block (Runs.loopUp l.length (fun k ρ H' n' => ρ 0 = .list t (l.map intC) ∧ ρ 1 = cl ∧ ρ 7 = int l.length ∧ ρ 8 = int k ∧ H' = H ∧ n' = n ∧ ∀ i (h : i < l.length), i < k → p l[i] = false) ?_ ?_)
  · simp
  · rintro k ρ H' n' hk ⟨h0, h1, h7, h8, rfl, rfl, hno⟩ IH
    refine Runs.seqE Ty_ok (by decide) fun k' hk' => ?_
    simp [h7, h8]   -- R2
    refine hk' _ _ _ ?_
    refine Runs.seq ?_
    refine Runs.ite rfl (fun hc1 => ?_) (fun hc1 => ?_)   -- t9
    · have hc1 : k < l.length := by simpa using hc1
      refine Runs.skip ?_
      refine Runs.seq ?_
      refine Runs.block ?_
      refine Runs.seqE Ty_ok (by decide) fun k' hk' => ?_
      simp [h8]   -- R3
      refine hk' _ _ _ ?_
      refine Runs.seqE Ty_ok (by decide) fun k' hk' => ?_
      simp [h0, h1, hc1, intC]   -- R4
      refine RunK.callF Ty_ok (hcl l[k] (List.getElem_mem hc1)) (by decide) (by decide) (by simp [h1]) (by simp) ?_
      rintro _ rfl
      simp
      refine hk' _ _ _ ?_
      refine Runs.ite rfl (fun hc2 => ?_) (fun hc2 => ?_)   -- t16
      · have hc2 : p l[k] = true := by simpa using hc2
        refine Runs.seqE Ty_ok (by decide) fun k' hk' => ?_
        simp   -- R5
        refine hk' _ _ _ ?_
        refine Runs.ret Tryd.func136 (RetOk.one Tryd.results136) (hQ _ _ _ _ (.bnd (.v _)) (Frame.refl _ _) ?_)
        simp [idxF_at hc1 hc2 hno]
      · have hc2 : p l[k] = false := by simpa using hc2
        refine Runs.skip ?_
        refine Runs.inBlock ?_
        refine Runs.evalE Ty_ok (by decide) fun k' hk' => ?_
        simp [h8, wrap_succ (show k < 4611686018427387904 by omega)]   -- R6
        refine hk' _ _ _ ?_
        refine IH hc1 _ _ _ ⟨by simp [h0, intC], by simp [h1], by simp [h7], by simp, rfl, rfl, fun i h hi => ?_⟩
        rcases Nat.lt_or_ge i k with hik | hik
        · exact hno i h hik
        · have : i = k := by omega
          subst this
          exact hc2
    · have hc1 : ¬ k < l.length := by simpa using hc1
      have hke : k = l.length := by omega
      subst hke
      refine Runs.exit rfl ?_
      refine Runs.seqE Ty_ok (by decide) fun k' hk' => ?_
      simp   -- R7
      refine hk' _ _ _ ?_
      refine Runs.ret Tryd.func136 (RetOk.one Tryd.results136) (hQ _ _ _ _ (.bnd (.v _)) (Frame.refl _ _) ?_)
      simp [idxF_no fun i h => hno i h h]

theorem containsFuncI_ok {H : Heap} {n : Nat} {cl : AVal} (t : Bool) (l : List (Int)) (p : Int → Bool) (hl : l.length ≤ 1048576) (hcl : ∀ x ∈ l, ClosC Tryd.prog H n cl [int x] (fun r => r = bool (p x))) :
    StillC Tryd.prog 75 [.list t (l.map intC), cl] H n (fun r => r = bool (l.any p)) := by
  refine StillC.of Tryd.func75 rfl Tryd.ntmps75 (by simp) fun Q _ hQ => ?_
  refine Runs.seqE Ty_ok (by decide) fun k' hk' => ?_
  simp   -- R0
  refine hk' _ _ _ ?_
  refine Runs.seqE Ty_ok (by decide) fun k' hk' => ?_
  simp   -- R1
  refine RunK.callT Ty_ok (indexFuncI_ok t l p hl hcl) e136 (by decide) (by decide) rfl (by simp) ?_
  rintro _ rfl
  simp
  refine hk' _ _ _ ?_
  refine Runs.ret Tryd.func75 (RetOk.one Tryd.results75) (hQ _ _ _ _ (.bnd (.v _)) (Frame.refl _ _) ?_)
  simp [idxF_any]

theorem e137 : Ent Tryd.prog 137 := Ent.of Tryd.func137 (by kernel_rfl) rfl
theorem e79 : Ent Tryd.prog 79 := Ent.of Tryd.func79 (by kernel_rfl) rfl

theorem indexFuncW_ok {H : Heap} {n : Nat} {cl : AVal} (t : Bool) (l : List (Wire)) (p : Wire → Bool) (hl : l.length ≤ 1048576) (hcl : ∀ x ∈ l, ClosC Tryd.prog H n cl [.agg x.cells] (fun r => r = bool (p x))) :
    StillC Tryd.prog 137 [.list t (l.map Wire.cells), cl] H n (fun r => r = int (idxF l p)) := by
  refine StillC.of Tryd.func137 rfl Tryd.ntmps137 (by simp) fun Q _ hQ => ?_
  refine Runs.seqE Ty_ok (by decide) fun k' hk' => ?_
  simp   -- R0
  refine hk' _ _ _ ?_
  refine Runs.seq ?_
  refine Runs.seqE Ty_ok (by decide) fun k' hk' => ?_
  simp   -- R1
  refine hk' _ _ _ ?_
  refine Runs.block (Runs.loopUp l.length (fun k ρ H' n' => ρ 0 = .list t (l.map Wire.cells) ∧ ρ 1 = cl ∧ ρ 7 = int l.length ∧ ρ 8 = int k ∧ H' = H ∧ n' = n ∧ ∀ i (h : i < l.length), i < k → p l[i] = false) ?_ ?_)
  · simp
  · rintro k ρ H' n' hk ⟨h0, h1, h7, h8, rfl, rfl, hno⟩ IH
    refine Runs.seqE Ty_ok (by decide) fun k' hk' => ?_
    simp [h7, h8]   -- R2
    refine hk' _ _ _ ?_
    refine Runs.seq ?_
    refine Runs.ite rfl (fun hc1 => ?_) (fun hc1 => ?_)   -- t9
    · have hc1 : k < l.length := by simpa using hc1
      refine Runs.skip ?_
      refine Runs.seq ?_
      refine Runs.block ?_
      refine Runs.seqE Ty_ok (by decide) fun k' hk' => ?_
      simp [h8]   -- R3
      refine hk' _ _ _ ?_
      refine Runs.seqE Ty_ok (by decide) fun k' hk' => ?_
      simp [h0, h1, hc1, Wire.cells]   -- R4
      refine RunK.callF Ty_ok (hcl l[k] (List.getElem_mem hc1)) (by decide) (by decide) (by simp [h1]) (by simp [Wire.cells]) ?_
      rintro _ rfl
      simp
      refine hk' _ _ _ ?_
      refine Runs.ite rfl (fun hc2 => ?_) (fun hc2 => ?_)   -- t16
      · have hc2 : p l[k] = true := by simpa using hc2
        refine Runs.seqE Ty_ok (by decide) fun k' hk' => ?_
        simp   -- R5
        refine hk' _ _ _ ?_
        refine Runs.ret Tryd.func137 (RetOk.one Tryd.results137) (hQ _ _ _ _ (.bnd (.v _)) (Frame.refl _ _) ?_)
        simp [idxF_at hc1 hc2 hno]
      · have hc2 : p l[k] = false := by simpa using hc2
        refine Runs.skip ?_
        refine Runs.inBlock ?_
        refine Runs.evalE Ty_ok (by decide) fun k' hk' => ?_
        simp [h8, wrap_succ (show k < 4611686018427387904 by omega)]   -- R6
        refine hk' _ _ _ ?_
        refine IH hc1 _ _ _ ⟨by simp [h0, Wire.cells], by simp [h1], by simp [h7], by simp, rfl, rfl, fun i h hi => ?_⟩
        rcases Nat.lt_or_ge i k with hik | hik
        · exact hno i h hik
        · have : i = k := by omega
          subst this
          exact hc2
    · have hc1 : ¬ k < l.length := by simpa using hc1
      have hke : k = l.length := by omega
      subst hke
      refine Runs.exit rfl ?_
      refine Runs.seqE Ty_ok (by decide) fun k' hk' => ?_
      simp   -- R7
      refine hk' _ _ _ ?_
      refine Runs.ret Tryd.func137 (RetOk.one Tryd.results137) (hQ _ _ _ _ (.bnd (.v _)) (Frame.refl _ _) ?_)
      simp [idxF_no fun i h => hno i h h]

theorem containsFuncW_ok {H : Heap} {n : Nat} {cl : AVal} (t : Bool) (l : List (Wire)) (p : Wire → Bool) (hl : l.length ≤ 1048576) (hcl : ∀ x ∈ l, ClosC Tryd.prog H n cl [.agg x.cells] (fun r => r = bool (p x))) :
    StillC Tryd.prog 79 [.list t (l.map Wire.cells), cl] H n (fun r => r = bool (l.any p)) := by
  refine StillC.of Tryd.func79 rfl Tryd.ntmps79 (by simp) fun Q _ hQ => ?_
  refine Runs.seqE Ty_ok (by decide) fun k' hk' => ?_
  simp   -- R0
  refine hk' _ _ _ ?_
  refine Runs.seqE Ty_ok (by decide) fun k' hk' => ?_
  simp   -- R1
  refine RunK.callT Ty_ok (indexFuncW_ok t l p hl hcl) e137 (by decide) (by decide) rfl (by simp) ?_
  rintro _ rfl
  simp
  refine hk' _ _ _ ?_
  refine Runs.ret Tryd.func79 (RetOk.one Tryd.results79) (hQ _ _ _ _ (.bnd (.v _)) (Frame.refl _ _) ?_)
  simp [idxF_any]

theorem e154 : Ent Tryd.prog 154 := Ent.of Tryd.func154 (by kernel_rfl) rfl
theorem e134 : Ent Tryd.prog 134 := Ent.of Tryd.func134 (by kernel_rfl) rfl

theorem indexFuncC_ok {H : Heap} {n : Nat} {cl : AVal} (t : Bool) (l : List (Control)) (p : Control → Bool) (hl : l.length ≤ 1048576) (hcl : ∀ x ∈ l, ClosC Tryd.prog H n cl [.agg x.cells] (fun r => r = bool (p x))) :
    StillC Tryd.prog 154 [.list t (l.map Control.cells), cl] H n (fun r => r = int (idxF l p)) := by
  refine StillC.of Tryd.func154 rfl Tryd.ntmps154 (by simp) fun Q _ hQ => ?_
  refine Runs.seqE Ty_ok (by decide) fun k' hk' => ?_
  simp   -- R0
  refine hk' _ _ _ ?_
  refine Runs.seq ?_
  refine Runs.seqE Ty_ok (by decide) fun k' hk' => ?_
  simp   -- R1
  refine hk' _ _ _ ?_
  refine Runs.block (Runs.loopUp l.length (fun k ρ H' n' => ρ 0 = .list t (l.map Control.cells) ∧ ρ 1 = cl ∧ ρ 7 = int l.length ∧ ρ 8 = int k ∧ H' = H ∧ n' = n ∧ ∀ i (h : i < l.length), i < k → p l[i] = false) ?_ ?_)
  · simp
  · rintro k ρ H' n' hk ⟨h0, h1, h7, h8, rfl, rfl, hno⟩ IH
    refine Runs.seqE Ty_ok (by decide) fun k' hk' => ?_
    simp [h7, h8]   -- R2
    refine hk' _ _ _ ?_
    refine Runs.seq ?_
    refine Runs.ite rfl (fun hc1 => ?_) (fun hc1 => ?_)   -- t9
    · have hc1 : k < l.length := by simpa using hc1
      refine Runs.skip ?_
      refine Runs.seq ?_
      refine Runs.block ?_
      refine Runs.seqE Ty_ok (by decide) fun k' hk' => ?_
      simp [h8]   -- R3
      refine hk' _ _ _ ?_
      refine Runs.seqE Ty_ok (by decide) fun k' hk' => ?_
      simp [h0, h1, hc1, Control.cells]   -- R4
      refine RunK.callF Ty_ok (hcl l[k] (List.getElem_mem hc1)) (by decide) (by decide) (by simp [h1]) (by simp [Control.cells]) ?_
      rintro _ rfl
      simp
      refine hk' _ _ _ ?_
      refine Runs.ite rfl (fun hc2 => ?_) (fun hc2 => ?_)   -- t16
      · have hc2 : p l[k] = true := by simpa using hc2
        refine Runs.seqE Ty_ok (by decide) fun k' hk' => ?_
        simp   -- R5
        refine hk' _ _ _ ?_
        refine Runs.ret Tryd.func154 (RetOk.one Tryd.results154) (hQ _ _ _ _ (.bnd (.v _)) (Frame.refl _ _) ?_)
        simp [idxF_at hc1 hc2 hno]
      · have hc2 : p l[k] = false := by simpa using hc2
        refine Runs.skip ?_
        refine Runs.inBlock ?_
        refine Runs.evalE Ty_ok (by decide) fun k' hk' => ?_
        simp [h8, wrap_succ (show k < 4611686018427387904 by omega)]   -- R6
        refine hk' _ _ _ ?_
        refine IH hc1 _ _ _ ⟨by simp [h0, Control.cells], by simp [h1], by simp [h7], by simp, rfl, rfl, fun i h hi => ?_⟩
        rcases Nat.lt_or_ge i k with hik | hik
        · exact hno i h hik
        · have : i = k := by omega
          subst this
          exact hc2
    · have hc1 : ¬ k < l.length := by simpa using hc1
      have hke : k = l.length := by omega
      subst hke
      refine Runs.exit rfl ?_
      refine Runs.seqE Ty_ok (by decide) fun k' hk' => ?_
      simp   -- R7
      refine hk' _ _ _ ?_
      refine Runs.ret Tryd.func154 (RetOk.one Tryd.results154) (hQ _ _ _ _ (.bnd (.v _)) (Frame.refl _ _) ?_)
      simp [idxF_no fun i h => hno i h h]

theorem containsFuncC_ok {H : Heap} {n : Nat} {cl : AVal} (t : Bool) (l : List (Control)) (p : Control → Bool) (hl : l.length ≤ 1048576) (hcl : ∀ x ∈ l, ClosC Tryd.prog H n cl [.agg x.cells] (fun r => r = bool (p x))) :
    StillC Tryd.prog 134 [.list t (l.map Control.cells), cl] H n (fun r => r = bool (l.any p)) := by
  refine StillC.of Tryd.func134 rfl Tryd.ntmps134 (by simp) fun Q _ hQ => ?_
  refine Runs.seqE Ty_ok (by decide) fun k' hk' => ?_
  simp   -- R0
  refine hk' _ _ _ ?_
  refine Runs.seqE Ty_ok (by decide) fun k' hk' => ?_
  simp   -- R1
  refine RunK.callT Ty_ok (indexFuncC_ok t l p hl hcl) e154 (by decide) (by decide) rfl (by simp) ?_
  rintro _ rfl
  simp
  refine hk' _ _ _ ?_
  refine Runs.ret Tryd.func134 (RetOk.one Tryd.results134) (hQ _ _ _ _ (.bnd (.v _)) (Frame.refl _ _) ?_)
  simp [idxF_any]

end Go.Ab
