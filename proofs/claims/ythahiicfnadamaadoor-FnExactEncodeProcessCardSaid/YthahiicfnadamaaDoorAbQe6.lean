/- Merged texts (6 of 10) of the proof that ends in Ey: Lm Nm W Wb Wc Y Yb Co Mp Gb Gc Gd Ge Gf Gg Gh Gi Gj Gk Gl Gm Em Cp Cq En Lmt Lmw. -/
import Derived.Test.YthahiicfnadamaaDoorAbQe5
/- The laws' own functions on bigraphs' types: copies, marks, and whether marks are held. -/
namespace Go.Ab.Vg
set_option linter.unusedSimpArgs false
set_option linter.unusedVariables false
theorem list_fill {α : Type} [Inhabited α] {a : List α} {k : Nat} (hk : k < a.length) : (a.take k ++ List.replicate (a.length - k) default).set k a[k] = a.take (k + 1) ++ List.replicate (a.length - (k + 1)) default := by
  rw [List.set_append_right _ _ (by simp; omega)]
  rw [List.take_succ_eq_append_getElem hk, List.append_assoc]
  congr 1
  have h1 : a.length - k = (a.length - (k + 1)) + 1 := by omega
  have h2 : k - (a.take k).length = 0 := by simp; omega
  rw [h1, h2, List.replicate_succ]
  rfl
abbrev filled {α : Type} [Inhabited α] (a : List α) (k : Nat) : List α := a.take k ++ List.replicate (a.length - k) default
theorem filled_len {α : Type} [Inhabited α] {a : List α} {k : Nat} (hk : k ≤ a.length) : (filled a k).length = a.length := by simp [filled]; omega
theorem filled_set {α : Type} [Inhabited α] {a : List α} {k : Nat} (hk : k < a.length) : (filled a k).set k (at' a (k : Int)) = filled a (k + 1) := by rw [at_lt hk]; exact list_fill hk
theorem filled_end {α : Type} [Inhabited α] (a : List α) : filled a a.length = a := by simp [filled]
theorem filled_zero {α : Type} [Inhabited α] (a : List α) : filled a 0 = List.replicate a.length default := by simp [filled]

abbrev toIntS (a : List Int) := a
abbrev toIntS_pre (a : List Int) : Prop := a.length ≤ 1048576
-- laws.toIntS is not in this seat
abbrev toStringS (a : List Str) := a
abbrev toStringS_pre (a : List Str) : Prop := a.length ≤ 1048576
-- laws.toStringS is not in this seat
abbrev toControl (a : Control) := a
-- laws.toControl is not in this seat
abbrev toControlS (a : List Control) := a
abbrev toControlS_pre (a : List Control) : Prop := a.length ≤ 1048576
-- laws.toControlS is not in this seat
abbrev toWire (a : Wire) := a
-- laws.toWire is not in this seat
abbrev toWireS (a : List Wire) := a
abbrev toWireS_pre (a : List Wire) : Prop := a.length ≤ 1048576
-- laws.toWireS is not in this seat
abbrev toNode (a : GNode) := a
abbrev toNode_pre (a : GNode) : Prop := a.links.length ≤ 1048576
-- laws.toNode is not in this seat
abbrev toNodeS (a : List GNode) := a
abbrev toNodeS_pre (a : List GNode) : Prop := a.length ≤ 1048576 ∧ ∀ x ∈ a, x.links.length ≤ 1048576
-- laws.toNodeS is not in this seat
abbrev toBigraph (a : Big) := a
abbrev toBigraph_pre (a : Big) : Prop := (a.nodes.length ≤ 1048576 ∧ ∀ x ∈ a.nodes, x.links.length ≤ 1048576) ∧ a.sites.length ≤ 1048576 ∧ a.outer.length ≤ 1048576 ∧ a.inner.length ≤ 1048576
-- laws.toBigraph is not in this seat
/-- Elements that are marked up to one. -/
def markPre {α : Type} (g : α → Int → α) (c : Int) (l : List α) (k : Int) (i : Nat) : List α := l.mapIdx fun j x => if j < i then g x (k + c * j) else x
def markL {α : Type} (g : α → Int → α) (c : Int) (l : List α) (k : Int) : List α × Int := (markPre g c l k l.length, k + c * l.length)
section
variable {α : Type} (g : α → Int → α) (c : Int) (l : List α) (k : Int)
theorem markPre_zero : markPre g c l k 0 = l := by
  apply List.ext_getElem
  · simp [markPre]
  · intro j h1 h2
    simp [markPre]
theorem markPre_len (i : Nat) : (markPre g c l k i).length = l.length := by simp [markPre]
theorem markPre_get [Inhabited α] {i : Nat} (hi : i < l.length) : at' (markPre g c l k i) (i : Int) = l[i] := by
  rw [at_lt (by rw [markPre_len]; exact hi)]
  simp [markPre]
theorem markPre_set {i : Nat} (hi : i < l.length) : (markPre g c l k i).set i (g l[i] (k + c * i)) = markPre g c l k (i + 1) := by
  apply List.ext_getElem
  · simp [markPre]
  · intro j h1 h2
    simp only [List.getElem_set, markPre, List.getElem_mapIdx]
    by_cases hj : i = j
    · subst hj
      simp
    · rw [if_neg hj]
      by_cases h3 : j < i
      · rw [if_pos h3, if_pos (by omega)]
      · rw [if_neg h3, if_neg (by omega)]
end
def markTxt (k : Int) : Str := markTextL k.toNat
abbrev markTxt_pre (k : Int) : Prop := 0 ≤ k ∧ k ≤ 1152921504606846976
abbrev MarkOk (c n k : Int) : Prop := 0 ≤ k ∧ n ≤ 1048576 ∧ k + c * n ≤ 1152921504606846976

abbrev markIntS (l : List Int) (k : Int) := markL (fun _ k => k) 1 l k
abbrev markIntS_pre (l : List Int) (k : Int) : Prop := MarkOk 1 l.length k
def markIntS_wp (a : List Int) (k_ : Int) (Z : ((List Int) × Int) → Prop) : Prop :=
  loopW (σ := Int × Int × (List Int)) (fun (k10, i11, l12) K15 => ∀ len16 : Int, len16 = (l12.length : Int) → ∀ c18 : Bool, c18 = decide (i11 < len16) → ((c18 = true → (0 ≤ i11 ∧ i11 < l12.length) ∧ ∀ x25 : Int, x25 = at' l12 i11 → ∀ l28 : List Int, l28 = l12.set i11.toNat k10 → (I64 (k10 + 1)) ∧ ∀ v34 : Int, v34 = k10 + 1 → (I64 (i11 + 1)) ∧ ∀ v37 : Int, v37 = i11 + 1 → K15 (v34, v37, l28)) ∧ (c18 = false → Z (l12, k10)))) (k_, 0, a)
theorem markIntS_vc (l : List Int) (k : Int) (h : markIntS_pre l k) : markIntS_wp l k (fun y => y = markIntS l k) := by
  unfold markIntS_wp
  obtain ⟨h1, h2, h3⟩ := h
  refine loopW.up l.length (fun s => s.2.1) (fun i t => (k + 1 * i, (i : Int), t)) (fun _ _ => rfl) (fun i out => out = markPre (fun _ k => k) 1 l k i) l (by simp) (markPre_zero _ _ _ _).symm ?_
  rintro i out K hk rfl IH
  have hl := markPre_len (fun _ k => k) 1 l k i
  simp only [forall_eq, decide_eq_true_eq, decide_eq_false_iff_not, I64, Int.toNat_natCast]
  refine ⟨fun h4 => ⟨by omega, by omega, by omega, ?_⟩, fun h4 => ?_⟩
  · have hi : i < l.length := by omega
    have := IH hi _ rfl
    rw [← markPre_set _ _ _ _ hi] at this
    rw [show k + 1 * (((i + 1 : Nat)) : Int) = k + 1 * i + 1 by omega] at this
    simpa using this
  · rw [show i = l.length by omega]
    rfl
abbrev markStringS (l : List Str) (k : Int) := markL (fun _ k => markTxt k) 1 l k
abbrev markStringS_pre (l : List Str) (k : Int) : Prop := MarkOk 1 l.length k
def markStringS_wp (a : List Str) (k_ : Int) (Z : ((List Str) × Int) → Prop) : Prop :=
  loopW (σ := Int × Int × (List Str)) (fun (k10, i11, l12) K15 => ∀ len16 : Int, len16 = (l12.length : Int) → ∀ c18 : Bool, c18 = decide (i11 < len16) → ((c18 = true → (markTxt_pre k10) ∧ ∀ r21 : Str, r21 = markTxt k10 → (0 ≤ i11 ∧ i11 < l12.length) ∧ ∀ x27 : Str, x27 = at' l12 i11 → ∀ l30 : List Str, l30 = l12.set i11.toNat r21 → (I64 (k10 + 1)) ∧ ∀ v36 : Int, v36 = k10 + 1 → (I64 (i11 + 1)) ∧ ∀ v39 : Int, v39 = i11 + 1 → K15 (v36, v39, l30)) ∧ (c18 = false → Z (l12, k10)))) (k_, 0, a)
theorem markStringS_vc (l : List Str) (k : Int) (h : markStringS_pre l k) : markStringS_wp l k (fun y => y = markStringS l k) := by
  unfold markStringS_wp
  obtain ⟨h1, h2, h3⟩ := h
  refine loopW.up l.length (fun s => s.2.1) (fun i t => (k + 1 * i, (i : Int), t)) (fun _ _ => rfl) (fun i out => out = markPre (fun _ k => markTxt k) 1 l k i) l (by simp) (markPre_zero _ _ _ _).symm ?_
  rintro i out K hk rfl IH
  have hl := markPre_len (fun _ k => markTxt k) 1 l k i
  simp only [forall_eq, decide_eq_true_eq, decide_eq_false_iff_not, I64, Int.toNat_natCast]
  refine ⟨fun h4 => ⟨by simp only [markTxt_pre]; omega, by omega, by omega, by omega, ?_⟩, fun h4 => ?_⟩
  · have hi : i < l.length := by omega
    have := IH hi _ rfl
    rw [← markPre_set _ _ _ _ hi] at this
    rw [show k + 1 * (((i + 1 : Nat)) : Int) = k + 1 * i + 1 by omega] at this
    simpa using this
  · rw [show i = l.length by omega]
    rfl
theorem at_set {α : Type} [Inhabited α] {l : List α} {i : Nat} {x : α} (hi : i < l.length) : at' (l.set i x) (i : Int) = x := by
  rw [at_lt (by simpa using hi)]
  simp
abbrev markWireS (l : List Wire) (k : Int) := markL (fun _ k => (⟨markTxt k, k + 1⟩ : Wire)) 2 l k
abbrev markWireS_pre (l : List Wire) (k : Int) : Prop := MarkOk 2 l.length k
def markWireS_wp (a : List Wire) (k_ : Int) (Z : ((List Wire) × Int) → Prop) : Prop :=
  loopW (σ := Int × Int × (List Wire)) (fun (k10, i11, l12) K15 => ∀ len16 : Int, len16 = (l12.length : Int) → ∀ c18 : Bool, c18 = decide (i11 < len16) → ((c18 = true → (markTxt_pre k10) ∧ ∀ r21 : Str, r21 = markTxt k10 → (0 ≤ i11 ∧ i11 < l12.length) ∧ ∀ x27 : Wire, x27 = at' l12 i11 → ∀ l30 : List Wire, l30 = l12.set i11.toNat (Wire.mk r21 x27.link) → (I64 (k10 + 1)) ∧ ∀ v36 : Int, v36 = k10 + 1 → (0 ≤ i11 ∧ i11 < l30.length) ∧ ∀ x44 : Wire, x44 = at' l30 i11 → ∀ l47 : List Wire, l47 = l30.set i11.toNat (Wire.mk x44.name v36) → (I64 (v36 + 1)) ∧ ∀ v53 : Int, v53 = v36 + 1 → (I64 (i11 + 1)) ∧ ∀ v56 : Int, v56 = i11 + 1 → K15 (v53, v56, l47)) ∧ (c18 = false → Z (l12, k10)))) (k_, 0, a)
theorem markWireS_vc (l : List Wire) (k : Int) (h : markWireS_pre l k) : markWireS_wp l k (fun y => y = markWireS l k) := by
  unfold markWireS_wp
  obtain ⟨h1, h2, h3⟩ := h
  refine loopW.up l.length (fun s => s.2.1) (fun i t => (k + 2 * i, (i : Int), t)) (fun _ _ => rfl) (fun i out => out = markPre (fun _ k => (⟨markTxt k, k + 1⟩ : Wire)) 2 l k i) l (by simp) (markPre_zero _ _ _ _).symm ?_
  rintro i out K hk rfl IH
  have hl := markPre_len (fun _ k => (⟨markTxt k, k + 1⟩ : Wire)) 2 l k i
  simp only [forall_eq, decide_eq_true_eq, decide_eq_false_iff_not, I64, Int.toNat_natCast, List.length_set]
  refine ⟨fun h4 => ⟨by simp only [markTxt_pre]; omega, by omega, by omega, by omega, by omega, by omega, ?_⟩, fun h4 => ?_⟩
  · have hi : i < l.length := by omega
    rw [at_set (by rw [hl]; exact hi), List.set_set]
    have := IH hi _ rfl
    rw [← markPre_set _ _ _ _ hi] at this
    rw [show k + 2 * (((i + 1 : Nat)) : Int) = k + 2 * i + 1 + 1 by omega] at this
    simpa using this
  · rw [show i = l.length by omega]
    rfl
abbrev markControlS (l : List Control) (k : Int) := markL (fun _ k => (⟨markTxt k, k + 1, k + 1 + 1⟩ : Control)) 3 l k
abbrev markControlS_pre (l : List Control) (k : Int) : Prop := MarkOk 3 l.length k
-- laws.markControlS is not in this seat
/-- Whether marks are there. -/
def heldIntS (l : List Int) (k : Int) : Int := if (List.range l.length).all (fun i => decide (at' l (i : Int) = k + i)) then k + l.length else -1
abbrev heldIntS_pre (l : List Int) (k : Int) : Prop := MarkOk 1 l.length k
def heldIntS_wp (a : List Int) (k_ : Int) (Z : Int → Prop) : Prop :=
  loopW (σ := Int × Int) (fun (k5, i6) K9 => ∀ len10 : Int, len10 = (a.length : Int) → ∀ c12 : Bool, c12 = decide (i6 < len10) → ((c12 = true → (0 ≤ i6 ∧ i6 < a.length) ∧ ∀ x15 : Int, x15 = at' a i6 → ∀ c17 : Bool, c17 = decide (x15 ≠ k5) → ((c17 = true → Z (-1)) ∧ (c17 = false → (I64 (k5 + 1)) ∧ ∀ v20 : Int, v20 = k5 + 1 → (I64 (i6 + 1)) ∧ ∀ v23 : Int, v23 = i6 + 1 → K9 (v20, v23)))) ∧ (c12 = false → Z k5))) (k_, 0)
theorem heldIntS_vc (l : List Int) (k : Int) (h : heldIntS_pre l k) : heldIntS_wp l k (fun y => y = heldIntS l k) := by
  unfold heldIntS_wp
  obtain ⟨h1, h2, h3⟩ := h
  refine loopW.up (τ := Unit) l.length (fun s => s.2) (fun i _ => (k + i, (i : Int))) (fun _ _ => rfl) (fun i _ => ∀ j < i, at' l (j : Int) = k + j) () (by simp) (by simp) ?_
  rintro i _ K hk hI IH
  simp only [forall_eq, decide_eq_true_eq, decide_eq_false_iff_not, I64]
  refine ⟨fun h4 => ⟨by omega, fun h5 => ?_, fun h5 => ⟨by omega, by omega, ?_⟩⟩, fun h4 => ?_⟩
  · rw [heldIntS, if_neg]
    rw [List.all_eq_true]
    intro h6
    exact h5 (by simpa using h6 i (List.mem_range.2 (by omega)))
  · have := IH (by omega) () (fun j hj => by
      rcases Nat.lt_or_ge j i with h6 | h6
      · exact hI j h6
      · rw [show j = i by omega]; omega)
    simpa [show k + ((i : Int) + 1) = k + i + 1 by omega] using this
  · have hi : i = l.length := by omega
    rw [heldIntS, if_pos, hi]
    rw [List.all_eq_true]
    intro j hj
    simpa using hI j (by have := List.mem_range.1 hj; omega)
theorem held_mark (l : List Int) (k : Int) : heldIntS (markIntS l k).1 k = (markIntS l k).2 := by
  have hl : (markIntS l k).1.length = l.length := by simp [markIntS, markL, markPre_len]
  rw [heldIntS, if_pos, hl]
  · simp [markIntS, markL]
  · rw [List.all_eq_true]
    intro j hj
    have hj := List.mem_range.1 hj
    rw [at_lt hj]
    rw [hl] at hj
    simp [markIntS, markL, markPre, hj]
theorem marked_len {α : Type} (g : α → Int → α) (c : Int) (l : List α) (k : Int) : (markL g c l k).1.length = l.length := by simp [markL, markPre_len]
end Go.Ab.Vg

/- Marks on nodes and bigraphs, told. -/
namespace Go.Ab.Vg
set_option linter.unusedSimpArgs false
set_option linter.unusedVariables false
section
variable {α : Type} (m : α → Int → α × Int)
/-- Elements marked one after the other. -/
def markSeq : List α → Int → List α × Int
  | [], k => ([], k)
  | x :: l, k => ((m x k).1 :: (markSeq l (m x k).2).1, (markSeq l (m x k).2).2)
theorem markSeq_append (l1 l2 : List α) (k : Int) : markSeq m (l1 ++ l2) k = ((markSeq m l1 k).1 ++ (markSeq m l2 (markSeq m l1 k).2).1, (markSeq m l2 (markSeq m l1 k).2).2) := by
  induction l1 generalizing k with
  | nil => rfl
  | cons x l ih => simp [markSeq, ih]
theorem markSeq_len (l : List α) (k : Int) : (markSeq m l k).1.length = l.length := by
  induction l generalizing k with
  | nil => rfl
  | cons x l ih => simp [markSeq, ih]
/-- The first i elements marked. -/
def markTo (l : List α) (k : Int) (i : Nat) : List α := (markSeq m (l.take i) k).1 ++ l.drop i
def markAt (l : List α) (k : Int) (i : Nat) : Int := (markSeq m (l.take i) k).2
theorem markTo_zero (l : List α) (k : Int) : markTo m l k 0 = l := by simp [markTo, markSeq]
theorem markTo_end (l : List α) (k : Int) : markTo m l k l.length = (markSeq m l k).1 := by simp [markTo]
theorem markAt_end (l : List α) (k : Int) : markAt m l k l.length = (markSeq m l k).2 := by simp [markAt]
theorem markTo_len (l : List α) (k : Int) (i : Nat) : (markTo m l k i).length = l.length := by
  simp only [markTo, List.length_append, markSeq_len, List.length_take, List.length_drop]; omega
theorem markTo_get [Inhabited α] {l : List α} {k : Int} {i : Nat} (hi : i < l.length) : at' (markTo m l k i) (i : Int) = l[i] := by
  rw [at_lt (by rw [markTo_len]; exact hi)]
  have hl : (markSeq m (l.take i) k).1.length = i := by rw [markSeq_len]; simp; omega
  simp only [markTo]
  rw [List.getElem_append_right (by omega)]
  simp [hl]
theorem markTo_set {l : List α} {k : Int} {i : Nat} (hi : i < l.length) : (markTo m l k i).set i (m l[i] (markAt m l k i)).1 = markTo m l k (i + 1) := by
  have hl : (markSeq m (l.take i) k).1.length = i := by rw [markSeq_len]; simp; omega
  simp only [markTo, markAt]
  rw [List.set_append_right _ _ (by omega), hl, Nat.sub_self, List.take_succ_eq_append_getElem hi, markSeq_append, List.drop_eq_getElem_cons hi]
  simp only [List.set_cons_zero, markSeq, List.append_assoc, List.cons_append, List.nil_append]
theorem markAt_succ {l : List α} {k : Int} {i : Nat} (hi : i < l.length) : markAt m l k (i + 1) = (m l[i] (markAt m l k i)).2 := by
  simp only [markAt]
  rw [List.take_succ_eq_append_getElem hi, markSeq_append]
  simp [markSeq]
/-- What marks come to, by the sizes of elements. -/
theorem markAt_size {sz : α → Nat} (hm : ∀ x k, (m x k).2 = k + sz x) (l : List α) (k : Int) (i : Nat) : markAt m l k i = k + ((l.take i).map sz).sum := by
  have : ∀ (l : List α) (k : Int), (markSeq m l k).2 = k + (l.map sz).sum := by
    intro l
    induction l with
    | nil => intro k; simp [markSeq]
    | cons x l ih => intro k; simp only [markSeq, ih, hm, List.map_cons, List.sum_cons]; omega
  exact this _ _
theorem sum_take_le {f : α → Nat} (l : List α) (i : Nat) : ((l.take i).map f).sum ≤ (l.map f).sum := by
  have : l.map f = (l.take i).map f ++ (l.drop i).map f := by rw [← List.map_append, List.take_append_drop]
  rw [this, List.sum_append]; omega
end
def nodeMark (x : GNode) (k : Int) : GNode × Int := (GNode.mk k (k + 1) (markIntS x.links (k + 2)).1, (markIntS x.links (k + 2)).2)
def nodeSize (x : GNode) : Nat := x.links.length + 2
theorem nodeMark_size (x : GNode) (k : Int) : (nodeMark x k).2 = k + nodeSize x := by simp [nodeMark, nodeSize, markIntS, markL]; omega
abbrev markNodeS (l : List GNode) (k : Int) := markSeq nodeMark l k
abbrev markNodeS_pre (l : List GNode) (k : Int) : Prop := 0 ≤ k ∧ l.length ≤ 1048576 ∧ (∀ x ∈ l, x.links.length ≤ 1048576) ∧ k + (l.map nodeSize).sum ≤ 1152921504606846976
def markNodeS_wp (a : List GNode) (k_ : Int) (Z : ((List GNode) × Int) → Prop) : Prop :=
  loopW (σ := Int × Int × (List GNode)) (fun (k10, i11, l12) K15 => ∀ len16 : Int, len16 = (l12.length : Int) → ∀ c18 : Bool, c18 = decide (i11 < len16) → ((c18 = true → (0 ≤ i11 ∧ i11 < l12.length) ∧ ∀ x21 : GNode, x21 = at' l12 i11 → ∀ l40 : List GNode, l40 = l12.set i11.toNat (GNode.mk k10 x21.parent x21.links) → (I64 (k10 + 1)) ∧ ∀ v46 : Int, v46 = k10 + 1 → (0 ≤ i11 ∧ i11 < l40.length) ∧ ∀ x49 : GNode, x49 = at' l40 i11 → ∀ l69 : List GNode, l69 = l40.set i11.toNat (GNode.mk x49.control v46 x49.links) → (I64 (v46 + 1)) ∧ ∀ v75 : Int, v75 = v46 + 1 → (0 ≤ i11 ∧ i11 < l69.length) ∧ ∀ x78 : GNode, x78 = at' l69 i11 → (markIntS_pre x78.links v75) ∧ ∀ r99 : (List Int) × Int, r99 = markIntS x78.links v75 → ∀ l105 : List GNode, l105 = l69.set i11.toNat (GNode.mk x78.control x78.parent r99.1) → (I64 (i11 + 1)) ∧ ∀ v109 : Int, v109 = i11 + 1 → K15 (r99.2, v109, l105)) ∧ (c18 = false → Z (l12, k10)))) (k_, 0, a)
theorem markNodeS_vc (l : List GNode) (k : Int) (h : markNodeS_pre l k) : markNodeS_wp l k (fun y => y = markNodeS l k) := by
  unfold markNodeS_wp
  obtain ⟨h0, h1, h2, h3⟩ := h
  refine loopW.up l.length (fun s => s.2.1) (fun i t => (markAt nodeMark l k i, (i : Int), t)) (fun _ _ => rfl) (fun i out => out = markTo nodeMark l k i) l (by simp [markAt, markSeq]) (markTo_zero _ _ _).symm ?_
  rintro i out K hk rfl IH
  have hl := markTo_len nodeMark l k i
  have hs := markAt_size nodeMark nodeMark_size l k i
  have hs2 := sum_take_le (f := nodeSize) l i
  simp only [forall_eq, decide_eq_true_eq, decide_eq_false_iff_not, I64, Int.toNat_natCast, List.length_set]
  refine ⟨fun h4 => ?_, fun h4 => ?_⟩
  · have hi : i < l.length := by omega
    have hs3 := markAt_size nodeMark nodeMark_size l k (i + 1)
    have hs4 := sum_take_le (f := nodeSize) l (i + 1)
    have hs5 := markAt_succ nodeMark (k := k) hi
    rw [nodeMark_size] at hs5
    have hz : nodeSize l[i] = l[i].links.length + 2 := rfl
    have hn := h2 _ (List.getElem_mem hi)
    simp only [markTo_get nodeMark hi, List.set_set, at_set (show i < (markTo nodeMark l k i).length by omega)]
    refine ⟨by omega, by omega, by omega, by omega, by omega, ⟨by omega, by omega, by omega⟩, by omega, ?_⟩
    have := IH hi _ rfl
    rw [← markTo_set _ hi, markAt_succ _ hi] at this
    have e2 : markAt nodeMark l k i + 1 + 1 = markAt nodeMark l k i + 2 := by omega
    rw [e2]
    simpa [nodeMark] using this
  · rw [show i = l.length by omega, markTo_end, markAt_end]
/-- Whether marks of plain elements are there. -/
def heldL {α : Type} [Inhabited α] (t : α → Int → Bool) (c : Int) (l : List α) (k : Int) : Int := if (List.range l.length).all (fun i => t (at' l (i : Int)) (k + c * i)) then k + c * l.length else -1
theorem heldL_mark {α : Type} [Inhabited α] {t : α → Int → Bool} {g : α → Int → α} {c : Int} (ht : ∀ x k, t (g x k) k = true) (l : List α) (k : Int) : heldL t c (markL g c l k).1 k = (markL g c l k).2 := by
  have hl : (markL g c l k).1.length = l.length := by simp [markL, markPre_len]
  rw [heldL, if_pos, hl]
  · simp [markL]
  · rw [List.all_eq_true]
    intro j hj
    have hj := List.mem_range.1 hj
    rw [at_lt hj]
    rw [hl] at hj
    simp [markL, markPre, hj, ht]
theorem heldL_no {α : Type} [Inhabited α] {t : α → Int → Bool} {c : Int} {l : List α} {k : Int} {i : Nat} (hi : i < l.length) (h : t (at' l (i : Int)) (k + c * i) = false) : heldL t c l k = -1 := by
  rw [heldL, if_neg]
  rw [List.all_eq_true]
  intro h6
  have := h6 i (List.mem_range.2 hi)
  rw [h] at this; cases this
theorem heldL_yes {α : Type} [Inhabited α] {t : α → Int → Bool} {c : Int} {l : List α} {k : Int} (h : ∀ i < l.length, t (at' l (i : Int)) (k + c * i) = true) : heldL t c l k = k + c * l.length := by
  rw [heldL, if_pos]
  rw [List.all_eq_true]
  exact fun j hj => h j (List.mem_range.1 hj)
def heldStringS (l : List Str) (k : Int) : Int := heldL (fun x k => decide (x = markTxt k)) 1 l k
abbrev heldStringS_pre (l : List Str) (k : Int) : Prop := MarkOk 1 l.length k
def heldStringS_wp (a : List Str) (k_ : Int) (Z : Int → Prop) : Prop :=
  loopW (σ := Int × Int) (fun (k5, i6) K9 => ∀ len10 : Int, len10 = (a.length : Int) → ∀ c12 : Bool, c12 = decide (i6 < len10) → ((c12 = true → (0 ≤ i6 ∧ i6 < a.length) ∧ ∀ x15 : Str, x15 = at' a i6 → (markTxt_pre k5) ∧ ∀ r18 : Str, r18 = markTxt k5 → ∀ c19 : Bool, c19 = decide (x15 ≠ r18) → ((c19 = true → Z (-1)) ∧ (c19 = false → (I64 (k5 + 1)) ∧ ∀ v22 : Int, v22 = k5 + 1 → (I64 (i6 + 1)) ∧ ∀ v25 : Int, v25 = i6 + 1 → K9 (v22, v25)))) ∧ (c12 = false → Z k5))) (k_, 0)
theorem heldStringS_vc (l : List Str) (k : Int) (h : heldStringS_pre l k) : heldStringS_wp l k (fun y => y = heldStringS l k) := by
  unfold heldStringS_wp
  obtain ⟨h1, h2, h3⟩ := h
  refine loopW.up (τ := Unit) l.length (fun s => s.2) (fun i _ => (k + 1 * i, (i : Int))) (fun _ _ => rfl) (fun i _ => ∀ j < i, at' l (j : Int) = markTxt (k + 1 * j)) () (by simp) (by simp) ?_
  rintro i _ K hk hI IH
  simp only [forall_eq, decide_eq_true_eq, decide_eq_false_iff_not, I64, markTxt_pre]
  refine ⟨fun h4 => ⟨by omega, by omega, fun h5 => ?_, fun h5 => ⟨by omega, by omega, ?_⟩⟩, fun h4 => ?_⟩
  · rw [heldStringS, heldL_no (i := i) (by omega)]
    simpa using h5
  · have := IH (by omega) () (fun j hj => by
      rcases Nat.lt_or_ge j i with h6 | h6
      · exact hI j h6
      · rw [show j = i by omega]; simpa using h5)
    simpa [show k + ((i : Int) + 1) = k + i + 1 by omega] using this
  · have hi : i = l.length := by omega
    rw [heldStringS, heldL_yes (fun j hj => by simpa using hI j (by omega)), hi]
def heldWireS (l : List Wire) (k : Int) : Int := heldL (fun x k => decide (x.name = markTxt k ∧ x.link = k + 1)) 2 l k
abbrev heldWireS_pre (l : List Wire) (k : Int) : Prop := MarkOk 2 l.length k
def heldWireS_wp (a : List Wire) (k_ : Int) (Z : Int → Prop) : Prop :=
  loopW (σ := Int × Int) (fun (k5, i6) K9 => ∀ len10 : Int, len10 = (a.length : Int) → ∀ c12 : Bool, c12 = decide (i6 < len10) → ((c12 = true → (0 ≤ i6 ∧ i6 < a.length) ∧ ∀ x15 : Wire, x15 = at' a i6 → (markTxt_pre k5) ∧ ∀ r18 : Str, r18 = markTxt k5 → ∀ c19 : Bool, c19 = decide (x15.name ≠ r18) → ((c19 = true → Z (-1)) ∧ (c19 = false → (I64 (k5 + 1)) ∧ ∀ v22 : Int, v22 = k5 + 1 → (0 ≤ i6 ∧ i6 < a.length) ∧ ∀ x26 : Wire, x26 = at' a i6 → ∀ c28 : Bool, c28 = decide (x26.link ≠ v22) → ((c28 = true → Z (-1)) ∧ (c28 = false → (I64 (v22 + 1)) ∧ ∀ v31 : Int, v31 = v22 + 1 → (I64 (i6 + 1)) ∧ ∀ v34 : Int, v34 = i6 + 1 → K9 (v31, v34)))))) ∧ (c12 = false → Z k5))) (k_, 0)
theorem heldWireS_vc (l : List Wire) (k : Int) (h : heldWireS_pre l k) : heldWireS_wp l k (fun y => y = heldWireS l k) := by
  unfold heldWireS_wp
  obtain ⟨h1, h2, h3⟩ := h
  refine loopW.up (τ := Unit) l.length (fun s => s.2) (fun i _ => (k + 2 * i, (i : Int))) (fun _ _ => rfl) (fun i _ => ∀ j < i, (at' l (j : Int)).name = markTxt (k + 2 * j) ∧ (at' l (j : Int)).link = k + 2 * j + 1) () (by simp) (by simp) ?_
  rintro i _ K hk hI IH
  simp only [forall_eq, decide_eq_true_eq, decide_eq_false_iff_not, I64, markTxt_pre]
  have hno : i < l.length → ¬ ((at' l (i : Int)).name = markTxt (k + 2 * i) ∧ (at' l (i : Int)).link = k + 2 * i + 1) → heldWireS l k = -1 := fun hi h => by
    rw [heldWireS, heldL_no (i := i) hi]
    simpa using h
  refine ⟨fun h4 => ⟨by omega, by omega, fun h5 => (hno (by omega) (fun h => h5 h.1)).symm, fun h5 => ⟨by omega, by omega, fun h6 => (hno (by omega) (fun h => h6 h.2)).symm, fun h6 => ⟨by omega, by omega, ?_⟩⟩⟩, fun h4 => ?_⟩
  · have := IH (by omega) () (fun j hj => by
      rcases Nat.lt_or_ge j i with h7 | h7
      · exact hI j h7
      · rw [show j = i by omega]; exact ⟨by simpa using h5, by omega⟩)
    simpa [show k + 2 * ((i : Int) + 1) = k + 2 * i + 1 + 1 by omega] using this
  · have hi : i = l.length := by omega
    rw [heldWireS, heldL_yes (fun j hj => by simpa using hI j (by omega)), hi]
/-- Whether marks are there, one element after the other. -/
def heldSeq {α : Type} (h : α → Int → Int) : List α → Int → Int
  | [], k => k
  | x :: l, k => if h x k < 0 then -1 else heldSeq h l (h x k)
theorem heldSeq_mark {α : Type} {h : α → Int → Int} {m : α → Int → α × Int} (hm : ∀ x k, 0 ≤ k → h (m x k).1 k = (m x k).2 ∧ 0 ≤ (m x k).2) : ∀ (l : List α) (k : Int), 0 ≤ k → heldSeq h (markSeq m l k).1 k = (markSeq m l k).2 ∧ 0 ≤ (markSeq m l k).2
  | [], k, hk => ⟨rfl, hk⟩
  | x :: l, k, hk => by
    obtain ⟨h1, h2⟩ := hm x k hk
    simp only [markSeq, heldSeq, h1]
    rw [if_neg (by omega)]
    exact heldSeq_mark hm l _ h2
theorem heldIntS_cases (l : List Int) (k : Int) : heldIntS l k = -1 ∨ heldIntS l k = k + l.length := by
  unfold heldIntS; split
  · exact .inr rfl
  · exact .inl rfl
theorem heldL_cases {α : Type} [Inhabited α] (t : α → Int → Bool) (c : Int) (l : List α) (k : Int) : heldL t c l k = -1 ∨ heldL t c l k = k + c * l.length := by
  unfold heldL; split
  · exact .inr rfl
  · exact .inl rfl
def nodeHeld (x : GNode) (k : Int) : Int := if x.control = k ∧ x.parent = k + 1 then heldIntS x.links (k + 2) else -1
theorem nodeHeld_cases (x : GNode) (k : Int) : nodeHeld x k = -1 ∨ nodeHeld x k = k + nodeSize x := by
  unfold nodeHeld nodeSize
  split
  · rcases heldIntS_cases x.links (k + 2) with h | h
    · exact .inl h
    · exact .inr (by rw [h]; omega)
  · exact .inl rfl
theorem nodeHeld_mark (x : GNode) (k : Int) (hk : 0 ≤ k) : nodeHeld (nodeMark x k).1 k = (nodeMark x k).2 ∧ 0 ≤ (nodeMark x k).2 := by
  refine ⟨?_, by rw [nodeMark_size]; omega⟩
  simp only [nodeHeld, nodeMark, and_self, if_true]
  exact held_mark _ _
def heldNodeS (l : List GNode) (k : Int) : Int := heldSeq nodeHeld l k
abbrev heldNodeS_pre (l : List GNode) (k : Int) : Prop := markNodeS_pre l k
def heldNodeS_wp (a : List GNode) (k_ : Int) (Z : Int → Prop) : Prop :=
  loopW (σ := Int × Int) (fun (k5, i6) K9 => ∀ len10 : Int, len10 = (a.length : Int) → ∀ c12 : Bool, c12 = decide (i6 < len10) → ((c12 = true → (0 ≤ i6 ∧ i6 < a.length) ∧ ∀ x15 : GNode, x15 = at' a i6 → ∀ c17 : Bool, c17 = decide (x15.control ≠ k5) → ((c17 = true → Z (-1)) ∧ (c17 = false → (I64 (k5 + 1)) ∧ ∀ v20 : Int, v20 = k5 + 1 → (0 ≤ i6 ∧ i6 < a.length) ∧ ∀ x23 : GNode, x23 = at' a i6 → ∀ c26 : Bool, c26 = decide (x15.parent ≠ v20) → ((c26 = true → Z (-1)) ∧ (c26 = false → (I64 (v20 + 1)) ∧ ∀ v30 : Int, v30 = v20 + 1 → (0 ≤ i6 ∧ i6 < a.length) ∧ ∀ x33 : GNode, x33 = at' a i6 → (heldIntS_pre x33.links v30) ∧ ∀ r36 : Int, r36 = heldIntS x33.links v30 → ∀ c37 : Bool, c37 = decide (r36 < 0) → ((c37 = true → Z (-1)) ∧ (c37 = false → (I64 (i6 + 1)) ∧ ∀ v40 : Int, v40 = i6 + 1 → K9 (r36, v40)))))))) ∧ (c12 = false → Z k5))) (k_, 0)
theorem heldNodeS_vc (l : List GNode) (k : Int) (h : heldNodeS_pre l k) : heldNodeS_wp l k (fun y => y = heldNodeS l k) := by
  unfold heldNodeS_wp
  obtain ⟨h0, h1, h2, h3⟩ := h
  refine loopW.up (τ := Unit) l.length (fun s => s.2) (fun i _ => (k + ((l.take i).map nodeSize).sum, (i : Int))) (fun _ _ => rfl) (fun i _ => heldNodeS l k = heldSeq nodeHeld (l.drop i) (k + ((l.take i).map nodeSize).sum)) () (by simp) (by simp [heldNodeS]) ?_
  rintro i _ K hk hI IH
  have hs2 := sum_take_le (f := nodeSize) l i
  simp only [forall_eq, decide_eq_true_eq, decide_eq_false_iff_not, I64]
  refine ⟨fun h4 => ?_, fun h4 => ?_⟩
  · have hi : i < l.length := by omega
    have hs4 := sum_take_le (f := nodeSize) l (i + 1)
    have hs5 : ((l.take (i + 1)).map nodeSize).sum = ((l.take i).map nodeSize).sum + nodeSize l[i] := by rw [List.take_succ_eq_append_getElem hi, List.map_append, List.sum_append]; simp only [List.map_cons, List.map_nil, List.sum_cons, List.sum_nil, Nat.add_zero]
    have hz : nodeSize l[i] = l[i].links.length + 2 := rfl
    have hn := h2 _ (List.getElem_mem hi)
    rw [at_lt hi]
    rw [List.drop_eq_getElem_cons hi, heldSeq] at hI
    have hno : nodeHeld l[i] (k + ((l.take i).map nodeSize).sum) = -1 → (-1 : Int) = heldNodeS l k := fun h => by rw [hI, h]; rfl
    refine ⟨by omega, fun h5 => hno (by rw [nodeHeld, if_neg (fun h => h5 h.1)]), fun h5 => ⟨by omega, by omega, fun h6 => hno (by rw [nodeHeld, if_neg (fun h => h6 h.2)]), fun h6 => ⟨by omega, by omega, ⟨by omega, by omega, by omega⟩, ?_⟩⟩⟩
    have hq : nodeHeld l[i] (k + ((l.take i).map nodeSize).sum) = heldIntS l[i].links (k + ((l.take i).map nodeSize).sum + 1 + 1) := by
      rw [nodeHeld, if_pos ⟨by simpa using h5, by simpa using h6⟩]
      congr 1; omega
    refine ⟨fun h7 => hno ?_, fun h7 => ⟨by omega, ?_⟩⟩
    · rcases nodeHeld_cases l[i] (k + ((l.take i).map nodeSize).sum) with h | h
      · exact h
      · rw [hq] at h; omega
    · have hc := nodeHeld_cases l[i] (k + ((l.take i).map nodeSize).sum)
      rw [hq] at hc
      have hv : heldIntS l[i].links (k + ((l.take i).map nodeSize).sum + 1 + 1) = k + ((l.take (i + 1)).map nodeSize).sum := by
        rcases hc with h | h
        · omega
        · rw [h, hs5]; omega
      have := IH hi () (by rw [hI, hq, hv, if_neg (by omega)])
      rw [hv]
      simpa using this
  · rw [hI, show i = l.length by omega, List.drop_length]; simp [heldSeq]
def markBig (b : Big) (k : Int) : Big × Int :=
  let n := markNodeS b.nodes k
  let s := markIntS b.sites n.2
  let o := markStringS b.outer s.2
  let i := markWireS b.inner o.2
  (Big.mk b.roots n.1 s.1 b.edges o.1 i.1, i.2)
def bigSize (b : Big) : Nat := (b.nodes.map nodeSize).sum + b.sites.length + b.outer.length + 2 * b.inner.length
abbrev markBig_pre (b : Big) (k : Int) : Prop := 0 ≤ k ∧ b.nodes.length ≤ 1048576 ∧ (∀ x ∈ b.nodes, x.links.length ≤ 1048576) ∧ b.sites.length ≤ 1048576 ∧ b.outer.length ≤ 1048576 ∧ b.inner.length ≤ 1048576 ∧ k + bigSize b ≤ 1152921504606846976
def markBig_wp (a : Big) (k_ : Int) (Z : (Big × Int) → Prop) : Prop :=
  (markNodeS_pre a.nodes k_) ∧ ∀ r13 : (List GNode) × Int, r13 = markNodeS a.nodes k_ → (markIntS_pre a.sites r13.2) ∧ ∀ r22 : (List Int) × Int, r22 = markIntS a.sites r13.2 → (markStringS_pre a.outer r22.2) ∧ ∀ r31 : (List Str) × Int, r31 = markStringS a.outer r22.2 → (markWireS_pre a.inner r31.2) ∧ ∀ r40 : (List Wire) × Int, r40 = markWireS a.inner r31.2 → Z ((Big.mk a.roots r13.1 r22.1 a.edges r31.1 r40.1), r40.2)
theorem markNodeS_size (l : List GNode) (k : Int) : (markNodeS l k).2 = k + (l.map nodeSize).sum := by
  have := markAt_size nodeMark nodeMark_size l k l.length
  rwa [markAt_end, List.take_length] at this
theorem markBig_vc (b : Big) (k : Int) (h : markBig_pre b k) : markBig_wp b k (fun y => y = markBig b k) := by
  unfold markBig_wp
  obtain ⟨h0, h1, h2, h3, h4, h5, h6⟩ := h
  have hb : bigSize b = (b.nodes.map nodeSize).sum + b.sites.length + b.outer.length + 2 * b.inner.length := rfl
  have hn := markNodeS_size b.nodes k
  simp only [forall_eq]
  refine ⟨⟨h0, h1, h2, by omega⟩, ⟨by omega, by omega, by omega⟩, ⟨?_, by omega, ?_⟩, ⟨?_, by omega, ?_⟩, rfl⟩
  all_goals simp only [markL, hn]; omega
def heldBig (b : Big) (k : Int) : Int :=
  if heldNodeS b.nodes k < 0 then -1 else
  if heldIntS b.sites (heldNodeS b.nodes k) < 0 then -1 else
  if heldStringS b.outer (heldIntS b.sites (heldNodeS b.nodes k)) < 0 then -1 else
  if heldWireS b.inner (heldStringS b.outer (heldIntS b.sites (heldNodeS b.nodes k))) < 0 then -1 else heldWireS b.inner (heldStringS b.outer (heldIntS b.sites (heldNodeS b.nodes k)))
abbrev heldBig_pre (b : Big) (k : Int) : Prop := markBig_pre b k
theorem heldNodeS_cases (l : List GNode) (k : Int) : heldNodeS l k = -1 ∨ heldNodeS l k = k + (l.map nodeSize).sum := by
  unfold heldNodeS
  induction l generalizing k with
  | nil => exact .inr (by simp [heldSeq])
  | cons x l ih =>
    rw [heldSeq]
    split
    · exact .inl rfl
    · rename_i h
      rcases nodeHeld_cases x k with h1 | h1
      · omega
      · rcases ih (nodeHeld x k) with h2 | h2
        · exact .inl h2
        · exact .inr (by rw [h2, h1]; simp; omega)
def heldBig_wp (a : Big) (k_ : Int) (Z : Int → Prop) : Prop :=
  (heldNodeS_pre a.nodes k_) ∧ ∀ r5 : Int, r5 = heldNodeS a.nodes k_ → ∀ c6 : Bool, c6 = decide (r5 < 0) → ((c6 = true → Z (-1)) ∧ (c6 = false → (heldIntS_pre a.sites r5) ∧ ∀ r9 : Int, r9 = heldIntS a.sites r5 → ∀ c10 : Bool, c10 = decide (r9 < 0) → ((c10 = true → Z (-1)) ∧ (c10 = false → (heldStringS_pre a.outer r9) ∧ ∀ r14 : Int, r14 = heldStringS a.outer r9 → ∀ c16 : Bool, c16 = decide (r14 < 0) → ((c16 = true → Z (-1)) ∧ (c16 = false → (heldWireS_pre a.inner r14) ∧ ∀ r19 : Int, r19 = heldWireS a.inner r14 → ∀ c20 : Bool, c20 = decide (r19 < 0) → ((c20 = true → Z (-1)) ∧ (c20 = false → Z r19))))))))
theorem heldBig_vc (b : Big) (k : Int) (h : heldBig_pre b k) : heldBig_wp b k (fun y => y = heldBig b k) := by
  unfold heldBig_wp
  obtain ⟨h0, h1, h2, h3, h4, h5, h6⟩ := h
  have hb : bigSize b = (b.nodes.map nodeSize).sum + b.sites.length + b.outer.length + 2 * b.inner.length := rfl
  simp only [forall_eq, decide_eq_true_eq, decide_eq_false_iff_not]
  have c1 := heldNodeS_cases b.nodes k
  have c2 := heldIntS_cases b.sites (heldNodeS b.nodes k)
  have c3 := heldL_cases (fun x k => decide (x = markTxt k)) 1 b.outer (heldIntS b.sites (heldNodeS b.nodes k))
  change heldStringS b.outer (heldIntS b.sites (heldNodeS b.nodes k)) = -1 ∨ heldStringS b.outer (heldIntS b.sites (heldNodeS b.nodes k)) = _ at c3
  unfold heldBig
  refine ⟨⟨h0, h1, h2, by omega⟩, fun q1 => by rw [if_pos q1], fun q1 => ⟨⟨by omega, by omega, by omega⟩, fun q2 => by rw [if_neg q1, if_pos q2], fun q2 => ⟨⟨by omega, by omega, by omega⟩, fun q3 => by rw [if_neg q1, if_neg q2, if_pos q3], fun q3 => ⟨⟨by omega, by omega, by omega⟩, fun q4 => by rw [if_neg q1, if_neg q2, if_neg q3, if_pos q4], fun q4 => by rw [if_neg q1, if_neg q2, if_neg q3, if_neg q4]⟩⟩⟩⟩
theorem heldBig_mark (b : Big) (k : Int) (hk : 0 ≤ k) : heldBig (markBig b k).1 k = (markBig b k).2 := by
  have e1 : heldNodeS (markNodeS b.nodes k).1 k = (markNodeS b.nodes k).2 := (heldSeq_mark nodeHeld_mark b.nodes k hk).1
  have p1 : 0 ≤ (markNodeS b.nodes k).2 := (heldSeq_mark nodeHeld_mark b.nodes k hk).2
  have e2 := held_mark b.sites (markNodeS b.nodes k).2
  have p2 : 0 ≤ (markIntS b.sites (markNodeS b.nodes k).2).2 := by simp only [markL]; omega
  have e3 : heldStringS (markStringS b.outer (markIntS b.sites (markNodeS b.nodes k).2).2).1 (markIntS b.sites (markNodeS b.nodes k).2).2 = (markStringS b.outer (markIntS b.sites (markNodeS b.nodes k).2).2).2 := heldL_mark (by simp) _ _
  have p3 : 0 ≤ (markStringS b.outer (markIntS b.sites (markNodeS b.nodes k).2).2).2 := by simp only [markL] at p2 ⊢; omega
  have e4 : heldWireS (markWireS b.inner (markStringS b.outer (markIntS b.sites (markNodeS b.nodes k).2).2).2).1 (markStringS b.outer (markIntS b.sites (markNodeS b.nodes k).2).2).2 = (markWireS b.inner (markStringS b.outer (markIntS b.sites (markNodeS b.nodes k).2).2).2).2 := heldL_mark (by simp) _ _
  have p4 : 0 ≤ (markWireS b.inner (markStringS b.outer (markIntS b.sites (markNodeS b.nodes k).2).2).2).2 := by simp only [markL] at p3 ⊢; omega
  simp only [markBig, heldBig, e1, e2, e3, e4]
  rw [if_neg (by omega), if_neg (by omega), if_neg (by omega), if_neg (by omega)]
end Go.Ab.Vg

/- Contracts of spec.l1In, spec.l2Name and spec.l12Good. -/
namespace Go.Ab
open Go.Proofs
set_option linter.unusedSimpArgs false
theorem e14 : Ent Tryd.prog 14 := Ent.of Tryd.func14 (by kernel_rfl) rfl
theorem e34 : Ent Tryd.prog 34 := Ent.of Tryd.func34 (by kernel_rfl) rfl
theorem e35 : Ent Tryd.prog 35 := Ent.of Tryd.func35 (by kernel_rfl) rfl
theorem l1In_ok (n lo hi : Int) : PureC Tryd.prog 34 [int n, int lo, int hi] (fun r => r = bool (within n lo hi)) := by
  refine PureC.of Tryd.func34 rfl Tryd.ntmps34 (by simp) fun Q hQ => ?_
  refine Runs.seqE Ty_ok (by decide) fun k' hk' => ?_
  simp
  refine hk' _ _ _ (Runs.seqE Ty_ok (by decide) fun k' hk' => ?_)
  simp
  by_cases h : lo ≤ n
  all_goals
    simp [h]
    refine hk' _ _ _ (Runs.ret Tryd.func34 (RetOk.one Tryd.results34) (hQ _ _ _ _ (ResOk.v _ _ _) ?_))
    simp [within, h]

theorem isNm_bad {s : Str} {k : Nat} (hk : k < s.length) (h : lower s[k] = false) : isNm s = false := by
  have : s.all lower = false := by
    rw [List.all_eq_false]
    exact ⟨s[k], List.getElem_mem hk, by simp [h]⟩
  simp [isNm, this]

theorem l2Name_ok (s : Str) (hs : s.length ≤ 4294967296) : PureC Tryd.prog 35 [str s] (fun r => r = bool (isNm s)) := by
  refine PureC.of Tryd.func35 rfl Tryd.ntmps35 (by simp) fun Q hQ => ?_
  refine Runs.seqE Ty_ok (by decide) fun k' hk' => ?_
  simp   -- R0
  refine hk' _ _ _ ?_
  refine Runs.seq ?_
  refine Runs.seqE Ty_ok (by decide) fun k' hk' => ?_
  simp   -- R1
  refine hk' _ _ _ ?_
  refine Runs.block (Runs.loopUp s.length (fun k ρ H n => ρ 0 = str s ∧ ρ 3 = int k ∧ (s.take k).all lower = true) ?_ ?_)
  · simp
  · rintro k ρ H n hk ⟨h0, h3, hall⟩ IH
    refine Runs.seq ?_
    refine Runs.seqE Ty_ok (by decide) fun k' hk' => ?_
    simp [h0, h3]   -- R2
    refine hk' _ _ _ ?_
    refine Runs.ite rfl (fun hc1 => ?_) (fun hc1 => ?_)   -- t7
    · simp at hc1
      refine Runs.skip ?_
      refine Runs.seq ?_
      refine Runs.block ?_
      refine Runs.seqE Ty_ok (by decide) fun k' hk' => ?_
      simp [h0, h3, hc1]   -- R4
      by_cases ha : (s[k].toNat : Int) < 97
      · simp [ha]
        refine hk' _ _ _ ?_
        refine Runs.ite rfl (fun _ => ?_) (fun h => by simp at h)
        refine Runs.seqE Ty_ok (by decide) fun k' hk' => ?_
        simp   -- R5
        refine hk' _ _ _ ?_
        refine Runs.ret Tryd.func35 (RetOk.one Tryd.results35) (hQ _ _ _ _ (.v _ _ _) ?_)
        rw [isNm_bad hc1 (by simp [lower]; omega)]
      · by_cases hz : (122 : Int) < s[k].toNat
        · simp [ha, hz, h0, h3, hc1]
          refine hk' _ _ _ ?_
          refine Runs.ite rfl (fun _ => ?_) (fun h => by simp at h)
          refine Runs.seqE Ty_ok (by decide) fun k' hk' => ?_
          simp   -- R5
          refine hk' _ _ _ ?_
          refine Runs.ret Tryd.func35 (RetOk.one Tryd.results35) (hQ _ _ _ _ (.v _ _ _) ?_)
          rw [isNm_bad hc1 (by simp [lower]; omega)]
        · simp [ha, hz, h0, h3, hc1]
          refine hk' _ _ _ ?_
          refine Runs.ite rfl (fun h => by simp at h) (fun _ => ?_)
          refine Runs.skip ?_
          refine Runs.inBlock ?_
          refine Runs.evalE Ty_ok (by decide) fun k' hk' => ?_
          simp [h3, wrap_succ (show k < 4611686018427387904 by omega)]   -- R3
          refine hk' _ _ _ ?_
          refine IH hc1 _ _ _ ?_
          rw [List.take_succ_eq_append_getElem hc1, List.all_append, hall]
          simp [h0, lower]
          omega
    · simp at hc1
      refine Runs.exit rfl ?_
      refine Runs.seqE Ty_ok (by decide) fun k' hk' => ?_
      simp [h0]   -- R6
      refine RunK.callA Ty_ok (l1In_ok s.length 1 4) e34 (.cons (.v _ _ _) (.cons (.v _ _ _) (.cons (.v _ _ _) .nil))) (by decide) (by decide) rfl (by simp) ?_
      rintro _ rfl
      simp
      refine hk' _ _ _ ?_
      refine Runs.ret Tryd.func35 (RetOk.one Tryd.results35) (hQ _ _ _ _ (.v _ _ _) ?_)
      rw [List.take_of_length_le hc1] at hall
      simp only [isNm, hall, Bool.and_true]

theorem l12Good_ok (p : Proc) (hp : p.length ≤ 1048576) (hn : ∀ i, i < p.length → (p.getD i default).name.length ≤ 4294967296) : PureC Tryd.prog 14 [encP false p] (fun r => r = bool (goodP p)) := by
  refine PureC.of Tryd.func14 rfl Tryd.ntmps14 (by simp) fun Q hQ => ?_
  refine Runs.seqE Ty_ok (by decide) fun k' hk' => ?_
  simp [encP]   -- R0
  refine hk' _ _ _ ?_
  refine Runs.seq ?_
  refine Runs.seqE Ty_ok (by decide) fun k' hk' => ?_
  simp   -- R1
  refine hk' _ _ _ ?_
  refine Runs.block (Runs.loopUp p.length (fun k ρ H n => ρ 1 = .ptr (0, 1) 1 0 0 ∧ H (0, 1) = some ⟨1, [[.list false (p.map AmbNode.cells)]]⟩ ∧ ρ 3 = int k ∧ ∀ i, i < k → okNode p i = true) ?_ ?_)
  · simp
  · rintro k ρ H n hk ⟨h1, hH, h3, hall⟩ IH
    refine Runs.seq ?_
    refine Runs.seqE Ty_ok (by decide) fun k' hk' => ?_
    simp [h1, hH, h3]   -- R2
    refine hk' _ _ _ ?_
    refine Runs.ite rfl (fun hc1 => ?_) (fun hc1 => ?_)   -- t9
    · simp at hc1
      refine Runs.skip ?_
      refine Runs.seq ?_
      refine Runs.block ?_
      refine Runs.seqE Ty_ok (by decide) fun k' hk' => ?_
      simp [h1, hH, h3, hc1, AmbNode.cells]   -- R3
      refine hk' _ _ _ ?_
      refine Runs.seqE Ty_ok (by decide) fun k' hk' => ?_
      simp   -- R4
      have hx : p.getD k default = p[k] := by simp [hc1]
      have hok : okNode p k = (within p[k].kind 0 3 && isNm p[k].name && within p[k].parent (-1) ((k : Int) - 1)) := by rw [okNode, hx]
      have hnm := hn k hc1
      rw [hx] at hnm
      refine RunK.callA Ty_ok (l1In_ok p[k].kind 0 3) e34 (.cons (.v _ _ _) (.cons (.v _ _ _) (.cons (.v _ _ _) .nil))) (by decide) (by decide) rfl (by simp) ?_
      rintro _ rfl
      cases hw : within p[k].kind 0 3
      · simp [hw]
        refine hk' _ _ _ ?_
        refine Runs.ite rfl (fun _ => ?_) (fun h => by simp at h)
        refine Runs.seqE Ty_ok (by decide) fun k' hk' => ?_
        simp   -- R5
        refine hk' _ _ _ ?_
        refine Runs.ret Tryd.func14 (RetOk.one Tryd.results14) (hQ _ _ _ _ (.v _ _ _) ?_)
        rw [goodP_bad hc1 (by rw [hok]; simp [hw])]
      · simp [hw]
        refine RunK.callA Ty_ok (l2Name_ok p[k].name hnm) e35 (.cons (.v _ _ _) .nil) (by decide) (by decide) rfl (by simp) ?_
        rintro _ rfl
        cases hs : isNm p[k].name
        · simp [hs]
          refine hk' _ _ _ ?_
          refine Runs.ite rfl (fun _ => ?_) (fun h => by simp at h)
          refine Runs.seqE Ty_ok (by decide) fun k' hk' => ?_
          simp   -- R5
          refine hk' _ _ _ ?_
          refine Runs.ret Tryd.func14 (RetOk.one Tryd.results14) (hQ _ _ _ _ (.v _ _ _) ?_)
          rw [goodP_bad hc1 (by rw [hok]; simp [hw, hs])]
        · simp [hs, h3, show -9223372036854775808 ≤ (k : Int) - 1 by omega, show (k : Int) - 1 ≤ 9223372036854775807 by omega]
          refine RunK.callA Ty_ok (l1In_ok p[k].parent (-1) ((k : Int) - 1)) e34 (.cons (.v _ _ _) (.cons (.v _ _ _) (.cons (.v _ _ _) .nil))) (by decide) (by decide) rfl (by simp) ?_
          rintro _ rfl
          cases hu : within p[k].parent (-1) ((k : Int) - 1)
          · simp [hu]
            refine hk' _ _ _ ?_
            refine Runs.ite rfl (fun _ => ?_) (fun h => by simp at h)
            refine Runs.seqE Ty_ok (by decide) fun k' hk' => ?_
            simp   -- R5
            refine hk' _ _ _ ?_
            refine Runs.ret Tryd.func14 (RetOk.one Tryd.results14) (hQ _ _ _ _ (.v _ _ _) ?_)
            rw [goodP_bad hc1 (by rw [hok]; simp [hw, hs, hu])]
          · simp [hu]
            refine hk' _ _ _ ?_
            refine Runs.ite rfl (fun h => by simp at h) (fun _ => ?_)
            refine Runs.skip ?_
            refine Runs.inBlock ?_
            refine Runs.evalE Ty_ok (by decide) fun k' hk' => ?_
            simp [h3, wrap_succ (show k < 4611686018427387904 by omega)]   -- R6
            refine hk' _ _ _ ?_
            refine IH hc1 _ _ _ ?_
            simp [h1, hH]
            intro i hi
            by_cases hik : i = k
            · subst hik
              rw [hok]; simp [hw, hs, hu]
            · exact hall i (by omega)
    · simp at hc1
      refine Runs.exit rfl ?_
      refine Runs.seqE Ty_ok (by decide) fun k' hk' => ?_
      simp [h1, hH]   -- R7
      refine hk' _ _ _ ?_
      refine Runs.ret Tryd.func14 (RetOk.one Tryd.results14) (hQ _ _ _ _ (.v _ _ _) ?_)
      rw [goodP_end (by rwa [show k = p.length by omega] at hall)]
      simp
      omega
end Go.Ab

/- Contracts of spec.l12Kids, spec.l12Word and spec.l12Around. -/
namespace Go.Ab
open Go.Proofs
set_option linter.unusedSimpArgs false

theorem intercalate_snoc (l : List Str) (a : Str) (h : l ≠ []) : Lib.join (l ++ [a]) [124] = Lib.join l [124] ++ [124] ++ a := by
  induction l with
  | nil => exact absurd rfl h
  | cons b l ih =>
    cases l with
    | nil => simp [Lib.join, List.intercalate]
    | cons c l =>
      have := ih (by simp)
      simp [Lib.join, List.intercalate] at this ⊢
      rw [this]
end Go.Ab

/- Contracts of spec.l12In and spec.ProcessText. -/
namespace Go.Ab
open Go.Proofs
set_option linter.unusedSimpArgs false

end Go.Ab

/- Contracts of laws.szAmbNode, laws.szAmbNodeS and laws.szProcess. -/
namespace Go.Ab
open Go.Proofs
set_option linter.unusedSimpArgs false
theorem e4 : Ent Tryd.prog 4 := Ent.of Tryd.func4 (by kernel_rfl) rfl
theorem e6 : Ent Tryd.prog 6 := Ent.of Tryd.func6 (by kernel_rfl) rfl
theorem e9 : Ent Tryd.prog 9 := Ent.of Tryd.func9 (by kernel_rfl) rfl
theorem e13 : Ent Tryd.prog 13 := Ent.of Tryd.func13 (by kernel_rfl) rfl
theorem e16 : Ent Tryd.prog 16 := Ent.of Tryd.func16 (by kernel_rfl) rfl
theorem e23 : Ent Tryd.prog 23 := Ent.of Tryd.func23 (by kernel_rfl) rfl
theorem e33 : Ent Tryd.prog 33 := Ent.of Tryd.func33 (by kernel_rfl) rfl
theorem e38 : Ent Tryd.prog 38 := Ent.of Tryd.func38 (by kernel_rfl) rfl
theorem e45 : Ent Tryd.prog 45 := Ent.of Tryd.func45 (by kernel_rfl) rfl

def szStr (s : Str) (left : Int) : Int := if left - s.length < 0 then -1 else left - s.length
def szNodes : Proc → Int → Int
  | [], left => left
  | x :: r, left => if szStr x.name left < 0 then -1 else szNodes r (szStr x.name left)
def szProc (p : Proc) (left : Int) : Int := if left - p.length < 0 then -1 else szNodes p (left - p.length)
def Small (p : Proc) : Prop := p.length ≤ 9223372036854775807 ∧ ∀ x ∈ p, x.name.length ≤ 9223372036854775807

theorem szAmbNode_ok (x : AmbNode) (left : Int) (h0 : 0 ≤ left) (h1 : left ≤ 1048576) (hn : x.name.length ≤ 9223372036854775807) : PureC Tryd.prog 33 [.agg x.cells, int left] (fun r => r = int (szStr x.name left)) := by
  refine PureC.of Tryd.func33 rfl Tryd.ntmps33 (by simp) fun Q hQ => ?_
  refine Runs.seqE Ty_ok (by decide) fun k' hk' => ?_
  simp   -- R0
  refine hk' _ _ _ ?_
  refine Runs.seqE Ty_ok (by decide) fun k' hk' => ?_
  simp [AmbNode.cells, show -9223372036854775808 ≤ left - x.name.length by omega, show left - x.name.length ≤ 9223372036854775807 by omega]   -- R1
  refine hk' _ _ _ ?_
  refine Runs.seq ?_
  refine Runs.seqE Ty_ok (by decide) fun k' hk' => ?_
  simp   -- R2
  refine hk' _ _ _ ?_
  refine Runs.ite rfl (fun hc1 => ?_) (fun hc1 => ?_)   -- t11
  · simp only [decide_eq_true_eq] at hc1
    refine Runs.seqE Ty_ok (by decide) fun k' hk' => ?_
    simp   -- R3
    refine hk' _ _ _ ?_
    refine Runs.ret Tryd.func33 (RetOk.one Tryd.results33) (hQ _ _ _ _ (.v _ _ _) ?_)
    rw [szStr, if_pos hc1]
  · simp only [decide_eq_false_iff_not] at hc1
    refine Runs.skip ?_
    refine Runs.seqE Ty_ok (by decide) fun k' hk' => ?_
    simp   -- R4
    refine hk' _ _ _ ?_
    refine Runs.ret Tryd.func33 (RetOk.one Tryd.results33) (hQ _ _ _ _ (.v _ _ _) ?_)
    rw [szStr, if_neg hc1]

theorem szAmbNodeS_ok (p : Proc) (left : Int) (h0 : 0 ≤ left) (h1 : left ≤ 1048576) (hp : Small p) : PureC Tryd.prog 13 [.list false (p.map AmbNode.cells), int left] (fun r => r = int (szProc p left)) := by
  obtain ⟨hp1, hp2⟩ := hp
  refine PureC.of Tryd.func13 rfl Tryd.ntmps13 (by simp) fun Q hQ => ?_
  refine Runs.seqE Ty_ok (by decide) fun k' hk' => ?_
  simp   -- R0
  refine hk' _ _ _ ?_
  refine Runs.seqE Ty_ok (by decide) fun k' hk' => ?_
  simp [show -9223372036854775808 ≤ left - p.length by omega, show left - p.length ≤ 9223372036854775807 by omega]   -- R1
  refine hk' _ _ _ ?_
  refine Runs.seq ?_
  refine Runs.seqE Ty_ok (by decide) fun k' hk' => ?_
  simp   -- R2
  refine hk' _ _ _ ?_
  refine Runs.ite rfl (fun hc1 => ?_) (fun hc1 => ?_)   -- t11
  · simp only [decide_eq_true_eq] at hc1
    refine Runs.seqE Ty_ok (by decide) fun k' hk' => ?_
    simp   -- R3
    refine hk' _ _ _ ?_
    refine Runs.ret Tryd.func13 (RetOk.one Tryd.results13) (hQ _ _ _ _ (.v _ _ _) ?_)
    rw [szProc, if_pos hc1]
  · simp only [decide_eq_false_iff_not] at hc1
    refine Runs.skip ?_
    refine Runs.seq ?_
    refine Runs.seqE Ty_ok (by decide) fun k' hk' => ?_
    simp   -- R4
    refine hk' _ _ _ ?_
    refine Runs.block (Runs.loopUp p.length (fun k ρ H n => ρ 0 = .list false (p.map AmbNode.cells) ∧ ρ 5 = int k ∧ ∃ cur : Int, ρ 1 = int cur ∧ 0 ≤ cur ∧ cur ≤ left ∧ szNodes (p.drop k) cur = szProc p left) ?_ ?_)
    · simp [szProc, hc1]
      omega
    · rintro k ρ H n hk ⟨h0, h5, cur, h1', hcur, hcl, hsz⟩ IH
      refine Runs.seq ?_
      refine Runs.seqE Ty_ok (by decide) fun k' hk' => ?_
      simp [h0, h5]   -- R5
      refine hk' _ _ _ ?_
      refine Runs.ite rfl (fun hc2 => ?_) (fun hc2 => ?_)   -- t15
      · simp at hc2
        refine Runs.skip ?_
        refine Runs.seq ?_
        refine Runs.block ?_
        refine Runs.seqE Ty_ok (by decide) fun k' hk' => ?_
        simp [h0, h5, h1', hc2, AmbNode.cells]   -- R7
        refine RunK.callA Ty_ok (szAmbNode_ok p[k] cur hcur (by omega) (hp2 _ (List.getElem_mem hc2))) e33 (.cons (ArgOk.node _) (.cons (.v _ _ _) .nil)) (by decide) (by decide) rfl (by simp [AmbNode.cells, h1']) ?_
        rintro _ rfl
        simp
        refine hk' _ _ _ ?_
        rw [List.drop_eq_getElem_cons hc2, szNodes] at hsz
        refine Runs.seqE Ty_ok (by decide) fun k' hk' => ?_
        simp   -- R8
        refine hk' _ _ _ ?_
        refine Runs.ite rfl (fun hc3 => ?_) (fun hc3 => ?_)   -- t25
        · simp only [decide_eq_true_eq] at hc3
          rw [if_pos hc3] at hsz
          refine Runs.seqE Ty_ok (by decide) fun k' hk' => ?_
          simp   -- R9
          refine hk' _ _ _ ?_
          exact Runs.ret Tryd.func13 (RetOk.one Tryd.results13) (hQ _ _ _ _ (.v _ _ _) (by rw [← hsz]))
        · simp only [decide_eq_false_iff_not] at hc3
          rw [if_neg hc3] at hsz
          refine Runs.skip ?_
          refine Runs.inBlock ?_
          refine Runs.evalE Ty_ok (by decide) fun k' hk' => ?_
          simp [h5, wrap_succ (show k < 4611686018427387904 by omega)]   -- R6
          refine hk' _ _ _ ?_
          refine IH hc2 _ _ _ ?_
          have hle : szStr p[k].name cur ≤ left := by
            unfold szStr
            split <;> omega
          exact ⟨by simp [h0], by simp, szStr p[k].name cur, by simp, by omega, hle, hsz⟩
      · simp at hc2
        have hke : k = p.length := by omega
        subst hke
        rw [List.drop_length, szNodes] at hsz
        refine Runs.exit rfl ?_
        refine Runs.seqE Ty_ok (by decide) fun k' hk' => ?_
        simp [h1']   -- R10
        refine hk' _ _ _ ?_
        exact Runs.ret Tryd.func13 (RetOk.one Tryd.results13) (hQ _ _ _ _ (.v _ _ _) (by rw [hsz]))

theorem szProcess_ok (p : Proc) (left : Int) (h0 : 0 ≤ left) (h1 : left ≤ 1048576) (hp : Small p) : PureC Tryd.prog 4 [encP false p, int left] (fun r => r = int (if szProc p left < 0 then -1 else szProc p left)) := by
  refine PureC.of Tryd.func4 rfl Tryd.ntmps4 (by simp) fun Q hQ => ?_
  refine Runs.seqE Ty_ok (by decide) fun k' hk' => ?_
  simp [encP]   -- R0
  refine hk' _ _ _ ?_
  refine Runs.seqE Ty_ok (by decide) fun k' hk' => ?_
  simp   -- R1
  refine RunK.callA Ty_ok (szAmbNodeS_ok p left h0 h1 hp) e13 (.cons (.listF (fr := false) (by simp [AmbNode.cells])) (.cons (.v _ _ _) .nil)) (by decide) (by decide) rfl (by simp) ?_
  rintro _ rfl
  simp
  refine hk' _ _ _ ?_
  refine Runs.seq ?_
  refine Runs.seqE Ty_ok (by decide) fun k' hk' => ?_
  simp   -- R2
  refine hk' _ _ _ ?_
  refine Runs.ite rfl (fun hc1 => ?_) (fun hc1 => ?_)   -- t10
  · simp only [decide_eq_true_eq] at hc1
    refine Runs.seqE Ty_ok (by decide) fun k' hk' => ?_
    simp   -- R3
    refine hk' _ _ _ ?_
    exact Runs.ret Tryd.func4 (RetOk.one Tryd.results4) (hQ _ _ _ _ (.v _ _ _) (by rw [if_pos hc1]))
  · simp only [decide_eq_false_iff_not] at hc1
    refine Runs.skip ?_
    refine Runs.seqE Ty_ok (by decide) fun k' hk' => ?_
    simp   -- R4
    refine hk' _ _ _ ?_
    exact Runs.ret Tryd.func4 (RetOk.one Tryd.results4) (hQ _ _ _ _ (.v _ _ _) (by rw [if_neg hc1]))

theorem szNodes_le : ∀ (p : Proc) (left : Int), 0 ≤ szNodes p left → ∀ x ∈ p, (x.name.length : Int) ≤ left
  | [], _, _, x, hx => by simp at hx
  | y :: r, left, h, x, hx => by
    rw [szNodes] at h
    split at h
    · omega
    · rename_i h2
      have h3 : szStr y.name left = left - y.name.length := by
        unfold szStr at h2 ⊢
        split <;> rename_i h4
        · rw [if_pos h4] at h2; omega
        · rfl
      rcases List.mem_cons.1 hx with rfl | hx
      · rw [h3] at h2; omega
      · have := szNodes_le r _ h x hx
        rw [h3] at this
        omega

theorem szProc_le {p : Proc} {left : Int} (h : 0 ≤ szProc p left) : (p.length : Int) ≤ left ∧ ∀ x ∈ p, (x.name.length : Int) ≤ left := by
  unfold szProc at h
  split at h
  · omega
  · exact ⟨by omega, fun x hx => by have := szNodes_le p _ h x hx; omega⟩
end Go.Ab

/- Contracts of laws.toAmbNode, laws.toProcess, laws.eqAmbNode and laws.eqProcess. -/
namespace Go.Ab
open Go.Proofs
set_option linter.unusedSimpArgs false

theorem toAmbNode_ok (x : AmbNode) : PureC Tryd.prog 38 [.agg x.cells] (fun r => r = .agg x.cells) := by
  refine PureC.of Tryd.func38 rfl Tryd.ntmps38 (by simp) fun Q hQ => ?_
  refine Runs.seqE Ty_ok (by decide) fun k' hk' => ?_
  simp [AmbNode.cells]   -- R0
  refine hk' _ _ _ ?_
  refine Runs.seqE Ty_ok (by decide) fun k' hk' => ?_
  simp   -- R1
  refine hk' _ _ _ ?_
  refine Runs.seqE Ty_ok (by decide) fun k' hk' => ?_
  simp   -- R2
  refine hk' _ _ _ ?_
  refine Runs.seqE Ty_ok (by decide) fun k' hk' => ?_
  simp   -- R3
  refine hk' _ _ _ ?_
  refine Runs.seqE Ty_ok (by decide) fun k' hk' => ?_
  simp   -- R4
  refine hk' _ _ _ ?_
  refine Runs.seqE Ty_ok (by decide) fun k' hk' => ?_
  simp   -- R5
  refine hk' _ _ _ ?_
  exact Runs.ret Tryd.func38 (RetOk.cell (cs := x.cells) (v := .agg x.cells) Ty_ok Tryd.results38 Ty_60 (by simp [AmbNode.cells]) (by simp [loadA, AmbNode.cells])) (hQ _ _ _ _ (.of (Ret.fresh (by simp [AmbNode.cells]))) rfl)

theorem toAmbNodeS_ok (p : Proc) (hp : p.length ≤ 1048576) : PureC Tryd.prog 16 [.list false (p.map AmbNode.cells)] (fun r => r = .list true (p.map AmbNode.cells)) := by
  refine PureC.of Tryd.func16 rfl Tryd.ntmps16 (by simp) fun Q hQ => ?_
  refine Runs.seqE Ty_ok (by decide) fun k' hk' => ?_
  simp   -- R0
  refine hk' _ _ _ ?_
  refine Runs.seqE Ty_ok (by decide) fun k' hk' => ?_
  simp [show (p.length : Int) ≤ 1073741824 by omega]   -- R1
  refine hk' _ _ _ ?_
  refine Runs.seq ?_
  refine Runs.seqE Ty_ok (by decide) fun k' hk' => ?_
  simp   -- R2
  refine hk' _ _ _ ?_
  refine Runs.block (Runs.loopUp p.length (fun k ρ H n => ρ 0 = .list false (p.map AmbNode.cells) ∧ ρ 4 = int k ∧ ρ 3 = .arr (0, 7) p.length 0 p.length ∧ H (0, 7) = some ⟨3, part AmbNode.cells (AmbNode.cells ⟨0, [], 0⟩) p k⟩) ?_ ?_)
  · simp [AmbNode.cells, part_zero]
  · rintro k ρ H n hk ⟨h0, h4, h3, hH⟩ IH
    refine Runs.seq ?_
    refine Runs.seqE Ty_ok (by decide) fun k' hk' => ?_
    simp [h0, h4]   -- R3
    refine hk' _ _ _ ?_
    refine Runs.ite rfl (fun hc1 => ?_) (fun hc1 => ?_)   -- t11
    · simp at hc1
      refine Runs.skip ?_
      refine Runs.seq ?_
      refine Runs.block ?_
      refine Runs.evalE Ty_ok (by decide) fun k' hk' => ?_
      simp [h0, h3, h4, hc1, AmbNode.cells]   -- R5
      refine RunK.callA Ty_ok (toAmbNode_ok p[k]) e38 (.cons (ArgOk.node _) .nil) (by decide) (by decide) rfl (by simp [AmbNode.cells]) ?_
      rintro _ rfl
      simp [h3, h4, hH, hc1, part_len hk, part_get hc1, AmbNode.cells]
      refine hk' _ _ _ ?_
      refine Runs.inBlock ?_
      refine Runs.evalE Ty_ok (by decide) fun k' hk' => ?_
      simp [h4, wrap_succ (show k < 4611686018427387904 by omega)]   -- R4
      refine hk' _ _ _ ?_
      refine IH hc1 _ _ _ ?_
      rw [← part_set hc1]
      simp [h0, h3, AmbNode.cells, part_get' hc1]
    · simp at hc1
      have hke : k = p.length := by omega
      subst hke
      rw [part_end] at hH
      refine Runs.exit rfl ?_
      refine Runs.seqE Ty_ok (by decide) fun k' hk' => ?_
      simp [h3]   -- R6
      refine hk' _ _ _ ?_
      exact Runs.ret Tryd.func16 (RetOk.one Tryd.results16) (hQ _ _ _ _ (.of (Ret.arrF (by simp [hH]; rfl) (by simp [AmbNode.cells]))) rfl)

theorem toProcess_ok (p : Proc) (hp : p.length ≤ 1048576) : PureC Tryd.prog 6 [encP false p] (fun r => r = encP true p) := by
  refine PureC.of Tryd.func6 rfl Tryd.ntmps6 (by simp) fun Q hQ => ?_
  refine Runs.seqE Ty_ok (by decide) fun k' hk' => ?_
  simp [encP]   -- R0
  refine hk' _ _ _ ?_
  refine Runs.seqE Ty_ok (by decide) fun k' hk' => ?_
  simp   -- R1
  refine hk' _ _ _ ?_
  refine Runs.seqE Ty_ok (by decide) fun k' hk' => ?_
  simp   -- R2
  refine RunK.callA Ty_ok (toAmbNodeS_ok p hp) e16 (.cons (.listF (fr := false) (by simp [AmbNode.cells])) .nil) (by decide) (by decide) rfl (by simp) ?_
  rintro _ rfl
  simp
  refine hk' _ _ _ ?_
  refine Runs.seqE Ty_ok (by decide) fun k' hk' => ?_
  simp   -- R3
  refine hk' _ _ _ ?_
  exact Runs.ret Tryd.func6 (RetOk.cell (cs := [.list true (p.map AmbNode.cells)]) (v := encP true p) Ty_ok Tryd.results6 Ty_36 (by simp) (by simp [loadA, encP])) (hQ _ _ _ _ (.of (Ret.fresh (by simp [encP, AmbNode.cells]))) rfl)

theorem eqAmbNode_ok (x y : AmbNode) : PureC Tryd.prog 45 [.agg x.cells, .agg y.cells] (fun r => r = bool (decide (x = y))) := by
  obtain ⟨k1, n1, p1⟩ := x
  obtain ⟨k2, n2, p2⟩ := y
  refine PureC.of Tryd.func45 rfl Tryd.ntmps45 (by simp) fun Q hQ => ?_
  refine Runs.seqE Ty_ok (by decide) fun k' hk' => ?_
  simp [AmbNode.cells]   -- R0
  refine hk' _ _ _ ?_
  refine Runs.seq ?_
  refine Runs.seqE Ty_ok (by decide) fun k' hk' => ?_
  simp   -- R1
  refine hk' _ _ _ ?_
  refine Runs.ite rfl (fun hc1 => ?_) (fun hc1 => ?_)   -- t9
  · simp at hc1
    refine Runs.seqE Ty_ok (by decide) fun k' hk' => ?_
    simp   -- R2
    refine hk' _ _ _ ?_
    exact Runs.ret Tryd.func45 (RetOk.one Tryd.results45) (hQ _ _ _ _ (.v _ _ _) (by simp [hc1]))
  · simp at hc1
    refine Runs.skip ?_
    refine Runs.seq ?_
    refine Runs.seqE Ty_ok (by decide) fun k' hk' => ?_
    simp   -- R3
    refine hk' _ _ _ ?_
    refine Runs.ite rfl (fun hc2 => ?_) (fun hc2 => ?_)   -- t14
    · simp at hc2
      refine Runs.seqE Ty_ok (by decide) fun k' hk' => ?_
      simp   -- R4
      refine hk' _ _ _ ?_
      exact Runs.ret Tryd.func45 (RetOk.one Tryd.results45) (hQ _ _ _ _ (.v _ _ _) (by simp [hc2]))
    · simp at hc2
      refine Runs.skip ?_
      refine Runs.seq ?_
      refine Runs.seqE Ty_ok (by decide) fun k' hk' => ?_
      simp   -- R5
      refine hk' _ _ _ ?_
      refine Runs.ite rfl (fun hc3 => ?_) (fun hc3 => ?_)   -- t19
      · simp at hc3
        refine Runs.seqE Ty_ok (by decide) fun k' hk' => ?_
        simp   -- R6
        refine hk' _ _ _ ?_
        exact Runs.ret Tryd.func45 (RetOk.one Tryd.results45) (hQ _ _ _ _ (.v _ _ _) (by simp [hc3]))
      · simp at hc3
        refine Runs.skip ?_
        refine Runs.seqE Ty_ok (by decide) fun k' hk' => ?_
        simp   -- R7
        refine hk' _ _ _ ?_
        exact Runs.ret Tryd.func45 (RetOk.one Tryd.results45) (hQ _ _ _ _ (.v _ _ _) (by simp [hc1, hc2, hc3]))

theorem eqAmbNodeS_ok (p q : Proc) (hp : p.length ≤ 1048576) : PureC Tryd.prog 23 [.list false (p.map AmbNode.cells), .list false (q.map AmbNode.cells)] (fun r => r = bool (decide (p = q))) := by
  refine PureC.of Tryd.func23 rfl Tryd.ntmps23 (by simp) fun Q hQ => ?_
  refine Runs.seqE Ty_ok (by decide) fun k' hk' => ?_
  simp   -- R0
  refine hk' _ _ _ ?_
  refine Runs.seq ?_
  refine Runs.seqE Ty_ok (by decide) fun k' hk' => ?_
  simp   -- R1
  refine hk' _ _ _ ?_
  refine Runs.ite rfl (fun hc1 => ?_) (fun hc1 => ?_)   -- t10
  · simp at hc1
    refine Runs.seqE Ty_ok (by decide) fun k' hk' => ?_
    simp   -- R2
    refine hk' _ _ _ ?_
    refine Runs.ret Tryd.func23 (RetOk.one Tryd.results23) (hQ _ _ _ _ (.v _ _ _) ?_)
    have : p ≠ q := by intro h; subst h; omega
    simp [this]
  · simp at hc1
    have hlen : p.length = q.length := by omega
    refine Runs.skip ?_
    refine Runs.seq ?_
    refine Runs.seqE Ty_ok (by decide) fun k' hk' => ?_
    simp   -- R3
    refine hk' _ _ _ ?_
    refine Runs.block (Runs.loopUp p.length (fun k ρ H n => ρ 0 = .list false (p.map AmbNode.cells) ∧ ρ 1 = .list false (q.map AmbNode.cells) ∧ ρ 5 = int k ∧ p.take k = q.take k) ?_ ?_)
    · simp
    · rintro k ρ H n hk ⟨h0, h1, h5, heq⟩ IH
      refine Runs.seq ?_
      refine Runs.seqE Ty_ok (by decide) fun k' hk' => ?_
      simp [h0, h5]   -- R4
      refine hk' _ _ _ ?_
      refine Runs.ite rfl (fun hc2 => ?_) (fun hc2 => ?_)   -- t14
      · simp at hc2
        have hq2 : k < q.length := by omega
        refine Runs.skip ?_
        refine Runs.seq ?_
        refine Runs.block ?_
        refine Runs.seqD Ty_ok kindOp_ok draws (by decide) (by kernel_rfl) fun k' hk' => ?_
        simp [h0, h1, h5, hc2, hq2, AmbNode.cells]   -- R6
        refine RunDK.callA Ty_ok kindOp_ok (eqAmbNode_ok p[k] q[k]) e45 (.cons (ArgOk.node _) (.cons (ArgOk.node _) .nil)) (by decide) rfl (by simp [AmbNode.cells]) ?_
        simp
        refine hk' _ _ _ ?_
        refine Runs.ite rfl (fun hc3 => ?_) (fun hc3 => ?_)   -- t26
        · simp at hc3
          refine Runs.seqE Ty_ok (by decide) fun k' hk' => ?_
          simp   -- R7
          refine hk' _ _ _ ?_
          refine Runs.ret Tryd.func23 (RetOk.one Tryd.results23) (hQ _ _ _ _ (.v _ _ _) ?_)
          have : p ≠ q := by intro h; subst h; exact hc3 rfl
          simp [this]
        · simp at hc3
          refine Runs.skip ?_
          refine Runs.inBlock ?_
          refine Runs.evalE Ty_ok (by decide) fun k' hk' => ?_
          simp [h5, wrap_succ (show k < 4611686018427387904 by omega)]   -- R5
          refine hk' _ _ _ ?_
          refine IH hc2 _ _ _ ?_
          refine ⟨by simp [h0], by simp [h1], by simp, ?_⟩
          rw [List.take_succ_eq_append_getElem hc2, List.take_succ_eq_append_getElem hq2, heq, hc3]
      · simp at hc2
        refine Runs.exit rfl ?_
        refine Runs.seqE Ty_ok (by decide) fun k' hk' => ?_
        simp   -- R8
        refine hk' _ _ _ ?_
        refine Runs.ret Tryd.func23 (RetOk.one Tryd.results23) (hQ _ _ _ _ (.v _ _ _) ?_)
        rw [List.take_of_length_le hc2, List.take_of_length_le (by omega)] at heq
        simp [heq]

theorem eqProcess_ok (p q : Proc) (hp : p.length ≤ 1048576) : PureC Tryd.prog 9 [encP false p, encP false q] (fun r => r = bool (decide (p = q))) := by
  refine PureC.of Tryd.func9 rfl Tryd.ntmps9 (by simp) fun Q hQ => ?_
  refine Runs.seqE Ty_ok (by decide) fun k' hk' => ?_
  simp [encP]   -- R0
  refine hk' _ _ _ ?_
  refine Runs.seq ?_
  refine Runs.seqE Ty_ok (by decide) fun k' hk' => ?_
  simp   -- R1
  refine RunK.callA Ty_ok (eqAmbNodeS_ok p q hp) e23 (.cons (.listF (fr := false) (by simp [AmbNode.cells])) (.cons (.listF (fr := false) (by simp [AmbNode.cells])) .nil)) (by decide) (by decide) rfl (by simp) ?_
  rintro _ rfl
  simp
  refine hk' _ _ _ ?_
  refine Runs.ite rfl (fun hc1 => ?_) (fun hc1 => ?_)   -- t10
  · simp at hc1
    refine Runs.seqE Ty_ok (by decide) fun k' hk' => ?_
    simp   -- R2
    refine hk' _ _ _ ?_
    exact Runs.ret Tryd.func9 (RetOk.one Tryd.results9) (hQ _ _ _ _ (.v _ _ _) (by simp [hc1]))
  · simp at hc1
    refine Runs.skip ?_
    refine Runs.seqE Ty_ok (by decide) fun k' hk' => ?_
    simp   -- R3
    refine hk' _ _ _ ?_
    exact Runs.ret Tryd.func9 (RetOk.one Tryd.results9) (hQ _ _ _ _ (.v _ _ _) (by simp [hc1]))
end Go.Ab

/- Congruence of processes (statement 9): pure conditions of the functions that sort texts. -/
namespace Go.Ab.Vg
set_option linter.unusedSimpArgs false
set_option linter.unusedVariables false
abbrev kids_pre (p : Proc) (_ : Int) : Prop := p.length ≤ 1048576
abbrev kids (p : Proc) (a : Int) : List Int := idxs p (fun x => decide (x.parent = a)) p.length
-- (impl.Process).kids is not in this seat
abbrev nodeT_pre (x : AmbNode) (s : Str) : Prop := (0 ≤ x.kind ∧ x.kind ≤ 3) ∧ x.name.length ≤ 1073741824 ∧ s.length ≤ 1152921504606846976
abbrev joinT_pre (l : List Str) : Prop := l.length ≤ 1073741824 ∧ (Lib.join l [124]).length ≤ 140737488355328
abbrev sortT (l : List Str) : List Str × Unit := (l.mergeSort fun x y => decide (x ≤ y), ())
theorem kids_in {p : Proc} {a x : Int} (h : x ∈ kids p a) : ∃ i : Nat, x = i ∧ i < p.length ∧ (p.getD i default).parent = a := by
  simp only [kids, idxs, List.mem_map, List.mem_filter, List.mem_range, decide_eq_true_eq] at h
  obtain ⟨i, ⟨h1, h2⟩, rfl⟩ := h
  exact ⟨i, rfl, h1, by simpa [at'] using h2⟩
def sortedT (p : Proc) : Nat → Int → Str
  | 0, _ => []
  | d + 1, a => joinTexts (sortT ((kids p a).map fun x => nodeText (at' p x) (sortedT p d x))).1
theorem sortedT_fuel {p : Proc} (hp : Valid p) : ∀ (d e : Nat) (x : Int), x < p.length → (p.length : Int) - x ≤ d → (p.length : Int) - x ≤ e → sortedT p d x = sortedT p e x
  | 0, _, _, h1, h2, _ => by omega
  | d + 1, 0, _, h1, _, h3 => by omega
  | d + 1, e + 1, x, h1, h2, h3 => by
    simp only [sortedT]
    have : (kids p x).map (fun y => nodeText (at' p y) (sortedT p d y)) = (kids p x).map fun y => nodeText (at' p y) (sortedT p e y) := by
      refine List.map_congr_left fun y hy => ?_
      obtain ⟨i, rfl, hi, hx⟩ := kids_in hy
      have := hp.up i hi
      rw [sortedT_fuel hp d e i (by omega) (by omega) (by omega)]
    rw [this]
theorem sortedT_len {p : Proc} (hp : Valid p) : ∀ (d : Nat) (a : Int), (sortedT p d a).length + 15 ≤ 16 * 8 ^ d
  | 0, _ => by simp [sortedT]
  | d + 1, a => by
    simp only [sortedT]
    unfold joinTexts
    have h8 : 8 ^ (d + 1) = 8 * 8 ^ d := by rw [Nat.pow_succ, Nat.mul_comm]
    have h1 : 0 < 8 ^ d := Nat.pos_of_ne_zero (by simp)
    split
    · simp; omega
    · have := join_len (sortT ((kids p a).map fun x => nodeText (at' p x) (sortedT p d x))).1 [124] (16 * 8 ^ d - 15 + 12) (fun s hs => by
        simp only [sortT, List.mem_mergeSort, List.mem_map] at hs
        obtain ⟨k, hk, rfl⟩ := hs
        obtain ⟨i, rfl, hi, hx⟩ := kids_in hk
        have h1 := nodeText_len (at' p i) (sortedT p d i) (by simpa [at'] using hp.name i hi)
        have h2 := sortedT_len hp d i
        omega)
      have hl : (kids p a).length ≤ p.length := idxs_len _ _ _
      have h9 := hp.len
      simp only [sortT, List.length_mergeSort, List.length_map, List.length_singleton] at this ⊢
      have hm : (kids p a).length * (16 * 8 ^ d - 15 + 12 + 1) ≤ 8 * (16 * 8 ^ d - 15 + 12 + 1) := Nat.mul_le_mul_right _ (by omega)
      omega
abbrev sortedIn_pre (p : Proc) (a : Int) : Prop := Valid p ∧ -1 ≤ a ∧ a < p.length
abbrev sortedIn_ms (p : Proc) (a : Int) : Nat := ((p.length : Int) - a).toNat
abbrev sortedIn (p : Proc) (a : Int) : Str := sortedT p ((p.length : Int) - a).toNat a
-- (impl.Process).sortedIn is not in this seat
abbrev l12Kids_pre (p : Proc) (_ : Int) : Prop := p.length ≤ 1048576
abbrev l12Kids (p : Proc) (a : Int) : List Int := kids p a
-- spec.l12Kids is not in this seat
abbrev procHuge (p : Proc) : Prop := p.length ≤ 1048576 ∧ ∀ i, i < p.length → (p.getD i default).name.length ≤ 4294967296
abbrev AreCongruent_pre (p q : Proc) : Prop := procHuge p ∧ procHuge q
abbrev AreCongruent (p q : Proc) : Bool × Bool := if goodP p && goodP q then (decide (sortedIn p (-1) = sortedIn q (-1)), true) else (false, false)
-- impl.AreCongruent is not in this seat
theorem sortedIn_top {p : Proc} (h : goodP p = true) : sortedIn_pre p (-1) := ⟨goodP_valid h, by omega, by omega⟩
def ins (s : Str) (l : List Str) : List Str := l.takeWhile (fun x => decide (x ≤ s)) ++ s :: l.dropWhile (fun x => decide (x ≤ s))
theorem ins_perm (s : Str) (l : List Str) : (ins s l).Perm (s :: l) := by
  have h := List.takeWhile_append_dropWhile (p := fun x => decide (x ≤ s)) (l := l)
  unfold ins
  exact List.perm_middle.trans (by rw [h])
theorem str_total (a b : Str) : a ≤ b ∨ b ≤ a := List.le_total a b
theorem ins_sorted (s : Str) : ∀ {l : List Str}, l.Pairwise (· ≤ ·) → (ins s l).Pairwise (· ≤ ·)
  | [], _ => by simp [ins]
  | a :: l, h => by
    obtain ⟨h1, h2⟩ := List.pairwise_cons.1 h
    by_cases ha : a ≤ s
    · have : ins s (a :: l) = a :: ins s l := by simp [ins, ha]
      rw [this]
      refine List.pairwise_cons.2 ⟨fun b hb => ?_, ins_sorted s h2⟩
      rcases List.mem_cons.1 ((ins_perm s l).mem_iff.1 hb) with rfl | hb
      · exact ha
      · exact h1 b hb
    · have : ins s (a :: l) = s :: a :: l := by simp [ins, ha]
      rw [this]
      have hsa : s ≤ a := (str_total a s).resolve_left ha
      refine List.pairwise_cons.2 ⟨fun b hb => ?_, h⟩
      rcases List.mem_cons.1 hb with rfl | hb
      · exact hsa
      · exact List.le_trans hsa (h1 b hb)
theorem foldl_ins (g : Int → Str) : ∀ (l : List Int) (out : List Str), out.Pairwise (· ≤ ·) → (l.foldl (fun out x => ins (g x) out) out).Pairwise (· ≤ ·) ∧ (l.foldl (fun out x => ins (g x) out) out).Perm (out ++ l.map g)
  | [], out, h => by simp [h]
  | x :: l, out, h => by
    obtain ⟨h1, h2⟩ := foldl_ins g l (ins (g x) out) (ins_sorted _ h)
    refine ⟨h1, h2.trans ?_⟩
    rw [List.map_cons]
    exact ((ins_perm (g x) out).append_right _).trans List.perm_middle.symm
theorem foldl_sort (g : Int → Str) (l : List Int) : l.foldl (fun out x => ins (g x) out) [] = (l.map g).mergeSort fun x y => decide (x ≤ y) := by
  obtain ⟨h1, h2⟩ := foldl_ins g l [] List.Pairwise.nil
  have h3 : ((l.map g).mergeSort fun x y => decide (x ≤ y)).Pairwise (· ≤ ·) := by
    have := List.pairwise_mergeSort (le := fun x y : Str => decide (x ≤ y)) (fun a b c h1 h2 => by simp only [decide_eq_true_eq] at *; exact List.le_trans h1 h2) (fun a b => by simpa using str_total a b) (l.map g)
    simpa using this
  exact (h2.trans (List.mergeSort_perm _ _).symm).eq_of_pairwise (fun a b _ _ h h' => List.le_antisymm h h') h1 h3
def bestT (p : Proc) : Nat → Int → Str
  | 0, _ => []
  | d + 1, a => joinTexts ((kids p a).foldl (fun out x => ins (nodeText (at' p x) (bestT p d x)) out) [])
theorem bestT_eq (p : Proc) : ∀ (d : Nat) (a : Int), bestT p d a = sortedT p d a
  | 0, _ => rfl
  | d + 1, a => by
    simp only [bestT, sortedT, sortT]
    rw [foldl_sort (fun x => nodeText (at' p x) (bestT p d x))]
    simp only [bestT_eq p d]
abbrev l12Best (p : Proc) (a : Int) : Str := bestT p ((p.length : Int) - a).toNat a
end Go.Ab.Vg

/- Marks on processes: what the laws' own functions on processes do. -/
namespace Go.Ab.Vg
set_option linter.unusedSimpArgs false
set_option linter.unusedVariables false
abbrev markAmbS (l : List AmbNode) (k : Int) := markL (fun _ k => (⟨k, markTxt (k + 1), k + 1 + 1⟩ : AmbNode)) 3 l k
abbrev markAmbS_pre (l : List AmbNode) (k : Int) : Prop := MarkOk 3 l.length k
def markAmbS_wp (a : List AmbNode) (k_ : Int) (Z : ((List AmbNode) × Int) → Prop) : Prop :=
  loopW (σ := Int × Int × (List AmbNode)) (fun (k10, i11, l12) K15 => ∀ len16 : Int, len16 = (l12.length : Int) → ∀ c18 : Bool, c18 = decide (i11 < len16) → ((c18 = true → (0 ≤ i11 ∧ i11 < l12.length) ∧ ∀ x25 : AmbNode, x25 = at' l12 i11 → ∀ l28 : List AmbNode, l28 = l12.set i11.toNat (AmbNode.mk k10 x25.name x25.parent) → (I64 (k10 + 1)) ∧ ∀ v34 : Int, v34 = k10 + 1 → (markTxt_pre v34) ∧ ∀ r37 : Str, r37 = markTxt v34 → (0 ≤ i11 ∧ i11 < l28.length) ∧ ∀ x44 : AmbNode, x44 = at' l28 i11 → ∀ l47 : List AmbNode, l47 = l28.set i11.toNat (AmbNode.mk x44.kind r37 x44.parent) → (I64 (v34 + 1)) ∧ ∀ v53 : Int, v53 = v34 + 1 → (0 ≤ i11 ∧ i11 < l47.length) ∧ ∀ x61 : AmbNode, x61 = at' l47 i11 → ∀ l64 : List AmbNode, l64 = l47.set i11.toNat (AmbNode.mk x61.kind x61.name v53) → (I64 (v53 + 1)) ∧ ∀ v70 : Int, v70 = v53 + 1 → (I64 (i11 + 1)) ∧ ∀ v73 : Int, v73 = i11 + 1 → K15 (v70, v73, l64)) ∧ (c18 = false → Z (l12, k10)))) (k_, 0, a)
theorem markAmbS_vc (l : List AmbNode) (k : Int) (h : markAmbS_pre l k) : markAmbS_wp l k (fun y => y = markAmbS l k) := by
  unfold markAmbS_wp
  obtain ⟨h1, h2, h3⟩ := h
  refine loopW.up l.length (fun s => s.2.1) (fun i t => (k + 3 * i, (i : Int), t)) (fun _ _ => rfl) (fun i out => out = markPre (fun _ k => (⟨k, markTxt (k + 1), k + 1 + 1⟩ : AmbNode)) 3 l k i) l (by simp) (markPre_zero _ _ _ _).symm ?_
  rintro i out K hk rfl IH
  have hl := markPre_len (fun _ k => (⟨k, markTxt (k + 1), k + 1 + 1⟩ : AmbNode)) 3 l k i
  simp only [forall_eq, decide_eq_true_eq, decide_eq_false_iff_not, I64, Int.toNat_natCast, List.length_set]
  refine ⟨fun h4 => ⟨by omega, by omega, by simp only [markTxt_pre]; omega, by omega, by omega, by omega, by omega, by omega, ?_⟩, fun h4 => ?_⟩
  · have hi : i < l.length := by omega
    rw [at_set (by rw [hl]; exact hi), List.set_set, at_set (by simp only [List.length_set, hl]; exact hi), List.set_set]
    have := IH hi _ rfl
    rw [← markPre_set _ _ _ _ hi] at this
    rw [show k + 3 * (((i + 1 : Nat)) : Int) = k + 3 * i + 1 + 1 + 1 by omega] at this
    simpa using this
  · rw [show i = l.length by omega]
    rfl
abbrev markProcess (p : Proc) (k : Int) : Proc × Int := markAmbS p k
abbrev markProcess_pre (p : Proc) (k : Int) : Prop := MarkOk 3 p.length k
def markProcess_wp (a : Proc) (k_ : Int) (Z : (Proc × Int) → Prop) : Prop :=
  (markAmbS_pre a k_) ∧ ∀ r7 : (List AmbNode) × Int, r7 = markAmbS a k_ → Z (r7.1, r7.2)
theorem markProcess_vc (p : Proc) (k : Int) (h : markProcess_pre p k) : markProcess_wp p k (fun y => y = markProcess p k) := by
  unfold markProcess_wp
  exact ⟨h, by rintro _ rfl; rfl⟩
def heldAmbS (l : List AmbNode) (k : Int) : Int := if (List.range l.length).all (fun i => decide ((at' l (i : Int)).kind = k + 3 * i ∧ (at' l (i : Int)).name = markTxt (k + 3 * i + 1) ∧ (at' l (i : Int)).parent = k + 3 * i + 1 + 1)) then k + 3 * l.length else -1
abbrev heldAmbS_pre (l : List AmbNode) (k : Int) : Prop := MarkOk 3 l.length k
-- laws.heldAmbNodeS is not in this seat
theorem heldAmb_mark (l : List AmbNode) (k : Int) : heldAmbS (markAmbS l k).1 k = (markAmbS l k).2 := by
  have hl : (markAmbS l k).1.length = l.length := marked_len _ _ _ _
  rw [heldAmbS, if_pos, hl]
  · rfl
  · rw [List.all_eq_true]
    intro j hj
    have hj := List.mem_range.1 hj
    rw [at_lt hj]
    rw [hl] at hj
    simp [markAmbS, markL, markPre, hj]
def heldProcess (p : Proc) (k : Int) : Int := if heldAmbS p k < 0 then -1 else heldAmbS p k
abbrev heldProcess_pre (p : Proc) (k : Int) : Prop := MarkOk 3 p.length k
-- laws.heldProcess is not in this seat
theorem heldP_mark (p : Proc) (k : Int) (hk : 0 ≤ k) : heldProcess (markProcess p k).1 k = (markProcess p k).2 := by
  rw [heldProcess, heldAmb_mark, if_neg]
  simp only [markL]
  omega
abbrev toAmbNode (a : AmbNode) := a
def toAmbNode_wp (a : AmbNode) (Z : AmbNode → Prop) : Prop :=
  Z a
theorem toAmbNode_vc (a : AmbNode) : toAmbNode_wp a (fun y => y = toAmbNode a) := rfl
abbrev toAmbNodeS (a : List AmbNode) := a
abbrev toAmbNodeS_pre (a : List AmbNode) : Prop := a.length ≤ 1048576
def toAmbNodeS_wp (a : List AmbNode) (Z : (List AmbNode) → Prop) : Prop :=
  ∀ len2 : Int, len2 = (a.length : Int) → (0 ≤ len2 ∧ len2 ≤ 1073741824) ∧ ∀ l5 : List AmbNode, l5 = List.replicate len2.toNat default → loopW (σ := Int × (List AmbNode)) (fun (i16, l17) K21 => ∀ len22 : Int, len22 = (a.length : Int) → ∀ c24 : Bool, c24 = decide (i16 < len22) → ((c24 = true → (0 ≤ i16 ∧ i16 < a.length) ∧ ∀ x27 : AmbNode, x27 = at' a i16 → ∀ r29 : AmbNode, r29 = toAmbNode x27 → (0 ≤ i16 ∧ i16 < l17.length) ∧ ∀ x35 : AmbNode, x35 = at' l17 i16 → ∀ l38 : List AmbNode, l38 = l17.set i16.toNat r29 → (I64 (i16 + 1)) ∧ ∀ v45 : Int, v45 = i16 + 1 → K21 (v45, l38)) ∧ (c24 = false → Z l17))) (0, l5)
theorem toAmbNodeS_vc (a : List AmbNode) (h : toAmbNodeS_pre a) : toAmbNodeS_wp a (fun y => y = toAmbNodeS a) := by
  unfold toAmbNodeS_wp
  simp only [toAmbNodeS_pre] at h
  simp only [forall_eq, Int.toNat_natCast]
  refine ⟨by omega, loopW.upL a.length (fun k out => out = filled a k) _ (filled_zero a).symm ?_⟩
  rintro k out K hk rfl IH
  have hl := filled_len hk
  simp only [decide_eq_true_eq, decide_eq_false_iff_not, I64, Int.toNat_natCast]
  refine ⟨fun h1 => ⟨by omega, by omega, by omega, IH (by omega) _ (filled_set (by omega))⟩, fun h1 => ?_⟩
  rw [show k = a.length by omega]
  exact filled_end a
abbrev toProcess (p : Proc) : Proc := p
abbrev toProcess_pre (p : Proc) : Prop := p.length ≤ 1048576
def toProcess_wp (a : Proc) (Z : Proc → Prop) : Prop :=
  (toAmbNodeS_pre a) ∧ ∀ r8 : List AmbNode, r8 = toAmbNodeS a → Z r8
theorem toProcess_vc (p : Proc) (h : toProcess_pre p) : toProcess_wp p (fun y => y = toProcess p) := by
  unfold toProcess_wp
  exact ⟨h, by rintro _ rfl; rfl⟩
end Go.Ab.Vg

/- Contracts of impl.isLink, impl.isParent, impl.isNode and of their like in the reference. -/
namespace Go.Ab
open Go.Proofs
set_option linter.unusedSimpArgs false
def isNodeB (b : Big) (x : Int) : Bool := within x 0 ((b.nodes.length : Int) - 1)

/-- The nodes below a number have controls. -/
def CtlOk (sig : Sig) (b : Big) (below : Nat) : Prop := ∀ i, i < below → 0 ≤ (b.nodes.getD i default).control ∧ (b.nodes.getD i default).control < sig.length

end Go.Ab

/- Contracts of impl.areNames and spec.l2Names. -/
namespace Go.Ab
open Go.Proofs
set_option linter.unusedSimpArgs false
theorem less_not : ∀ (s p : Str), (Op.bytesLess s p || s == p) = !Op.bytesLess p s
  | [], [] => by simp [Op.bytesLess]
  | [], _ :: _ => by simp [Op.bytesLess]
  | _ :: _, [] => by simp [Op.bytesLess]
  | a :: x, b :: y => by
    have ih := less_not x y
    simp only [Op.bytesLess]
    rcases Nat.lt_trichotomy a.toNat b.toNat with h | h | h
    · have h1 : a < b := h
      have h2 : ¬ b < a := fun h' => by have h' : b.toNat < a.toNat := h'; omega
      have h3 : (b == a) = false := by
        rw [beq_eq_false_iff_ne]
        rintro rfl
        omega
      simp [h1, h2, h3]
    · have h0 : a = b := UInt8.toNat_inj.1 h
      subst h0
      have h2 : ¬ a < a := fun h' => by have h' : a.toNat < a.toNat := h'; omega
      simp [h2]
      rw [← ih]
      try (cases Op.bytesLess x y <;> simp)
      try (by_cases hxy : x = y <;> simp [hxy])
    · have h1 : b < a := h
      have h2 : ¬ a < b := fun h' => by have h' : a.toNat < b.toNat := h'; omega
      have h3 : (a == b) = false := by
        rw [beq_eq_false_iff_ne]
        rintro rfl
        omega
      have h4 : ¬ a = b := by simpa using h3
      simp [h1, h2, h4]

theorem all_range_bad {n k : Nat} {q : Nat → Bool} (hk : k < n) (h : q k = false) : (List.range n).all q = false := by
  rw [List.all_eq_false]
  exact ⟨k, by simpa using hk, by simp [h]⟩
theorem all_range_end {n : Nat} {q : Nat → Bool} (h : ∀ i, i < n → q i = true) : (List.range n).all q = true := by
  simpa [List.all_eq_true] using h

def okName (l : List Str) (i : Nat) : Bool := isNm (l.getD i []) && ascends l i
theorem goodNames_eq (l : List Str) : goodNames l = (decide (l.length ≤ 16) && (List.range l.length).all (okName l)) := rfl

end Go.Ab

/- Contracts of spec.l2Names, impl.innerNames and spec.l2Inner. -/
namespace Go.Ab
open Go.Proofs
set_option linter.unusedSimpArgs false
def names (b : Big) : List Str := b.inner.map (·.name)

end Go.Ab

/- Contracts of slices.IndexFunc and slices.ContainsFunc at three types. By program. -/
namespace Go.Ab
open Go.Proofs
set_option linter.unusedSimpArgs false

def idxF {α : Type} (l : List α) (p : α → Bool) : Int := if l.findIdx p < l.length then (l.findIdx p : Int) else -1
theorem idxF_at {α : Type} {l : List α} {p : α → Bool} {k : Nat} (hk : k < l.length) (h : p l[k] = true) (hno : ∀ i (h : i < l.length), i < k → p l[i] = false) : idxF l p = k := by
  have : l.findIdx p = k := (List.findIdx_eq hk).2 ⟨h, fun j hj => hno j (by omega) hj⟩
  rw [idxF, this, if_pos hk]
theorem idxF_no {α : Type} {l : List α} {p : α → Bool} (hno : ∀ i (h : i < l.length), p l[i] = false) : idxF l p = -1 := by
  have : l.findIdx p = l.length := List.findIdx_eq_length.2 fun x hx => by
    obtain ⟨i, hi, rfl⟩ := List.getElem_of_mem hx
    exact hno i hi
  rw [idxF, this, if_neg (Nat.lt_irrefl _)]
theorem idxF_any {α : Type} (l : List α) (p : α → Bool) : decide (0 ≤ idxF l p) = l.any p := by
  unfold idxF
  cases h : l.any p
  · have : l.findIdx p = l.length := List.findIdx_eq_length.2 fun x hx => by
      rw [List.any_eq_false] at h
      simpa using h x hx
    rw [if_neg (by omega)]
    simp
  · have : l.findIdx p < l.length := by
      rw [List.findIdx_lt_length]
      simpa [List.any_eq_true] using h
    rw [if_pos this]
    simp

end Go.Ab

/- Contracts of impl.IsSignature and spec.l2Sig. -/
namespace Go.Ab
open Go.Proofs
set_option linter.unusedSimpArgs false
def okCtl (sig : Sig) (i : Nat) : Bool := okControl (sig.getD i default) && newName sig i
theorem goodSig_eq (sig : Sig) : goodSig sig = (within sig.length 1 6 && (List.range sig.length).all (okCtl sig)) := rfl

end Go.Ab

/- Contract of spec.l2Sig. -/
namespace Go.Ab
open Go.Proofs
set_option linter.unusedSimpArgs false

theorem newName_at {sig : Sig} {i j : Nat} (hi : i < sig.length) (hj : j < i) (h : sig[j].name = sig[i].name) : newName sig i = false := by
  have hg : sig.getD i default = sig[i] := by simp [hi]
  have : (sig.take i).any (fun d => d.name == sig[i].name) = true := by
    rw [List.any_eq_true]
    refine ⟨sig[j], ?_, by simpa using h⟩
    rw [List.mem_take_iff_getElem]
    exact ⟨j, by omega, rfl⟩
  rw [newName, hg, this]
  rfl
theorem newName_end {sig : Sig} {i : Nat} (hi : i < sig.length) (h : ∀ j (hj : j < sig.length), j < i → ¬ sig[j].name = sig[i].name) : newName sig i = true := by
  have hg : sig.getD i default = sig[i] := by simp [hi]
  have : (sig.take i).any (fun d => d.name == sig[i].name) = false := by
    rw [List.any_eq_false]
    intro d hd
    rw [List.mem_take_iff_getElem] at hd
    obtain ⟨j, hj, rfl⟩ := hd
    have := h j (by omega) (by omega)
    simpa using this
  rw [newName, hg, this]
  rfl

end Go.Ab

/- Contract of impl.IsBigraph. -/
namespace Go.Ab
open Go.Proofs
set_option linter.unusedSimpArgs false
/-- Bounds that the laws' own sizes give. -/
structure SmallB (sig : Sig) (b : Big) : Prop where
  sigLen : sig.length ≤ 1048576
  sigNames : ∀ c ∈ sig, c.name.length ≤ 1048576
  nodesLen : b.nodes.length ≤ 1048576
  sitesLen : b.sites.length ≤ 1048576
  outerLen : b.outer.length ≤ 1048576
  innerLen : b.inner.length ≤ 1048576
  outerNames : ∀ s ∈ b.outer, s.length ≤ 1048576
  innerNames : ∀ w ∈ b.inner, w.name.length ≤ 1048576
  linksLen : ∀ x ∈ b.nodes, x.links.length ≤ 1048576
  parents : ∀ x ∈ b.nodes, I64 x.parent
  sites64 : ∀ p ∈ b.sites, I64 p

theorem ctl_step {sig : Sig} {b : Big} {k : Nat} (h : okNodeB sig b k = true) (hk : CtlOk sig b k) : CtlOk sig b (k + 1) := by
  intro i hi
  rcases Nat.lt_or_ge i k with h1 | h1
  · exact hk i h1
  · have : i = k := by omega
    subst this
    simp only [okNodeB, within, Bool.and_eq_true, decide_eq_true_eq] at h
    omega

/-- What stands ahead of the nodes. -/
def goodPre (sig : Sig) (b : Big) : Bool :=
  goodSig sig && within b.roots 0 4 && decide (b.nodes.length ≤ 8) && decide (b.sites.length ≤ 4) && within b.edges 0 8 && goodNames b.outer && goodNames (names b)
theorem goodB_eq (sig : Sig) (b : Big) : goodB sig b = (goodPre sig b && (List.range b.nodes.length).all (okNodeB sig b) && b.sites.all (fun p => okParent sig b p b.nodes.length) && b.inner.all (fun w => okLink b w.link)) := rfl

theorem any_not {α : Type} (l : List α) (p : α → Bool) : (l.any fun x => !p x) = !l.all p := by
  induction l with
  | nil => rfl
  | cons a l ih => simp [ih]

end Go.Ab

/- Contracts of spec.l2Node and spec.l2Good. -/
namespace Go.Ab
open Go.Proofs
set_option linter.unusedSimpArgs false
theorem all_bad {α : Type} {l : List α} {p : α → Bool} {k : Nat} (hk : k < l.length) (h : p l[k] = false) : l.all p = false := by
  rw [List.all_eq_false]
  exact ⟨l[k], List.getElem_mem hk, by simp [h]⟩
theorem all_end {α : Type} {l : List α} {p : α → Bool} (h : ∀ i (hi : i < l.length), p l[i] = true) : l.all p = true := by
  rw [List.all_eq_true]
  intro x hx
  obtain ⟨i, hi, rfl⟩ := List.getElem_of_mem hx
  exact h i hi

end Go.Ab

/- Contract of spec.l2Good. -/
namespace Go.Ab
open Go.Proofs
set_option linter.unusedSimpArgs false

theorem ctl_all {sig : Sig} {b : Big} {k : Nat} (h : ∀ i, i < k → okNodeB sig b i = true) : CtlOk sig b k := by
  induction k with
  | zero => intro i hi; omega
  | succ k ih => exact ctl_step (h k (by omega)) (ih fun i hi => h i (by omega))

def pre1 (sig : Sig) (b : Big) : Bool := goodSig sig && within b.roots 0 4 && decide (b.nodes.length ≤ 8) && decide (b.sites.length ≤ 4) && within b.edges 0 8
def pre2 (b : Big) : Bool := goodNames b.outer && goodNames (names b)
theorem goodPre_eq (sig : Sig) (b : Big) : goodPre sig b = (pre1 sig b && pre2 b) := by
  simp only [goodPre, pre1, pre2, Bool.and_assoc]

end Go.Ab

/- Contracts of impl.ancestorsOf, spec.l2Above, slices.Index, slices.Contains and spec.l1Has. -/
namespace Go.Ab
open Go.Proofs
set_option linter.unusedSimpArgs false
def parentB (b : Big) (i : Nat) : Int := (b.nodes.getD i default).parent
def aboveF (b : Big) : Nat → Int → List Int
  | 0, _ => []
  | d + 1, node => if node < 0 then [] else parentB b node.toNat :: aboveF b d (parentB b node.toNat)
def above (b : Big) (node : Int) : List Int := aboveF b (b.nodes.length + 1) node
/-- Parents come first. -/
def Down (b : Big) : Prop := b.nodes.length ≤ 8 ∧ ∀ i, i < b.nodes.length → parentB b i < i

theorem goodB_down {sig : Sig} {b : Big} (h : goodB sig b = true) : Down b := by
  rw [goodB_eq] at h
  simp only [goodPre, Bool.and_eq_true, List.all_eq_true, List.mem_range, decide_eq_true_eq] at h
  obtain ⟨⟨⟨hp, hn⟩, _⟩, _⟩ := h
  refine ⟨by have := hp.1.1.1.1.2; exact this, fun i hi => ?_⟩
  have := hn i hi
  simp only [okNodeB, okParent, Bool.and_eq_true] at this
  have h2 := this.1.1.2
  unfold parentB
  split at h2
  · omega
  · simp only [Bool.and_eq_true, decide_eq_true_eq] at h2
    exact h2.1

theorem aboveF_len (b : Big) : ∀ d node, (aboveF b d node).length ≤ d
  | 0, _ => by simp [aboveF]
  | d + 1, node => by
    rw [aboveF]
    split
    · simp
    · have := aboveF_len b d (parentB b node.toNat)
      simp
      omega

end Go.Ab

/- Contracts of impl.CommonPlace and spec.CommonPlace. -/
namespace Go.Ab
open Go.Proofs
set_option linter.unusedSimpArgs false
def meets (b : Big) (y : Int) (p : Int) : Bool := (above b y).any fun q => p == q
def common (b : Big) (x y : Int) : Int × Bool := match (above b x).find? (meets b y) with
  | some p => (p, true)
  | none => (0, false)
def commonPlace (sig : Sig) (b : Big) (x y : Int) : Int × Bool := if goodB sig b && isNodeB b x && isNodeB b y then common b x y else (0, false)

theorem find_at {α : Type} {p : α → Bool} : ∀ {l : List α} {k : Nat} (hk : k < l.length), p l[k] = true → (∀ i (h : i < l.length), i < k → p l[i] = false) → l.find? p = some l[k]
  | [], _, hk, _, _ => by simp at hk
  | a :: l, 0, _, h, _ => by
    have h : p a = true := h
    simp [List.find?_cons, h]
  | a :: l, k + 1, hk, h, hno => by
    have h0 : p a = false := hno 0 (by simp) (by omega)
    have := find_at (l := l) (k := k) (by simpa using hk) (by simpa using h) fun i hi hik => hno (i + 1) (by simp; omega) (by omega)
    simp [List.find?_cons, h0, this]
theorem find_no {α : Type} {p : α → Bool} {l : List α} (hno : ∀ i (h : i < l.length), p l[i] = false) : l.find? p = none := by
  rw [List.find?_eq_none]
  intro x hx
  obtain ⟨i, hi, rfl⟩ := List.getElem_of_mem hx
  simp [hno i hi]

theorem above_len (b : Big) (x : Int) (h : b.nodes.length ≤ 8) : (above b x).length ≤ 1048576 := by
  have := aboveF_len b (b.nodes.length + 1) x
  unfold above
  omega

end Go.Ab

/- Contracts of the laws' eq.. functions of bigraphs. By program. -/
namespace Go.Ab
open Go.Proofs
set_option linter.unusedSimpArgs false
theorem ArgOk.nodeB {H : Heap} {n : Nat} (t : Bool) (x : GNode) : ArgOk H n (.agg (x.cells t)) (.agg (x.cells false)) := ArgOk.imm' (.agg _ (imm_node t x)) (by rw [old_agg, old_node])
theorem ArgOk.wireB {H : Heap} {n : Nat} (x : Wire) : ArgOk H n (.agg x.cells) (.agg x.cells) := ArgOk.aggF (by simp [Wire.cells])
theorem ArgOk.ctlB {H : Heap} {n : Nat} (x : Control) : ArgOk H n (.agg x.cells) (.agg x.cells) := ArgOk.aggF (by simp [Control.cells])

theorem e20 : Ent Tryd.prog 20 := Ent.of Tryd.func20 (by kernel_rfl) rfl
theorem eqIntS_ok (p q : List (Int)) (hp : p.length ≤ 1048576) : PureC Tryd.prog 20 [.list false (p.map intC), .list false (q.map intC)] (fun r => r = bool (decide (p = q))) := by
  refine PureC.of Tryd.func20 rfl Tryd.ntmps20 (by simp) fun Q hQ => ?_
  refine Runs.seqE Ty_ok (by decide) fun k' hk' => ?_
  simp   -- R0
  refine hk' _ _ _ ?_
  refine Runs.seq ?_
  refine Runs.seqE Ty_ok (by decide) fun k' hk' => ?_
  simp   -- R1
  refine hk' _ _ _ ?_
  refine Runs.ite rfl (fun hc1 => ?_) (fun hc1 => ?_)
  · simp at hc1
    refine Runs.seqE Ty_ok (by decide) fun k' hk' => ?_
    simp   -- R2
    refine hk' _ _ _ ?_
    refine Runs.ret Tryd.func20 (RetOk.one Tryd.results20) (hQ _ _ _ _ (.v _ _ _) ?_)
    have : p ≠ q := by intro h; subst h; omega
    simp [this]
  · simp at hc1
    have hlen : p.length = q.length := by omega
    refine Runs.skip ?_
    refine Runs.seq ?_
    refine Runs.seqE Ty_ok (by decide) fun k' hk' => ?_
    simp   -- R3
    refine hk' _ _ _ ?_
    refine Runs.block (Runs.loopUp p.length (fun k ρ H n => ρ 0 = .list false (p.map intC) ∧ ρ 1 = .list false (q.map intC) ∧ ρ 5 = int k ∧ p.take k = q.take k) ?_ ?_)
    · simp
    · rintro k ρ H n hk ⟨h0, h1, h5, heq⟩ IH
      refine Runs.seq ?_
      refine Runs.seqE Ty_ok (by decide) fun k' hk' => ?_
      simp [h0, h5]   -- R4
      refine hk' _ _ _ ?_
      refine Runs.ite rfl (fun hc2 => ?_) (fun hc2 => ?_)
      · simp at hc2
        have hq2 : k < q.length := by omega
        refine Runs.skip ?_
        refine Runs.seq ?_
        refine Runs.block ?_
        refine Runs.seqD Ty_ok kindOp_ok draws (by decide) (by kernel_rfl) fun k' hk' => ?_
        simp [h0, h1, h5, hc2, hq2, intC]   -- R6
        refine hk' _ _ _ ?_
        refine Runs.ite rfl (fun hc3 => ?_) (fun hc3 => ?_)
        · simp at hc3
          refine Runs.seqE Ty_ok (by decide) fun k' hk' => ?_
          simp   -- R7
          refine hk' _ _ _ ?_
          refine Runs.ret Tryd.func20 (RetOk.one Tryd.results20) (hQ _ _ _ _ (.v _ _ _) ?_)
          have : p ≠ q := by intro h; subst h; exact hc3 rfl
          simp [this]
        · simp at hc3
          refine Runs.skip ?_
          refine Runs.inBlock ?_
          refine Runs.evalE Ty_ok (by decide) fun k' hk' => ?_
          simp [h5, wrap_succ (show k < 4611686018427387904 by omega)]   -- R5
          refine hk' _ _ _ ?_
          refine IH hc2 _ _ _ ?_
          refine ⟨by simp [h0, intC], by simp [h1, intC], by simp, ?_⟩
          rw [List.take_succ_eq_append_getElem hc2, List.take_succ_eq_append_getElem hq2, heq, hc3]
      · simp at hc2
        refine Runs.exit rfl ?_
        refine Runs.seqE Ty_ok (by decide) fun k' hk' => ?_
        simp   -- R8
        refine hk' _ _ _ ?_
        refine Runs.ret Tryd.func20 (RetOk.one Tryd.results20) (hQ _ _ _ _ (.v _ _ _) ?_)
        rw [List.take_of_length_le hc2, List.take_of_length_le (by omega)] at heq
        simp [heq]

theorem e21 : Ent Tryd.prog 21 := Ent.of Tryd.func21 (by kernel_rfl) rfl
theorem eqStringS_ok (p q : List (Str)) (hp : p.length ≤ 1048576) : PureC Tryd.prog 21 [.list false (p.map strC), .list false (q.map strC)] (fun r => r = bool (decide (p = q))) := by
  refine PureC.of Tryd.func21 rfl Tryd.ntmps21 (by simp) fun Q hQ => ?_
  refine Runs.seqE Ty_ok (by decide) fun k' hk' => ?_
  simp   -- R0
  refine hk' _ _ _ ?_
  refine Runs.seq ?_
  refine Runs.seqE Ty_ok (by decide) fun k' hk' => ?_
  simp   -- R1
  refine hk' _ _ _ ?_
  refine Runs.ite rfl (fun hc1 => ?_) (fun hc1 => ?_)
  · simp at hc1
    refine Runs.seqE Ty_ok (by decide) fun k' hk' => ?_
    simp   -- R2
    refine hk' _ _ _ ?_
    refine Runs.ret Tryd.func21 (RetOk.one Tryd.results21) (hQ _ _ _ _ (.v _ _ _) ?_)
    have : p ≠ q := by intro h; subst h; omega
    simp [this]
  · simp at hc1
    have hlen : p.length = q.length := by omega
    refine Runs.skip ?_
    refine Runs.seq ?_
    refine Runs.seqE Ty_ok (by decide) fun k' hk' => ?_
    simp   -- R3
    refine hk' _ _ _ ?_
    refine Runs.block (Runs.loopUp p.length (fun k ρ H n => ρ 0 = .list false (p.map strC) ∧ ρ 1 = .list false (q.map strC) ∧ ρ 5 = int k ∧ p.take k = q.take k) ?_ ?_)
    · simp
    · rintro k ρ H n hk ⟨h0, h1, h5, heq⟩ IH
      refine Runs.seq ?_
      refine Runs.seqE Ty_ok (by decide) fun k' hk' => ?_
      simp [h0, h5]   -- R4
      refine hk' _ _ _ ?_
      refine Runs.ite rfl (fun hc2 => ?_) (fun hc2 => ?_)
      · simp at hc2
        have hq2 : k < q.length := by omega
        refine Runs.skip ?_
        refine Runs.seq ?_
        refine Runs.block ?_
        refine Runs.seqD Ty_ok kindOp_ok draws (by decide) (by kernel_rfl) fun k' hk' => ?_
        simp [h0, h1, h5, hc2, hq2, strC]   -- R6
        refine hk' _ _ _ ?_
        refine Runs.ite rfl (fun hc3 => ?_) (fun hc3 => ?_)
        · simp at hc3
          refine Runs.seqE Ty_ok (by decide) fun k' hk' => ?_
          simp   -- R7
          refine hk' _ _ _ ?_
          refine Runs.ret Tryd.func21 (RetOk.one Tryd.results21) (hQ _ _ _ _ (.v _ _ _) ?_)
          have : p ≠ q := by intro h; subst h; exact hc3 rfl
          simp [this]
        · simp at hc3
          refine Runs.skip ?_
          refine Runs.inBlock ?_
          refine Runs.evalE Ty_ok (by decide) fun k' hk' => ?_
          simp [h5, wrap_succ (show k < 4611686018427387904 by omega)]   -- R5
          refine hk' _ _ _ ?_
          refine IH hc2 _ _ _ ?_
          refine ⟨by simp [h0, strC], by simp [h1, strC], by simp, ?_⟩
          rw [List.take_succ_eq_append_getElem hc2, List.take_succ_eq_append_getElem hq2, heq, hc3]
      · simp at hc2
        refine Runs.exit rfl ?_
        refine Runs.seqE Ty_ok (by decide) fun k' hk' => ?_
        simp   -- R8
        refine hk' _ _ _ ?_
        refine Runs.ret Tryd.func21 (RetOk.one Tryd.results21) (hQ _ _ _ _ (.v _ _ _) ?_)
        rw [List.take_of_length_le hc2, List.take_of_length_le (by omega)] at heq
        simp [heq]

theorem e44 : Ent Tryd.prog 44 := Ent.of Tryd.func44 (by kernel_rfl) rfl
theorem eqWire_ok (x y : Wire) : PureC Tryd.prog 44 [.agg (Wire.cells x), .agg (Wire.cells y)] (fun r => r = bool (decide (x = y))) := by
  obtain ⟨x0, x1⟩ := x
  obtain ⟨y0, y1⟩ := y
  refine PureC.of Tryd.func44 rfl Tryd.ntmps44 (by simp) fun Q hQ => ?_
  refine Runs.seqE Ty_ok (by decide) fun k' hk' => ?_
  simp [Wire.cells, encN, encI, encS, encW]   -- R0
  refine hk' _ _ _ ?_
  refine Runs.seq ?_
  refine Runs.seqE Ty_ok (by decide) fun k' hk' => ?_
  simp
  refine hk' _ _ _ ?_
  refine Runs.ite rfl (fun hc => ?_) (fun hd0 => ?_)
  · simp at hc
    refine Runs.seqE Ty_ok (by decide) fun k' hk' => ?_
    simp
    refine hk' _ _ _ ?_
    exact Runs.ret Tryd.func44 (RetOk.one Tryd.results44) (hQ _ _ _ _ (.v _ _ _) (by simp [hc]))
  simp at hd0
  refine Runs.skip ?_
  refine Runs.seq ?_
  refine Runs.seqE Ty_ok (by decide) fun k' hk' => ?_
  simp
  refine hk' _ _ _ ?_
  refine Runs.ite rfl (fun hc => ?_) (fun hd1 => ?_)
  · simp at hc
    refine Runs.seqE Ty_ok (by decide) fun k' hk' => ?_
    simp
    refine hk' _ _ _ ?_
    exact Runs.ret Tryd.func44 (RetOk.one Tryd.results44) (hQ _ _ _ _ (.v _ _ _) (by simp [hc]))
  simp at hd1
  refine Runs.skip ?_
  refine Runs.seqE Ty_ok (by decide) fun k' hk' => ?_
  simp
  refine hk' _ _ _ ?_
  exact Runs.ret Tryd.func44 (RetOk.one Tryd.results44) (hQ _ _ _ _ (.v _ _ _) (by simp [hd0, hd1]))

theorem e22 : Ent Tryd.prog 22 := Ent.of Tryd.func22 (by kernel_rfl) rfl
theorem eqWireS_ok (p q : List (Wire)) (hp : p.length ≤ 1048576) : PureC Tryd.prog 22 [.list false (p.map Wire.cells), .list false (q.map Wire.cells)] (fun r => r = bool (decide (p = q))) := by
  refine PureC.of Tryd.func22 rfl Tryd.ntmps22 (by simp) fun Q hQ => ?_
  refine Runs.seqE Ty_ok (by decide) fun k' hk' => ?_
  simp   -- R0
  refine hk' _ _ _ ?_
  refine Runs.seq ?_
  refine Runs.seqE Ty_ok (by decide) fun k' hk' => ?_
  simp   -- R1
  refine hk' _ _ _ ?_
  refine Runs.ite rfl (fun hc1 => ?_) (fun hc1 => ?_)
  · simp at hc1
    refine Runs.seqE Ty_ok (by decide) fun k' hk' => ?_
    simp   -- R2
    refine hk' _ _ _ ?_
    refine Runs.ret Tryd.func22 (RetOk.one Tryd.results22) (hQ _ _ _ _ (.v _ _ _) ?_)
    have : p ≠ q := by intro h; subst h; omega
    simp [this]
  · simp at hc1
    have hlen : p.length = q.length := by omega
    refine Runs.skip ?_
    refine Runs.seq ?_
    refine Runs.seqE Ty_ok (by decide) fun k' hk' => ?_
    simp   -- R3
    refine hk' _ _ _ ?_
    refine Runs.block (Runs.loopUp p.length (fun k ρ H n => ρ 0 = .list false (p.map Wire.cells) ∧ ρ 1 = .list false (q.map Wire.cells) ∧ ρ 5 = int k ∧ p.take k = q.take k) ?_ ?_)
    · simp
    · rintro k ρ H n hk ⟨h0, h1, h5, heq⟩ IH
      refine Runs.seq ?_
      refine Runs.seqE Ty_ok (by decide) fun k' hk' => ?_
      simp [h0, h5]   -- R4
      refine hk' _ _ _ ?_
      refine Runs.ite rfl (fun hc2 => ?_) (fun hc2 => ?_)
      · simp at hc2
        have hq2 : k < q.length := by omega
        refine Runs.skip ?_
        refine Runs.seq ?_
        refine Runs.block ?_
        refine Runs.seqD Ty_ok kindOp_ok draws (by decide) (by kernel_rfl) fun k' hk' => ?_
        simp [h0, h1, h5, hc2, hq2, Wire.cells]   -- R6
        refine RunDK.callA Ty_ok kindOp_ok (eqWire_ok p[k] q[k]) e44 (.cons (ArgOk.wireB p[k]) (.cons (ArgOk.wireB q[k]) .nil)) (by decide) rfl (by simp [Wire.cells]) ?_
        simp
        refine hk' _ _ _ ?_
        refine Runs.ite rfl (fun hc3 => ?_) (fun hc3 => ?_)
        · simp at hc3
          refine Runs.seqE Ty_ok (by decide) fun k' hk' => ?_
          simp   -- R7
          refine hk' _ _ _ ?_
          refine Runs.ret Tryd.func22 (RetOk.one Tryd.results22) (hQ _ _ _ _ (.v _ _ _) ?_)
          have : p ≠ q := by intro h; subst h; exact hc3 rfl
          simp [this]
        · simp at hc3
          refine Runs.skip ?_
          refine Runs.inBlock ?_
          refine Runs.evalE Ty_ok (by decide) fun k' hk' => ?_
          simp [h5, wrap_succ (show k < 4611686018427387904 by omega)]   -- R5
          refine hk' _ _ _ ?_
          refine IH hc2 _ _ _ ?_
          refine ⟨by simp [h0, Wire.cells], by simp [h1, Wire.cells], by simp, ?_⟩
          rw [List.take_succ_eq_append_getElem hc2, List.take_succ_eq_append_getElem hq2, heq, hc3]
      · simp at hc2
        refine Runs.exit rfl ?_
        refine Runs.seqE Ty_ok (by decide) fun k' hk' => ?_
        simp   -- R8
        refine hk' _ _ _ ?_
        refine Runs.ret Tryd.func22 (RetOk.one Tryd.results22) (hQ _ _ _ _ (.v _ _ _) ?_)
        rw [List.take_of_length_le hc2, List.take_of_length_le (by omega)] at heq
        simp [heq]

theorem e43 : Ent Tryd.prog 43 := Ent.of Tryd.func43 (by kernel_rfl) rfl
theorem eqNode_ok (x y : GNode) (hl : x.links.length ≤ 1048576) : PureC Tryd.prog 43 [.agg (GNode.cells false x), .agg (GNode.cells false y)] (fun r => r = bool (decide (x = y))) := by
  obtain ⟨x0, x1, x2⟩ := x
  obtain ⟨y0, y1, y2⟩ := y
  refine PureC.of Tryd.func43 rfl Tryd.ntmps43 (by simp) fun Q hQ => ?_
  refine Runs.seqE Ty_ok (by decide) fun k' hk' => ?_
  simp [GNode.cells, encN, encI, encS, encW]   -- R0
  refine hk' _ _ _ ?_
  refine Runs.seq ?_
  refine Runs.seqE Ty_ok (by decide) fun k' hk' => ?_
  simp
  refine hk' _ _ _ ?_
  refine Runs.ite rfl (fun hc => ?_) (fun hd0 => ?_)
  · simp at hc
    refine Runs.seqE Ty_ok (by decide) fun k' hk' => ?_
    simp
    refine hk' _ _ _ ?_
    exact Runs.ret Tryd.func43 (RetOk.one Tryd.results43) (hQ _ _ _ _ (.v _ _ _) (by simp [hc]))
  simp at hd0
  refine Runs.skip ?_
  refine Runs.seq ?_
  refine Runs.seqE Ty_ok (by decide) fun k' hk' => ?_
  simp
  refine hk' _ _ _ ?_
  refine Runs.ite rfl (fun hc => ?_) (fun hd1 => ?_)
  · simp at hc
    refine Runs.seqE Ty_ok (by decide) fun k' hk' => ?_
    simp
    refine hk' _ _ _ ?_
    exact Runs.ret Tryd.func43 (RetOk.one Tryd.results43) (hQ _ _ _ _ (.v _ _ _) (by simp [hc]))
  simp at hd1
  refine Runs.skip ?_
  refine Runs.seq ?_
  refine Runs.seqE Ty_ok (by decide) fun k' hk' => ?_
  simp
  refine RunK.callA Ty_ok (eqIntS_ok x2 y2 hl) e20 (.cons (ArgOk.encI false x2) (.cons (ArgOk.encI false y2) .nil)) (by decide) (by decide) rfl (by simp [encN, encI, encS, encW]) ?_
  rintro _ rfl
  simp
  refine hk' _ _ _ ?_
  refine Runs.ite rfl (fun hc => ?_) (fun hd2 => ?_)
  · simp at hc
    refine Runs.seqE Ty_ok (by decide) fun k' hk' => ?_
    simp
    refine hk' _ _ _ ?_
    exact Runs.ret Tryd.func43 (RetOk.one Tryd.results43) (hQ _ _ _ _ (.v _ _ _) (by simp [hc]))
  simp at hd2
  refine Runs.skip ?_
  refine Runs.seqE Ty_ok (by decide) fun k' hk' => ?_
  simp
  refine hk' _ _ _ ?_
  exact Runs.ret Tryd.func43 (RetOk.one Tryd.results43) (hQ _ _ _ _ (.v _ _ _) (by simp [hd0, hd1, hd2]))

theorem e19 : Ent Tryd.prog 19 := Ent.of Tryd.func19 (by kernel_rfl) rfl
theorem eqNodeS_ok (p q : List (GNode)) (hp : p.length ≤ 1048576) (hl : ∀ x ∈ p, x.links.length ≤ 1048576) : PureC Tryd.prog 19 [.list false (p.map (GNode.cells false)), .list false (q.map (GNode.cells false))] (fun r => r = bool (decide (p = q))) := by
  refine PureC.of Tryd.func19 rfl Tryd.ntmps19 (by simp) fun Q hQ => ?_
  refine Runs.seqE Ty_ok (by decide) fun k' hk' => ?_
  simp   -- R0
  refine hk' _ _ _ ?_
  refine Runs.seq ?_
  refine Runs.seqE Ty_ok (by decide) fun k' hk' => ?_
  simp   -- R1
  refine hk' _ _ _ ?_
  refine Runs.ite rfl (fun hc1 => ?_) (fun hc1 => ?_)
  · simp at hc1
    refine Runs.seqE Ty_ok (by decide) fun k' hk' => ?_
    simp   -- R2
    refine hk' _ _ _ ?_
    refine Runs.ret Tryd.func19 (RetOk.one Tryd.results19) (hQ _ _ _ _ (.v _ _ _) ?_)
    have : p ≠ q := by intro h; subst h; omega
    simp [this]
  · simp at hc1
    have hlen : p.length = q.length := by omega
    refine Runs.skip ?_
    refine Runs.seq ?_
    refine Runs.seqE Ty_ok (by decide) fun k' hk' => ?_
    simp   -- R3
    refine hk' _ _ _ ?_
    refine Runs.block (Runs.loopUp p.length (fun k ρ H n => ρ 0 = .list false (p.map (GNode.cells false)) ∧ ρ 1 = .list false (q.map (GNode.cells false)) ∧ ρ 5 = int k ∧ p.take k = q.take k) ?_ ?_)
    · simp
    · rintro k ρ H n hk ⟨h0, h1, h5, heq⟩ IH
      refine Runs.seq ?_
      refine Runs.seqE Ty_ok (by decide) fun k' hk' => ?_
      simp [h0, h5]   -- R4
      refine hk' _ _ _ ?_
      refine Runs.ite rfl (fun hc2 => ?_) (fun hc2 => ?_)
      · simp at hc2
        have hq2 : k < q.length := by omega
        refine Runs.skip ?_
        refine Runs.seq ?_
        refine Runs.block ?_
        refine Runs.seqD Ty_ok kindOp_ok draws (by decide) (by kernel_rfl) fun k' hk' => ?_
        simp [h0, h1, h5, hc2, hq2, GNode.cells]   -- R6
        refine RunDK.callA Ty_ok kindOp_ok (eqNode_ok p[k] q[k] (hl _ (List.getElem_mem hc2))) e43 (.cons (ArgOk.nodeB false p[k]) (.cons (ArgOk.nodeB false q[k]) .nil)) (by decide) rfl (by simp [GNode.cells]) ?_
        simp
        refine hk' _ _ _ ?_
        refine Runs.ite rfl (fun hc3 => ?_) (fun hc3 => ?_)
        · simp at hc3
          refine Runs.seqE Ty_ok (by decide) fun k' hk' => ?_
          simp   -- R7
          refine hk' _ _ _ ?_
          refine Runs.ret Tryd.func19 (RetOk.one Tryd.results19) (hQ _ _ _ _ (.v _ _ _) ?_)
          have : p ≠ q := by intro h; subst h; exact hc3 rfl
          simp [this]
        · simp at hc3
          refine Runs.skip ?_
          refine Runs.inBlock ?_
          refine Runs.evalE Ty_ok (by decide) fun k' hk' => ?_
          simp [h5, wrap_succ (show k < 4611686018427387904 by omega)]   -- R5
          refine hk' _ _ _ ?_
          refine IH hc2 _ _ _ ?_
          refine ⟨by simp [h0, GNode.cells], by simp [h1, GNode.cells], by simp, ?_⟩
          rw [List.take_succ_eq_append_getElem hc2, List.take_succ_eq_append_getElem hq2, heq, hc3]
      · simp at hc2
        refine Runs.exit rfl ?_
        refine Runs.seqE Ty_ok (by decide) fun k' hk' => ?_
        simp   -- R8
        refine hk' _ _ _ ?_
        refine Runs.ret Tryd.func19 (RetOk.one Tryd.results19) (hQ _ _ _ _ (.v _ _ _) ?_)
        rw [List.take_of_length_le hc2, List.take_of_length_le (by omega)] at heq
        simp [heq]

theorem e8 : Ent Tryd.prog 8 := Ent.of Tryd.func8 (by kernel_rfl) rfl
theorem eqBigraph_ok (x y : Big) (hb : x.nodes.length ≤ 1048576 ∧ (∀ z ∈ x.nodes, z.links.length ≤ 1048576) ∧ x.sites.length ≤ 1048576 ∧ x.outer.length ≤ 1048576 ∧ x.inner.length ≤ 1048576) : PureC Tryd.prog 8 [.agg (Big.cells false x), .agg (Big.cells false y)] (fun r => r = bool (decide (x = y))) := by
  obtain ⟨x0, x1, x2, x3, x4, x5⟩ := x
  obtain ⟨y0, y1, y2, y3, y4, y5⟩ := y
  refine PureC.of Tryd.func8 rfl Tryd.ntmps8 (by simp) fun Q hQ => ?_
  refine Runs.seqE Ty_ok (by decide) fun k' hk' => ?_
  simp [Big.cells, encN, encI, encS, encW]   -- R0
  refine hk' _ _ _ ?_
  refine Runs.seq ?_
  refine Runs.seqE Ty_ok (by decide) fun k' hk' => ?_
  simp
  refine hk' _ _ _ ?_
  refine Runs.ite rfl (fun hc => ?_) (fun hd0 => ?_)
  · simp at hc
    refine Runs.seqE Ty_ok (by decide) fun k' hk' => ?_
    simp
    refine hk' _ _ _ ?_
    exact Runs.ret Tryd.func8 (RetOk.one Tryd.results8) (hQ _ _ _ _ (.v _ _ _) (by simp [hc]))
  simp at hd0
  refine Runs.skip ?_
  refine Runs.seq ?_
  refine Runs.seqE Ty_ok (by decide) fun k' hk' => ?_
  simp
  refine RunK.callA Ty_ok (eqNodeS_ok x1 y1 hb.1 hb.2.1) e19 (.cons (ArgOk.encN false x1) (.cons (ArgOk.encN false y1) .nil)) (by decide) (by decide) rfl (by simp [encN, encI, encS, encW]) ?_
  rintro _ rfl
  simp
  refine hk' _ _ _ ?_
  refine Runs.ite rfl (fun hc => ?_) (fun hd1 => ?_)
  · simp at hc
    refine Runs.seqE Ty_ok (by decide) fun k' hk' => ?_
    simp
    refine hk' _ _ _ ?_
    exact Runs.ret Tryd.func8 (RetOk.one Tryd.results8) (hQ _ _ _ _ (.v _ _ _) (by simp [hc]))
  simp at hd1
  refine Runs.skip ?_
  refine Runs.seq ?_
  refine Runs.seqE Ty_ok (by decide) fun k' hk' => ?_
  simp
  refine RunK.callA Ty_ok (eqIntS_ok x2 y2 hb.2.2.1) e20 (.cons (ArgOk.encI false x2) (.cons (ArgOk.encI false y2) .nil)) (by decide) (by decide) rfl (by simp [encN, encI, encS, encW]) ?_
  rintro _ rfl
  simp
  refine hk' _ _ _ ?_
  refine Runs.ite rfl (fun hc => ?_) (fun hd2 => ?_)
  · simp at hc
    refine Runs.seqE Ty_ok (by decide) fun k' hk' => ?_
    simp
    refine hk' _ _ _ ?_
    exact Runs.ret Tryd.func8 (RetOk.one Tryd.results8) (hQ _ _ _ _ (.v _ _ _) (by simp [hc]))
  simp at hd2
  refine Runs.skip ?_
  refine Runs.seq ?_
  refine Runs.seqE Ty_ok (by decide) fun k' hk' => ?_
  simp
  refine hk' _ _ _ ?_
  refine Runs.ite rfl (fun hc => ?_) (fun hd3 => ?_)
  · simp at hc
    refine Runs.seqE Ty_ok (by decide) fun k' hk' => ?_
    simp
    refine hk' _ _ _ ?_
    exact Runs.ret Tryd.func8 (RetOk.one Tryd.results8) (hQ _ _ _ _ (.v _ _ _) (by simp [hc]))
  simp at hd3
  refine Runs.skip ?_
  refine Runs.seq ?_
  refine Runs.seqE Ty_ok (by decide) fun k' hk' => ?_
  simp
  refine RunK.callA Ty_ok (eqStringS_ok x4 y4 hb.2.2.2.1) e21 (.cons (ArgOk.encS false x4) (.cons (ArgOk.encS false y4) .nil)) (by decide) (by decide) rfl (by simp [encN, encI, encS, encW]) ?_
  rintro _ rfl
  simp
  refine hk' _ _ _ ?_
  refine Runs.ite rfl (fun hc => ?_) (fun hd4 => ?_)
  · simp at hc
    refine Runs.seqE Ty_ok (by decide) fun k' hk' => ?_
    simp
    refine hk' _ _ _ ?_
    exact Runs.ret Tryd.func8 (RetOk.one Tryd.results8) (hQ _ _ _ _ (.v _ _ _) (by simp [hc]))
  simp at hd4
  refine Runs.skip ?_
  refine Runs.seq ?_
  refine Runs.seqE Ty_ok (by decide) fun k' hk' => ?_
  simp
  refine RunK.callA Ty_ok (eqWireS_ok x5 y5 hb.2.2.2.2) e22 (.cons (ArgOk.encW false x5) (.cons (ArgOk.encW false y5) .nil)) (by decide) (by decide) rfl (by simp [encN, encI, encS, encW]) ?_
  rintro _ rfl
  simp
  refine hk' _ _ _ ?_
  refine Runs.ite rfl (fun hc => ?_) (fun hd5 => ?_)
  · simp at hc
    refine Runs.seqE Ty_ok (by decide) fun k' hk' => ?_
    simp
    refine hk' _ _ _ ?_
    exact Runs.ret Tryd.func8 (RetOk.one Tryd.results8) (hQ _ _ _ _ (.v _ _ _) (by simp [hc]))
  simp at hd5
  refine Runs.skip ?_
  refine Runs.seqE Ty_ok (by decide) fun k' hk' => ?_
  simp
  refine hk' _ _ _ ?_
  exact Runs.ret Tryd.func8 (RetOk.one Tryd.results8) (hQ _ _ _ _ (.v _ _ _) (by simp [hd0, hd1, hd2, hd3, hd4, hd5]))

end Go.Ab

/- Encodings of processes (statement 11). -/
namespace Go.Ab.Vg
set_option linter.unusedSimpArgs false
set_option linter.unusedVariables false
theorem str_lt_of {a b : Str} (h : a ≤ b) (hn : a ≠ b) : a < b := by
  by_cases hl : a < b
  · exact hl
  · exact absurd (List.le_antisymm h hl) hn
theorem str_ne {a b : Str} (h : a < b) : a ≠ b := by rintro rfl; exact List.lt_irrefl a h
theorem str_lt_trans {a b c : Str} (h : a < b) (h' : b < c) : a < c := List.lt_trans h h'
theorem insU_sorted {l : List Str} {k : Nat} {s : Str} (hs : l.Pairwise (· < ·)) (h1 : ∀ a ∈ l.take k, a < s) (h2 : ∀ h : k < l.length, s < l[k]) : (l.take k ++ s :: l.drop k).Pairwise (· < ·) := by
  have hd : ∀ b ∈ l.drop k, s < b := fun b hb => by
    rcases Nat.lt_or_ge k l.length with hk | hk
    · have hp : (l.drop k).Pairwise (· < ·) := hs.sublist (List.drop_sublist _ _)
      rw [List.drop_eq_getElem_cons hk] at hb hp
      rcases List.mem_cons.1 hb with rfl | hb
      · exact h2 hk
      · exact str_lt_trans (h2 hk) ((List.pairwise_cons.1 hp).1 b hb)
    · rw [List.drop_eq_nil_of_le hk] at hb; cases hb
  refine List.pairwise_append.2 ⟨hs.sublist (List.take_sublist _ _), List.pairwise_cons.2 ⟨hd, hs.sublist (List.drop_sublist _ _)⟩, fun a ha b hb => ?_⟩
  rcases List.mem_cons.1 hb with rfl | hb
  · exact h1 a ha
  · exact str_lt_trans (h1 a ha) (hd b hb)
/-- Lists in ascending order, each element once, are told by their members. -/
theorem strict_eq {l m : List Str} (hl : l.Pairwise (· < ·)) (hm : m.Pairwise (· < ·)) (h : ∀ x, x ∈ l ↔ x ∈ m) : l = m := by
  have n1 : l.Nodup := hl.imp fun h => str_ne h
  have n2 : m.Nodup := hm.imp fun h => str_ne h
  exact ((List.perm_ext_iff_of_nodup n1 n2).2 h).eq_of_pairwise (fun a b _ _ h h' => absurd (str_lt_trans h h') (List.lt_irrefl a)) hl hm
theorem get_bang {d : List Str} {j : Nat} (h : j < d.length) : d.toArray[j]! = d[j] := by simp [h]
theorem compactUpTo_strict {d : List Str} (hd : d.Pairwise (· ≤ ·)) : ∀ m, m ≤ d.length → (Go.Lib.compactUpTo d.toArray m).Pairwise (· < ·) ∧ ∀ x, x ∈ Go.Lib.compactUpTo d.toArray m ↔ x ∈ d.take m
  | 0, _ => by simp [Go.Lib.compactUpTo]
  | m + 1, hm => by
    obtain ⟨h1, h2⟩ := compactUpTo_strict hd m (by omega)
    have hm1 : m < d.length := by omega
    have htk : d.take (m + 1) = d.take m ++ [d[m]] := List.take_succ_eq_append_getElem hm1
    rw [Go.Lib.compactUpTo_succ, htk]
    by_cases hk : Go.Lib.keeps d.toArray m = true
    · rw [if_pos hk]
      have hlt : ∀ a ∈ d.take m, a < d[m] := fun a ha => by
        obtain ⟨j, hj, rfl⟩ := List.getElem_of_mem ha
        have hjm : j < m := by simp at hj; omega
        rw [List.getElem_take]
        simp only [Go.Lib.keeps, decide_eq_true_eq] at hk
        have hne : d[m] ≠ d[m - 1] := by
          rcases hk with h | h
          · omega
          · rwa [get_bang hm1, get_bang (show m - 1 < d.length by omega)] at h
        have hp := List.pairwise_iff_getElem.1 hd
        have h3 : d[m - 1] ≤ d[m] := hp (m - 1) m (by omega) hm1 (by omega)
        have h4 : d[m - 1] < d[m] := str_lt_of h3 (Ne.symm hne)
        rcases Nat.lt_or_ge j (m - 1) with h5 | h5
        · exact List.lt_of_le_of_lt (hp j (m - 1) (by omega) (by omega) h5) h4
        · have : j = m - 1 := by omega
          subst this; exact h4
      refine ⟨List.pairwise_append.2 ⟨h1, by simp, fun a ha b hb => ?_⟩, fun x => ?_⟩
      · simp only [List.mem_singleton, get_bang hm1] at hb
        subst hb
        exact hlt a ((h2 a).1 ha)
      · simp only [List.mem_append, h2, get_bang hm1]
    · rw [if_neg hk, List.append_nil]
      refine ⟨h1, fun x => ?_⟩
      rw [h2, List.mem_append]
      refine ⟨.inl, fun h => h.elim id fun h => ?_⟩
      simp only [Go.Lib.keeps, decide_eq_true_eq, not_or, Decidable.not_not] at hk
      obtain ⟨k0, k1⟩ := hk
      rw [get_bang hm1, get_bang (show m - 1 < d.length by omega)] at k1
      simp only [List.mem_singleton] at h
      subst h
      rw [k1]
      exact List.mem_iff_getElem.2 ⟨m - 1, by simp; omega, by simp⟩
abbrev cloneS_pre (l : List Str) : Prop := l.length ≤ 1048576
abbrev cloneS (l : List Str) : List Str := l
def cloneS_wp (s : List Str) (Z : (List Str) → Prop) : Prop :=
  ∀ c2 : Bool, (c2 = true → s = []) → ((c2 = true → Z []) ∧ (c2 = false → (([] : List Str).length + s.length ≤ 1073741824) ∧ ∀ l7 : List Str, l7 = ([] : List Str) ++ s → Z l7))
theorem cloneS_vc (l : List Str) (h : cloneS_pre l) : cloneS_wp l (fun y => y = cloneS l) := by
  unfold cloneS_wp
  intro c hc
  refine ⟨fun h1 => (hc h1).symm, fun _ => ⟨by simp; omega, ?_⟩⟩
  rintro _ rfl
  simp
abbrev compactT (l : List Str) : List Str := Go.Lib.compact l
theorem compact_le (l : List Str) : (compactT l).length ≤ l.length := by
  have h : (compactT l).length ≤ (List.range l.length).length := by
    simp only [compactT, Go.Lib.compact, Go.Lib.compactUpTo, List.length_map]
    exact List.length_filter_le _ _
  simpa using h
abbrev sortedNames_pre (l : List Str) : Prop := l.length ≤ 1048576
def sortedNames (l : List Str) : List Str := compactT (sortT l).1
def sortedNames_wp (l : List Str) (Z : (List Str) → Prop) : Prop :=
  (cloneS_pre l) ∧ ∀ r3 : List Str, r3 = cloneS l → (r3.length ≤ 1073741824) ∧ ∀ r14 : (List Str) × Unit, r14 = sortT r3 → (r14.1.length ≤ 1073741824) ∧ ∀ r24 : List Str, r24 = compactT r14.1 → Z r24
theorem sortedNames_vc (l : List Str) (h : sortedNames_pre l) : sortedNames_wp l (fun y => y = sortedNames l) := by
  unfold sortedNames_wp
  simp only [forall_eq, sortT, List.length_mergeSort, cloneS]
  exact ⟨h, by omega, by omega, rfl⟩
theorem sortedNames_spec (l : List Str) : (sortedNames l).Pairwise (· < ·) ∧ ∀ x, x ∈ sortedNames l ↔ x ∈ l := by
  have h3 : (sortT l).1.Pairwise (· ≤ ·) := by
    have := List.pairwise_mergeSort (le := fun x y : Str => decide (x ≤ y)) (fun a b c h1 h2 => by simp only [decide_eq_true_eq] at *; exact List.le_trans h1 h2) (fun a b => by simpa using str_total a b) l
    simpa [sortT] using this
  obtain ⟨h1, h2⟩ := compactUpTo_strict h3 (sortT l).1.length (Nat.le_refl _)
  refine ⟨h1, fun x => (h2 x).trans ?_⟩
  rw [List.take_length]
  exact List.mem_mergeSort
theorem sortedNames_len (l : List Str) : (sortedNames l).length ≤ l.length := by
  have := compact_le (sortT l).1
  simpa [sortT, sortedNames] using this
abbrev indexS_pre (l : List Str) (_ : Str) : Prop := l.length ≤ 1048576
def indexS (l : List Str) (s : Str) : Int := if s ∈ l then (l.idxOf s : Int) else -1
theorem indexS_no {l : List Str} {s : Str} (h : ∀ j < l.length, at' l (j : Int) ≠ s) : indexS l s = -1 := by
  rw [indexS, if_neg]
  intro hm
  obtain ⟨j, hj, he⟩ := List.getElem_of_mem hm
  exact h j hj (by rw [at_lt hj]; exact he)
theorem indexS_yes {l : List Str} {s : Str} {k : Nat} (hk : k < l.length) (h : ∀ j < k, at' l (j : Int) ≠ s) (he : at' l (k : Int) = s) : indexS l s = k := by
  rw [at_lt hk] at he
  have hm : s ∈ l := he ▸ List.getElem_mem hk
  rw [indexS, if_pos hm]
  have h1 : l.idxOf s < l.length := List.idxOf_lt_length_iff.2 hm
  have h2 : l[l.idxOf s] = s := List.getElem_idxOf h1
  have h3 : ¬ l.idxOf s < k := fun hlt => h _ hlt (by rw [at_lt h1]; exact h2)
  have h4 : ¬ k < l.idxOf s := fun hlt => by
    have := List.not_of_lt_findIdx (p := (· == s)) (xs := l) hlt
    simp [he] at this
  omega
def indexS_wp (s : List Str) (v_ : Str) (Z : Int → Prop) : Prop :=
  ∀ len2 : Int, len2 = (s.length : Int) → loopW (σ := Int) (fun v6 K9 => ∀ c10 : Bool, c10 = decide (v6 < len2) → ((c10 = true → (0 ≤ v6 ∧ v6 < s.length) ∧ ∀ x13 : Str, x13 = at' s v6 → ∀ c15 : Bool, c15 = decide (v_ = x13) → ((c15 = true → Z v6) ∧ (c15 = false → (I64 (v6 + 1)) ∧ ∀ v18 : Int, v18 = v6 + 1 → K9 (v18)))) ∧ (c10 = false → Z (-1)))) (0)
theorem indexS_vc (l : List Str) (s : Str) (h : indexS_pre l s) : indexS_wp l s (fun y => y = indexS l s) := by
  unfold indexS_wp
  rintro _ rfl
  refine loopW.up1 l.length (fun k => ∀ j < k, at' l (j : Int) ≠ s) (by simp) ?_
  rintro k K hk hI IH
  simp only [forall_eq, decide_eq_true_eq, decide_eq_false_iff_not, I64]
  refine ⟨fun h1 => ⟨by omega, fun h2 => (indexS_yes (by omega) hI h2.symm).symm, fun h2 => ⟨by omega, IH (by omega) fun j hj => ?_⟩⟩, fun h1 => ?_⟩
  · rcases Nat.lt_or_ge j k with h3 | h3
    · exact hI j h3
    · rw [show j = k by omega]; exact fun h => h2 h.symm
  · rw [indexS_no fun j hj => hI j (by omega)]
abbrev l2At_pre (l : List Str) (_ : Str) : Prop := l.length ≤ 1048576
abbrev l2At (l : List Str) (s : Str) : Int := indexS l s
def l2At_wp (list : List Str) (name : Str) (Z : Int → Prop) : Prop :=
  loopW (σ := Int) (fun i4 K7 => ∀ len8 : Int, len8 = (list.length : Int) → ∀ c10 : Bool, c10 = decide (i4 < len8) → ((c10 = true → (0 ≤ i4 ∧ i4 < list.length) ∧ ∀ x13 : Str, x13 = at' list i4 → ∀ c15 : Bool, c15 = decide (x13 = name) → ((c15 = true → Z i4) ∧ (c15 = false → (I64 (i4 + 1)) ∧ ∀ v18 : Int, v18 = i4 + 1 → K7 (v18)))) ∧ (c10 = false → Z (-1)))) (0)
theorem l2At_vc (l : List Str) (s : Str) (h : l2At_pre l s) : l2At_wp l s (fun y => y = l2At l s) := by
  unfold l2At_wp
  refine loopW.up1 l.length (fun k => ∀ j < k, at' l (j : Int) ≠ s) (by simp) ?_
  rintro k K hk hI IH
  simp only [forall_eq, decide_eq_true_eq, decide_eq_false_iff_not, I64]
  refine ⟨fun h1 => ⟨by omega, fun h2 => (indexS_yes (by omega) hI h2).symm, fun h2 => ⟨by omega, IH (by omega) fun j hj => ?_⟩⟩, fun h1 => ?_⟩
  · rcases Nat.lt_or_ge j k with h3 | h3
    · exact hI j h3
    · rw [show j = k by omega]; exact h2
  · rw [l2At, indexS_no fun j hj => hI j (by omega)]
abbrev l2Sorted_pre (l : List Str) : Prop := l.length ≤ 1048576
abbrev l2Sorted (l : List Str) : List Str := sortedNames l
def l2Sorted_wp (list : List Str) (Z : (List Str) → Prop) : Prop :=
  loopW (σ := Int × (List Str)) (fun (i12, l13) K17 => ∀ len18 : Int, len18 = (list.length : Int) → ∀ c20 : Bool, c20 = decide (i12 < len18) → ((c20 = true → loopW (σ := Int) (fun k25 K29 => joinW (fun (J30 : Bool → Prop) => ∀ len113 : Int, len113 = (l13.length : Int) → ∀ c115 : Bool, c115 = decide (k25 < len113) → ((c115 = true → (0 ≤ k25 ∧ k25 < l13.length) ∧ ∀ x122 : Str, x122 = at' l13 k25 → (0 ≤ i12 ∧ i12 < list.length) ∧ ∀ x126 : Str, x126 = at' list i12 → ∀ c128 : Bool, c128 = Op.bytesLess x122 x126 → J30 (c128)) ∧ (c115 = false → J30 (false)))) (fun b33 => ((b33 = true → (I64 (k25 + 1)) ∧ ∀ v38 : Int, v38 = k25 + 1 → K29 (v38)) ∧ (b33 = false → joinW (fun (J40 : Bool → Prop) => ∀ len96 : Int, len96 = (l13.length : Int) → ∀ c98 : Bool, c98 = decide (k25 = len96) → ((c98 = true → J40 (true)) ∧ (c98 = false → (0 ≤ k25 ∧ k25 < l13.length) ∧ ∀ x105 : Str, x105 = at' l13 k25 → (0 ≤ i12 ∧ i12 < list.length) ∧ ∀ x109 : Str, x109 = at' list i12 → ∀ c111 : Bool, c111 = decide (x105 ≠ x109) → J40 (c111)))) (fun b43 => ((b43 = true → ((0 : Int) ≤ 0 ∧ (0 : Int) ≤ k25 ∧ k25 ≤ l13.length) ∧ ∀ l51 : List Str, l51 = (l13.take k25.toNat).drop 0 → (([] : List Str).length + l51.length ≤ 1073741824) ∧ ∀ l55 : List Str, l55 = ([] : List Str) ++ l51 → (0 ≤ i12 ∧ i12 < list.length) ∧ ∀ x64 : Str, x64 = at' list i12 → (l55.length + 1 ≤ 1073741824) ∧ ∀ l67 : List Str, l67 = l55 ++ [x64] → (0 ≤ k25 ∧ k25 ≤ (l13.length : Int) ∧ (l13.length : Int) ≤ l13.length) ∧ ∀ l76 : List Str, l76 = (l13.take (l13.length : Int).toNat).drop k25.toNat → (l67.length + l76.length ≤ 1073741824) ∧ ∀ l80 : List Str, l80 = l67 ++ l76 → (I64 (i12 + 1)) ∧ ∀ v91 : Int, v91 = i12 + 1 → K17 (v91, l80)) ∧ (b43 = false → (I64 (i12 + 1)) ∧ ∀ v94 : Int, v94 = i12 + 1 → K17 (v94, l13)))))))) (0)) ∧ (c20 = false → Z l13))) (0, ([] : List Str))
theorem l2Sorted_vc (l : List Str) (h : l2Sorted_pre l) : l2Sorted_wp l (fun y => y = l2Sorted l) := by
  unfold l2Sorted_wp
  refine loopW.upL l.length (fun i out => out.Pairwise (· < ·) ∧ (∀ x, x ∈ out ↔ x ∈ l.take i) ∧ out.length ≤ i) [] ⟨.nil, by simp, by simp⟩ ?_
  rintro i out K hi ⟨hs, hm, hl⟩ IH
  rintro _ rfl _ rfl
  simp only [decide_eq_true_eq, decide_eq_false_iff_not]
  refine ⟨fun hc => ?_, fun hc => ?_⟩
  · have hi1 : i < l.length := by omega
    have hli : at' l (i : Int) = l[i] := at_lt hi1
    have htk : l.take (i + 1) = l.take i ++ [l[i]] := List.take_succ_eq_append_getElem hi1
    rw [hli]
    refine loopW.byM (fun k => ∃ j : Nat, k = j ∧ j ≤ out.length ∧ ∀ q < j, at' out (q : Int) < l[i]) (fun k => (out.length - k).toNat) ⟨0, rfl, by omega, by simp⟩ ?_
    rintro _ ⟨k, rfl, hk, hq⟩
    refine ⟨fun b => b = (decide (k < out.length) && decide (at' out (k : Int) < l[i])), ?_, ?_⟩
    · rintro _ rfl _ rfl
      simp only [forall_eq, decide_eq_true_eq, decide_eq_false_iff_not, Go.Proofs.bytesLess_eq]
      refine ⟨fun h1 => ⟨by omega, by omega, ?_⟩, fun h1 => ?_⟩
      · rw [decide_eq_true (show k < out.length by omega), Bool.true_and]
      · rw [decide_eq_false (show ¬ k < out.length by omega), Bool.false_and]
    · rintro _ rfl
      refine ⟨fun h1 => ?_, fun h1 => ?_⟩
      · simp only [Bool.and_eq_true, decide_eq_true_eq] at h1
        refine ⟨by simp only [I64]; omega, ?_⟩
        rintro _ rfl
        refine ⟨⟨k + 1, by omega, by omega, fun q hq' => ?_⟩, by omega⟩
        rcases Nat.lt_or_ge q k with h3 | h3
        · exact hq q h3
        · rw [show q = k by omega]; exact h1.2
      · have hstop : ∀ hk1 : k < out.length, ¬ out[k] < l[i] := fun hk1 hlt => by
          rw [at_lt hk1] at h1
          simp [hk1, hlt] at h1
        refine ⟨fun b => b = (decide (k = out.length) || decide (at' out (k : Int) ≠ l[i])), ?_, ?_⟩
        · rintro _ rfl _ rfl
          simp only [forall_eq, decide_eq_true_eq, decide_eq_false_iff_not]
          refine ⟨fun h2 => ?_, fun h2 => ⟨by omega, by omega, ?_⟩⟩
          · rw [decide_eq_true (show k = out.length by omega), Bool.true_or]
          · rw [decide_eq_false (show ¬ k = out.length by omega), Bool.false_or]
        · rintro _ rfl
          refine ⟨fun h2 => ?_, fun h2 => ?_⟩
          · refine ⟨by omega, ?_⟩
            rintro _ rfl
            refine ⟨by simp; omega, ?_⟩
            rintro _ rfl
            refine ⟨by omega, ?_⟩
            rintro _ rfl
            refine ⟨by simp; omega, ?_⟩
            rintro _ rfl
            refine ⟨by omega, ?_⟩
            rintro _ rfl
            refine ⟨by simp; omega, ?_⟩
            rintro _ rfl
            refine ⟨by simp only [I64]; omega, ?_⟩
            rintro _ rfl
            have e : ([] ++ (out.take (k : Int).toNat).drop 0 ++ [l[i]] ++ (out.take (out.length : Int).toNat).drop (k : Int).toNat) = out.take k ++ l[i] :: out.drop k := by
              simp
            rw [e]
            refine IH hi1 _ ⟨insU_sorted hs (fun a ha => ?_) (fun hk1 => ?_), fun x => ?_, ?_⟩
            · obtain ⟨q, hq1, rfl⟩ := List.getElem_of_mem ha
              have hqk : q < k := by simp at hq1; omega
              have := hq q hqk
              rw [at_lt (by omega)] at this
              rw [List.getElem_take]; exact this
            · simp only [Bool.or_eq_true, decide_eq_true_eq, at_lt hk1] at h2
              have hne : out[k] ≠ l[i] := h2.resolve_left (by omega)
              exact str_lt_of (hstop hk1) (Ne.symm hne)
            · have hx : x ∈ out ↔ x ∈ out.take k ∨ x ∈ out.drop k := by rw [← List.mem_append, List.take_append_drop]
              rw [htk]
              simp only [List.mem_append, List.mem_cons, List.not_mem_nil, or_false]
              rw [← hm x, hx]
              constructor
              · rintro (h | h | h)
                · exact .inl (.inl h)
                · exact .inr h
                · exact .inl (.inr h)
              · rintro ((h | h) | h)
                · exact .inl h
                · exact .inr (.inr h)
                · exact .inr (.inl h)
            · simp; omega
          · refine ⟨by simp only [I64]; omega, ?_⟩
            rintro _ rfl
            simp only [Bool.or_eq_false_iff, decide_eq_false_iff_not, Decidable.not_not] at h2
            have hk1 : k < out.length := by omega
            have he : out[k] = l[i] := by rw [← at_lt hk1]; exact h2.2
            refine IH hi1 _ ⟨hs, fun x => ?_, by omega⟩
            rw [htk, List.mem_append, ← hm x, List.mem_singleton]
            exact ⟨.inl, fun h => h.elim id fun h => by rw [h, ← he]; exact List.getElem_mem hk1⟩
  · have hie : i = l.length := by omega
    subst hie
    rw [List.take_length] at hm
    obtain ⟨h1, h2⟩ := sortedNames_spec l
    exact strict_eq hs h1 fun x => (hm x).trans (h2 x).symm
abbrev encoded_pre (p : Proc) : Prop := p.length ≤ 1048576 ∧ ∀ x ∈ p, I64 x.kind
def encNode (names : List Str) (x : AmbNode) : GNode := GNode.mk x.kind x.parent [indexS names x.name]
def encoded (p : Proc) : Big := Big.mk 1 (p.map (encNode (sortedNames (p.map (·.name))))) [] 0 (sortedNames (p.map (·.name))) []
def encoded_wp (p : Proc) (Z : Big → Prop) : Prop :=
  ∀ len8 : Int, len8 = (p.length : Int) → loopW (σ := Int × (List Str)) (fun (v29, l30) K38 => ∀ c39 : Bool, c39 = decide (v29 < len8) → ((c39 = true → (0 ≤ v29 ∧ v29 < p.length) ∧ ∀ x42 : AmbNode, x42 = at' p v29 → (l30.length + 1 ≤ 1073741824) ∧ ∀ l52 : List Str, l52 = l30 ++ [x42.name] → (I64 (v29 + 1)) ∧ ∀ v66 : Int, v66 = v29 + 1 → K38 (v66, l52)) ∧ (c39 = false → (sortedNames_pre l30) ∧ ∀ r69 : List Str, r69 = sortedNames l30 → ∀ len86 : Int, len86 = (p.length : Int) → loopW (σ := Int × (List GNode)) (fun (v112, l113) K124 => ∀ c125 : Bool, c125 = decide (v112 < len86) → ((c125 = true → (0 ≤ v112 ∧ v112 < p.length) ∧ ∀ x128 : AmbNode, x128 = at' p v112 → (I64 (x128.kind - 0)) ∧ ∀ v141 : Int, v141 = x128.kind - 0 → (indexS_pre r69 x128.name) ∧ ∀ r144 : Int, r144 = indexS r69 x128.name → ∀ l145 : List Int, l145 = [r144] → (l113.length + 1 ≤ 1073741824) ∧ ∀ l154 : List GNode, l154 = l113 ++ [(GNode.mk v141 x128.parent l145)] → (I64 (v112 + 1)) ∧ ∀ v172 : Int, v172 = v112 + 1 → K124 (v172, l154)) ∧ (c125 = false → Z (Big.mk 1 l113 ([] : List Int) 0 r69 ([] : List Wire))))) (0, ([] : List GNode))))) (0, ([] : List Str))
theorem encoded_vc (p : Proc) (h : encoded_pre p) : encoded_wp p (fun y => y = encoded p) := by
  obtain ⟨h0, hk⟩ := h
  unfold encoded_wp
  rintro _ rfl
  refine loopW.upL p.length (fun k out => out = (p.take k).map (·.name)) [] (by simp) ?_
  rintro k _ K hkl rfl IH
  simp only [forall_eq, decide_eq_true_eq, decide_eq_false_iff_not]
  refine ⟨fun hc => ?_, fun hc => ?_⟩
  · have hk1 : k < p.length := by omega
    rw [at_lt hk1]
    refine ⟨by omega, by simp; omega, by simp only [I64]; omega, IH hk1 _ ?_⟩
    rw [List.take_succ_eq_append_getElem hk1, List.map_append]; rfl
  · rw [show k = p.length by omega, List.take_length]
    have hsl := sortedNames_len (p.map (·.name))
    simp only [List.length_map] at hsl
    refine ⟨by simp; omega, ?_⟩
    refine loopW.upL p.length (fun k out => out = (p.take k).map (encNode (sortedNames (p.map (·.name))))) [] (by simp) ?_
    rintro k _ K hkl rfl IH
    refine ⟨fun hc => ?_, fun hc => ?_⟩
    · have hk1 : k < p.length := by omega
      have hkk := hk _ (List.getElem_mem hk1)
      rw [at_lt hk1]
      refine ⟨by omega, by simpa using hkk, by omega, by simp; omega, by simp only [I64]; omega, IH hk1 _ ?_⟩
      rw [List.take_succ_eq_append_getElem hk1, List.map_append]
      simp [encNode]
    · rw [show k = p.length by omega, List.take_length]; rfl
abbrev l12Encode_pre (p : Proc) : Prop := p.length ≤ 1048576
abbrev l12Encode (p : Proc) : Big := encoded p
def l12Encode_wp (p : Proc) (Z : Big → Prop) : Prop :=
  loopW (σ := Int × (List Str)) (fun (i27, l28) K36 => ∀ len37 : Int, len37 = (p.length : Int) → ∀ c39 : Bool, c39 = decide (i27 < len37) → ((c39 = true → (0 ≤ i27 ∧ i27 < p.length) ∧ ∀ x42 : AmbNode, x42 = at' p i27 → (l28.length + 1 ≤ 1073741824) ∧ ∀ l45 : List Str, l45 = l28 ++ [x42.name] → (I64 (i27 + 1)) ∧ ∀ v59 : Int, v59 = i27 + 1 → K36 (v59, l45)) ∧ (c39 = false → (l2Sorted_pre l28) ∧ ∀ r62 : List Str, r62 = l2Sorted l28 → loopW (σ := Int × (List GNode)) (fun (i106, l107) K119 => ∀ len120 : Int, len120 = (p.length : Int) → ∀ c122 : Bool, c122 = decide (i106 < len120) → ((c122 = true → (0 ≤ i106 ∧ i106 < p.length) ∧ ∀ x125 : AmbNode, x125 = at' p i106 → (0 ≤ i106 ∧ i106 < p.length) ∧ ∀ x128 : AmbNode, x128 = at' p i106 → (0 ≤ i106 ∧ i106 < l28.length) ∧ ∀ x136 : Str, x136 = at' l28 i106 → (l2At_pre r62 x136) ∧ ∀ r140 : Int, r140 = l2At r62 x136 → ∀ l141 : List Int, l141 = [r140] → (l107.length + 1 ≤ 1073741824) ∧ ∀ l150 : List GNode, l150 = l107 ++ [(GNode.mk x125.kind x125.parent l141)] → (I64 (i106 + 1)) ∧ ∀ v169 : Int, v169 = i106 + 1 → K119 (v169, l150)) ∧ (c122 = false → Z (Big.mk 1 l107 ([] : List Int) 0 r62 ([] : List Wire))))) (0, ([] : List GNode))))) (0, ([] : List Str))
theorem l12Encode_vc (p : Proc) (h : l12Encode_pre p) : l12Encode_wp p (fun y => y = l12Encode p) := by
  unfold l12Encode_wp
  refine loopW.upL p.length (fun k out => out = (p.take k).map (·.name)) [] (by simp) ?_
  rintro k _ K hkl rfl IH
  simp only [forall_eq, decide_eq_true_eq, decide_eq_false_iff_not]
  refine ⟨fun hc => ?_, fun hc => ?_⟩
  · have hk1 : k < p.length := by omega
    rw [at_lt hk1]
    refine ⟨by omega, by simp; omega, by simp only [I64]; omega, IH hk1 _ ?_⟩
    rw [List.take_succ_eq_append_getElem hk1, List.map_append]; rfl
  · rw [show k = p.length by omega, List.take_length]
    have hsl := sortedNames_len (p.map (·.name))
    simp only [List.length_map] at hsl
    have hsl2 : (l2Sorted (p.map (·.name))).length ≤ p.length := hsl
    refine ⟨by simp; omega, ?_⟩
    refine loopW.upL p.length (fun k out => out = (p.take k).map (encNode (sortedNames (p.map (·.name))))) [] (by simp) ?_
    rintro k _ K hkl rfl IH
    refine ⟨fun hc => ?_, fun hc => ?_⟩
    · have hk1 : k < p.length := by omega
      rw [at_lt hk1, at_lt (show k < (p.map (·.name)).length by simpa using hk1), List.getElem_map]
      refine ⟨by omega, by omega, by simp; omega, by omega, by simp; omega, by simp only [I64]; omega, IH hk1 _ ?_⟩
      rw [List.take_succ_eq_append_getElem hk1, List.map_append]
      simp [encNode]
    · rw [show k = p.length by omega, List.take_length]; rfl
end Go.Ab.Vg

/- Congruence of processes (statement 9): the spec's functions that sort texts. -/
namespace Go.Ab.Vg
set_option linter.unusedSimpArgs false
set_option linter.unusedVariables false
abbrev l12Sorted (p : Proc) (a : Int) : List Str := (kids p a).foldl (fun out x => ins (nodeText (at' p x) (l12Best p x)) out) []
-- spec.l12Sorted is not in this seat
theorem leq_le (a b : Str) : (Op.bytesLess a b || a == b) = decide (a ≤ b) := by
  rw [Go.Proofs.bytesLess_eq]
  apply Bool.eq_iff_iff.2
  simp only [Bool.or_eq_true, decide_eq_true_eq, beq_iff_eq]
  constructor
  · rintro (h | rfl)
    · exact List.le_of_lt h
    · exact List.le_refl _
  · intro h
    by_cases h1 : a < b
    · exact .inl h1
    · exact .inr (List.le_antisymm h h1)
theorem ins_at (s : Str) : ∀ (l : List Str) (k : Nat), k ≤ l.length → (∀ j < k, at' l (j : Int) ≤ s) → (k < l.length → ¬ at' l (k : Int) ≤ s) → l.take k ++ s :: l.drop k = ins s l
  | [], k, _, _, _ => by simp [ins]
  | x :: l, 0, _, _, h => by
    have hx : ¬ x ≤ s := by simpa [at'] using h (by simp)
    simp [ins, hx]
  | x :: l, k + 1, h1, h2, h3 => by
    have hx : x ≤ s := by simpa [at'] using h2 0 (by omega)
    have hs : ∀ j : Nat, at' (x :: l) (((j + 1 : Nat)) : Int) = at' l (j : Int) := fun j => by rw [at_nat (x :: l) (j + 1), at_nat l j]; simp
    have := ins_at s l k (by simpa using h1) (fun j hj => by rw [← hs]; exact h2 (j + 1) (by omega)) (fun hk => by rw [← hs]; exact h3 (by simpa using hk))
    have hi : ins s (x :: l) = x :: ins s l := by simp [ins, hx]
    rw [hi, ← this]
    simp
-- spec.l12Best is not in this seat
theorem l12Sorted_eq {p : Proc} {a : Int} (h : sortedIn_pre p a) : l12Sorted p a = (sortT ((kids p a).map fun x => nodeText (at' p x) (l12Best p x))).1 := foldl_sort (fun x => nodeText (at' p x) (l12Best p x)) _
theorem l12Best_join {p : Proc} {a : Int} (h : sortedIn_pre p a) : joinTexts (l12Sorted p a) = l12Best p a := by
  obtain ⟨hp, h1, h2⟩ := h
  obtain ⟨d, hd⟩ : ∃ d, ((p.length : Int) - a).toNat = d + 1 := ⟨((p.length : Int) - a).toNat - 1, by omega⟩
  rw [l12Sorted_eq ⟨hp, h1, h2⟩]
  simp only [l12Best, bestT_eq]
  rw [hd]
  simp only [sortedT]
  have : (kids p a).map (fun y => nodeText (at' p y) (sortedT p ((p.length : Int) - y).toNat y)) = (kids p a).map fun y => nodeText (at' p y) (sortedT p d y) := by
    refine List.map_congr_left fun y hy => ?_
    obtain ⟨i, rfl, hi, hx⟩ := kids_in hy
    have := hp.up i hi
    rw [sortedT_fuel hp _ d i (by omega) (by omega) (by omega)]
  rw [this]
theorem l12Sorted_len {p : Proc} {a : Int} (h : sortedIn_pre p a) : (l12Sorted p a).length ≤ 8 ∧ ∀ s ∈ l12Sorted p a, s.length ≤ 2147483648 + 12 := by
  obtain ⟨hp, h1, h2⟩ := h
  have hp8 := hp.len
  rw [l12Sorted_eq ⟨hp, h1, h2⟩]
  have hl : (kids p a).length ≤ p.length := idxs_len _ _ _
  refine ⟨by simp [sortT]; omega, fun s hs => ?_⟩
  simp only [sortT, List.mem_mergeSort, List.mem_map] at hs
  obtain ⟨y, hy, rfl⟩ := hs
  obtain ⟨i, rfl, hi, hx⟩ := kids_in hy
  have h3 := nodeText_len (at' p i) (l12Best p i) (by simpa [at'] using hp.name i hi)
  have h4 : (l12Best p i).length + 15 ≤ 16 * 8 ^ ((p.length : Int) - i).toNat := by simp only [l12Best, bestT_eq]; exact sortedT_len hp _ _
  have hpd : 8 ^ ((p.length : Int) - i).toNat ≤ 8 ^ 8 := Nat.pow_le_pow_right (by omega) (by omega)
  omega
theorem l12Best_sorted (p : Proc) (a : Int) : l12Best p a = sortedIn p a := bestT_eq p _ a
abbrev sAreCongruent (p q : Proc) : Bool × Bool := AreCongruent p q
-- spec.AreCongruent is not in this seat
end Go.Ab.Vg

/- Congruence of processes (statement 9): the law. -/
namespace Go.Ab.Vg
set_option linter.unusedSimpArgs false
set_option linter.unusedVariables false
abbrev szT (p : Proc) (left : Int) : Int := if szProc p left < 0 then -1 else szProc p left
abbrev idP (p : Proc) : Proc := p
abbrev eqP (p q : Proc) : Bool := decide (p = q)
abbrev lawCongr (_ _ : Proc) : Bool := true
abbrev lawCongr_pre (p q : Proc) : Prop := Small p ∧ Small q
-- laws.FnExactAreCongruent is not in this seat
theorem szNodes_down : ∀ (p : Proc) (left : Int), szNodes p left ≤ max left (-1)
  | [], left => by simp [szNodes]; omega
  | x :: r, left => by
    rw [szNodes]
    split
    · omega
    · have := szNodes_down r (szStr x.name left)
      have h2 : szStr x.name left ≤ max left (-1) := by unfold szStr; split <;> omega
      omega
theorem szT_le {p : Proc} {left : Int} (h : ¬ szT p left < 0) : 0 ≤ szT p left ∧ szT p left ≤ left ∧ (p.length : Int) ≤ left ∧ ∀ x ∈ p, (x.name.length : Int) ≤ left := by
  have h0 : 0 ≤ szProc p left := by
    rcases Int.lt_or_le (szProc p left) 0 with hl | hl
    · exact (h (by simp [szT, hl])).elim
    · exact hl
  have he : szT p left = szProc p left := if_neg (by omega)
  obtain ⟨h1, h2⟩ := szProc_le h0
  refine ⟨by omega, ?_, h1, h2⟩
  rw [he]
  unfold szProc at h0 ⊢
  split at h0
  · omega
  · rw [if_neg (by assumption)]
    have := szNodes_down p (left - p.length)
    omega
theorem huge_of {p : Proc} {left : Int} (h : ¬ szT p left < 0) (hl : left ≤ 1048576) : procHuge p := by
  obtain ⟨_, _, h1, h2⟩ := szT_le h
  refine ⟨by omega, fun i hi => ?_⟩
  have := h2 (p.getD i default) (by simp [hi])
  omega
end Go.Ab.Vg

/- EncodeProcess (statement 11): the functions themselves, and the law. -/
namespace Go.Ab.Vg
set_option linter.unusedSimpArgs false
set_option linter.unusedVariables false
def EncodeProcess (p : Proc) : Big × Bool := if goodP p then (encoded p, true) else (Big.mk 0 [] [] 0 [] [], false)
abbrev EncodeProcess_pre (p : Proc) : Prop := procHuge p
theorem goodP_enc {p : Proc} (h : goodP p = true) : encoded_pre p := by
  have hv := goodP_valid h
  refine ⟨by have := hv.len; omega, fun x hx => ?_⟩
  obtain ⟨i, hi, rfl⟩ := List.getElem_of_mem hx
  have := hv.kind i hi
  simp only [List.getD_eq_getElem?_getD, List.getElem?_eq_getElem hi, Option.getD_some] at this
  simp only [I64]; omega
def EncodeProcess_wp (p : Proc) (Z : (Big × Bool) → Prop) : Prop :=
  (procHuge p) ∧ ∀ r6 : Bool, r6 = goodP p → ((r6 = true → (encoded_pre p) ∧ ∀ r15 : Big, r15 = encoded p → Z (r15, true)) ∧ (r6 = false → Z ((Big.mk 0 [] [] 0 [] []), false)))
theorem EncodeProcess_vc (p : Proc) (h : EncodeProcess_pre p) : EncodeProcess_wp p (fun y => y = EncodeProcess p) := by
  unfold EncodeProcess_wp
  refine ⟨h, ?_⟩
  rintro _ rfl
  refine ⟨fun h1 => ⟨goodP_enc h1, ?_⟩, fun h1 => by rw [EncodeProcess, h1]; rfl⟩
  rintro _ rfl
  rw [EncodeProcess, h1]; rfl
abbrev sEncodeProcess (p : Proc) : Big × Bool := EncodeProcess p
abbrev sEncodeProcess_pre (p : Proc) : Prop := procHuge p
def sEncodeProcess_wp (p : Proc) (Z : (Big × Bool) → Prop) : Prop :=
  (procHuge p) ∧ ∀ r6 : Bool, r6 = goodP p → ((r6 = true → (l12Encode_pre p) ∧ ∀ r15 : Big, r15 = l12Encode p → Z (r15, true)) ∧ (r6 = false → Z ((Big.mk 0 [] [] 0 [] []), false)))
theorem sEncodeProcess_vc (p : Proc) (h : sEncodeProcess_pre p) : sEncodeProcess_wp p (fun y => y = sEncodeProcess p) := by
  unfold sEncodeProcess_wp
  refine ⟨h, ?_⟩
  rintro _ rfl
  refine ⟨fun h1 => ⟨(goodP_enc h1).1, ?_⟩, fun h1 => by rw [sEncodeProcess, EncodeProcess, h1]; rfl⟩
  rintro _ rfl
  rw [sEncodeProcess, EncodeProcess, h1]; rfl
abbrev EqB (x : Big) : Prop := x.nodes.length ≤ 1048576 ∧ (∀ z ∈ x.nodes, z.links.length ≤ 1048576) ∧ x.sites.length ≤ 1048576 ∧ x.outer.length ≤ 1048576 ∧ x.inner.length ≤ 1048576
theorem markSeq_sum {α : Type} {m : α → Int → α × Int} {f : α → Nat} (hm : ∀ x k, f (m x k).1 = f x) : ∀ (l : List α) (k : Int), ((markSeq m l k).1.map f).sum = (l.map f).sum
  | [], _ => rfl
  | x :: l, k => by simp only [markSeq, List.map_cons, List.sum_cons, hm, markSeq_sum hm l]
theorem markSeq_all {α : Type} {m : α → Int → α × Int} {q : α → Prop} (hm : ∀ x k, q x → q (m x k).1) : ∀ (l : List α) (k : Int), (∀ x ∈ l, q x) → ∀ x ∈ (markSeq m l k).1, q x
  | [], _, _ => by simp [markSeq]
  | x :: l, k, h => by
    intro y hy
    simp only [markSeq, List.mem_cons] at hy
    rcases hy with rfl | hy
    · exact hm x k (h x (by simp))
    · exact markSeq_all hm l _ (fun z hz => h z (by simp [hz])) y hy
theorem sumN_le : ∀ {l : List GNode}, (∀ x ∈ l, x.links.length ≤ 1048576) → (l.map nodeSize).sum ≤ 1048578 * l.length
  | [], _ => by simp
  | x :: l, h => by
    have h1 := sumN_le (l := l) fun y hy => h y (by simp [hy])
    have h2 := h x (by simp)
    simp only [List.map_cons, List.sum_cons, List.length_cons, nodeSize] at h1 ⊢
    omega
/-- What is marked on a bigraph is held. -/
theorem markB {b : Big} (h : EqB b) : markBig_pre b 1 ∧ heldBig_pre (markBig b 1).1 1 ∧ heldBig (markBig b 1).1 1 = (markBig b 1).2 ∧ 0 ≤ (markBig b 1).2 := by
  obtain ⟨h1, h2, h3, h4, h5⟩ := h
  have hs := sumN_le h2
  have hb : bigSize b = (b.nodes.map nodeSize).sum + b.sites.length + b.outer.length + 2 * b.inner.length := rfl
  have hnl : (markNodeS b.nodes 1).1.length = b.nodes.length := markSeq_len _ _ _
  have e1 : ((markNodeS b.nodes 1).1.map nodeSize).sum = (b.nodes.map nodeSize).sum := markSeq_sum (fun x k => by simp [nodeSize, nodeMark, markIntS, markL, markPre_len]) _ _
  have e2 : ∀ x ∈ (markNodeS b.nodes 1).1, x.links.length ≤ 1048576 := markSeq_all (q := fun x : GNode => x.links.length ≤ 1048576) (fun x k hx => by simpa [nodeMark, markIntS, markL, markPre_len] using hx) _ _ h2
  have hpre : heldBig_pre (markBig b 1).1 1 := by
    have hb2 : bigSize (markBig b 1).1 = bigSize b := by
      simp only [bigSize, markBig, e1]
      simp [markIntS, markStringS, markWireS, markL, markPre_len]
    refine ⟨by omega, by show (markNodeS b.nodes 1).1.length ≤ _; omega, e2, ?_, ?_, ?_, by omega⟩ <;> simp only [markBig, markIntS, markStringS, markWireS, markL, markPre_len] <;> assumption
  refine ⟨⟨by omega, h1, h2, h3, h4, h5, by omega⟩, hpre, heldBig_mark b 1 (by omega), ?_⟩
  have p1 := markNodeS_size b.nodes 1
  simp only [markBig, markIntS, markStringS, markWireS, markL, p1]
  omega
abbrev lawEncode (_ : Proc) : Bool := true
abbrev lawEncode_pre (p : Proc) : Prop := Small p
def lawEncode_wp (aP : Proc) (Z : Bool → Prop) : Prop :=
  (((0 : Int) ≤ 1048576 ∧ (1048576 : Int) ≤ 1048576) ∧ Small aP) ∧ ∀ r5 : Int, r5 = szT aP 1048576 → ∀ c6 : Bool, c6 = decide (r5 < 0) → ((c6 = true → Z true) ∧ (c6 = false → (toProcess_pre aP) ∧ ∀ r9 : Proc, r9 = toProcess aP → (sEncodeProcess_pre r9) ∧ ∀ r21 : Big × Bool, r21 = sEncodeProcess r9 → (toProcess_pre aP) ∧ ∀ r55 : Proc, r55 = toProcess aP → (EncodeProcess_pre r55) ∧ ∀ r75 : Big × Bool, r75 = EncodeProcess r55 → joinW (fun (J113 : Bool → Prop) => (EqB r75.1) ∧ ∀ r274 : Bool, r274 = decide (r75.1 = r21.1) → ((r274 = true → ∀ c275 : Bool, c275 = !(r75.2 == r21.2) → J113 (c275)) ∧ (r274 = false → J113 (true)))) (fun b116 => ((b116 = true → Z false) ∧ (b116 = false → (toProcess_pre aP) ∧ ∀ r129 : Proc, r129 = toProcess aP → (r55.length ≤ 1048576) ∧ ∀ r131 : Bool, r131 = decide (r55 = r129) → ((r131 = true → (markProcess_pre r55 1) ∧ ∀ r133 : Proc × Int, r133 = markProcess r55 1 → joinW (fun (J151 : Bool → Prop) => ∀ c267 : Bool, c267 = decide (r133.2 < 0) → ((c267 = true → J151 (true)) ∧ (c267 = false → (EqB r75.1) ∧ ∀ r270 : Bool, r270 = decide (r75.1 = r21.1) → ((r270 = true → ∀ c271 : Bool, c271 = !(r75.2 == r21.2) → J151 (c271)) ∧ (r270 = false → J151 (true)))))) (fun b154 => ((b154 = true → Z false) ∧ (b154 = false → (markBig_pre r75.1 1) ∧ ∀ r166 : Big × Int, r166 = markBig r75.1 1 → (heldBig_pre (Big.mk r75.1.roots r166.1.nodes r166.1.sites r75.1.edges r166.1.outer r166.1.inner) 1) ∧ ∀ r188 : Int, r188 = heldBig (Big.mk r75.1.roots r166.1.nodes r166.1.sites r75.1.edges r166.1.outer r166.1.inner) 1 → ∀ c189 : Bool, c189 = decide (r188 < 0) → ((c189 = true → Z false) ∧ (c189 = false → ∀ c191 : Bool, c191 = decide (r188 ≠ r166.2) → ((c191 = true → Z false) ∧ (c191 = false → (toProcess_pre aP) ∧ ∀ r194 : Proc, r194 = toProcess aP → (EncodeProcess_pre r194) ∧ ∀ r206 : Big × Bool, r206 = EncodeProcess r194 → joinW (fun (J247 : Bool → Prop) => (EqB r206.1) ∧ ∀ r264 : Bool, r264 = decide (r206.1 = r21.1) → ((r264 = true → ∀ c265 : Bool, c265 = !(r206.2 == r21.2) → J247 (c265)) ∧ (r264 = false → J247 (true)))) (fun b250 => ((b250 = true → Z false) ∧ (b250 = false → (heldBig_pre (Big.mk r75.1.roots r166.1.nodes r166.1.sites r75.1.edges r166.1.outer r166.1.inner) 1) ∧ ∀ r258 : Int, r258 = heldBig (Big.mk r75.1.roots r166.1.nodes r166.1.sites r75.1.edges r166.1.outer r166.1.inner) 1 → ∀ c259 : Bool, c259 = decide (r258 < 0) → ((c259 = true → Z false) ∧ (c259 = false → ∀ c261 : Bool, c261 = decide (r258 ≠ r166.2) → ((c261 = true → Z false) ∧ (c261 = false → Z true))))))))))))))) ∧ (r131 = false → Z false)))))))
theorem encode_len (p : Proc) : EqB (EncodeProcess p).1 := by
  unfold EncodeProcess
  split
  · rename_i h
    have h0 := (goodP_enc h).1
    have h1 := sortedNames_len (p.map (·.name))
    simp only [List.length_map] at h1
    refine ⟨by simp [encoded]; omega, fun z hz => ?_, by simp [encoded], by simp [encoded]; omega, by simp [encoded]⟩
    simp only [encoded, List.mem_map] at hz
    obtain ⟨x, _, rfl⟩ := hz
    simp [encNode]
  · exact ⟨by simp, by simp, by simp, by simp, by simp⟩
theorem lawEncode_vc (p : Proc) (h : lawEncode_pre p) : lawEncode_wp p (fun y => y = lawEncode p) := by
  unfold lawEncode_wp
  simp only [forall_eq, decide_eq_true_eq, decide_eq_false_iff_not, toProcess]
  refine ⟨⟨by omega, h⟩, fun _ => trivial, fun h1 => ?_⟩
  have hp := huge_of h1 (by omega)
  have hT : toProcess_pre p := hp.1
  have hE := encode_len p
  obtain ⟨m1, m2, m3, m4⟩ := markB hE
  have hk : (markProcess p 1).2 = 1 + 3 * p.length := rfl
  refine ⟨hT, hp, hT, hp, fun c => c = false, ⟨hE, fun _ => by simp, fun h => absurd trivial h⟩, ?_⟩
  rintro _ rfl
  refine ⟨fun h => (by cases h), fun _ => ⟨hT, hp.1, fun _ => ⟨⟨by omega, by omega, by omega⟩, fun c => c = false, ⟨fun h => by omega, fun _ => ⟨hE, fun _ => by simp, fun h => absurd trivial h⟩⟩, ?_⟩, fun h => absurd trivial h⟩⟩
  rintro _ rfl
  refine ⟨fun h => (by cases h), fun _ => ⟨m1, m2, fun h => ?_, fun _ => ⟨fun h => absurd m3 h, fun _ => ⟨hT, hp, fun c => c = false, ⟨hE, fun _ => by simp, fun h => absurd trivial h⟩, ?_⟩⟩⟩⟩
  · have m5 : heldBig (markBig (EncodeProcess p).1 1).1 1 < 0 := h
    omega
  rintro _ rfl
  refine ⟨fun h => (by cases h), fun _ => ⟨m2, fun h => ?_, fun _ => ⟨fun h => absurd m3 h, fun _ => trivial⟩⟩⟩
  have m5 : heldBig (markBig (EncodeProcess p).1 1).1 1 < 0 := h
  omega
end Go.Ab.Vg

/- What walks by program lean on: the text of a mark, and nested slices handed over. -/
namespace Go.Ab.Vg
open Go.Proofs
theorem markTxt_ok (k : Int) (h : markTxt_pre k) : PureC Tryd.prog 46 [int k] (fun r => r = str (markTxt k)) := by
  have := markText_ok k.toNat (by omega)
  rwa [Int.toNat_of_nonneg h.1] at this
theorem ArgOk.nest_Node {H : Heap} {n : Nat} (t : Bool) (l : List GNode) : ArgOk H n (.list t (l.map (GNode.cells t))) (.list false (l.map (GNode.cells false))) := Go.Ab.ArgOk.encN t l
theorem old_nest_Node (t : Bool) (l : List GNode) : old (.list t (l.map (GNode.cells t))) = .list false (l.map (GNode.cells false)) := old_encN t l
end Go.Ab.Vg

/- Walks by program for YthahiicfnadamaaDoorAbLm. -/
namespace Go.Ab.Vg
open Go.Proofs
set_option maxRecDepth 100000
set_option linter.unusedSimpArgs false
set_option linter.unusedVariables false
theorem e26 : Ent Tryd.prog 26 := Ent.of Tryd.func26 (by kernel_rfl) rfl
theorem markIntS_walk (a : List Int) (k_ : Int) (Z : ((List Int) × Int) → Prop) (h : markIntS_wp a k_ Z) : MutS Tryd.prog 26 (fun v => [v, int k_]) (.s [.c]) (.list true (a.map intC)) (fun e' r => ∃ y : (List Int) × Int, Z y ∧ e' = .list true (y.1.map intC) ∧ r = int y.2) := by
  unfold markIntS_wp at h
  refine MutS.of Tryd.func26 rfl Tryd.ntmps26 (fun _ => by simp) fun H0 n0 v0 K0 ids0 sp Q hQ => ?_
  have h00 := sp.1
  have hid : ∀ i ∈ ids0, H0 i = H0 i := fun _ _ => rfl
  have hnn : n0 ≤ n0 := Nat.le_refl _
  refine Runs.cut (fun ρ H n => ρ 0 = v0 ∧ ρ 1 = int k_ ∧ n0 ≤ n ∧ (∀ i ∈ ids0, H i = H0 i) ∧ Sep H n (oI v0 a :: K0) (ids0)) (by refine ⟨?_, ?_, (by omega), hid, sp⟩ <;> simp [intC]) ?_
  rintro ρ H n2 ⟨h0, h1, hnn, hid, sp⟩
  have hq_n2 := hnn
  refine Runs.seqE Ty_ok (by decide) fun k' hk' => ?_
  simp [h0, h1, intC]
  refine hk' _ _ _ ?_
  refine Runs.seq ?_
  refine Runs.seqE Ty_ok (by decide) fun k' hk' => ?_
  simp [h0, h1, intC]
  refine hk' _ _ _ ?_
  refine Runs.block ?_
  refine Runs.loopW h (fun (sJ : Int × Int × (List Int)) ρ H n => match sJ with | (k10, i11, l12) => ρ 0 = v0 ∧ ρ 1 = int k10 ∧ ρ 5 = int i11 ∧ n0 ≤ n ∧ (∀ i ∈ ids0, H i = H0 i) ∧ Sep H n (oI v0 l12 :: K0) (ids0)) (by refine ⟨?_, ?_, ?_, (by omega), hid, sp⟩ <;> simp [h0, h1, intC]) ?_
  clear h0 h1
  rintro ⟨k10, i11, l12⟩ ρ H n13 K h ⟨h0, h1, h5, hnn, hid, sp⟩ IH14
  have hq_n13 := hnn
  refine Runs.seq ?_
  refine Runs.seqE Ty_ok (by decide) fun k' hk' => ?_
  obtain ⟨len16, elen16⟩ : ∃ v : Int, v = (l12.length : Int) := ⟨_, rfl⟩
  replace h := h len16 elen16
  have f17 := len_own (Sep.len (m := len16) sp kd_27 (by rw [elen16, List.length_map]))
  obtain ⟨c18, ec18⟩ : ∃ v : Bool, v = decide (i11 < len16) := ⟨_, rfl⟩
  replace h := h c18 ec18
  have f19 := ib_lss (k := .i64) ec18
  simp [h0, h1, h5, f17, f19, intC, -intBin, -lenF]
  refine hk' _ _ _ ?_
  refine Runs.ite (b := c18) (by simp [h0, h1, h5, intC]) (fun dc18 => ?_) (fun dc18 => ?_)
  · replace h := h.1 dc18
    refine Runs.skip ?_
    refine Runs.seq ?_
    refine Runs.block ?_
    refine Runs.seqE Ty_ok (by decide) fun k' hk' => ?_
    obtain ⟨hb20, h⟩ := h
    obtain ⟨id21, hv, mo22, ln23, ni24⟩ := Sep.openF sp (by simp) hb20
    subst hv
    obtain ⟨x25, ex25⟩ : ∃ v : Int, v = at' l12 i11 := ⟨_, rfl⟩
    replace h := h x25 ex25
    have f26 := fun H (hm : H id21 = some ⟨1, l12.map intC⟩) => ix_arr (H := H) (k := .i64) (off := 0) (len := l12.length) (g := l12.length) kd_27 hm (by simp) rfl hb20
    have f27 := at_some (q := i11.toNat) hb20 ex25 rfl
    obtain ⟨l28, el28⟩ : ∃ v : List Int, v = l12.set i11.toNat k10 := ⟨_, rfl⟩
    replace h := h l28 el28
    simp [h0, h1, h5, mo22, f26, f27, dc18, intC, -indexAddrF, -storeF]
    refine bind_store (q := i11.toNat) (news := intC k10) [] (K0) sp (by simp) (by simp; omega) (by simp) (by simp [-one1, o1x]) (Fill.v _ Fill.nil) ?_
    rintro H29 sp hfr30
    replace sp : Sep H29 n13 (oI (.arr id21 l12.length 0 l12.length) l28 :: K0) (ids0) := Sep.st el28 sp
    have hid : ∀ i ∈ ids0, H29 i = H0 i := fun i hi => (hfr30 i (by simp [hi])).trans (hid i hi)
    simp [h0, h1, h5, f26, f27, dc18, intC, -indexAddrF]
    refine hk' _ _ _ ?_
    refine Runs.cut (fun ρ H n => ρ 0 = .arr id21 l12.length 0 l12.length ∧ ρ 1 = int k10 ∧ ρ 5 = int i11 ∧ n0 ≤ n ∧ (∀ i ∈ ids0, H i = H0 i) ∧ Sep H n (oI (.arr id21 l12.length 0 l12.length) l28 :: K0) (ids0)) (by refine ⟨?_, ?_, ?_, (by omega), hid, sp⟩ <;> simp [h0, h1, h5, f26, f27, dc18, intC, -indexAddrF]) ?_
    clear h0 h1 h5
    rintro ρ H n32 ⟨h0, h1, h5, hnn, hid, sp⟩
    have hq_n32 := hnn
    refine Runs.evalE Ty_ok (by decide) fun k' hk' => ?_
    obtain ⟨hb33, h⟩ := h
    obtain ⟨v34, ev34⟩ : ∃ v : Int, v = k10 + 1 := ⟨_, rfl⟩
    replace h := h v34 ev34
    have f35 := ib_add hb33 ev34
    simp [h0, h1, h5, f35, dc18, intC, -intBin]
    refine hk' _ _ _ ?_
    refine Runs.inBlock ?_
    refine Runs.evalE Ty_ok (by decide) fun k' hk' => ?_
    obtain ⟨hb36, h⟩ := h
    obtain ⟨v37, ev37⟩ : ∃ v : Int, v = i11 + 1 := ⟨_, rfl⟩
    replace h := h v37 ev37
    have f38 := ib_add hb36 ev37
    simp [h0, h1, h5, f38, dc18, intC, -intBin]
    refine hk' _ _ _ ?_
    refine IH14 (v34, v37, l28) _ _ _ h (by refine ⟨?_, ?_, ?_, (by omega), hid, sp⟩ <;> simp [h0, h1, h5, dc18, intC])
  · replace h := h.2 dc18
    refine Runs.exit rfl ?_
    refine Runs.seqE Ty_ok (by decide) fun k' hk' => ?_
    simp [h0, h1, h5, dc18, intC]
    refine hk' _ _ _ ?_
    exact Runs.ret1 (v := int k10) Tryd.func26 Tryd.results26 (by simp [h0, h1, h5, dc18, intC]) (hQ _ _ _ _ (Sep.sub sp (by simp +contextual)) hid (by omega) ⟨(l12, k10), h, rfl, rfl⟩)

theorem markIntS_ok (a : List Int) (k_ : Int) (hp : markIntS_pre a k_) : MutS Tryd.prog 26 (fun v => [v, int k_]) (.s [.c]) (.list true (a.map intC)) (fun e' r => e' = .list true (((markIntS a k_).1).map intC) ∧ r = int ((markIntS a k_).2)) := (markIntS_walk a k_ _ (markIntS_vc a k_ hp)).mono (by rintro _ _ ⟨_, rfl, rfl, rfl⟩; exact ⟨rfl, rfl⟩)

theorem e27 : Ent Tryd.prog 27 := Ent.of Tryd.func27 (by kernel_rfl) rfl
theorem markStringS_walk (a : List Str) (k_ : Int) (Z : ((List Str) × Int) → Prop) (h : markStringS_wp a k_ Z) : MutS Tryd.prog 27 (fun v => [v, int k_]) (.s [.c]) (.list true (a.map strC)) (fun e' r => ∃ y : (List Str) × Int, Z y ∧ e' = .list true (y.1.map strC) ∧ r = int y.2) := by
  unfold markStringS_wp at h
  refine MutS.of Tryd.func27 rfl Tryd.ntmps27 (fun _ => by simp) fun H0 n0 v0 K0 ids0 sp Q hQ => ?_
  have h00 := sp.1
  have hid : ∀ i ∈ ids0, H0 i = H0 i := fun _ _ => rfl
  have hnn : n0 ≤ n0 := Nat.le_refl _
  refine Runs.cut (fun ρ H n => ρ 0 = v0 ∧ ρ 1 = int k_ ∧ n0 ≤ n ∧ (∀ i ∈ ids0, H i = H0 i) ∧ Sep H n (oS v0 a :: K0) (ids0)) (by refine ⟨?_, ?_, (by omega), hid, sp⟩ <;> simp [strC]) ?_
  rintro ρ H n2 ⟨h0, h1, hnn, hid, sp⟩
  have hq_n2 := hnn
  refine Runs.seqE Ty_ok (by decide) fun k' hk' => ?_
  simp [h0, h1, strC]
  refine hk' _ _ _ ?_
  refine Runs.seq ?_
  refine Runs.seqE Ty_ok (by decide) fun k' hk' => ?_
  simp [h0, h1, strC]
  refine hk' _ _ _ ?_
  refine Runs.block ?_
  refine Runs.loopW h (fun (sJ : Int × Int × (List Str)) ρ H n => match sJ with | (k10, i11, l12) => ρ 0 = v0 ∧ ρ 1 = int k10 ∧ ρ 5 = int i11 ∧ n0 ≤ n ∧ (∀ i ∈ ids0, H i = H0 i) ∧ Sep H n (oS v0 l12 :: K0) (ids0)) (by refine ⟨?_, ?_, ?_, (by omega), hid, sp⟩ <;> simp [h0, h1, strC]) ?_
  clear h0 h1
  rintro ⟨k10, i11, l12⟩ ρ H n13 K h ⟨h0, h1, h5, hnn, hid, sp⟩ IH14
  have hq_n13 := hnn
  refine Runs.seq ?_
  refine Runs.seqE Ty_ok (by decide) fun k' hk' => ?_
  obtain ⟨len16, elen16⟩ : ∃ v : Int, v = (l12.length : Int) := ⟨_, rfl⟩
  replace h := h len16 elen16
  have f17 := len_own (Sep.len (m := len16) sp kd_28 (by rw [elen16, List.length_map]))
  obtain ⟨c18, ec18⟩ : ∃ v : Bool, v = decide (i11 < len16) := ⟨_, rfl⟩
  replace h := h c18 ec18
  have f19 := ib_lss (k := .i64) ec18
  simp [h0, h1, h5, f17, f19, strC, -intBin, -lenF]
  refine hk' _ _ _ ?_
  refine Runs.ite (b := c18) (by simp [h0, h1, h5, strC]) (fun dc18 => ?_) (fun dc18 => ?_)
  · replace h := h.1 dc18
    refine Runs.skip ?_
    refine Runs.seq ?_
    refine Runs.block ?_
    refine Runs.seqE Ty_ok (by decide) fun k' hk' => ?_
    obtain ⟨hb20, h⟩ := h
    obtain ⟨r21, er21⟩ : ∃ v : Str, v = markTxt k10 := ⟨_, rfl⟩
    replace h := h r21 er21
    simp [h0, h1, h5, dc18, strC]
    refine RunK.callA Ty_ok (markTxt_ok k10 hb20) e46 (.cons (.v _ _ _) .nil) (by decide) (by decide) rfl (by simp [h0, h1, h5, dc18, strC]) ?_
    rintro _ rfl
    rw [← er21]
    obtain ⟨hb22, h⟩ := h
    obtain ⟨id23, hv, mo24, ln25, ni26⟩ := Sep.openF sp (by simp) hb22
    subst hv
    obtain ⟨x27, ex27⟩ : ∃ v : Str, v = at' l12 i11 := ⟨_, rfl⟩
    replace h := h x27 ex27
    have f28 := fun H (hm : H id23 = some ⟨1, l12.map strC⟩) => ix_arr (H := H) (k := .i64) (off := 0) (len := l12.length) (g := l12.length) kd_28 hm (by simp) rfl hb22
    have f29 := at_some (q := i11.toNat) hb22 ex27 rfl
    obtain ⟨l30, el30⟩ : ∃ v : List Str, v = l12.set i11.toNat r21 := ⟨_, rfl⟩
    replace h := h l30 el30
    simp [h0, h1, h5, mo24, f28, f29, dc18, strC, -indexAddrF, -storeF]
    refine bind_store (q := i11.toNat) (news := strC r21) [] (K0) sp (by simp) (by simp; omega) (by simp) (by simp [-one1, o1x]) (Fill.v _ Fill.nil) ?_
    rintro H31 sp hfr32
    replace sp : Sep H31 n13 (oS (.arr id23 l12.length 0 l12.length) l30 :: K0) (ids0) := Sep.st el30 sp
    have hid : ∀ i ∈ ids0, H31 i = H0 i := fun i hi => (hfr32 i (by simp [hi])).trans (hid i hi)
    simp [h0, h1, h5, f28, f29, dc18, strC, -indexAddrF]
    refine hk' _ _ _ ?_
    refine Runs.cut (fun ρ H n => ρ 0 = .arr id23 l12.length 0 l12.length ∧ ρ 1 = int k10 ∧ ρ 5 = int i11 ∧ n0 ≤ n ∧ (∀ i ∈ ids0, H i = H0 i) ∧ Sep H n (oS (.arr id23 l12.length 0 l12.length) l30 :: K0) (ids0)) (by refine ⟨?_, ?_, ?_, (by omega), hid, sp⟩ <;> simp [h0, h1, h5, f28, f29, dc18, strC, -indexAddrF]) ?_
    clear h0 h1 h5
    rintro ρ H n34 ⟨h0, h1, h5, hnn, hid, sp⟩
    have hq_n34 := hnn
    refine Runs.evalE Ty_ok (by decide) fun k' hk' => ?_
    obtain ⟨hb35, h⟩ := h
    obtain ⟨v36, ev36⟩ : ∃ v : Int, v = k10 + 1 := ⟨_, rfl⟩
    replace h := h v36 ev36
    have f37 := ib_add hb35 ev36
    simp [h0, h1, h5, f37, dc18, strC, -intBin]
    refine hk' _ _ _ ?_
    refine Runs.inBlock ?_
    refine Runs.evalE Ty_ok (by decide) fun k' hk' => ?_
    obtain ⟨hb38, h⟩ := h
    obtain ⟨v39, ev39⟩ : ∃ v : Int, v = i11 + 1 := ⟨_, rfl⟩
    replace h := h v39 ev39
    have f40 := ib_add hb38 ev39
    simp [h0, h1, h5, f40, dc18, strC, -intBin]
    refine hk' _ _ _ ?_
    refine IH14 (v36, v39, l30) _ _ _ h (by refine ⟨?_, ?_, ?_, (by omega), hid, sp⟩ <;> simp [h0, h1, h5, dc18, strC])
  · replace h := h.2 dc18
    refine Runs.exit rfl ?_
    refine Runs.seqE Ty_ok (by decide) fun k' hk' => ?_
    simp [h0, h1, h5, dc18, strC]
    refine hk' _ _ _ ?_
    exact Runs.ret1 (v := int k10) Tryd.func27 Tryd.results27 (by simp [h0, h1, h5, dc18, strC]) (hQ _ _ _ _ (Sep.sub sp (by simp +contextual)) hid (by omega) ⟨(l12, k10), h, rfl, rfl⟩)

theorem markStringS_ok (a : List Str) (k_ : Int) (hp : markStringS_pre a k_) : MutS Tryd.prog 27 (fun v => [v, int k_]) (.s [.c]) (.list true (a.map strC)) (fun e' r => e' = .list true (((markStringS a k_).1).map strC) ∧ r = int ((markStringS a k_).2)) := (markStringS_walk a k_ _ (markStringS_vc a k_ hp)).mono (by rintro _ _ ⟨_, rfl, rfl, rfl⟩; exact ⟨rfl, rfl⟩)

theorem e28 : Ent Tryd.prog 28 := Ent.of Tryd.func28 (by kernel_rfl) rfl
theorem markWireS_walk (a : List Wire) (k_ : Int) (Z : ((List Wire) × Int) → Prop) (h : markWireS_wp a k_ Z) : MutS Tryd.prog 28 (fun v => [v, int k_]) (.s [.c, .c]) (.list true (a.map Wire.cells)) (fun e' r => ∃ y : (List Wire) × Int, Z y ∧ e' = .list true (y.1.map Wire.cells) ∧ r = int y.2) := by
  unfold markWireS_wp at h
  refine MutS.of Tryd.func28 rfl Tryd.ntmps28 (fun _ => by simp) fun H0 n0 v0 K0 ids0 sp Q hQ => ?_
  have h00 := sp.1
  have hid : ∀ i ∈ ids0, H0 i = H0 i := fun _ _ => rfl
  have hnn : n0 ≤ n0 := Nat.le_refl _
  refine Runs.cut (fun ρ H n => ρ 0 = v0 ∧ ρ 1 = int k_ ∧ n0 ≤ n ∧ (∀ i ∈ ids0, H i = H0 i) ∧ Sep H n (oW v0 a :: K0) (ids0)) (by refine ⟨?_, ?_, (by omega), hid, sp⟩ <;> simp [Wire.cells, intC, strC]) ?_
  rintro ρ H n2 ⟨h0, h1, hnn, hid, sp⟩
  have hq_n2 := hnn
  refine Runs.seqE Ty_ok (by decide) fun k' hk' => ?_
  simp [h0, h1, Wire.cells, intC, strC]
  refine hk' _ _ _ ?_
  refine Runs.seq ?_
  refine Runs.seqE Ty_ok (by decide) fun k' hk' => ?_
  simp [h0, h1, Wire.cells, intC, strC]
  refine hk' _ _ _ ?_
  refine Runs.block ?_
  refine Runs.loopW h (fun (sJ : Int × Int × (List Wire)) ρ H n => match sJ with | (k10, i11, l12) => ρ 0 = v0 ∧ ρ 1 = int k10 ∧ ρ 5 = int i11 ∧ n0 ≤ n ∧ (∀ i ∈ ids0, H i = H0 i) ∧ Sep H n (oW v0 l12 :: K0) (ids0)) (by refine ⟨?_, ?_, ?_, (by omega), hid, sp⟩ <;> simp [h0, h1, Wire.cells, intC, strC]) ?_
  clear h0 h1
  rintro ⟨k10, i11, l12⟩ ρ H n13 K h ⟨h0, h1, h5, hnn, hid, sp⟩ IH14
  have hq_n13 := hnn
  refine Runs.seq ?_
  refine Runs.seqE Ty_ok (by decide) fun k' hk' => ?_
  obtain ⟨len16, elen16⟩ : ∃ v : Int, v = (l12.length : Int) := ⟨_, rfl⟩
  replace h := h len16 elen16
  have f17 := len_own (Sep.len (m := len16) sp kd_29 (by rw [elen16, List.length_map]))
  obtain ⟨c18, ec18⟩ : ∃ v : Bool, v = decide (i11 < len16) := ⟨_, rfl⟩
  replace h := h c18 ec18
  have f19 := ib_lss (k := .i64) ec18
  simp [h0, h1, h5, f17, f19, Wire.cells, intC, strC, -intBin, -lenF]
  refine hk' _ _ _ ?_
  refine Runs.ite (b := c18) (by simp [h0, h1, h5, Wire.cells, intC, strC]) (fun dc18 => ?_) (fun dc18 => ?_)
  · replace h := h.1 dc18
    refine Runs.skip ?_
    refine Runs.seq ?_
    refine Runs.block ?_
    refine Runs.seqE Ty_ok (by decide) fun k' hk' => ?_
    obtain ⟨hb20, h⟩ := h
    obtain ⟨r21, er21⟩ : ∃ v : Str, v = markTxt k10 := ⟨_, rfl⟩
    replace h := h r21 er21
    simp [h0, h1, h5, dc18, Wire.cells, intC, strC]
    refine RunK.callA Ty_ok (markTxt_ok k10 hb20) e46 (.cons (.v _ _ _) .nil) (by decide) (by decide) rfl (by simp [h0, h1, h5, dc18, Wire.cells, intC, strC]) ?_
    rintro _ rfl
    rw [← er21]
    obtain ⟨hb22, h⟩ := h
    obtain ⟨id23, hv, mo24, ln25, ni26⟩ := Sep.openF sp (by simp) hb22
    subst hv
    obtain ⟨x27, ex27⟩ : ∃ v : Wire, v = at' l12 i11 := ⟨_, rfl⟩
    replace h := h x27 ex27
    have f28 := fun H (hm : H id23 = some ⟨2, l12.map Wire.cells⟩) => ix_arr (H := H) (k := .i64) (off := 0) (len := l12.length) (g := l12.length) kd_29 hm (by simp) rfl hb22
    have f29 := at_some (q := i11.toNat) hb22 ex27 rfl
    obtain ⟨l30, el30⟩ : ∃ v : List Wire, v = l12.set i11.toNat (Wire.mk r21 x27.link) := ⟨_, rfl⟩
    replace h := h l30 el30
    simp [h0, h1, h5, mo24, f28, f29, dc18, Wire.cells, intC, strC, -indexAddrF, -storeF]
    refine bind_field (i := ty9) (q := i11.toNat) (off := 0) (new := [str r21]) (ix := i11) (x := x27) (y := (Wire.mk r21 x27.link)) (f := Wire.cells) sp (by simp) (by simp) hb22 ex27 rfl rfl (fun _ => rfl) (by simp [Wire.cells, intC, strC]) (by simp) (by simp [splice, Wire.cells, intC, strC]) (by simp) ?_
    rintro H31 sp hfr32
    replace sp : Sep H31 n13 (oW (.arr id23 l12.length 0 l12.length) l30 :: K0) (ids0) := by rw [el30]; exact sp
    have hid : ∀ i ∈ ids0, H31 i = H0 i := fun i hi => (hfr32 i (by simp [hi])).trans (hid i hi)
    simp [h0, h1, h5, f28, f29, dc18, Wire.cells, intC, strC, -indexAddrF]
    refine hk' _ _ _ ?_
    refine Runs.cut (fun ρ H n => ρ 0 = .arr id23 l12.length 0 l12.length ∧ ρ 1 = int k10 ∧ ρ 5 = int i11 ∧ n0 ≤ n ∧ (∀ i ∈ ids0, H i = H0 i) ∧ Sep H n (oW (.arr id23 l12.length 0 l12.length) l30 :: K0) (ids0)) (by refine ⟨?_, ?_, ?_, (by omega), hid, sp⟩ <;> simp [h0, h1, h5, f28, f29, dc18, Wire.cells, intC, strC, -indexAddrF]) ?_
    clear h0 h1 h5
    rintro ρ H n34 ⟨h0, h1, h5, hnn, hid, sp⟩
    have hq_n34 := hnn
    refine Runs.seqE Ty_ok (by decide) fun k' hk' => ?_
    obtain ⟨hb35, h⟩ := h
    obtain ⟨v36, ev36⟩ : ∃ v : Int, v = k10 + 1 := ⟨_, rfl⟩
    replace h := h v36 ev36
    have f37 := ib_add hb35 ev36
    simp [h0, h1, h5, f37, dc18, Wire.cells, intC, strC, -intBin]
    refine hk' _ _ _ ?_
    refine Runs.seqE Ty_ok (by decide) fun k' hk' => ?_
    obtain ⟨hb38, h⟩ := h
    obtain ⟨id39, hv, mo40, ln41, ni42⟩ := Sep.openF sp (by simp) hb38
    simp only [AVal.arr.injEq] at hv
    obtain ⟨hv, hln43, -⟩ := hv
    subst hv
    have hlshln43 := hln43.symm
    obtain ⟨x44, ex44⟩ : ∃ v : Wire, v = at' l30 i11 := ⟨_, rfl⟩
    replace h := h x44 ex44
    have f45 := fun H (hm : H id23 = some ⟨2, l30.map Wire.cells⟩) => ix_arr (H := H) (k := .i64) (off := 0) (len := l12.length) (g := l12.length) kd_29 hm (by simp [hln43]) rfl (by rw [hln43]; exact hb38)
    have f46 := at_some (q := i11.toNat) hb38 ex44 rfl
    obtain ⟨l47, el47⟩ : ∃ v : List Wire, v = l30.set i11.toNat (Wire.mk x44.name v36) := ⟨_, rfl⟩
    replace h := h l47 el47
    simp [h0, h1, h5, hlshln43, mo40, f45, f46, dc18, Wire.cells, intC, strC, -indexAddrF, -storeF]
    refine bind_field (i := ty3) (q := i11.toNat) (off := 1) (new := [int v36]) (ix := i11) (x := x44) (y := (Wire.mk x44.name v36)) (f := Wire.cells) sp (by simp) (by simp) hb38 ex44 rfl hln43 (fun _ => rfl) (by simp [Wire.cells, intC, strC]) (by simp) (by simp [splice, Wire.cells, intC, strC]) (by simp) ?_
    rintro H48 sp hfr49
    replace sp : Sep H48 n34 (oW (.arr id23 l12.length 0 l12.length) l47 :: K0) (ids0) := by rw [el47]; exact sp
    have hid : ∀ i ∈ ids0, H48 i = H0 i := fun i hi => (hfr49 i (by simp [hi])).trans (hid i hi)
    simp [h0, h1, h5, hlshln43, f45, f46, dc18, Wire.cells, intC, strC, -indexAddrF]
    refine hk' _ _ _ ?_
    refine Runs.cut (fun ρ H n => ρ 0 = .arr id23 l12.length 0 l12.length ∧ ρ 1 = int v36 ∧ ρ 5 = int i11 ∧ n0 ≤ n ∧ (∀ i ∈ ids0, H i = H0 i) ∧ Sep H n (oW (.arr id23 l12.length 0 l12.length) l47 :: K0) (ids0)) (by refine ⟨?_, ?_, ?_, (by omega), hid, sp⟩ <;> simp [h0, h1, h5, hlshln43, f45, f46, dc18, Wire.cells, intC, strC, -indexAddrF]) ?_
    clear h0 h1 h5 hlshln43
    rintro ρ H n51 ⟨h0, h1, h5, hnn, hid, sp⟩
    have hq_n51 := hnn
    refine Runs.evalE Ty_ok (by decide) fun k' hk' => ?_
    obtain ⟨hb52, h⟩ := h
    obtain ⟨v53, ev53⟩ : ∃ v : Int, v = v36 + 1 := ⟨_, rfl⟩
    replace h := h v53 ev53
    have f54 := ib_add hb52 ev53
    simp [h0, h1, h5, f54, dc18, Wire.cells, intC, strC, -intBin]
    refine hk' _ _ _ ?_
    refine Runs.inBlock ?_
    refine Runs.evalE Ty_ok (by decide) fun k' hk' => ?_
    obtain ⟨hb55, h⟩ := h
    obtain ⟨v56, ev56⟩ : ∃ v : Int, v = i11 + 1 := ⟨_, rfl⟩
    replace h := h v56 ev56
    have f57 := ib_add hb55 ev56
    simp [h0, h1, h5, f57, dc18, Wire.cells, intC, strC, -intBin]
    refine hk' _ _ _ ?_
    refine IH14 (v53, v56, l47) _ _ _ h (by refine ⟨?_, ?_, ?_, (by omega), hid, sp⟩ <;> simp [h0, h1, h5, dc18, Wire.cells, intC, strC])
  · replace h := h.2 dc18
    refine Runs.exit rfl ?_
    refine Runs.seqE Ty_ok (by decide) fun k' hk' => ?_
    simp [h0, h1, h5, dc18, Wire.cells, intC, strC]
    refine hk' _ _ _ ?_
    exact Runs.ret1 (v := int k10) Tryd.func28 Tryd.results28 (by simp [h0, h1, h5, dc18, Wire.cells, intC, strC]) (hQ _ _ _ _ (Sep.sub sp (by simp +contextual)) hid (by omega) ⟨(l12, k10), h, rfl, rfl⟩)

theorem markWireS_ok (a : List Wire) (k_ : Int) (hp : markWireS_pre a k_) : MutS Tryd.prog 28 (fun v => [v, int k_]) (.s [.c, .c]) (.list true (a.map Wire.cells)) (fun e' r => e' = .list true (((markWireS a k_).1).map Wire.cells) ∧ r = int ((markWireS a k_).2)) := (markWireS_walk a k_ _ (markWireS_vc a k_ hp)).mono (by rintro _ _ ⟨_, rfl, rfl, rfl⟩; exact ⟨rfl, rfl⟩)

theorem e30 : Ent Tryd.prog 30 := Ent.of Tryd.func30 (by kernel_rfl) rfl
theorem heldIntS_walk (a : List Int) (k_ : Int) (Z : Int → Prop) (h : heldIntS_wp a k_ Z) : PureC Tryd.prog 30 [.list false (a.map intC), int k_] (fun r => ∃ y : Int, Z y ∧ r = int y) := by
  unfold heldIntS_wp at h
  refine PureC.of Tryd.func30 rfl Tryd.ntmps30 (by simp) fun Q hQ => ?_
  refine Runs.cut (fun ρ H n => ρ 0 = .list false (a.map intC) ∧ ρ 1 = int k_) (by refine ⟨?_, ?_⟩ <;> simp [intC]) ?_
  rintro ρ H n1 ⟨h0, h1⟩
  refine Runs.seqE Ty_ok (by decide) fun k' hk' => ?_
  simp [h0, h1, intC]
  refine hk' _ _ _ ?_
  refine Runs.seq ?_
  refine Runs.seqE Ty_ok (by decide) fun k' hk' => ?_
  simp [h0, h1, intC]
  refine hk' _ _ _ ?_
  refine Runs.block ?_
  refine Runs.loopW h (fun (sJ : Int × Int) ρ H n => match sJ with | (k5, i6) => ρ 0 = .list false (a.map intC) ∧ ρ 1 = int k5 ∧ ρ 5 = int i6) (by refine ⟨?_, ?_, ?_⟩ <;> simp [h0, h1, intC]) ?_
  clear h0 h1
  rintro ⟨k5, i6⟩ ρ H n7 K h ⟨h0, h1, h5⟩ IH8
  refine Runs.seq ?_
  refine Runs.seqE Ty_ok (by decide) fun k' hk' => ?_
  obtain ⟨len10, elen10⟩ : ∃ v : Int, v = (a.length : Int) := ⟨_, rfl⟩
  replace h := h len10 elen10
  have f11 := fun H => len_list (H := H) (fr := false) (f := intC) kd_27 elen10
  obtain ⟨c12, ec12⟩ : ∃ v : Bool, v = decide (i6 < len10) := ⟨_, rfl⟩
  replace h := h c12 ec12
  have f13 := ib_lss (k := .i64) ec12
  simp [h0, h1, h5, f11, f13, intC, -intBin, -lenF]
  refine hk' _ _ _ ?_
  refine Runs.ite (b := c12) (by simp [h0, h1, h5, intC]) (fun dc12 => ?_) (fun dc12 => ?_)
  · replace h := h.1 dc12
    refine Runs.skip ?_
    refine Runs.seq ?_
    refine Runs.block ?_
    refine Runs.seq ?_
    refine Runs.seqE Ty_ok (by decide) fun k' hk' => ?_
    obtain ⟨hb14, h⟩ := h
    obtain ⟨x15, ex15⟩ : ∃ v : Int, v = at' a i6 := ⟨_, rfl⟩
    replace h := h x15 ex15
    have f16 := fun H => ix_list (H := H) (fr := false) (f := intC) (k := .i64) kd_27 (fun _ => rfl) hb14 ex15
    obtain ⟨c17, ec17⟩ : ∃ v : Bool, v = decide (x15 ≠ k5) := ⟨_, rfl⟩
    replace h := h c17 ec17
    have f18 := ib_neq (k := .i64) ec17
    simp [h0, h1, h5, f16, f18, dc12, intC, -indexAddrF, -intBin]
    refine hk' _ _ _ ?_
    refine Runs.ite (b := c17) (by simp [h0, h1, h5, dc12, intC]) (fun dc17 => ?_) (fun dc17 => ?_)
    · replace h := h.1 dc17
      refine Runs.seqE Ty_ok (by decide) fun k' hk' => ?_
      simp [h0, h1, h5, dc12, dc17, intC]
      refine hk' _ _ _ ?_
      exact Runs.ret1 (v := int (-1)) Tryd.func30 Tryd.results30 (by simp [h0, h1, h5, dc12, dc17, intC]) (hQ _ _ _ _ (.of (.v _)) ⟨(-1), h, rfl⟩)
    · replace h := h.2 dc17
      refine Runs.skip ?_
      refine Runs.evalE Ty_ok (by decide) fun k' hk' => ?_
      obtain ⟨hb19, h⟩ := h
      obtain ⟨v20, ev20⟩ : ∃ v : Int, v = k5 + 1 := ⟨_, rfl⟩
      replace h := h v20 ev20
      have f21 := ib_add hb19 ev20
      simp [h0, h1, h5, f21, dc12, dc17, intC, -intBin]
      refine hk' _ _ _ ?_
      refine Runs.inBlock ?_
      refine Runs.evalE Ty_ok (by decide) fun k' hk' => ?_
      obtain ⟨hb22, h⟩ := h
      obtain ⟨v23, ev23⟩ : ∃ v : Int, v = i6 + 1 := ⟨_, rfl⟩
      replace h := h v23 ev23
      have f24 := ib_add hb22 ev23
      simp [h0, h1, h5, f24, dc12, dc17, intC, -intBin]
      refine hk' _ _ _ ?_
      refine Runs.cut (fun ρ H n => ρ 0 = .list false (a.map intC) ∧ ρ 1 = int v20 ∧ ρ 5 = int v23) (by refine ⟨?_, ?_, ?_⟩ <;> simp [h0, h1, h5, f24, dc12, dc17, intC, -intBin]) ?_
      clear h0 h1 h5
      rintro ρ H n25 ⟨h0, h1, h5⟩
      refine IH8 (v20, v23) _ _ _ h (by refine ⟨?_, ?_, ?_⟩ <;> simp [h0, h1, h5, dc12, dc17, intC])
  · replace h := h.2 dc12
    refine Runs.exit rfl ?_
    refine Runs.seqE Ty_ok (by decide) fun k' hk' => ?_
    simp [h0, h1, h5, dc12, intC]
    refine hk' _ _ _ ?_
    exact Runs.ret1 (v := int k5) Tryd.func30 Tryd.results30 (by simp [h0, h1, h5, dc12, intC]) (hQ _ _ _ _ (.of (.v _)) ⟨k5, h, rfl⟩)

theorem heldIntS_ok (a : List Int) (k_ : Int) (hp : heldIntS_pre a k_) : PureC Tryd.prog 30 [.list false (a.map intC), int k_] (fun r => r = int (heldIntS a k_)) := (heldIntS_walk a k_ _ (heldIntS_vc a k_ hp)).mono (by rintro _ ⟨_, rfl, rfl⟩; rfl)
end Go.Ab.Vg
