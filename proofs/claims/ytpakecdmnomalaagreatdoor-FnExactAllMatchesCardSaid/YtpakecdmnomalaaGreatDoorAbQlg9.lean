/- Merged texts (9 of 14) of the proof that ends in Lgy: Rp Rb Md Mo Mq Mr L2kw Maw O. -/
import Derived.Test.YtpakecdmnomalaaGreatDoorAbQlg8
/- Readers of the laws' arguments: processes. -/
namespace Go.Proofs.YtpakecdmnomalaaGreatDoor
open Go.ChangeShapes Go.WideShapes Go.ChangeAt Go.RowKit Go.Ab
set_option maxRecDepth 100000
theorem own : ownKnob Tryz.prog.godebug = none := by kernel_rfl
theorem laidOut : laidOutB Tryz.prog = true := by kernel_rfl
theorem underBool : Tryz.prog.underlying 4 = some .bool := Tryz.underlying4
end Go.Proofs.YtpakecdmnomalaaGreatDoor
/- Readers of the laws' arguments: signatures and bigraphs. -/
namespace Go.Proofs.YtpakecdmnomalaaGreatDoor
open Go.ChangeShapes Go.WideShapes Go.ChangeAt Go.RowKit Go.Ab
set_option maxRecDepth 100000
theorem rControl : Reader Tryz.prog 63 Control.cells (fun x => x.name.length ≤ 9223372036854775807) := by
 have h := Reader.struct Tryz.underlying63 (n := 3) (by kernel_rfl) (FReader.cons (n := 1) rfl (by kernel_rfl) (Reader.str Tryz.underlying9) (FReader.cons (n := 1) rfl (by kernel_rfl) (Reader.int Tryz.underlying3) (FReader.cons (n := 1) rfl (by kernel_rfl) (Reader.int Tryz.underlying3) (FReader.nil 3))))
 exact h.map (fun p => ⟨p.1, p.2.1, p.2.2.1⟩) (fun p => rfl) (fun p hp => hp.1)
theorem rWire : Reader Tryz.prog 99 Wire.cells (fun x => x.name.length ≤ 9223372036854775807) := by
 have h := Reader.struct Tryz.underlying99 (n := 2) (by kernel_rfl) (FReader.cons (n := 1) rfl (by kernel_rfl) (Reader.str Tryz.underlying9) (FReader.cons (n := 1) rfl (by kernel_rfl) (Reader.int Tryz.underlying3) (FReader.nil 2)))
 exact h.map (fun p => ⟨p.1, p.2.1⟩) (fun p => rfl) (fun p hp => hp.1)
theorem rInts : Reader Tryz.prog 24 (fun l : List Int => [Ab.encI false l]) (fun l => l.length ≤ 9223372036854775807 ∧ ∀ p ∈ l, I64 p) :=
 Reader.slice Tryz.underlying24 (of_decide_eq_true (by kernel_rfl)) (Reader.int Tryz.underlying3)
theorem rStrs : Reader Tryz.prog 25 (fun l : List Str => [Ab.encS false l]) (fun l => l.length ≤ 9223372036854775807 ∧ ∀ s ∈ l, s.length ≤ 9223372036854775807) :=
 Reader.slice Tryz.underlying25 (of_decide_eq_true (by kernel_rfl)) (Reader.str Tryz.underlying9)
theorem rGNode : Reader Tryz.prog 96 (GNode.cells false) (fun x => x.links.length ≤ 9223372036854775807 ∧ I64 x.parent) := by
 have h := Reader.struct Tryz.underlying96 (n := 3) (by kernel_rfl) (FReader.cons (n := 1) rfl (by kernel_rfl) (Reader.int Tryz.underlying3) (FReader.cons (n := 1) rfl (by kernel_rfl) (Reader.int Tryz.underlying3) (FReader.cons (n := 1) rfl (by kernel_rfl) rInts (FReader.nil 3))))
 exact h.map (fun p => ⟨p.1, p.2.1, p.2.2.1⟩) (fun p => rfl) (fun p hp => ⟨hp.2.2.1.1, hp.2.1⟩)
theorem rNodes : Reader Tryz.prog 23 (fun l : List GNode => [Ab.encN false l]) (fun l => l.length ≤ 9223372036854775807 ∧ ∀ x ∈ l, x.links.length ≤ 9223372036854775807 ∧ I64 x.parent) :=
 Reader.slice Tryz.underlying23 (of_decide_eq_true (by kernel_rfl)) rGNode
theorem rWires : Reader Tryz.prog 26 (fun l : List Wire => [Ab.encW false l]) (fun l => l.length ≤ 9223372036854775807 ∧ ∀ x ∈ l, x.name.length ≤ 9223372036854775807) :=
 Reader.slice Tryz.underlying26 (of_decide_eq_true (by kernel_rfl)) rWire
theorem rSig : ArgR Tryz.prog 22 (encSig false) HugeS := by
 refine ArgR.cell (cell_slice Tryz.underlying22) ?_
 have h := Reader.slice Tryz.underlying22 (of_decide_eq_true (by kernel_rfl)) rControl
 exact h.map (fun p => p) (fun p => rfl) (fun p hp => ⟨hp.1, hp.2⟩)
theorem rBig : ArgR Tryz.prog 28 (encB false) HugeB := by
 have h := Reader.struct Tryz.underlying28 (n := 6) (by kernel_rfl) (FReader.cons (n := 1) rfl (by kernel_rfl) (Reader.int Tryz.underlying3) (FReader.cons (n := 1) rfl (by kernel_rfl) rNodes (FReader.cons (n := 1) rfl (by kernel_rfl) rInts
  (FReader.cons (n := 1) rfl (by kernel_rfl) (Reader.int Tryz.underlying3) (FReader.cons (n := 1) rfl (by kernel_rfl) rStrs (FReader.cons (n := 1) rfl (by kernel_rfl) rWires (FReader.nil 6)))))))
 have h2 := h.map (e' := Big.cells false) (ok' := HugeB) (fun p => ⟨p.1, p.2.1, p.2.2.1, p.2.2.2.1, p.2.2.2.2.1, p.2.2.2.2.2.1⟩) (fun p => rfl) (fun p hp => by
  obtain ⟨_, h1, h2, _, h3, h4, _⟩ := hp
  exact ⟨h1.1, fun x hx => (h1.2 x hx).1, h2.1, h3.1, h3.2, h4.1, h4.2, fun x hx => (h1.2 x hx).2, h2.2⟩)
 exact ArgR.struct Tryz.underlying28 h2
end Go.Proofs.YtpakecdmnomalaaGreatDoor
/- IsMatch, IsActiveMatch, MatchLinks (statements 12, 14, 16): the laws' own functions on matches, and the laws. -/
namespace Go.Ab.Vg
set_option linter.unusedSimpArgs false
set_option linter.unusedVariables false
abbrev eqM (a b : Match) : Bool := decide (a = b)
abbrev eqM_pre (a _ : Match) : Prop := MSz a
def eqM_wp (a : Match) (b : Match) (Z : Bool → Prop) : Prop :=
 (a.nodes.length ≤ 1048576) ∧ ∀ r6 : Bool, r6 = decide (a.nodes = b.nodes) → ((r6 = true → (a.roots.length ≤ 1048576) ∧ ∀ r8 : Bool, r8 = decide (a.roots = b.roots) → ((r8 = true → Z true) ∧ (r8 = false → Z false))) ∧ (r6 = false → Z false))
theorem eqM_vc (a b : Match) (h : eqM_pre a b) : eqM_wp a b (fun y => y = eqM a b) := by
 unfold eqM_wp
 simp only [forall_eq, decide_eq_true_eq, decide_eq_false_iff_not]
 obtain ⟨x, y⟩ := a
 obtain ⟨z, w⟩ := b
 refine ⟨h.1, fun h1 => ⟨h.2, fun h2 => ?_, fun h2 => ?_⟩, fun h1 => ?_⟩
 ·simp only at h1 h2; subst h1 h2; simp
 ·simp only at h1 h2; simp [eqM, h2]
 ·simp only at h1; simp [eqM, h1]
abbrev EqB (x : Big) : Prop := x.nodes.length ≤ 1048576 ∧ (∀ z ∈ x.nodes, z.links.length ≤ 1048576) ∧ x.sites.length ≤ 1048576 ∧ x.outer.length ≤ 1048576 ∧ x.inner.length ≤ 1048576
theorem eqOf {sig : Sig} {b : Big} (h : SmallB sig b) : EqB b := ⟨h.nodesLen, h.linksLen, h.sitesLen, h.outerLen, h.innerLen⟩
theorem toOf {sig : Sig} {b : Big} (h : SmallB sig b) : toBigraph_pre b := ⟨⟨h.nodesLen, h.linksLen⟩, h.sitesLen, h.outerLen, h.innerLen⟩
theorem bothOf {sig s2 : Sig} {b b2 : Big} (h : SmallB sig b2) (h2 : SmallB s2 b) : SmallB sig b :=
 ⟨h.sigLen, h.sigNames, h2.nodesLen, h2.sitesLen, h2.outerLen, h2.innerLen, h2.outerNames, h2.innerNames, h2.linksLen, h2.parents, h2.sites64⟩
theorem szB_le (b : Big) (left : Int) (h : 0 ≤ left) : szB b left ≤ left := by
 unfold szB
 have h1 := szS_le szN b.nodes left h
 split
 ·omega
 have h2 := f_le szI b.sites (szS szN b.nodes left) (by omega)
 split
 ·omega
 have h3 := szS_le szStr b.outer (szI b.sites (szS szN b.nodes left)) (by omega)
 split
 ·omega
 have h4 := szS_le szW b.inner (szS szStr b.outer (szI b.sites (szS szN b.nodes left))) (by omega)
 split <;> omega
def markMatch (m : Match) (k : Int) : Match × Int := (⟨(markIntS m.nodes k).1, (markIntS m.roots (markIntS m.nodes k).2).1⟩, (markIntS m.roots (markIntS m.nodes k).2).2)
theorem sumN_le : ∀ {l : List GNode}, (∀ x ∈ l, x.links.length ≤ 1048576) → (l.map nodeSize).sum ≤ 1048578 * l.length
 | [], _ => by simp
 | x :: l, h => by
  have h1 := sumN_le (l := l) fun y hy => h y (by simp [hy])
  have h2 := h x (by simp)
  simp only [List.map_cons, List.sum_cons, List.length_cons, nodeSize] at h1 ⊢
  omega
theorem markB {b : Big} (h : EqB b) (k : Int) (h0 : 0 ≤ k) (hk : k ≤ 1125899906842624) : markBig_pre b k ∧ (k ≤ (markBig b k).2 ∧ (markBig b k).2 ≤ k + 2199027449856) := by
 obtain ⟨h1, h2, h3, h4, h5⟩ := h
 have hs := sumN_le h2
 have hb : bigSize b = (b.nodes.map nodeSize).sum + b.sites.length + b.outer.length + 2 * b.inner.length := rfl
 refine ⟨⟨h0, h1, h2, h3, h4, h5, by omega⟩, ?_⟩
 have p1 := markNodeS_size b.nodes k
 simp only [markBig, markIntS, markStringS, markWireS, markL, p1]
 omega
end Go.Ab.Vg
/- CountActive (statement 19): the law. -/
namespace Go.Ab.Vg
set_option linter.unusedSimpArgs false
set_option linter.unusedVariables false
structure ArgsB (sig : Sig) (r a : Big) : Prop where
 hS : sig.length ≤ 1048576
 r : SmallB sig r
 a : SmallB sig a
theorem argsB {sig : Sig} {r a : Big} (h1 : ¬ szS szC sig 1048576 < 0) (h2 : ¬ szB r (szS szC sig 1048576) < 0) (h3 : ¬ szB a (szB r (szS szC sig 1048576)) < 0) (hr : HugeB r) (ha : HugeB a) : ArgsB sig r a := by
 have l1 := szS_le szC sig 1048576 (by omega)
 have l2 := szB_le r (szS szC sig 1048576) (by omega)
 have hR : SmallB sig r := smallB (left := 1048576) (by omega) (by omega) (by omega) (by omega) hr
 have e0 : szS szC [] (szB r (szS szC sig 1048576)) = szB r (szS szC sig 1048576) := by
  have : szS szC [] (szB r (szS szC sig 1048576)) = (if szB r (szS szC sig 1048576) - (([] : Sig).length : Int) < 0 then -1 else szB r (szS szC sig 1048576) - (([] : Sig).length : Int)) := by
   unfold szS; split <;> rfl
  rw [this]; simp only [List.length_nil]; split <;> omega
 have hA : SmallB [] a := smallB (left := szB r (szS szC sig 1048576)) (by omega) (by omega) (by rw [e0]; omega) (by rw [e0]; omega) ha
 exact ⟨hR.sigLen, hR, bothOf hR hA⟩
end Go.Ab.Vg
/- FirstMatch, AllMatches (statements 20, 21): marks on matches, and the laws. -/
namespace Go.Ab.Vg
set_option linter.unusedSimpArgs false
set_option linter.unusedVariables false
theorem heldIntS_or (l : List Int) (k : Int) : heldIntS l k = k + l.length ∨ heldIntS l k = -1 := by
 unfold heldIntS
 split
 ·exact .inl rfl
 ·exact .inr rfl
def heldMatch (m : Match) (k : Int) : Int := if heldIntS m.nodes k < 0 then -1 else if heldIntS m.roots (heldIntS m.nodes k) < 0 then -1 else heldIntS m.roots (heldIntS m.nodes k)
theorem heldMatch_mark (m : Match) (k : Int) (hk : 0 ≤ k) : heldMatch (markMatch m k).1 k = (markMatch m k).2 := by
 have h1 := held_mark m.nodes k
 have h2 := held_mark m.roots (markIntS m.nodes k).2
 have e1 : (markIntS m.nodes k).2 = k + 1 * m.nodes.length := rfl
 have e2 : (markIntS m.roots (markIntS m.nodes k).2).2 = (markIntS m.nodes k).2 + 1 * m.roots.length := rfl
 have e : heldMatch (markMatch m k).1 k = if heldIntS (markIntS m.nodes k).1 k < 0 then -1 else if heldIntS (markIntS m.roots (markIntS m.nodes k).2).1 (heldIntS (markIntS m.nodes k).1 k) < 0 then -1 else heldIntS (markIntS m.roots (markIntS m.nodes k).2).1 (heldIntS (markIntS m.nodes k).1 k) := rfl
 rw [e, h1, if_neg (by omega), h2, if_neg (by omega)]
 rfl
theorem markMatch_size (m : Match) (k : Int) : (markMatch m k).2 = k + (m.nodes.length + m.roots.length : Nat) := by simp [markMatch, markIntS, markL]; omega
end Go.Ab.Vg
/- AllMatches (statement 21): marks on lists of matches, and the law. -/
namespace Go.Ab.Vg
set_option linter.unusedSimpArgs false
set_option linter.unusedVariables false
abbrev eqMatchS (a b : List Match) : Bool := decide (a = b)
abbrev eqMatchS_pre (a _ : List Match) : Prop := a.length ≤ 1048576 ∧ ∀ x ∈ a, MSz x
def eqMatchS_wp (a : List Match) (b : List Match) (Z : Bool → Prop) : Prop :=
 ∀ len2 : Int, len2 = (a.length : Int) → ∀ len4 : Int, len4 = (b.length : Int) → ∀ c6 : Bool, c6 = decide (len2 ≠ len4) → ((c6 = true → Z false) ∧ (c6 = false → loopW (σ := Int) (fun i10 K13 => ∀ len14 : Int, len14 = (a.length : Int) → ∀ c16 : Bool, c16 = decide (i10 < len14) → ((c16 = true → (0 ≤ i10 ∧ i10 < a.length) ∧ ∀ x19 : Match, x19 = at' a i10 → (0 ≤ i10 ∧ i10 < b.length) ∧ ∀ x22 : Match, x22 = at' b i10 → (eqM_pre x19 x22) ∧ ∀ r25 : Bool, r25 = eqM x19 x22 → ((r25 = true → (I64 (i10 + 1)) ∧ ∀ v28 : Int, v28 = i10 + 1 → K13 (v28)) ∧ (r25 = false → Z false))) ∧ (c16 = false → Z true))) (0)))
theorem eqMatchS_vc (a b : List Match) (h : eqMatchS_pre a b) : eqMatchS_wp a b (fun y => y = eqMatchS a b) := by
 unfold eqMatchS_wp
 obtain ⟨h1, h2⟩ := h
 simp only [forall_eq, decide_eq_true_eq, decide_eq_false_iff_not]
 refine ⟨fun h3 => ?_, fun h3 => ?_⟩
 ·rw [eqMatchS, decide_eq_false]
  rintro rfl
  exact h3 rfl
 ·have hl : a.length = b.length := by omega
  refine loopW.up1 a.length (fun i => ∀ j : Nat, j < i → at' a (j : Int) = at' b (j : Int)) (fun j hj => by omega) ?_
  rintro i K hi hI IH
  refine ⟨fun h4 => ⟨⟨by omega, by omega⟩, ⟨by omega, by omega⟩, h2 _ (at_mem ⟨by omega, by omega⟩), fun h5 => ⟨by simp only [I64]; omega, IH (by omega) fun j hj => ?_⟩, fun h5 => ?_⟩, fun h4 => ?_⟩
  ·rcases Nat.lt_or_ge j i with h6 | h6
   ·exact hI j h6
   ·rw [show j = i by omega]; exact h5
  ·rw [eqMatchS, decide_eq_false]
   rintro rfl
   exact h5 rfl
  ·rw [eqMatchS, decide_eq_true]
   refine List.ext_getElem hl fun j hj hj' => ?_
   have := hI j (by omega)
   rwa [at_lt hj, at_lt hj'] at this
def matchSize (m : Match) : Nat := m.nodes.length + m.roots.length
abbrev markMatchS (l : List Match) (k : Int) := markSeq markMatch l k
abbrev markMatchS_pre (l : List Match) (k : Int) : Prop := 0 ≤ k ∧ l.length ≤ 1048576 ∧ (∀ x ∈ l, MSz x) ∧ k + (l.map matchSize).sum ≤ 1152921504606846976
def markMatchS_wp (a : List Match) (k_ : Int) (Z : ((List Match) × Int) → Prop) : Prop :=
 loopW (σ := Int × Int × (List Match)) (fun (k10, i11, l12) K15 => ∀ len16 : Int, len16 = (l12.length : Int) → ∀ c18 : Bool, c18 = decide (i11 < len16) → ((c18 = true → (0 ≤ i11 ∧ i11 < l12.length) ∧ ∀ x21 : Match, x21 = at' l12 i11 → (markIntS_pre x21.nodes k10) ∧ ∀ r40 : (List Int) × Int, r40 = markIntS x21.nodes k10 → ∀ l46 : List Match, l46 = l12.set i11.toNat (Match.mk r40.1 x21.roots) → (0 ≤ i11 ∧ i11 < l46.length) ∧ ∀ x50 : Match, x50 = at' l46 i11 → (markIntS_pre x50.roots r40.2) ∧ ∀ r70 : (List Int) × Int, r70 = markIntS x50.roots r40.2 → ∀ l76 : List Match, l76 = l46.set i11.toNat (Match.mk x50.nodes r70.1) → (I64 (i11 + 1)) ∧ ∀ v80 : Int, v80 = i11 + 1 → K15 (r70.2, v80, l76)) ∧ (c18 = false → Z (l12, k10)))) (k_, 0, a)
theorem markMatchS_vc (l : List Match) (k : Int) (h : markMatchS_pre l k) : markMatchS_wp l k (fun y => y = markMatchS l k) := by
 unfold markMatchS_wp
 obtain ⟨h0, h1, h2, h3⟩ := h
 refine loopW.up l.length (fun s => s.2.1) (fun i t => (markAt markMatch l k i, (i : Int), t)) (fun _ _ => rfl) (fun i out => out = markTo markMatch l k i) l (by simp [markAt, markSeq]) (markTo_zero _ _ _).symm ?_
 rintro i out K hk rfl IH
 have hl := markTo_len markMatch l k i
 have hs := markAt_size markMatch (sz := matchSize) markMatch_size l k i
 have hs2 := sum_take_le (f := matchSize) l i
 simp only [forall_eq, decide_eq_true_eq, decide_eq_false_iff_not, I64, Int.toNat_natCast, List.length_set]
 refine ⟨fun h4 => ?_, fun h4 => ?_⟩
 ·have hi : i < l.length := by omega
  have hs3 := markAt_size markMatch (sz := matchSize) markMatch_size l k (i + 1)
  have hs4 := sum_take_le (f := matchSize) l (i + 1)
  have hs5 := markAt_succ markMatch (k := k) hi
  rw [markMatch_size] at hs5
  have hn := h2 _ (List.getElem_mem hi)
  have e1 : (markIntS l[i].nodes (markAt markMatch l k i)).2 = markAt markMatch l k i + 1 * l[i].nodes.length := rfl
  simp only [markTo_get markMatch hi, List.set_set, at_set (show i < (markTo markMatch l k i).length by omega)]
  refine ⟨⟨by omega, by omega⟩, ⟨by omega, by omega, by omega⟩, ⟨by omega, by omega⟩, ⟨by omega, by omega, by omega⟩, by omega, ?_⟩
  have := IH hi _ rfl
  rw [← markTo_set _ hi, markAt_succ _ hi] at this
  simpa [markMatch] using this
 ·rw [show i = l.length by omega, markTo_end, markAt_end]
def heldMatchS : List Match → Int → Int
 | [], k => k
 | m :: l, k => if heldMatch m k < 0 then -1 else heldMatchS l (heldMatch m k)
abbrev heldMatchS_pre (l : List Match) (k : Int) : Prop := markMatchS_pre l k
def heldMatchS_wp (a : List Match) (k_ : Int) (Z : Int → Prop) : Prop :=
 loopW (σ := Int × Int) (fun (k5, i6) K9 => ∀ len10 : Int, len10 = (a.length : Int) → ∀ c12 : Bool, c12 = decide (i6 < len10) → ((c12 = true → (0 ≤ i6 ∧ i6 < a.length) ∧ ∀ x15 : Match, x15 = at' a i6 → (heldIntS_pre x15.nodes k5) ∧ ∀ r18 : Int, r18 = heldIntS x15.nodes k5 → ∀ c19 : Bool, c19 = decide (r18 < 0) → ((c19 = true → Z (-1)) ∧ (c19 = false → (0 ≤ i6 ∧ i6 < a.length) ∧ ∀ x23 : Match, x23 = at' a i6 → (heldIntS_pre x15.roots r18) ∧ ∀ r27 : Int, r27 = heldIntS x15.roots r18 → ∀ c29 : Bool, c29 = decide (r27 < 0) → ((c29 = true → Z (-1)) ∧ (c29 = false → (I64 (i6 + 1)) ∧ ∀ v32 : Int, v32 = i6 + 1 → K9 (r27, v32)))))) ∧ (c12 = false → Z k5))) (k_, 0)
theorem heldMatchS_vc (l : List Match) (k : Int) (h : heldMatchS_pre l k) : heldMatchS_wp l k (fun y => y = heldMatchS l k) := by
 unfold heldMatchS_wp
 obtain ⟨h0, h1, h2, h3⟩ := h
 refine loopW.upR l.length (fun i t => heldMatchS (l.drop i) t = heldMatchS l k ∧ 0 ≤ t ∧ t + ((l.drop i).map matchSize).sum ≤ 1152921504606846976) k ⟨rfl, h0, h3⟩ ?_
 rintro i t K hi ⟨hI, ht, hts⟩ IH
 simp only [forall_eq, decide_eq_true_eq, decide_eq_false_iff_not]
 refine ⟨fun h4 => ?_, fun h4 => ?_⟩
 ·have hlt : i < l.length := by omega
  have hd := List.drop_eq_getElem_cons hlt
  have hn := h2 _ (List.getElem_mem hlt)
  rw [at_lt hlt]
  rw [hd] at hI hts
  simp only [List.map_cons, List.sum_cons, matchSize] at hts
  have o1 := heldIntS_or l[i].nodes t
  have o2 := heldIntS_or l[i].roots (heldIntS l[i].nodes t)
  refine ⟨⟨by omega, by omega⟩, ⟨by omega, by omega, by omega⟩, fun h5 => ?_, fun h5 => ⟨⟨by omega, by omega⟩, ⟨by omega, by omega, by omega⟩, fun h6 => ?_, fun h6 => ⟨by simp only [I64]; omega, ?_⟩⟩⟩
  ·rw [← hI, heldMatchS, if_pos (by rw [heldMatch, if_pos h5]; omega)]
  ·rw [← hI, heldMatchS, if_pos (by rw [heldMatch, if_neg h5, if_pos h6]; omega)]
  ·have e : heldMatch l[i] t = heldIntS l[i].roots (heldIntS l[i].nodes t) := by rw [heldMatch, if_neg h5, if_neg h6]
   refine IH hlt _ ⟨?_, by omega, by omega⟩
   rw [← hI, heldMatchS, e, if_neg h6]
 ·rw [List.drop_of_length_le (by omega)] at hI
  exact hI
theorem heldMatchS_mark : ∀ (l : List Match) (k : Int), 0 ≤ k → heldMatchS (markMatchS l k).1 k = (markMatchS l k).2
 | [], _, _ => rfl
 | m :: l, k, hk => by
  have h1 := heldMatch_mark m k hk
  have h2 := markMatch_size m k
  simp only [markMatchS, markSeq, heldMatchS]
  rw [h1, if_neg (by omega)]
  exact heldMatchS_mark l _ (by omega)
theorem all_size (sig : Sig) (r a : Big) : ∀ m ∈ (AllMatches sig r a).1, m.nodes.length ≤ 8 ∧ m.roots.length ≤ 4 := fun m hm => by
 obtain ⟨h1, h2⟩ := all_match hm
 exact match_size (matching_pair h1) h2
theorem sumM_le : ∀ {l : List Match}, (∀ m ∈ l, m.nodes.length ≤ 8 ∧ m.roots.length ≤ 4) → (l.map matchSize).sum ≤ 12 * l.length
 | [], _ => by simp
 | x :: l, h => by
  have h1 := sumM_le (l := l) fun y hy => h y (by simp [hy])
  have h2 := h x (by simp)
  simp only [List.map_cons, List.sum_cons, List.length_cons, matchSize] at h1 ⊢
  omega
theorem markSeq_all {p : Match → Prop} (hp : ∀ m k, p m → p (markMatch m k).1) : ∀ (l : List Match) (k : Int), (∀ m ∈ l, p m) → ∀ m ∈ (markMatchS l k).1, p m
 | [], _, _, m, hm => by cases hm
 | x :: l, k, h, m, hm => by
  simp only [markMatchS, markSeq, List.mem_cons] at hm
  rcases hm with rfl | hm
  ·exact hp x k (h x (by simp))
  ·exact markSeq_all hp l _ (fun y hy => h y (by simp [hy])) m hm
theorem small_mark (m : Match) (k : Int) (h : m.nodes.length ≤ 8 ∧ m.roots.length ≤ 4) : (markMatch m k).1.nodes.length ≤ 8 ∧ (markMatch m k).1.roots.length ≤ 4 := by
 have h1 : (markMatch m k).1.nodes.length = m.nodes.length := show (markIntS m.nodes k).1.length = m.nodes.length from marked_len _ _ _ _
 have h2 : (markMatch m k).1.roots.length = m.roots.length := show (markIntS m.roots (markIntS m.nodes k).2).1.length = m.roots.length from marked_len _ _ _ _
 omega
abbrev lawAll (_ : Sig) (_ _ : Big) : Bool := true
abbrev lawAll_pre (sig : Sig) (r a : Big) : Prop := HugeS sig ∧ HugeB r ∧ HugeB a
def lawAll_wp (aSig : List Control) (aRedex : Big) (aAgent : Big) (Z : Bool → Prop) : Prop :=
 (((0 : Int) ≤ 1048576 ∧ (1048576 : Int) ≤ 1048576) ∧ HugeS aSig) ∧ ∀ r6 : Int, r6 = szS szC aSig 1048576 → ∀ c7 : Bool, c7 = decide (r6 < 0) → ((c7 = true → Z true) ∧ (c7 = false → (((0 : Int) ≤ r6 ∧ (r6 : Int) ≤ 1048576) ∧ HugeB aRedex) ∧ ∀ r10 : Int, r10 = szB aRedex r6 → ∀ c11 : Bool, c11 = decide (r10 < 0) → ((c11 = true → Z true) ∧ (c11 = false → (((0 : Int) ≤ r10 ∧ (r10 : Int) ≤ 1048576) ∧ HugeB aAgent) ∧ ∀ r14 : Int, r14 = szB aAgent r10 → ∀ c16 : Bool, c16 = decide (r14 < 0) → ((c16 = true → Z true) ∧ (c16 = false → (toControlS_pre aSig) ∧ ∀ r19 : List Control, r19 = toControlS aSig → (toBigraph_pre aRedex) ∧ ∀ r21 : Big, r21 = toBigraph aRedex → (toBigraph_pre aAgent) ∧ ∀ r23 : Big, r23 = toBigraph aAgent → (sAllMatches_pre r19 r21 r23) ∧ ∀ r25 : (List Match) × Bool, r25 = sAllMatches r19 r21 r23 → (toControlS_pre aSig) ∧ ∀ r27 : List Control, r27 = toControlS aSig → (toBigraph_pre aRedex) ∧ ∀ r38 : Big, r38 = toBigraph aRedex → (toBigraph_pre aAgent) ∧ ∀ r69 : Big, r69 = toBigraph aAgent → (AllMatches_pre r27 r38 r69) ∧ ∀ r104 : (List Match) × Bool, r104 = AllMatches r27 r38 r69 → joinW (fun (J127 : Bool → Prop) => (eqMatchS_pre r104.1 r25.1) ∧ ∀ r282 : Bool, r282 = eqMatchS r104.1 r25.1 → ((r282 = true → ∀ c283 : Bool, c283 = !(r104.2 == r25.2) → J127 (c283)) ∧ (r282 = false → J127 (true)))) (fun b130 => ((b130 = true → Z false) ∧ (b130 = false → (toControlS_pre aSig) ∧ ∀ r144 : List Control, r144 = toControlS aSig → (r27.length ≤ 1048576) ∧ ∀ r153 : Bool, r153 = decide (r27 = r144) → ((r153 = true → (toBigraph_pre aRedex) ∧ ∀ r166 : Big, r166 = toBigraph aRedex → (EqB r38) ∧ ∀ r168 : Bool, r168 = decide (r38 = r166) → ((r168 = true → (toBigraph_pre aAgent) ∧ ∀ r170 : Big, r170 = toBigraph aAgent → (EqB r69) ∧ ∀ r172 : Bool, r172 = decide (r69 = r170) → ((r172 = true → (markControlS_pre r27 1) ∧ ∀ r174 : (List Control) × Int, r174 = markControlS r27 1 → (markBig_pre r38 r174.2) ∧ ∀ r192 : Big × Int, r192 = markBig r38 r174.2 → (markBig_pre r69 r192.2) ∧ ∀ r211 : Big × Int, r211 = markBig r69 r192.2 → joinW (fun (J225 : Bool → Prop) => ∀ c275 : Bool, c275 = decide (r211.2 < 0) → ((c275 = true → J225 (true)) ∧ (c275 = false → (eqMatchS_pre r104.1 r25.1) ∧ ∀ r278 : Bool, r278 = eqMatchS r104.1 r25.1 → ((r278 = true → ∀ c279 : Bool, c279 = !(r104.2 == r25.2) → J225 (c279)) ∧ (r278 = false → J225 (true)))))) (fun b228 => ((b228 = true → Z false) ∧ (b228 = false → (markMatchS_pre r104.1 1) ∧ ∀ r233 : (List Match) × Int, r233 = markMatchS r104.1 1 → (heldMatchS_pre r233.1 1) ∧ ∀ r243 : Int, r243 = heldMatchS r233.1 1 → ∀ c244 : Bool, c244 = decide (r243 < 0) → ((c244 = true → Z false) ∧ (c244 = false → ∀ c246 : Bool, c246 = decide (r243 ≠ r233.2) → ((c246 = true → Z false) ∧ (c246 = false → (toControlS_pre aSig) ∧ ∀ r249 : List Control, r249 = toControlS aSig → (toBigraph_pre aRedex) ∧ ∀ r251 : Big, r251 = toBigraph aRedex → (toBigraph_pre aAgent) ∧ ∀ r253 : Big, r253 = toBigraph aAgent → (AllMatches_pre r249 r251 r253) ∧ ∀ r255 : (List Match) × Bool, r255 = AllMatches r249 r251 r253 → joinW (fun (J258 : Bool → Prop) => (eqMatchS_pre r255.1 r25.1) ∧ ∀ r272 : Bool, r272 = eqMatchS r255.1 r25.1 → ((r272 = true → ∀ c273 : Bool, c273 = !(r255.2 == r25.2) → J258 (c273)) ∧ (r272 = false → J258 (true)))) (fun b261 => ((b261 = true → Z false) ∧ (b261 = false → (heldMatchS_pre r233.1 1) ∧ ∀ r266 : Int, r266 = heldMatchS r233.1 1 → ∀ c267 : Bool, c267 = decide (r266 < 0) → ((c267 = true → Z false) ∧ (c267 = false → ∀ c269 : Bool, c269 = decide (r266 ≠ r233.2) → ((c269 = true → Z false) ∧ (c269 = false → Z true))))))))))))))) ∧ (r172 = false → Z false))) ∧ (r168 = false → Z false))) ∧ (r153 = false → Z false)))))))))))
theorem lawAll_vc (sig : Sig) (r a : Big) (h : lawAll_pre sig r a) : lawAll_wp sig r a (fun y => y = lawAll sig r a) := by
 unfold lawAll_wp
 simp only [forall_eq, decide_eq_true_eq, decide_eq_false_iff_not, toControlS, toBigraph, sAllMatches]
 obtain ⟨h1, h2, h3⟩ := h
 refine ⟨⟨by omega, h1⟩, fun _ => trivial, fun s1 => ?_⟩
 have l1 := szS_le szC sig 1048576 (by omega)
 refine ⟨⟨by omega, h2⟩, fun _ => trivial, fun s2 => ?_⟩
 have l2 := szB_le r (szS szC sig 1048576) (by omega)
 refine ⟨⟨by omega, h3⟩, fun _ => trivial, fun s3 => ?_⟩
 obtain ⟨a1, a2, a3⟩ := argsB s1 s2 s3 h2 h3
 have hA := all_size sig r a
 have hL := all_len sig r a
 generalize AllMatches sig r a = F at hA hL
 have hsum := sumM_le hA
 have hE : eqMatchS_pre F.1 F.1 := ⟨by omega, fun m hm => by have := hA m hm; exact ⟨by omega, by omega⟩⟩
 have hP : markMatchS_pre F.1 1 := ⟨by omega, by omega, hE.2, by omega⟩
 have hA2 := markSeq_all small_mark F.1 1 hA
 have hL2 : (markMatchS F.1 1).1.length = F.1.length := markSeq_len _ _ _
 have hsum2 := sumM_le hA2
 have hQ : heldMatchS_pre (markMatchS F.1 1).1 1 := ⟨by omega, by omega, fun m hm => by have := hA2 m hm; exact ⟨by omega, by omega⟩, by omega⟩
 have hh := heldMatchS_mark F.1 1 (by omega)
 have hM : 0 ≤ (markMatchS F.1 1).2 := by
  have := markAt_size markMatch (sz := matchSize) markMatch_size F.1 1 F.1.length
  rw [markAt_end] at this
  show 0 ≤ (markSeq markMatch F.1 1).2
  omega
 have k1 : (markControlS sig 1).2 = 1 + 3 * sig.length := rfl
 obtain ⟨m1, m2⟩ := markB (eqOf a2) (markControlS sig 1).2 (by omega) (by omega)
 obtain ⟨m3, m4⟩ := markB (eqOf a3) (markBig r (markControlS sig 1).2).2 (by omega) (by omega)
 refine ⟨a1, toOf a2, toOf a3, ⟨a2, a3⟩, a1, toOf a2, toOf a3, ⟨a2, a3⟩, fun c => c = false, ⟨hE, fun _ => by simp, fun h => absurd trivial h⟩, ?_⟩
 rintro _ rfl
 refine ⟨fun h => (by cases h), fun _ => ⟨a1, a1, fun _ => ⟨toOf a2, eqOf a2, fun _ => ⟨toOf a3, eqOf a3, fun _ => ⟨⟨by omega, by omega, by omega⟩, m1, m3, fun c => c = false, ⟨fun h => by omega, fun _ => ⟨hE, fun _ => by simp, fun h => absurd trivial h⟩⟩, ?_⟩, fun h => absurd trivial h⟩, fun h => absurd trivial h⟩, fun h => absurd trivial h⟩⟩
 rintro _ rfl
 refine ⟨fun h => (by cases h), fun _ => ⟨hP, hQ, fun h => by omega, fun _ => ⟨fun h => absurd hh h, fun _ => ⟨a1, toOf a2, toOf a3, ⟨a2, a3⟩, fun c => c = false, ⟨hE, fun _ => by simp, fun h => absurd trivial h⟩, ?_⟩⟩⟩⟩
 rintro _ rfl
 exact ⟨fun h => (by cases h), fun _ => ⟨hQ, fun h => by omega, fun _ => ⟨fun h => absurd hh h, fun _ => trivial⟩⟩⟩
end Go.Ab.Vg
/- Walks by program for YtpakecdmnomalaaGreatDoorAbL2k. -/
namespace Go.Ab.Vg
open Go.Proofs
set_option maxRecDepth 100000
set_option linter.unusedSimpArgs false
set_option linter.unusedVariables false
attribute [local simp] GNode.cells Wire.cells intC sliceC strC bC pA
theorem e105 : Ent Tryz.prog 105 := Ent.of Tryz.func105 (by kernel_rfl) rfl
theorem l2Kids_walk (b : Big) (parent : Int) (Z : (List Int) → Prop) (h : l2Kids_wp b parent Z) : OwnS Tryz.prog 105 [.agg (bC false b), int parent] (.s [.c]) (fun r => ∃ y : List Int, Z y ∧ r = .list true (y.map intC)) := by
 unfold l2Kids_wp at h
 have sp : Sep noHeap 0 [] [] := Sep.nil (by simp)
 refine OwnS.of Tryz.func105 rfl Tryz.ntmps105 (by simp) fun Q hQ => ?_
 refine Runs.cut (fun ρ H n => (ρ 0 = .agg (bC false b) ∧ ρ 1 = int parent) ∧ Sep H n [] []) (by refine ⟨?_, sp⟩ <;> simp ) ?_
 rintro ρ H n1 ⟨hh, sp⟩
 refine zE fun k' hk' => ?_
 simp [hh]
 apply hk'
 refine Runs.cut (fun ρ H n => (ρ 1 = int parent ∧ ρ 2 = pA n1 2) ∧ H (n1, 2) = some ⟨6, [bC false b]⟩ ∧ Sep H n [] [(n1, 2)]) (by refine ⟨?_, ?_, sp.var⟩ <;> simp [hh]) ?_
 clear hh
 rintro ρ H n3 ⟨hh, m2_1, sp⟩
 refine zE fun k' hk' => ?_
 simp [hh, m2_1]
 apply hk'
 refine Runs.cut (fun ρ H n => ∃ (v5 : AVal), (ρ 1 = int parent ∧ ρ 2 = pA n1 2 ∧ ρ 5 = v5) ∧ H (n1, 2) = some ⟨6, [bC false b]⟩ ∧ Sep H n [oI v5 ([] : List Int)] [(n1, 2)]) (by refine ⟨.arr (n3, 7) 0 0 0, ?_, ?_, (Sep.addEmpty (l := [.c]) sp)⟩ <;> simp [hh, m2_1]) ?_
 clear hh m2_1
 rintro ρ H n6 ⟨v5, hh, m2_1, sp⟩
 refine Runs.seq ?_
 refine zE fun k' hk' => ?_
 simp [hh, m2_1]
 apply hk'
 refine Runs.block ?_
 refine Runs.loopW h (fun (sJ : Int × (List Int)) ρ H n => match sJ with | (i14, l15) => ∃ (v16 : AVal), (ρ 1 = int parent ∧ ρ 2 = pA n1 2 ∧ ρ 5 = v16 ∧ ρ 6 = int i14) ∧ H (n1, 2) = some ⟨6, [bC false b]⟩ ∧ Sep H n [oI v16 l15] [(n1, 2)]) (by refine ⟨v5, ?_, ?_, sp⟩ <;> simp [hh, m2_1]) ?_
 clear hh m2_1
 rintro ⟨i14, l15⟩ ρ H n17 K h ⟨v16, hh, m2_1, sp⟩ IH18
 refine Runs.seq ?_
 refine zE fun k' hk' => ?_
 obtain ⟨len20, elen20, h⟩ := atm h
 have f21 := fun H => len_list (H := H) (fr := false) (f := (GNode.cells false)) kd_35 elen20
 obtain ⟨c22, ec22, h⟩ := atm h
 have f23 := ib_lss (k := .i64) ec22
 simp [hh, m2_1, f21, f23, -intBin, -lenF]
 apply hk'
 refine Runs.ite (b := c22) (by simp [hh, m2_1]) (fun dc22 => ?_) (fun dc22 => ?_)
 ·replace h := h.1 dc22
  refine Runs.skip ?_
  refine Runs.seq ?_
  refine Runs.block ?_
  refine zE fun k' hk' => ?_
  obtain ⟨hb24, h⟩ := h
  obtain ⟨x25, ex25, h⟩ := atm h
  have f26 := fun H => ix_list (H := H) (fr := false) (f := (GNode.cells false)) (k := .i64) kd_35 (fun _ => rfl) hb24 ex25
  obtain ⟨c27, ec27, h⟩ := atm h
  have f28 := ib_eql (k := .i64) ec27
  simp [hh, m2_1, f26, f28, dc22, -indexAddrF, -intBin]
  apply hk'
  refine Runs.ite (b := c27) (by simp [hh, m2_1, dc22]) (fun dc27 => ?_) (fun dc27 => ?_)
  ·replace h := h.1 dc27
   refine zF fun k' hk' => ?_
   obtain ⟨hb29, h⟩ := h
   obtain ⟨l30, el30, h⟩ := atm h
   simp [hh, m2_1, dc22, dc27, -appendF]
   refine bind_append [] [] [[int i14]] [intC i14] sp kd_24 (by simp) (by simp) (by simp) (by simp [-one1, o1x]) (rows_one (Fill.v _ Fill.nil)) (by simp) (by simpa using hb29) ?_
   rintro v31 H32 n33 sp hfr34 hle35
   replace sp : Sep H32 n33 [oI v31 l30] [(n1, 2)] := Sep.ap el30 sp
   have m2_1 : H32 (n1, 2) = some ⟨6, [bC false b]⟩ := (hfr34 _ (by simp)).trans (by simp [hh, m2_1, Heap.get_set])
   simp [hh, m2_1, dc22, dc27]
   apply hk'
   refine Runs.cut (fun ρ H n => ∃ (v37 : AVal), (ρ 1 = int parent ∧ ρ 2 = pA n1 2 ∧ ρ 5 = v37 ∧ ρ 6 = int i14) ∧ H (n1, 2) = some ⟨6, [bC false b]⟩ ∧ Sep H n [oI v37 l30] [(n1, 2)]) (by refine ⟨v31, ?_, ?_, sp⟩ <;> simp [hh, m2_1, dc22, dc27]) ?_
   clear hh m2_1
   rintro ρ H n38 ⟨v37, hh, m2_1, sp⟩
   refine Runs.inBlock ?_
   refine zF fun k' hk' => ?_
   obtain ⟨hb39, h⟩ := h
   obtain ⟨v40, ev40, h⟩ := atm h
   have f41 := ib_add hb39 ev40
   simp [hh, m2_1, f41, -intBin]
   apply hk'
   refine IH18 (v40, l30) _ _ _ h (by refine ⟨v37, ?_, ?_, sp⟩ <;> simp [hh, m2_1])
  replace h := h.2 dc27
  refine Runs.skip ?_
  refine Runs.inBlock ?_
  refine zF fun k' hk' => ?_
  obtain ⟨hb42, h⟩ := h
  obtain ⟨v43, ev43, h⟩ := atm h
  have f44 := ib_add hb42 ev43
  simp [hh, m2_1, f44, dc22, dc27, -intBin]
  apply hk'
  refine Runs.cut (fun ρ H n => ∃ (v45 : AVal), (ρ 1 = int parent ∧ ρ 2 = pA n1 2 ∧ ρ 5 = v45 ∧ ρ 6 = int v43) ∧ H (n1, 2) = some ⟨6, [bC false b]⟩ ∧ Sep H n [oI v45 l15] [(n1, 2)]) (by refine ⟨v16, ?_, ?_, sp⟩ <;> simp [hh, m2_1, f44, dc22, dc27, -intBin]) ?_
  clear hh m2_1
  rintro ρ H n46 ⟨v45, hh, m2_1, sp⟩
  refine IH18 (v43, l15) _ _ _ h (by refine ⟨v45, ?_, ?_, sp⟩ <;> simp [hh, m2_1])
 replace h := h.2 dc22
 refine Runs.exit rfl ?_
 refine zE fun k' hk' => ?_
 simp [hh, m2_1, dc22]
 apply hk'
 exact Runs.ret1 (v := v16) Tryz.func105 Tryz.results105 (by simp [hh, m2_1, dc22]) (hQ _ _ _ _ (Sep.sub (ids' := []) sp (by simp)) ⟨l15, h, rfl⟩)
theorem l2Kids_ok (b : Big) (parent : Int) (hp : l2Kids_pre b parent) : OwnS Tryz.prog 105 [.agg (bC false b), int parent] (.s [.c]) (fun r => r = .list true ((l2Kids b parent).map intC)) := (l2Kids_walk b parent _ (l2Kids_vc b parent hp)).mono (by rintro _ ⟨_, rfl, rfl⟩; rfl)
theorem e156 : Ent Tryz.prog 156 := Ent.of Tryz.func156 (by kernel_rfl) rfl
theorem l2Holes_walk (b : Big) (parent : Int) (Z : (List Int) → Prop) (h : l2Holes_wp b parent Z) : OwnS Tryz.prog 156 [.agg (bC false b), int parent] (.s [.c]) (fun r => ∃ y : List Int, Z y ∧ r = .list true (y.map intC)) := by
 unfold l2Holes_wp at h
 have sp : Sep noHeap 0 [] [] := Sep.nil (by simp)
 refine OwnS.of Tryz.func156 rfl Tryz.ntmps156 (by simp) fun Q hQ => ?_
 refine Runs.cut (fun ρ H n => (ρ 0 = .agg (bC false b) ∧ ρ 1 = int parent) ∧ Sep H n [] []) (by refine ⟨?_, sp⟩ <;> simp ) ?_
 rintro ρ H n1 ⟨hh, sp⟩
 refine zE fun k' hk' => ?_
 simp [hh]
 apply hk'
 refine Runs.cut (fun ρ H n => (ρ 1 = int parent ∧ ρ 2 = pA n1 2) ∧ H (n1, 2) = some ⟨6, [bC false b]⟩ ∧ Sep H n [] [(n1, 2)]) (by refine ⟨?_, ?_, sp.var⟩ <;> simp [hh]) ?_
 clear hh
 rintro ρ H n3 ⟨hh, m2_1, sp⟩
 refine zE fun k' hk' => ?_
 simp [hh, m2_1]
 apply hk'
 refine Runs.cut (fun ρ H n => ∃ (v5 : AVal), (ρ 1 = int parent ∧ ρ 2 = pA n1 2 ∧ ρ 5 = v5) ∧ H (n1, 2) = some ⟨6, [bC false b]⟩ ∧ Sep H n [oI v5 ([] : List Int)] [(n1, 2)]) (by refine ⟨.arr (n3, 7) 0 0 0, ?_, ?_, (Sep.addEmpty (l := [.c]) sp)⟩ <;> simp [hh, m2_1]) ?_
 clear hh m2_1
 rintro ρ H n6 ⟨v5, hh, m2_1, sp⟩
 refine Runs.seq ?_
 refine zE fun k' hk' => ?_
 simp [hh, m2_1]
 apply hk'
 refine Runs.block ?_
 refine Runs.loopW h (fun (sJ : Int × (List Int)) ρ H n => match sJ with | (i14, l15) => ∃ (v16 : AVal), (ρ 1 = int parent ∧ ρ 2 = pA n1 2 ∧ ρ 5 = v16 ∧ ρ 6 = int i14) ∧ H (n1, 2) = some ⟨6, [bC false b]⟩ ∧ Sep H n [oI v16 l15] [(n1, 2)]) (by refine ⟨v5, ?_, ?_, sp⟩ <;> simp [hh, m2_1]) ?_
 clear hh m2_1
 rintro ⟨i14, l15⟩ ρ H n17 K h ⟨v16, hh, m2_1, sp⟩ IH18
 refine Runs.seq ?_
 refine zE fun k' hk' => ?_
 obtain ⟨len20, elen20, h⟩ := atm h
 have f21 := fun H => len_list (H := H) (fr := false) (f := intC) kd_24 elen20
 obtain ⟨c22, ec22, h⟩ := atm h
 have f23 := ib_lss (k := .i64) ec22
 simp [hh, m2_1, f21, f23, -intBin, -lenF]
 apply hk'
 refine Runs.ite (b := c22) (by simp [hh, m2_1]) (fun dc22 => ?_) (fun dc22 => ?_)
 ·replace h := h.1 dc22
  refine Runs.skip ?_
  refine Runs.seq ?_
  refine Runs.block ?_
  refine zE fun k' hk' => ?_
  obtain ⟨hb24, h⟩ := h
  obtain ⟨x25, ex25, h⟩ := atm h
  have f26 := fun H => ix_list (H := H) (fr := false) (f := intC) (k := .i64) kd_24 (fun _ => rfl) hb24 ex25
  obtain ⟨c27, ec27, h⟩ := atm h
  have f28 := ib_eql (k := .i64) ec27
  simp [hh, m2_1, f26, f28, dc22, -indexAddrF, -intBin]
  apply hk'
  refine Runs.ite (b := c27) (by simp [hh, m2_1, dc22]) (fun dc27 => ?_) (fun dc27 => ?_)
  ·replace h := h.1 dc27
   refine zF fun k' hk' => ?_
   obtain ⟨hb29, h⟩ := h
   obtain ⟨l30, el30, h⟩ := atm h
   simp [hh, m2_1, dc22, dc27, -appendF]
   refine bind_append [] [] [[int i14]] [intC i14] sp kd_24 (by simp) (by simp) (by simp) (by simp [-one1, o1x]) (rows_one (Fill.v _ Fill.nil)) (by simp) (by simpa using hb29) ?_
   rintro v31 H32 n33 sp hfr34 hle35
   replace sp : Sep H32 n33 [oI v31 l30] [(n1, 2)] := Sep.ap el30 sp
   have m2_1 : H32 (n1, 2) = some ⟨6, [bC false b]⟩ := (hfr34 _ (by simp)).trans (by simp [hh, m2_1, Heap.get_set])
   simp [hh, m2_1, dc22, dc27]
   apply hk'
   refine Runs.cut (fun ρ H n => ∃ (v37 : AVal), (ρ 1 = int parent ∧ ρ 2 = pA n1 2 ∧ ρ 5 = v37 ∧ ρ 6 = int i14) ∧ H (n1, 2) = some ⟨6, [bC false b]⟩ ∧ Sep H n [oI v37 l30] [(n1, 2)]) (by refine ⟨v31, ?_, ?_, sp⟩ <;> simp [hh, m2_1, dc22, dc27]) ?_
   clear hh m2_1
   rintro ρ H n38 ⟨v37, hh, m2_1, sp⟩
   refine Runs.inBlock ?_
   refine zF fun k' hk' => ?_
   obtain ⟨hb39, h⟩ := h
   obtain ⟨v40, ev40, h⟩ := atm h
   have f41 := ib_add hb39 ev40
   simp [hh, m2_1, f41, -intBin]
   apply hk'
   refine IH18 (v40, l30) _ _ _ h (by refine ⟨v37, ?_, ?_, sp⟩ <;> simp [hh, m2_1])
  replace h := h.2 dc27
  refine Runs.skip ?_
  refine Runs.inBlock ?_
  refine zF fun k' hk' => ?_
  obtain ⟨hb42, h⟩ := h
  obtain ⟨v43, ev43, h⟩ := atm h
  have f44 := ib_add hb42 ev43
  simp [hh, m2_1, f44, dc22, dc27, -intBin]
  apply hk'
  refine Runs.cut (fun ρ H n => ∃ (v45 : AVal), (ρ 1 = int parent ∧ ρ 2 = pA n1 2 ∧ ρ 5 = v45 ∧ ρ 6 = int v43) ∧ H (n1, 2) = some ⟨6, [bC false b]⟩ ∧ Sep H n [oI v45 l15] [(n1, 2)]) (by refine ⟨v16, ?_, ?_, sp⟩ <;> simp [hh, m2_1, f44, dc22, dc27, -intBin]) ?_
  clear hh m2_1
  rintro ρ H n46 ⟨v45, hh, m2_1, sp⟩
  refine IH18 (v43, l15) _ _ _ h (by refine ⟨v45, ?_, ?_, sp⟩ <;> simp [hh, m2_1])
 replace h := h.2 dc22
 refine Runs.exit rfl ?_
 refine zE fun k' hk' => ?_
 simp [hh, m2_1, dc22]
 apply hk'
 exact Runs.ret1 (v := v16) Tryz.func156 Tryz.results156 (by simp [hh, m2_1, dc22]) (hQ _ _ _ _ (Sep.sub (ids' := []) sp (by simp)) ⟨l15, h, rfl⟩)
theorem l2Holes_ok (b : Big) (parent : Int) (hp : l2Holes_pre b parent) : OwnS Tryz.prog 156 [.agg (bC false b), int parent] (.s [.c]) (fun r => r = .list true ((l2Holes b parent).map intC)) := (l2Holes_walk b parent _ (l2Holes_vc b parent hp)).mono (by rintro _ ⟨_, rfl, rfl⟩; rfl)
theorem e92 : Ent Tryz.prog 92 := Ent.of Tryz.func92 (by kernel_rfl) rfl
theorem childrenOf_walk (b : Big) (parent : Int) (Z : ((List Int) × (List Int)) → Prop) (h : childrenOf_wp b parent Z) : OwnS Tryz.prog 92 [.agg (bC false b), int parent] (.t [.s [.c], .s [.c]]) (fun r => ∃ y : (List Int) × (List Int), Z y ∧ r = .tup [.list true (y.1.map intC), .list true (y.2.map intC)]) := by
 unfold childrenOf_wp at h
 have sp : Sep noHeap 0 [] [] := Sep.nil (by simp)
 refine OwnS.of Tryz.func92 rfl Tryz.ntmps92 (by simp) fun Q hQ => ?_
 refine Runs.cut (fun ρ H n => (ρ 0 = .agg (bC false b) ∧ ρ 1 = int parent) ∧ Sep H n [] []) (by refine ⟨?_, sp⟩ <;> simp ) ?_
 rintro ρ H n1 ⟨hh, sp⟩
 refine zE fun k' hk' => ?_
 simp [hh]
 apply hk'
 refine Runs.cut (fun ρ H n => (ρ 1 = int parent ∧ ρ 2 = pA n1 2) ∧ H (n1, 2) = some ⟨6, [bC false b]⟩ ∧ Sep H n [] [(n1, 2)]) (by refine ⟨?_, ?_, sp.var⟩ <;> simp [hh]) ?_
 clear hh
 rintro ρ H n3 ⟨hh, m2_1, sp⟩
 refine zE fun k' hk' => ?_
 simp [hh, m2_1]
 apply hk'
 refine Runs.cut (fun ρ H n => ∃ (v6 v7 : AVal), (ρ 1 = int parent ∧ ρ 2 = pA n1 2 ∧ ρ 6 = v7 ∧ ρ 7 = v6) ∧ H (n1, 2) = some ⟨6, [bC false b]⟩ ∧ Sep H n [oI v6 ([] : List Int), oI v7 ([] : List Int)] [(n1, 2)]) (by refine ⟨.arr (n3 + 1, 13) 0 0 0, .arr (n3, 12) 0 0 0, ?_, ?_, (Sep.addEmpty (l := [.c]) (Sep.addEmpty (l := [.c]) sp))⟩ <;> simp [hh, m2_1]) ?_
 clear hh m2_1
 rintro ρ H n8 ⟨v6, v7, hh, m2_1, sp⟩
 refine Runs.seq ?_
 refine zE fun k' hk' => ?_
 obtain ⟨len9, elen9, h⟩ := atm h
 have f10 := fun H => len_list (H := H) (fr := false) (f := (GNode.cells false)) kd_35 elen9
 simp [hh, m2_1, f10, -lenF]
 apply hk'
 refine Runs.block ?_
 refine Runs.loopW h (fun (sJ : Int × (List Int)) ρ H n => match sJ with | (v20, l21) => ∃ (v22 v23 : AVal), (ρ 1 = int parent ∧ ρ 2 = pA n1 2 ∧ ρ 6 = v23 ∧ ρ 7 = v22 ∧ ρ 15 = .list false (b.nodes.map (GNode.cells false)) ∧ ρ 16 = int len9 ∧ ρ 17 = int v20) ∧ H (n1, 2) = some ⟨6, [bC false b]⟩ ∧ Sep H n [oI v22 ([] : List Int), oI v23 l21] [(n1, 2)]) (by refine ⟨v6, v7, ?_, ?_, sp⟩ <;> simp [hh, m2_1]) ?_
 clear hh m2_1
 rintro ⟨v20, l21⟩ ρ H n24 K h ⟨v22, v23, hh, m2_1, sp⟩ IH25
 refine zE fun k' hk' => ?_
 obtain ⟨c27, ec27, h⟩ := atm h
 have f28 := ib_lss (k := .i64) ec27
 simp [hh, m2_1, f28, -intBin]
 apply hk'
 refine Runs.seq ?_
 refine Runs.ite (b := c27) (by simp [hh, m2_1]) (fun dc27 => ?_) (fun dc27 => ?_)
 ·replace h := h.1 dc27
  refine Runs.skip ?_
  refine Runs.seq ?_
  refine Runs.block ?_
  refine zE fun k' hk' => ?_
  obtain ⟨hb29, h⟩ := h
  obtain ⟨x30, ex30, h⟩ := atm h
  have f31 := fun H => ix_list (H := H) (fr := false) (f := (GNode.cells false)) (k := .i64) kd_35 (fun _ => rfl) hb29 ex30
  simp [hh, m2_1, f31, dc27, -indexAddrF]
  apply hk'
  refine Runs.cut (fun ρ H n => ∃ (v33 v34 : AVal), (ρ 1 = int parent ∧ ρ 2 = pA n1 2 ∧ ρ 6 = v34 ∧ ρ 7 = v33 ∧ ρ 8 = int v20 ∧ ρ 9 = pA n24 9 ∧ ρ 15 = .list false (b.nodes.map (GNode.cells false)) ∧ ρ 16 = int len9 ∧ ρ 17 = int v20) ∧ H (n1, 2) = some ⟨6, [bC false b]⟩ ∧ H (n24, 9) = some ⟨3, [[int x30.control, int x30.parent, .list false (x30.links.map intC)]]⟩ ∧ Sep H n [oI v33 ([] : List Int), oI v34 l21] [(n24, 9), (n1, 2)]) (by refine ⟨v22, v23, ?_, ?_, ?_, sp.var⟩ <;> simp [hh, m2_1, f31, dc27, -indexAddrF]) ?_
  clear hh m2_1
  rintro ρ H n35 ⟨v33, v34, hh, m2_1, m9_31, sp⟩
  refine zE fun k' hk' => ?_
  obtain ⟨c36, ec36, h⟩ := atm h
  have f37 := ib_eql (k := .i64) ec36
  simp [hh, m2_1, m9_31, f37, -intBin]
  apply hk'
  refine Runs.ite (b := c36) (by simp [hh, m2_1, m9_31]) (fun dc36 => ?_) (fun dc36 => ?_)
  ·replace h := h.1 dc36
   refine zF fun k' hk' => ?_
   obtain ⟨hb38, h⟩ := h
   obtain ⟨l39, el39, h⟩ := atm h
   simp [hh, m2_1, m9_31, dc36, -appendF]
   refine bind_append [] [oI v33 ([] : List Int)] [[int v20]] [intC v20] sp.f1 kd_24 (by simp) (by simp) (by simp) (by simp [-one1, o1x]) (rows_one (Fill.v _ Fill.nil)) (by simp) (by simpa using hb38) ?_
   rintro v40 H41 n42 sp hfr43 hle44
   replace sp : Sep H41 n42 [oI v40 l39, oI v33 ([] : List Int)] [(n24, 9), (n1, 2)] := Sep.ap el39 sp
   have m2_1 : H41 (n1, 2) = some ⟨6, [bC false b]⟩ := (hfr43 _ (by simp)).trans (by simp [hh, m2_1, m9_31, Heap.get_set])
   have m9_31 : H41 (n24, 9) = some ⟨3, [[int x30.control, int x30.parent, .list false (x30.links.map intC)]]⟩ := (hfr43 _ (by simp)).trans (by simp [hh, m2_1, m9_31, Heap.get_set])
   simp [hh, m2_1, m9_31, dc36]
   apply hk'
   refine Runs.cut (fun ρ H n => ∃ (v46 v47 : AVal), (ρ 1 = int parent ∧ ρ 2 = pA n1 2 ∧ ρ 6 = v46 ∧ ρ 7 = v47 ∧ ρ 15 = .list false (b.nodes.map (GNode.cells false)) ∧ ρ 16 = int len9 ∧ ρ 17 = int v20) ∧ H (n1, 2) = some ⟨6, [bC false b]⟩ ∧ Sep H n [oI v46 l39, oI v47 ([] : List Int)] [(n1, 2)]) (by refine ⟨v40, v33, ?_, ?_, (Sep.sub sp (by simp +contextual))⟩ <;> simp [hh, m2_1, m9_31, dc36]) ?_
   clear hh m2_1 m9_31
   rintro ρ H n48 ⟨v46, v47, hh, m2_1, sp⟩
   refine Runs.inBlock ?_
   refine zF fun k' hk' => ?_
   obtain ⟨hb49, h⟩ := h
   obtain ⟨v50, ev50, h⟩ := atm h
   have f51 := ib_add hb49 ev50
   simp [hh, m2_1, f51, -intBin]
   apply hk'
   refine IH25 (v50, l39) _ _ _ h (by refine ⟨v47, v46, ?_, ?_, sp.f1⟩ <;> simp [hh, m2_1])
  replace h := h.2 dc36
  refine Runs.skip ?_
  refine Runs.inBlock ?_
  refine zF fun k' hk' => ?_
  obtain ⟨hb52, h⟩ := h
  obtain ⟨v53, ev53, h⟩ := atm h
  have f54 := ib_add hb52 ev53
  simp [hh, m2_1, m9_31, f54, dc36, -intBin]
  apply hk'
  refine IH25 (v53, l21) _ _ _ h (by refine ⟨v33, v34, ?_, ?_, (Sep.sub sp (by simp +contextual))⟩ <;> simp [hh, m2_1, m9_31, dc36])
 replace h := h.2 dc27
 refine Runs.exit rfl ?_
 refine Runs.seq ?_
 refine zE fun k' hk' => ?_
 obtain ⟨len55, elen55, h⟩ := atm h
 have f56 := fun H => len_list (H := H) (fr := false) (f := intC) kd_24 elen55
 simp [hh, m2_1, f56, dc27, -lenF]
 apply hk'
 refine Runs.block ?_
 refine Runs.loopW h (fun (sJ : Int × (List Int)) ρ H n => match sJ with | (v66, l67) => ∃ (v68 v69 : AVal), (ρ 1 = int parent ∧ ρ 6 = v69 ∧ ρ 7 = v68 ∧ ρ 32 = .list false (b.sites.map intC) ∧ ρ 33 = int len55 ∧ ρ 34 = int v66) ∧ Sep H n [oI v68 l67, oI v69 l21] []) (by refine ⟨v22, v23, ?_, (Sep.sub sp (by simp +contextual))⟩ <;> simp [hh, m2_1, dc27]) ?_
 clear hh m2_1
 rintro ⟨v66, l67⟩ ρ H n70 K h ⟨v68, v69, hh, sp⟩ IH71
 refine zE fun k' hk' => ?_
 obtain ⟨c73, ec73, h⟩ := atm h
 have f74 := ib_lss (k := .i64) ec73
 simp [hh, f74, -intBin]
 apply hk'
 refine Runs.seq ?_
 refine Runs.ite (b := c73) (by simp [hh]) (fun dc73 => ?_) (fun dc73 => ?_)
 ·replace h := h.1 dc73
  refine Runs.skip ?_
  refine Runs.seq ?_
  refine Runs.block ?_
  refine zE fun k' hk' => ?_
  obtain ⟨hb75, h⟩ := h
  obtain ⟨x76, ex76, h⟩ := atm h
  have f77 := fun H => ix_list (H := H) (fr := false) (f := intC) (k := .i64) kd_24 (fun _ => rfl) hb75 ex76
  simp [hh, f77, dc73, -indexAddrF]
  apply hk'
  refine zE fun k' hk' => ?_
  obtain ⟨c78, ec78, h⟩ := atm h
  have f79 := ib_eql (k := .i64) ec78
  simp [hh, f79, dc73, -intBin]
  apply hk'
  refine Runs.ite (b := c78) (by simp [hh, dc73]) (fun dc78 => ?_) (fun dc78 => ?_)
  ·replace h := h.1 dc78
   refine zF fun k' hk' => ?_
   obtain ⟨hb80, h⟩ := h
   obtain ⟨l81, el81, h⟩ := atm h
   simp [hh, dc73, dc78, -appendF]
   refine bind_append [] [oI v69 l21] [[int v66]] [intC v66] sp kd_24 (by simp) (by simp) (by simp) (by simp [-one1, o1x]) (rows_one (Fill.v _ Fill.nil)) (by simp) (by simpa using hb80) ?_
   rintro v82 H83 n84 sp hfr85 hle86
   replace sp : Sep H83 n84 [oI v82 l81, oI v69 l21] [] := Sep.ap el81 sp
   simp [hh, dc73, dc78]
   apply hk'
   refine Runs.cut (fun ρ H n => ∃ (v88 v89 : AVal), (ρ 1 = int parent ∧ ρ 6 = v89 ∧ ρ 7 = v88 ∧ ρ 32 = .list false (b.sites.map intC) ∧ ρ 33 = int len55 ∧ ρ 34 = int v66) ∧ Sep H n [oI v88 l81, oI v89 l21] []) (by refine ⟨v82, v69, ?_, sp⟩ <;> simp [hh, dc73, dc78]) ?_
   clear hh
   rintro ρ H n90 ⟨v88, v89, hh, sp⟩
   refine Runs.inBlock ?_
   refine zF fun k' hk' => ?_
   obtain ⟨hb91, h⟩ := h
   obtain ⟨v92, ev92, h⟩ := atm h
   have f93 := ib_add hb91 ev92
   simp [hh, f93, -intBin]
   apply hk'
   refine IH71 (v92, l81) _ _ _ h (by refine ⟨v88, v89, ?_, sp⟩ <;> simp [hh])
  replace h := h.2 dc78
  refine Runs.skip ?_
  refine Runs.inBlock ?_
  refine zF fun k' hk' => ?_
  obtain ⟨hb94, h⟩ := h
  obtain ⟨v95, ev95, h⟩ := atm h
  have f96 := ib_add hb94 ev95
  simp [hh, f96, dc73, dc78, -intBin]
  apply hk'
  refine IH71 (v95, l67) _ _ _ h (by refine ⟨v68, v69, ?_, sp⟩ <;> simp [hh, dc73, dc78])
 replace h := h.2 dc73
 refine Runs.exit rfl ?_
 refine zE fun k' hk' => ?_
 simp [hh, dc73]
 apply hk'
 exact Runs.ret2 (v := v69) (w := v68) Tryz.func92 Tryz.results92 (by simp [hh, dc73]) (by simp [hh, dc73]) (hQ _ _ _ _ (Sep.sub (ids' := []) (Sep.packT (Fill.own (Fill.own Fill.nil)) sp.f1) (by simp)) ⟨(l21, l67), h, rfl⟩)
theorem childrenOf_ok (b : Big) (parent : Int) (hp : childrenOf_pre b parent) : OwnS Tryz.prog 92 [.agg (bC false b), int parent] (.t [.s [.c], .s [.c]]) (fun r => r = .tup [.list true (((childrenOf b parent).1).map intC), .list true (((childrenOf b parent).2).map intC)]) := (childrenOf_walk b parent _ (childrenOf_vc b parent hp)).mono (by rintro _ ⟨_, rfl, rfl⟩; rfl)
end Go.Ab.Vg
/- Walks by program for YtpakecdmnomalaaGreatDoorAbMa. -/
namespace Go.Ab.Vg
open Go.Proofs
set_option maxRecDepth 100000
set_option linter.unusedSimpArgs false
set_option linter.unusedVariables false
attribute [local simp] Control.cells GNode.cells Wire.cells intC intC2 sliceC strC bC pA
theorem e178 : Ent Tryz.prog 178 := Ent.of Tryz.func178 (by kernel_rfl) rfl
theorem l2Ports_walk (b : Big) (link : Int) (Z : (List (Int × Int)) → Prop) (h : l2Ports_wp b link Z) : OwnS Tryz.prog 178 [.agg (bC false b), int link] (.s [.c, .c]) (fun r => ∃ y : List (Int × Int), Z y ∧ r = .list true (y.map intC2)) := by
 unfold l2Ports_wp at h
 have sp : Sep noHeap 0 [] [] := Sep.nil (by simp)
 refine OwnS.of Tryz.func178 rfl Tryz.ntmps178 (by simp) fun Q hQ => ?_
 refine Runs.cut (fun ρ H n => (ρ 0 = .agg (bC false b) ∧ ρ 1 = int link) ∧ Sep H n [] []) (by refine ⟨?_, sp⟩ <;> simp ) ?_
 rintro ρ H n1 ⟨hh, sp⟩
 refine zE fun k' hk' => ?_
 simp [hh]
 apply hk'
 refine Runs.cut (fun ρ H n => (ρ 1 = int link ∧ ρ 2 = pA n1 2) ∧ H (n1, 2) = some ⟨6, [bC false b]⟩ ∧ Sep H n [] [(n1, 2)]) (by refine ⟨?_, ?_, sp.var⟩ <;> simp [hh]) ?_
 clear hh
 rintro ρ H n3 ⟨hh, m2_1, sp⟩
 refine zE fun k' hk' => ?_
 simp [hh, m2_1]
 apply hk'
 refine Runs.cut (fun ρ H n => ∃ (v5 : AVal), (ρ 1 = int link ∧ ρ 2 = pA n1 2 ∧ ρ 5 = v5) ∧ H (n1, 2) = some ⟨6, [bC false b]⟩ ∧ Sep H n [oE [.c, .c] intC2 v5 ([] : List (Int × Int))] [(n1, 2)]) (by refine ⟨.arr (n3, 8) 0 0 0, ?_, ?_, (Sep.addEmpty (l := [.c, .c]) sp)⟩ <;> simp [hh, m2_1]) ?_
 clear hh m2_1
 rintro ρ H n6 ⟨v5, hh, m2_1, sp⟩
 refine Runs.seq ?_
 refine zE fun k' hk' => ?_
 simp [hh, m2_1]
 apply hk'
 refine Runs.block ?_
 refine Runs.loopW h (fun (sJ : Int × (List (Int × Int))) ρ H n => match sJ with | (i14, l15) => ∃ (v16 : AVal), (ρ 1 = int link ∧ ρ 2 = pA n1 2 ∧ ρ 5 = v16 ∧ ρ 6 = int i14) ∧ H (n1, 2) = some ⟨6, [bC false b]⟩ ∧ Sep H n [oE [.c, .c] intC2 v16 l15] [(n1, 2)]) (by refine ⟨v5, ?_, ?_, sp⟩ <;> simp [hh, m2_1]) ?_
 clear hh m2_1
 rintro ⟨i14, l15⟩ ρ H n17 K h ⟨v16, hh, m2_1, sp⟩ IH18
 refine Runs.seq ?_
 refine zE fun k' hk' => ?_
 obtain ⟨len20, elen20, h⟩ := atm h
 have f21 := fun H => len_list (H := H) (fr := false) (f := (GNode.cells false)) kd_35 elen20
 obtain ⟨c22, ec22, h⟩ := atm h
 have f23 := ib_lss (k := .i64) ec22
 simp [hh, m2_1, f21, f23, -intBin, -lenF]
 apply hk'
 refine Runs.ite (b := c22) (by simp [hh, m2_1]) (fun dc22 => ?_) (fun dc22 => ?_)
 ·replace h := h.1 dc22
  refine Runs.skip ?_
  refine Runs.seq ?_
  refine Runs.block ?_
  refine zE fun k' hk' => ?_
  simp [hh, m2_1, dc22]
  apply hk'
  refine Runs.block ?_
  refine Runs.loopW h (fun (sJ : Int × (List (Int × Int))) ρ H n => match sJ with | (k31, l32) => ∃ (v33 : AVal), (ρ 1 = int link ∧ ρ 2 = pA n1 2 ∧ ρ 5 = v33 ∧ ρ 6 = int i14 ∧ ρ 7 = int k31) ∧ H (n1, 2) = some ⟨6, [bC false b]⟩ ∧ Sep H n [oE [.c, .c] intC2 v33 l32] [(n1, 2)]) (by refine ⟨v16, ?_, ?_, sp⟩ <;> simp [hh, m2_1, dc22]) ?_
  clear hh m2_1
  rintro ⟨k31, l32⟩ ρ H n34 K h ⟨v33, hh, m2_1, sp⟩ IH35
  refine Runs.seq ?_
  refine zE fun k' hk' => ?_
  obtain ⟨hb37, h⟩ := h
  obtain ⟨x38, ex38, h⟩ := atm h
  have f39 := fun H => ix_list (H := H) (fr := false) (f := (GNode.cells false)) (k := .i64) kd_35 (fun _ => rfl) hb37 ex38
  obtain ⟨len40, elen40, h⟩ := atm h
  have f41 := fun H => len_list (H := H) (fr := false) (f := intC) kd_24 elen40
  obtain ⟨c42, ec42, h⟩ := atm h
  have f43 := ib_lss (k := .i64) ec42
  simp [hh, m2_1, f39, f41, f43, -indexAddrF, -intBin, -lenF]
  apply hk'
  refine Runs.ite (b := c42) (by simp [hh, m2_1]) (fun dc42 => ?_) (fun dc42 => ?_)
  ·replace h := h.1 dc42
   refine Runs.skip ?_
   refine Runs.seq ?_
   refine Runs.block ?_
   refine zE fun k' hk' => ?_
   obtain ⟨hb44, h⟩ := h
   obtain ⟨x45, ex45, h⟩ := atm h
   have hq46 := ex38.trans ex45.symm
   subst hq46
   have f47 := fun H => ix_list (H := H) (fr := false) (f := (GNode.cells false)) (k := .i64) kd_35 (fun _ => rfl) hb44 ex38
   obtain ⟨hb48, h⟩ := h
   obtain ⟨x49, ex49, h⟩ := atm h
   have f50 := fun H => ix_list (H := H) (fr := false) (f := intC) (k := .i64) kd_24 (fun _ => rfl) hb48 ex49
   obtain ⟨c51, ec51, h⟩ := atm h
   have f52 := ib_eql (k := .i64) ec51
   simp [hh, m2_1, f47, f50, f52, dc42, -indexAddrF, -intBin]
   apply hk'
   refine Runs.cut (fun ρ H n => ∃ (v53 : AVal), (ρ 1 = int link ∧ ρ 2 = pA n1 2 ∧ ρ 5 = v53 ∧ ρ 6 = int i14 ∧ ρ 7 = int k31 ∧ ρ 37 = bool c51) ∧ H (n1, 2) = some ⟨6, [bC false b]⟩ ∧ Sep H n [oE [.c, .c] intC2 v53 l32] [(n1, 2)]) (by refine ⟨v33, ?_, ?_, sp⟩ <;> simp [hh, m2_1, f47, f50, f52, dc42, -indexAddrF, -intBin]) ?_
   clear hh m2_1
   rintro ρ H n54 ⟨v53, hh, m2_1, sp⟩
   refine Runs.ite (b := c51) (by simp [hh, m2_1]) (fun dc51 => ?_) (fun dc51 => ?_)
   ·replace h := h.1 dc51
    refine zF fun k' hk' => ?_
    obtain ⟨hb55, h⟩ := h
    obtain ⟨l56, el56, h⟩ := atm h
    simp [hh, m2_1, dc51, -appendF]
    refine bind_append [] [] [[int i14, int k31]] [intC2 (i14, k31)] sp kd_166 (by simp) (by simp) (by simp) (by simp [-one1, o1x]) (rows_one (Fill.v _ (Fill.v _ Fill.nil))) (by simp) (by simpa using hb55) ?_
    rintro v57 H58 n59 sp hfr60 hle61
    replace sp : Sep H58 n59 [oE [.c, .c] intC2 v57 l56] [(n1, 2)] := Sep.ap el56 sp
    have m2_1 : H58 (n1, 2) = some ⟨6, [bC false b]⟩ := (hfr60 _ (by simp)).trans (by simp [hh, m2_1, Heap.get_set])
    simp [hh, m2_1, dc51]
    apply hk'
    refine Runs.cut (fun ρ H n => ∃ (v63 : AVal), (ρ 1 = int link ∧ ρ 2 = pA n1 2 ∧ ρ 5 = v63 ∧ ρ 6 = int i14 ∧ ρ 7 = int k31) ∧ H (n1, 2) = some ⟨6, [bC false b]⟩ ∧ Sep H n [oE [.c, .c] intC2 v63 l56] [(n1, 2)]) (by refine ⟨v57, ?_, ?_, sp⟩ <;> simp [hh, m2_1, dc51]) ?_
    clear hh m2_1
    rintro ρ H n64 ⟨v63, hh, m2_1, sp⟩
    refine Runs.inBlock ?_
    refine zF fun k' hk' => ?_
    obtain ⟨hb65, h⟩ := h
    obtain ⟨v66, ev66, h⟩ := atm h
    have f67 := ib_add hb65 ev66
    simp [hh, m2_1, f67, -intBin]
    apply hk'
    refine IH35 (v66, l56) _ _ _ h (by refine ⟨v63, ?_, ?_, sp⟩ <;> simp [hh, m2_1])
   replace h := h.2 dc51
   refine Runs.skip ?_
   refine Runs.inBlock ?_
   refine zF fun k' hk' => ?_
   obtain ⟨hb68, h⟩ := h
   obtain ⟨v69, ev69, h⟩ := atm h
   have f70 := ib_add hb68 ev69
   simp [hh, m2_1, f70, dc51, -intBin]
   apply hk'
   refine IH35 (v69, l32) _ _ _ h (by refine ⟨v53, ?_, ?_, sp⟩ <;> simp [hh, m2_1, dc51])
  replace h := h.2 dc42
  refine Runs.exit rfl ?_
  refine Runs.inBlock ?_
  refine zF fun k' hk' => ?_
  obtain ⟨hb71, h⟩ := h
  obtain ⟨v72, ev72, h⟩ := atm h
  have f73 := ib_add hb71 ev72
  simp [hh, m2_1, f73, dc42, -intBin]
  apply hk'
  refine IH18 (v72, l32) _ _ _ h (by refine ⟨v33, ?_, ?_, sp⟩ <;> simp [hh, m2_1, dc42])
 replace h := h.2 dc22
 refine Runs.exit rfl ?_
 refine zE fun k' hk' => ?_
 simp [hh, m2_1, dc22]
 apply hk'
 exact Runs.ret1 (v := v16) Tryz.func178 Tryz.results178 (by simp [hh, m2_1, dc22]) (hQ _ _ _ _ (Sep.sub (ids' := []) sp (by simp)) ⟨l15, h, rfl⟩)
theorem l2Ports_ok (b : Big) (link : Int) (hp : l2Ports_pre b link) : OwnS Tryz.prog 178 [.agg (bC false b), int link] (.s [.c, .c]) (fun r => r = .list true ((l2Ports b link).map intC2)) := (l2Ports_walk b link _ (l2Ports_vc b link hp)).mono (by rintro _ ⟨_, rfl, rfl⟩; rfl)
theorem e179 : Ent Tryz.prog 179 := Ent.of Tryz.func179 (by kernel_rfl) rfl
theorem l2Ends_walk (b : Big) (link : Int) (Z : (List Str) → Prop) (h : l2Ends_wp b link Z) : OwnS Tryz.prog 179 [.agg (bC false b), int link] (.s [.c]) (fun r => ∃ y : List Str, Z y ∧ r = .list true (y.map strC)) := by
 unfold l2Ends_wp at h
 have sp : Sep noHeap 0 [] [] := Sep.nil (by simp)
 refine OwnS.of Tryz.func179 rfl Tryz.ntmps179 (by simp) fun Q hQ => ?_
 refine Runs.cut (fun ρ H n => (ρ 0 = .agg (bC false b) ∧ ρ 1 = int link) ∧ Sep H n [] []) (by refine ⟨?_, sp⟩ <;> simp ) ?_
 rintro ρ H n1 ⟨hh, sp⟩
 refine zE fun k' hk' => ?_
 simp [hh]
 apply hk'
 refine Runs.cut (fun ρ H n => (ρ 1 = int link ∧ ρ 2 = pA n1 2) ∧ H (n1, 2) = some ⟨6, [bC false b]⟩ ∧ Sep H n [] [(n1, 2)]) (by refine ⟨?_, ?_, sp.var⟩ <;> simp [hh]) ?_
 clear hh
 rintro ρ H n3 ⟨hh, m2_1, sp⟩
 refine zE fun k' hk' => ?_
 simp [hh, m2_1]
 apply hk'
 refine Runs.cut (fun ρ H n => ∃ (v5 : AVal), (ρ 1 = int link ∧ ρ 2 = pA n1 2 ∧ ρ 5 = v5) ∧ H (n1, 2) = some ⟨6, [bC false b]⟩ ∧ Sep H n [oS v5 ([] : List Str)] [(n1, 2)]) (by refine ⟨.arr (n3, 7) 0 0 0, ?_, ?_, (Sep.addEmpty (l := [.c]) sp)⟩ <;> simp [hh, m2_1]) ?_
 clear hh m2_1
 rintro ρ H n6 ⟨v5, hh, m2_1, sp⟩
 refine Runs.seq ?_
 refine zE fun k' hk' => ?_
 simp [hh, m2_1]
 apply hk'
 refine Runs.block ?_
 refine Runs.loopW h (fun (sJ : Int × (List Str)) ρ H n => match sJ with | (i14, l15) => ∃ (v16 : AVal), (ρ 1 = int link ∧ ρ 2 = pA n1 2 ∧ ρ 5 = v16 ∧ ρ 6 = int i14) ∧ H (n1, 2) = some ⟨6, [bC false b]⟩ ∧ Sep H n [oS v16 l15] [(n1, 2)]) (by refine ⟨v5, ?_, ?_, sp⟩ <;> simp [hh, m2_1]) ?_
 clear hh m2_1
 rintro ⟨i14, l15⟩ ρ H n17 K h ⟨v16, hh, m2_1, sp⟩ IH18
 refine Runs.seq ?_
 refine zE fun k' hk' => ?_
 obtain ⟨len20, elen20, h⟩ := atm h
 have f21 := fun H => len_list (H := H) (fr := false) (f := Wire.cells) kd_36 elen20
 obtain ⟨c22, ec22, h⟩ := atm h
 have f23 := ib_lss (k := .i64) ec22
 simp [hh, m2_1, f21, f23, -intBin, -lenF]
 apply hk'
 refine Runs.ite (b := c22) (by simp [hh, m2_1]) (fun dc22 => ?_) (fun dc22 => ?_)
 ·replace h := h.1 dc22
  refine Runs.skip ?_
  refine Runs.seq ?_
  refine Runs.block ?_
  refine zE fun k' hk' => ?_
  obtain ⟨hb24, h⟩ := h
  obtain ⟨x25, ex25, h⟩ := atm h
  have f26 := fun H => ix_list (H := H) (fr := false) (f := Wire.cells) (k := .i64) kd_36 (fun _ => rfl) hb24 ex25
  obtain ⟨c27, ec27, h⟩ := atm h
  have f28 := ib_eql (k := .i64) ec27
  simp [hh, m2_1, f26, f28, dc22, -indexAddrF, -intBin]
  apply hk'
  refine Runs.ite (b := c27) (by simp [hh, m2_1, dc22]) (fun dc27 => ?_) (fun dc27 => ?_)
  ·replace h := h.1 dc27
   refine zF fun k' hk' => ?_
   obtain ⟨hb29, h⟩ := h
   obtain ⟨x30, ex30, h⟩ := atm h
   have hq31 := ex25.trans ex30.symm
   subst hq31
   have f32 := fun H => ix_list (H := H) (fr := false) (f := Wire.cells) (k := .i64) kd_36 (fun _ => rfl) hb29 ex25
   obtain ⟨hb33, h⟩ := h
   obtain ⟨l34, el34, h⟩ := atm h
   simp [hh, m2_1, f32, dc22, dc27, -indexAddrF, -appendF]
   refine bind_append [] [] [[str x25.name]] [strC x25.name] sp kd_25 (by simp) (by simp) (by simp) (by simp [-one1, o1x]) (rows_one (Fill.v _ Fill.nil)) (by simp) (by simpa using hb33) ?_
   rintro v35 H36 n37 sp hfr38 hle39
   replace sp : Sep H36 n37 [oS v35 l34] [(n1, 2)] := Sep.ap el34 sp
   have m2_1 : H36 (n1, 2) = some ⟨6, [bC false b]⟩ := (hfr38 _ (by simp)).trans (by simp [hh, m2_1, Heap.get_set])
   simp [hh, m2_1, f32, dc22, dc27, -indexAddrF]
   apply hk'
   refine Runs.cut (fun ρ H n => ∃ (v41 : AVal), (ρ 1 = int link ∧ ρ 2 = pA n1 2 ∧ ρ 5 = v41 ∧ ρ 6 = int i14) ∧ H (n1, 2) = some ⟨6, [bC false b]⟩ ∧ Sep H n [oS v41 l34] [(n1, 2)]) (by refine ⟨v35, ?_, ?_, sp⟩ <;> simp [hh, m2_1, f32, dc22, dc27, -indexAddrF]) ?_
   clear hh m2_1
   rintro ρ H n42 ⟨v41, hh, m2_1, sp⟩
   refine Runs.inBlock ?_
   refine zF fun k' hk' => ?_
   obtain ⟨hb43, h⟩ := h
   obtain ⟨v44, ev44, h⟩ := atm h
   have f45 := ib_add hb43 ev44
   simp [hh, m2_1, f45, -intBin]
   apply hk'
   refine IH18 (v44, l34) _ _ _ h (by refine ⟨v41, ?_, ?_, sp⟩ <;> simp [hh, m2_1])
  replace h := h.2 dc27
  refine Runs.skip ?_
  refine Runs.inBlock ?_
  refine zF fun k' hk' => ?_
  obtain ⟨hb46, h⟩ := h
  obtain ⟨v47, ev47, h⟩ := atm h
  have f48 := ib_add hb46 ev47
  simp [hh, m2_1, f48, dc22, dc27, -intBin]
  apply hk'
  refine Runs.cut (fun ρ H n => ∃ (v49 : AVal), (ρ 1 = int link ∧ ρ 2 = pA n1 2 ∧ ρ 5 = v49 ∧ ρ 6 = int v47) ∧ H (n1, 2) = some ⟨6, [bC false b]⟩ ∧ Sep H n [oS v49 l15] [(n1, 2)]) (by refine ⟨v16, ?_, ?_, sp⟩ <;> simp [hh, m2_1, f48, dc22, dc27, -intBin]) ?_
  clear hh m2_1
  rintro ρ H n50 ⟨v49, hh, m2_1, sp⟩
  refine IH18 (v47, l15) _ _ _ h (by refine ⟨v49, ?_, ?_, sp⟩ <;> simp [hh, m2_1])
 replace h := h.2 dc22
 refine Runs.exit rfl ?_
 refine zE fun k' hk' => ?_
 simp [hh, m2_1, dc22]
 apply hk'
 exact Runs.ret1 (v := v16) Tryz.func179 Tryz.results179 (by simp [hh, m2_1, dc22]) (hQ _ _ _ _ (Sep.sub (ids' := []) sp (by simp)) ⟨l15, h, rfl⟩)
theorem l2Ends_ok (b : Big) (link : Int) (hp : l2Ends_pre b link) : OwnS Tryz.prog 179 [.agg (bC false b), int link] (.s [.c]) (fun r => r = .list true ((l2Ends b link).map strC)) := (l2Ends_walk b link _ (l2Ends_vc b link hp)).mono (by rintro _ ⟨_, rfl, rfl⟩; rfl)
theorem e166 : Ent Tryz.prog 166 := Ent.of Tryz.func166 (by kernel_rfl) rfl
theorem pointsOf_walk (b : Big) (link : Int) (Z : ((List (Int × Int)) × (List Str)) → Prop) (h : pointsOf_wp b link Z) : OwnS Tryz.prog 166 [.agg (bC false b), int link] (.t [.s [.c, .c], .s [.c]]) (fun r => ∃ y : (List (Int × Int)) × (List Str), Z y ∧ r = .tup [.list true (y.1.map intC2), .list true (y.2.map strC)]) := by
 unfold pointsOf_wp at h
 have sp : Sep noHeap 0 [] [] := Sep.nil (by simp)
 refine OwnS.of Tryz.func166 rfl Tryz.ntmps166 (by simp) fun Q hQ => ?_
 refine Runs.cut (fun ρ H n => (ρ 0 = .agg (bC false b) ∧ ρ 1 = int link) ∧ Sep H n [] []) (by refine ⟨?_, sp⟩ <;> simp ) ?_
 rintro ρ H n1 ⟨hh, sp⟩
 refine zE fun k' hk' => ?_
 simp [hh]
 apply hk'
 refine Runs.cut (fun ρ H n => (ρ 1 = int link ∧ ρ 2 = pA n1 2) ∧ H (n1, 2) = some ⟨6, [bC false b]⟩ ∧ Sep H n [] [(n1, 2)]) (by refine ⟨?_, ?_, sp.var⟩ <;> simp [hh]) ?_
 clear hh
 rintro ρ H n3 ⟨hh, m2_1, sp⟩
 refine zE fun k' hk' => ?_
 simp [hh, m2_1]
 apply hk'
 refine Runs.cut (fun ρ H n => ∃ (v6 v7 : AVal), (ρ 1 = int link ∧ ρ 2 = pA n1 2 ∧ ρ 6 = v7 ∧ ρ 7 = v6) ∧ H (n1, 2) = some ⟨6, [bC false b]⟩ ∧ Sep H n [oS v6 ([] : List Str), oE [.c, .c] intC2 v7 ([] : List (Int × Int))] [(n1, 2)]) (by refine ⟨.arr (n3 + 1, 15) 0 0 0, .arr (n3, 14) 0 0 0, ?_, ?_, (Sep.addEmpty (l := [.c]) (Sep.addEmpty (l := [.c, .c]) sp))⟩ <;> simp [hh, m2_1]) ?_
 clear hh m2_1
 rintro ρ H n8 ⟨v6, v7, hh, m2_1, sp⟩
 refine Runs.seq ?_
 refine zE fun k' hk' => ?_
 obtain ⟨len9, elen9, h⟩ := atm h
 have f10 := fun H => len_list (H := H) (fr := false) (f := (GNode.cells false)) kd_35 elen9
 simp [hh, m2_1, f10, -lenF]
 apply hk'
 refine Runs.block ?_
 refine Runs.loopW h (fun (sJ : Int × (List (Int × Int))) ρ H n => match sJ with | (v20, l21) => ∃ (v22 v23 : AVal), (ρ 1 = int link ∧ ρ 2 = pA n1 2 ∧ ρ 6 = v23 ∧ ρ 7 = v22 ∧ ρ 17 = .list false (b.nodes.map (GNode.cells false)) ∧ ρ 18 = int len9 ∧ ρ 19 = int v20) ∧ H (n1, 2) = some ⟨6, [bC false b]⟩ ∧ Sep H n [oS v22 ([] : List Str), oE [.c, .c] intC2 v23 l21] [(n1, 2)]) (by refine ⟨v6, v7, ?_, ?_, sp⟩ <;> simp [hh, m2_1]) ?_
 clear hh m2_1
 rintro ⟨v20, l21⟩ ρ H n24 K h ⟨v22, v23, hh, m2_1, sp⟩ IH25
 refine zE fun k' hk' => ?_
 obtain ⟨c27, ec27, h⟩ := atm h
 have f28 := ib_lss (k := .i64) ec27
 simp [hh, m2_1, f28, -intBin]
 apply hk'
 refine Runs.seq ?_
 refine Runs.ite (b := c27) (by simp [hh, m2_1]) (fun dc27 => ?_) (fun dc27 => ?_)
 ·replace h := h.1 dc27
  refine Runs.skip ?_
  refine Runs.seq ?_
  refine Runs.block ?_
  refine zE fun k' hk' => ?_
  obtain ⟨hb29, h⟩ := h
  obtain ⟨x30, ex30, h⟩ := atm h
  have f31 := fun H => ix_list (H := H) (fr := false) (f := (GNode.cells false)) (k := .i64) kd_35 (fun _ => rfl) hb29 ex30
  simp [hh, m2_1, f31, dc27, -indexAddrF]
  apply hk'
  refine Runs.cut (fun ρ H n => ∃ (v33 v34 : AVal), (ρ 1 = int link ∧ ρ 2 = pA n1 2 ∧ ρ 6 = v34 ∧ ρ 7 = v33 ∧ ρ 8 = int v20 ∧ ρ 9 = pA n24 9 ∧ ρ 17 = .list false (b.nodes.map (GNode.cells false)) ∧ ρ 18 = int len9 ∧ ρ 19 = int v20) ∧ H (n1, 2) = some ⟨6, [bC false b]⟩ ∧ H (n24, 9) = some ⟨3, [[int x30.control, int x30.parent, .list false (x30.links.map intC)]]⟩ ∧ Sep H n [oS v33 ([] : List Str), oE [.c, .c] intC2 v34 l21] [(n24, 9), (n1, 2)]) (by refine ⟨v22, v23, ?_, ?_, ?_, sp.var⟩ <;> simp [hh, m2_1, f31, dc27, -indexAddrF]) ?_
  clear hh m2_1
  rintro ρ H n35 ⟨v33, v34, hh, m2_1, m9_31, sp⟩
  refine zE fun k' hk' => ?_
  obtain ⟨len36, elen36, h⟩ := atm h
  have f37 := fun H => len_list (H := H) (fr := false) (f := intC) kd_24 elen36
  simp [hh, m2_1, m9_31, f37, -lenF]
  apply hk'
  refine Runs.block ?_
  refine Runs.loopW h (fun (sJ : Int × (List (Int × Int))) ρ H n => match sJ with | (v47, l48) => ∃ (v49 v50 : AVal), (ρ 1 = int link ∧ ρ 2 = pA n1 2 ∧ ρ 6 = v50 ∧ ρ 7 = v49 ∧ ρ 8 = int v20 ∧ ρ 17 = .list false (b.nodes.map (GNode.cells false)) ∧ ρ 18 = int len9 ∧ ρ 19 = int v20 ∧ ρ 25 = .list false (x30.links.map intC) ∧ ρ 26 = int len36 ∧ ρ 27 = int v47) ∧ H (n1, 2) = some ⟨6, [bC false b]⟩ ∧ Sep H n [oS v49 ([] : List Str), oE [.c, .c] intC2 v50 l48] [(n1, 2)]) (by refine ⟨v33, v34, ?_, ?_, (Sep.sub sp (by simp +contextual))⟩ <;> simp [hh, m2_1, m9_31]) ?_
  clear hh m2_1 m9_31
  rintro ⟨v47, l48⟩ ρ H n51 K h ⟨v49, v50, hh, m2_1, sp⟩ IH52
  refine zE fun k' hk' => ?_
  obtain ⟨c54, ec54, h⟩ := atm h
  have f55 := ib_lss (k := .i64) ec54
  simp [hh, m2_1, f55, -intBin]
  apply hk'
  refine Runs.seq ?_
  refine Runs.ite (b := c54) (by simp [hh, m2_1]) (fun dc54 => ?_) (fun dc54 => ?_)
  ·replace h := h.1 dc54
   refine Runs.skip ?_
   refine Runs.seq ?_
   refine Runs.block ?_
   refine zE fun k' hk' => ?_
   obtain ⟨hb56, h⟩ := h
   obtain ⟨x57, ex57, h⟩ := atm h
   have f58 := fun H => ix_list (H := H) (fr := false) (f := intC) (k := .i64) kd_24 (fun _ => rfl) hb56 ex57
   simp [hh, m2_1, f58, dc54, -indexAddrF]
   apply hk'
   refine zE fun k' hk' => ?_
   obtain ⟨c59, ec59, h⟩ := atm h
   have f60 := ib_eql (k := .i64) ec59
   simp [hh, m2_1, f60, dc54, -intBin]
   apply hk'
   refine Runs.ite (b := c59) (by simp [hh, m2_1, dc54]) (fun dc59 => ?_) (fun dc59 => ?_)
   ·replace h := h.1 dc59
    refine zF fun k' hk' => ?_
    obtain ⟨hb61, h⟩ := h
    obtain ⟨l62, el62, h⟩ := atm h
    simp [hh, m2_1, dc54, dc59, -appendF]
    refine bind_append [] [oS v49 ([] : List Str)] [[int v20, int v47]] [intC2 (v20, v47)] sp.f1 kd_166 (by simp) (by simp) (by simp) (by simp [-one1, o1x]) (rows_one (Fill.v _ (Fill.v _ Fill.nil))) (by simp) (by simpa using hb61) ?_
    rintro v63 H64 n65 sp hfr66 hle67
    replace sp : Sep H64 n65 [oE [.c, .c] intC2 v63 l62, oS v49 ([] : List Str)] [(n1, 2)] := Sep.ap el62 sp
    have m2_1 : H64 (n1, 2) = some ⟨6, [bC false b]⟩ := (hfr66 _ (by simp)).trans (by simp [hh, m2_1, Heap.get_set])
    simp [hh, m2_1, dc54, dc59]
    apply hk'
    refine Runs.cut (fun ρ H n => ∃ (v69 v70 : AVal), (ρ 1 = int link ∧ ρ 2 = pA n1 2 ∧ ρ 6 = v69 ∧ ρ 7 = v70 ∧ ρ 8 = int v20 ∧ ρ 17 = .list false (b.nodes.map (GNode.cells false)) ∧ ρ 18 = int len9 ∧ ρ 19 = int v20 ∧ ρ 25 = .list false (x30.links.map intC) ∧ ρ 26 = int len36 ∧ ρ 27 = int v47) ∧ H (n1, 2) = some ⟨6, [bC false b]⟩ ∧ Sep H n [oE [.c, .c] intC2 v69 l62, oS v70 ([] : List Str)] [(n1, 2)]) (by refine ⟨v63, v49, ?_, ?_, sp⟩ <;> simp [hh, m2_1, dc54, dc59]) ?_
    clear hh m2_1
    rintro ρ H n71 ⟨v69, v70, hh, m2_1, sp⟩
    refine Runs.inBlock ?_
    refine zF fun k' hk' => ?_
    obtain ⟨hb72, h⟩ := h
    obtain ⟨v73, ev73, h⟩ := atm h
    have f74 := ib_add hb72 ev73
    simp [hh, m2_1, f74, -intBin]
    apply hk'
    refine IH52 (v73, l62) _ _ _ h (by refine ⟨v70, v69, ?_, ?_, sp.f1⟩ <;> simp [hh, m2_1])
   replace h := h.2 dc59
   refine Runs.skip ?_
   refine Runs.inBlock ?_
   refine zF fun k' hk' => ?_
   obtain ⟨hb75, h⟩ := h
   obtain ⟨v76, ev76, h⟩ := atm h
   have f77 := ib_add hb75 ev76
   simp [hh, m2_1, f77, dc54, dc59, -intBin]
   apply hk'
   refine IH52 (v76, l48) _ _ _ h (by refine ⟨v49, v50, ?_, ?_, sp⟩ <;> simp [hh, m2_1, dc54, dc59])
  replace h := h.2 dc54
  refine Runs.exit rfl ?_
  refine Runs.inBlock ?_
  refine zF fun k' hk' => ?_
  obtain ⟨hb78, h⟩ := h
  obtain ⟨v79, ev79, h⟩ := atm h
  have f80 := ib_add hb78 ev79
  simp [hh, m2_1, f80, dc54, -intBin]
  apply hk'
  refine IH25 (v79, l48) _ _ _ h (by refine ⟨v49, v50, ?_, ?_, sp⟩ <;> simp [hh, m2_1, dc54])
 replace h := h.2 dc27
 refine Runs.exit rfl ?_
 refine Runs.seq ?_
 refine zE fun k' hk' => ?_
 obtain ⟨len81, elen81, h⟩ := atm h
 have f82 := fun H => len_list (H := H) (fr := false) (f := Wire.cells) kd_36 elen81
 simp [hh, m2_1, f82, dc27, -lenF]
 apply hk'
 refine Runs.block ?_
 refine Runs.loopW h (fun (sJ : Int × (List Str)) ρ H n => match sJ with | (v92, l93) => ∃ (v94 v95 : AVal), (ρ 1 = int link ∧ ρ 6 = v95 ∧ ρ 7 = v94 ∧ ρ 44 = .list false (b.inner.map Wire.cells) ∧ ρ 45 = int len81 ∧ ρ 46 = int v92) ∧ Sep H n [oS v94 l93, oE [.c, .c] intC2 v95 l21] []) (by refine ⟨v22, v23, ?_, (Sep.sub sp (by simp +contextual))⟩ <;> simp [hh, m2_1, dc27]) ?_
 clear hh m2_1
 rintro ⟨v92, l93⟩ ρ H n96 K h ⟨v94, v95, hh, sp⟩ IH97
 refine zE fun k' hk' => ?_
 obtain ⟨c99, ec99, h⟩ := atm h
 have f100 := ib_lss (k := .i64) ec99
 simp [hh, f100, -intBin]
 apply hk'
 refine Runs.seq ?_
 refine Runs.ite (b := c99) (by simp [hh]) (fun dc99 => ?_) (fun dc99 => ?_)
 ·replace h := h.1 dc99
  refine Runs.skip ?_
  refine Runs.seq ?_
  refine Runs.block ?_
  refine zE fun k' hk' => ?_
  obtain ⟨hb101, h⟩ := h
  obtain ⟨x102, ex102, h⟩ := atm h
  have f103 := fun H => ix_list (H := H) (fr := false) (f := Wire.cells) (k := .i64) kd_36 (fun _ => rfl) hb101 ex102
  simp [hh, f103, dc99, -indexAddrF]
  apply hk'
  refine Runs.cut (fun ρ H n => ∃ (v105 v106 : AVal), (ρ 1 = int link ∧ ρ 6 = v106 ∧ ρ 7 = v105 ∧ ρ 13 = pA n96 13 ∧ ρ 44 = .list false (b.inner.map Wire.cells) ∧ ρ 45 = int len81 ∧ ρ 46 = int v92) ∧ H (n96, 13) = some ⟨2, [[str x102.name, int x102.link]]⟩ ∧ Sep H n [oS v105 l93, oE [.c, .c] intC2 v106 l21] [(n96, 13)]) (by refine ⟨v94, v95, ?_, ?_, sp.var⟩ <;> simp [hh, f103, dc99, -indexAddrF]) ?_
  clear hh
  rintro ρ H n107 ⟨v105, v106, hh, m13_103, sp⟩
  refine zE fun k' hk' => ?_
  obtain ⟨c108, ec108, h⟩ := atm h
  have f109 := ib_eql (k := .i64) ec108
  simp [hh, m13_103, f109, -intBin]
  apply hk'
  refine Runs.ite (b := c108) (by simp [hh, m13_103]) (fun dc108 => ?_) (fun dc108 => ?_)
  ·replace h := h.1 dc108
   refine zF fun k' hk' => ?_
   obtain ⟨hb110, h⟩ := h
   obtain ⟨l111, el111, h⟩ := atm h
   simp [hh, m13_103, dc108, -appendF]
   refine bind_append [] [oE [.c, .c] intC2 v106 l21] [[str x102.name]] [strC x102.name] sp kd_25 (by simp) (by simp) (by simp) (by simp [-one1, o1x]) (rows_one (Fill.v _ Fill.nil)) (by simp) (by simpa using hb110) ?_
   rintro v112 H113 n114 sp hfr115 hle116
   replace sp : Sep H113 n114 [oS v112 l111, oE [.c, .c] intC2 v106 l21] [(n96, 13)] := Sep.ap el111 sp
   have m13_103 : H113 (n96, 13) = some ⟨2, [[str x102.name, int x102.link]]⟩ := (hfr115 _ (by simp)).trans (by simp [hh, m13_103, Heap.get_set])
   simp [hh, m13_103, dc108]
   apply hk'
   refine Runs.cut (fun ρ H n => ∃ (v118 v119 : AVal), (ρ 1 = int link ∧ ρ 6 = v119 ∧ ρ 7 = v118 ∧ ρ 44 = .list false (b.inner.map Wire.cells) ∧ ρ 45 = int len81 ∧ ρ 46 = int v92) ∧ Sep H n [oS v118 l111, oE [.c, .c] intC2 v119 l21] []) (by refine ⟨v112, v106, ?_, (Sep.sub sp (by simp +contextual))⟩ <;> simp [hh, m13_103, dc108]) ?_
   clear hh m13_103
   rintro ρ H n120 ⟨v118, v119, hh, sp⟩
   refine Runs.inBlock ?_
   refine zF fun k' hk' => ?_
   obtain ⟨hb121, h⟩ := h
   obtain ⟨v122, ev122, h⟩ := atm h
   have f123 := ib_add hb121 ev122
   simp [hh, f123, -intBin]
   apply hk'
   refine IH97 (v122, l111) _ _ _ h (by refine ⟨v118, v119, ?_, sp⟩ <;> simp [hh])
  replace h := h.2 dc108
  refine Runs.skip ?_
  refine Runs.inBlock ?_
  refine zF fun k' hk' => ?_
  obtain ⟨hb124, h⟩ := h
  obtain ⟨v125, ev125, h⟩ := atm h
  have f126 := ib_add hb124 ev125
  simp [hh, m13_103, f126, dc108, -intBin]
  apply hk'
  refine IH97 (v125, l93) _ _ _ h (by refine ⟨v105, v106, ?_, (Sep.sub sp (by simp +contextual))⟩ <;> simp [hh, m13_103, dc108])
 replace h := h.2 dc99
 refine Runs.exit rfl ?_
 refine zE fun k' hk' => ?_
 simp [hh, dc99]
 apply hk'
 exact Runs.ret2 (v := v95) (w := v94) Tryz.func166 Tryz.results166 (by simp [hh, dc99]) (by simp [hh, dc99]) (hQ _ _ _ _ (Sep.sub (ids' := []) (Sep.packT (Fill.own (Fill.own Fill.nil)) sp.f1) (by simp)) ⟨(l21, l93), h, rfl⟩)
theorem pointsOf_ok (b : Big) (link : Int) (hp : pointsOf_pre b link) : OwnS Tryz.prog 166 [.agg (bC false b), int link] (.t [.s [.c, .c], .s [.c]]) (fun r => r = .tup [.list true (((pointsOf b link).1).map intC2), .list true (((pointsOf b link).2).map strC)]) := (pointsOf_walk b link _ (pointsOf_vc b link hp)).mono (by rintro _ ⟨_, rfl, rfl⟩; rfl)
theorem e157 : Ent Tryz.prog 157 := Ent.of Tryz.func157 (by kernel_rfl) rfl
theorem l2Idle_walk (b : Big) (link : Int) (Z : Bool → Prop) (h : l2Idle_wp b link Z) : PureC Tryz.prog 157 [.agg (bC false b), int link] (fun r => ∃ y : Bool, Z y ∧ r = bool y) := by
 unfold l2Idle_wp at h
 refine PureC.of Tryz.func157 rfl Tryz.ntmps157 (by simp) fun Q hQ => ?_
 refine Runs.cut (fun ρ H n => (ρ 0 = .agg (bC false b) ∧ ρ 1 = int link)) (by simp) ?_
 rintro ρ H n1 hh
 refine zE fun k' hk' => ?_
 simp [hh]
 apply hk'
 refine Runs.cut (fun ρ H n => (ρ 1 = int link ∧ ρ 2 = pA n1 2) ∧ H (n1, 2) = some ⟨6, [bC false b]⟩) (by refine ⟨?_, ?_⟩ <;> simp [hh]) ?_
 clear hh
 rintro ρ H n3 ⟨hh, m2_1⟩
 refine zE fun k' hk' => ?_
 obtain ⟨J4, hJ5, hr6⟩ := h
 have fin8 : ∀ (sJ : Bool) (ρ : Env) (H : Heap) (n : Nat), J4 sJ → (match sJ with | b7 => ρ 4 = bool b7) → Runs Tryz.prog 157 17 k' ρ H n Q := by
  rintro b7 ρ H n9 h hh
  replace h := hr6 _ h
  apply hk'
  exact Runs.ret1 (v := bool b7) Tryz.func157 Tryz.results157 (by simp [hh]) (hQ _ _ _ _ (.of (.v _)) ⟨b7, h, rfl⟩)
 replace h := hJ5
 obtain ⟨hb10, h⟩ := h
 obtain ⟨r11, er11, h⟩ := atm h
 simp [hh, m2_1]
 refine RunK.callA Ty_ok ((l2Ports_ok b link hb10).pure) e178 (.cons (argB false b) (.cons (.v _ _ _) .nil)) (by decide) (by decide) rfl (by simp [hh, m2_1]) ?_
 rintro _ rfl
 rw [← er11]
 obtain ⟨len12, elen12, h⟩ := atm h
 have f13 := fun H => len_list (H := H) (fr := true) (f := intC2) kd_166 elen12
 obtain ⟨c14, ec14, h⟩ := atm h
 have f15 := ib_eql (k := .i64) ec14
 rcases Bool.eq_false_or_eq_true c14 with dc14 | dc14
 ·replace h := h.1 dc14
  obtain ⟨hb16, h⟩ := h
  obtain ⟨r17, er17, h⟩ := atm h
  simp [hh, m2_1, f13, f15, dc14, -intBin, -lenF]
  refine RunK.callA Ty_ok ((l2Ends_ok b link hb16).pure) e179 (.cons (argB false b) (.cons (.v _ _ _) .nil)) (by decide) (by decide) rfl (by simp [hh, m2_1, f13, f15, dc14, -intBin, -lenF]) ?_
  rintro _ rfl
  rw [← er17]
  obtain ⟨len18, elen18, h⟩ := atm h
  have f19 := fun H => len_list (H := H) (fr := true) (f := strC) kd_25 elen18
  obtain ⟨c20, ec20, h⟩ := atm h
  have f21 := ib_eql (k := .i64) ec20
  simp [hh, m2_1, f13, f15, f19, f21, dc14, -intBin, -lenF]
  exact fin8 (c20) _ _ _ h (by simp [hh, m2_1, f13, f15, f19, f21, dc14, -intBin, -lenF])
 replace h := h.2 dc14
 simp [hh, m2_1, f13, f15, dc14, -intBin, -lenF]
 exact fin8 (false) _ _ _ h (by simp [hh, m2_1, f13, f15, dc14, -intBin, -lenF])
theorem l2Idle_ok (b : Big) (link : Int) (hp : l2Idle_pre b link) : PureC Tryz.prog 157 [.agg (bC false b), int link] (fun r => r = bool (l2Idle b link)) := (l2Idle_walk b link _ (l2Idle_vc b link hp)).mono (by rintro _ ⟨_, rfl, rfl⟩; rfl)
theorem e122 : Ent Tryz.prog 122 := Ent.of Tryz.func122 (by kernel_rfl) rfl
theorem isIdle_walk (b : Big) (link : Int) (Z : Bool → Prop) (h : isIdle_wp b link Z) : PureC Tryz.prog 122 [.agg (bC false b), int link] (fun r => ∃ y : Bool, Z y ∧ r = bool y) := by
 unfold isIdle_wp at h
 refine PureC.of Tryz.func122 rfl Tryz.ntmps122 (by simp) fun Q hQ => ?_
 refine Runs.cut (fun ρ H n => (ρ 0 = .agg (bC false b) ∧ ρ 1 = int link)) (by simp) ?_
 rintro ρ H n1 hh
 refine zE fun k' hk' => ?_
 simp [hh]
 apply hk'
 refine Runs.cut (fun ρ H n => (ρ 1 = int link ∧ ρ 2 = pA n1 2) ∧ H (n1, 2) = some ⟨6, [bC false b]⟩) (by refine ⟨?_, ?_⟩ <;> simp [hh]) ?_
 clear hh
 rintro ρ H n3 ⟨hh, m2_1⟩
 refine zE fun k' hk' => ?_
 obtain ⟨hb4, h⟩ := h
 obtain ⟨r5, er5, h⟩ := atm h
 simp [hh, m2_1]
 refine RunK.callA Ty_ok ((pointsOf_ok b link hb4).pure) e166 (.cons (argB false b) (.cons (.v _ _ _) .nil)) (by decide) (by decide) rfl (by simp [hh, m2_1]) ?_
 rintro _ rfl
 rw [← er5]
 simp [hh, m2_1]
 apply hk'
 refine zE fun k' hk' => ?_
 obtain ⟨len6, elen6, h⟩ := atm h
 have f7 := fun H => len_list (H := H) (fr := true) (f := intC2) kd_166 elen6
 obtain ⟨len8, elen8, h⟩ := atm h
 have f9 := fun H => len_list (H := H) (fr := true) (f := strC) kd_25 elen8
 obtain ⟨hb10, h⟩ := h
 obtain ⟨v11, ev11, h⟩ := atm h
 have f12 := ib_add hb10 ev11
 obtain ⟨c13, ec13, h⟩ := atm h
 have f14 := ib_eql (k := .i64) ec13
 simp [hh, m2_1, f7, f9, f12, f14, -intBin, -lenF]
 apply hk'
 refine Runs.cut (fun ρ H n => ρ 4 = bool c13) (by simp [hh, m2_1, f7, f9, f12, f14, -intBin, -lenF]) ?_
 clear hh m2_1
 rintro ρ H n15 hh
 exact Runs.ret1 (v := bool c13) Tryz.func122 Tryz.results122 (by simp [hh]) (hQ _ _ _ _ (.of (.v _)) ⟨c13, h, rfl⟩)
theorem isIdle_ok (b : Big) (link : Int) (hp : isIdle_pre b link) : PureC Tryz.prog 122 [.agg (bC false b), int link] (fun r => r = bool (isIdle b link)) := (isIdle_walk b link _ (isIdle_vc b link hp)).mono (by rintro _ ⟨_, rfl, rfl⟩; rfl)
theorem e123 : Ent Tryz.prog 123 := Ent.of Tryz.func123 (by kernel_rfl) rfl
theorem isClosedB_walk (b : Big) (Z : Bool → Prop) (h : isClosedB_wp b Z) : PureC Tryz.prog 123 [.agg (bC false b)] (fun r => ∃ y : Bool, Z y ∧ r = bool y) := by
 unfold isClosedB_wp at h
 refine PureC.of Tryz.func123 rfl Tryz.ntmps123 (by simp) fun Q hQ => ?_
 refine Runs.cut (fun ρ H n => ρ 0 = .agg (bC false b)) (by simp) ?_
 rintro ρ H n1 hh
 refine zE fun k' hk' => ?_
 simp [hh]
 apply hk'
 refine Runs.cut (fun ρ H n => ρ 1 = pA n1 1 ∧ H (n1, 1) = some ⟨6, [bC false b]⟩) (by refine ⟨?_, ?_⟩ <;> simp [hh]) ?_
 clear hh
 rintro ρ H n3 ⟨hh, m1_1⟩
 refine zE fun k' hk' => ?_
 obtain ⟨J4, hJ5, hr6⟩ := h
 have fin8 : ∀ (sJ : Bool) (ρ : Env) (H : Heap) (n : Nat), J4 sJ → (match sJ with | b7 => ρ 2 = bool b7) → Runs Tryz.prog 123 13 k' ρ H n Q := by
  rintro b7 ρ H n9 h hh
  replace h := hr6 _ h
  apply hk'
  exact Runs.ret1 (v := bool b7) Tryz.func123 Tryz.results123 (by simp [hh]) (hQ _ _ _ _ (.of (.v _)) ⟨b7, h, rfl⟩)
 replace h := hJ5
 obtain ⟨len10, elen10, h⟩ := atm h
 have f11 := fun H => len_list (H := H) (fr := false) (f := intC) kd_24 elen10
 obtain ⟨c12, ec12, h⟩ := atm h
 have f13 := ib_eql (k := .i64) ec12
 rcases Bool.eq_false_or_eq_true c12 with dc12 | dc12
 ·replace h := h.1 dc12
  obtain ⟨len14, elen14, h⟩ := atm h
  have f15 := fun H => len_list (H := H) (fr := false) (f := Wire.cells) kd_36 elen14
  obtain ⟨c16, ec16, h⟩ := atm h
  have f17 := ib_eql (k := .i64) ec16
  simp [hh, m1_1, f11, f13, f15, f17, dc12, -intBin, -lenF]
  exact fin8 (c16) _ _ _ h (by simp [hh, m1_1, f11, f13, f15, f17, dc12, -intBin, -lenF])
 replace h := h.2 dc12
 simp [hh, m1_1, f11, f13, dc12, -intBin, -lenF]
 exact fin8 (false) _ _ _ h (by simp [hh, m1_1, f11, f13, dc12, -intBin, -lenF])
theorem isClosedB_ok (b : Big) (hp : isClosedB_pre b) : PureC Tryz.prog 123 [.agg (bC false b)] (fun r => r = bool (isClosedB b)) := (isClosedB_walk b _ (isClosedB_vc b hp)).mono (by rintro _ ⟨_, rfl, rfl⟩; rfl)
theorem e91 : Ent Tryz.prog 91 := Ent.of Tryz.func91 (by kernel_rfl) rfl
theorem agentB_walk (sig : List Control) (b : Big) (Z : Bool → Prop) (h : agentB_wp sig b Z) : PureC Tryz.prog 91 [.list false (sig.map Control.cells), .agg (bC false b)] (fun r => ∃ y : Bool, Z y ∧ r = bool y) := by
 unfold agentB_wp at h
 refine PureC.of Tryz.func91 rfl Tryz.ntmps91 (by simp) fun Q hQ => ?_
 refine Runs.cut (fun ρ H n => (ρ 0 = .list false (sig.map Control.cells) ∧ ρ 1 = .agg (bC false b))) (by simp) ?_
 rintro ρ H n1 hh
 refine zE fun k' hk' => ?_
 simp [hh]
 apply hk'
 refine Runs.cut (fun ρ H n => (ρ 0 = .list false (sig.map Control.cells) ∧ ρ 3 = pA n1 3) ∧ H (n1, 3) = some ⟨6, [bC false b]⟩) (by refine ⟨?_, ?_⟩ <;> simp [hh]) ?_
 clear hh
 rintro ρ H n3 ⟨hh, m3_1⟩
 refine zE fun k' hk' => ?_
 obtain ⟨J4, hJ5, hr6⟩ := h
 have fin8 : ∀ (sJ : Bool) (ρ : Env) (H : Heap) (n : Nat), J4 sJ → (match sJ with | b7 => ρ 4 = bool b7) → Runs Tryz.prog 91 12 k' ρ H n Q := by
  rintro b7 ρ H n9 h hh
  replace h := hr6 _ h
  apply hk'
  exact Runs.ret1 (v := bool b7) Tryz.func91 Tryz.results91 (by simp [hh]) (hQ _ _ _ _ (.of (.v _)) ⟨b7, h, rfl⟩)
 replace h := hJ5
 obtain ⟨hb10, h⟩ := h
 obtain ⟨r11, er11, h⟩ := atm h
 simp [hh, m3_1]
 refine RunK.callA Ty_ok (IsBigraph_ok sig b hb10) e89 (.cons (argC false sig) (.cons (argB false b) .nil)) (by decide) (by decide) rfl (by simp [hh, m3_1]) ?_
 rintro _ rfl
 rw [← er11]
 rcases Bool.eq_false_or_eq_true r11 with dr11 | dr11
 ·replace h := h.1 dr11
  obtain ⟨hb12, h⟩ := h
  obtain ⟨r13, er13, h⟩ := atm h
  simp [hh, m3_1, dr11]
  refine RunK.callA Ty_ok (isClosedB_ok b hb12) e123 (.cons (argB false b) .nil) (by decide) (by decide) rfl (by simp [hh, m3_1, dr11]) ?_
  rintro _ rfl
  rw [← er13]
  simp [hh, m3_1, dr11]
  exact fin8 (r13) _ _ _ h (by simp [hh, m3_1, dr11])
 replace h := h.2 dr11
 simp [hh, m3_1, dr11]
 exact fin8 (false) _ _ _ h (by simp [hh, m3_1, dr11])
theorem agentB_ok (sig : List Control) (b : Big) (hp : agentB_pre sig b) : PureC Tryz.prog 91 [.list false (sig.map Control.cells), .agg (bC false b)] (fun r => r = bool (agentB sig b)) := (agentB_walk sig b _ (agentB_vc sig b hp)).mono (by rintro _ ⟨_, rfl, rfl⟩; rfl)
theorem e84 : Ent Tryz.prog 84 := Ent.of Tryz.func84 (by kernel_rfl) rfl
theorem l2Agent_walk (sig : List Control) (b : Big) (Z : Bool → Prop) (h : l2Agent_wp sig b Z) : PureC Tryz.prog 84 [.list false (sig.map Control.cells), .agg (bC false b)] (fun r => ∃ y : Bool, Z y ∧ r = bool y) := by
 unfold l2Agent_wp at h
 refine PureC.of Tryz.func84 rfl Tryz.ntmps84 (by simp) fun Q hQ => ?_
 refine Runs.cut (fun ρ H n => (ρ 0 = .list false (sig.map Control.cells) ∧ ρ 1 = .agg (bC false b))) (by simp) ?_
 rintro ρ H n1 hh
 refine zE fun k' hk' => ?_
 simp [hh]
 apply hk'
 refine Runs.cut (fun ρ H n => (ρ 0 = .list false (sig.map Control.cells) ∧ ρ 3 = pA n1 3) ∧ H (n1, 3) = some ⟨6, [bC false b]⟩) (by refine ⟨?_, ?_⟩ <;> simp [hh]) ?_
 clear hh
 rintro ρ H n3 ⟨hh, m3_1⟩
 refine zE fun k' hk' => ?_
 obtain ⟨J4, hJ5, hr6⟩ := h
 have fin8 : ∀ (sJ : Bool) (ρ : Env) (H : Heap) (n : Nat), J4 sJ → (match sJ with | b7 => ρ 4 = bool b7) → Runs Tryz.prog 84 20 k' ρ H n Q := by
  rintro b7 ρ H n9 h hh
  replace h := hr6 _ h
  apply hk'
  exact Runs.ret1 (v := bool b7) Tryz.func84 Tryz.results84 (by simp [hh]) (hQ _ _ _ _ (.of (.v _)) ⟨b7, h, rfl⟩)
 replace h := hJ5
 obtain ⟨hb10, h⟩ := h
 obtain ⟨r11, er11, h⟩ := atm h
 simp [hh, m3_1]
 refine RunK.callA Ty_ok (l2Good_ok sig b hb10) e103 (.cons (argC false sig) (.cons (argB false b) .nil)) (by decide) (by decide) rfl (by simp [hh, m3_1]) ?_
 rintro _ rfl
 rw [← er11]
 rcases Bool.eq_false_or_eq_true r11 with dr11 | dr11
 ·replace h := h.1 dr11
  obtain ⟨len12, elen12, h⟩ := atm h
  have f13 := fun H => len_list (H := H) (fr := false) (f := intC) kd_24 elen12
  obtain ⟨c14, ec14, h⟩ := atm h
  have f15 := ib_eql (k := .i64) ec14
  rcases Bool.eq_false_or_eq_true c14 with dc14 | dc14
  ·replace h := h.1 dc14
   obtain ⟨len16, elen16, h⟩ := atm h
   have f17 := fun H => len_list (H := H) (fr := false) (f := Wire.cells) kd_36 elen16
   obtain ⟨c18, ec18, h⟩ := atm h
   have f19 := ib_eql (k := .i64) ec18
   simp [hh, m3_1, f13, f15, f17, f19, dr11, dc14, -intBin, -lenF]
   exact fin8 (c18) _ _ _ h (by simp [hh, m3_1, f13, f15, f17, f19, dr11, dc14, -intBin, -lenF])
  replace h := h.2 dc14
  simp [hh, m3_1, f13, f15, dr11, dc14, -intBin, -lenF]
  exact fin8 (false) _ _ _ h (by simp [hh, m3_1, f13, f15, dr11, dc14, -intBin, -lenF])
 replace h := h.2 dr11
 simp [hh, m3_1, dr11]
 exact fin8 (false) _ _ _ h (by simp [hh, m3_1, dr11])
theorem l2Agent_ok (sig : List Control) (b : Big) (hp : l2Agent_pre sig b) : PureC Tryz.prog 84 [.list false (sig.map Control.cells), .agg (bC false b)] (fun r => r = bool (l2Agent sig b)) := (l2Agent_walk sig b _ (l2Agent_vc sig b hp)).mono (by rintro _ ⟨_, rfl, rfl⟩; rfl)
theorem e90 : Ent Tryz.prog 90 := Ent.of Tryz.func90 (by kernel_rfl) rfl
theorem isRedex_walk (b : Big) (Z : Bool → Prop) (h : isRedex_wp b Z) : PureC Tryz.prog 90 [.agg (bC false b)] (fun r => ∃ y : Bool, Z y ∧ r = bool y) := by
 unfold isRedex_wp at h
 refine PureC.of Tryz.func90 rfl Tryz.ntmps90 (by simp) fun Q hQ => ?_
 refine Runs.cut (fun ρ H n => ρ 0 = .agg (bC false b)) (by simp) ?_
 rintro ρ H n1 hh
 refine zE fun k' hk' => ?_
 simp [hh]
 apply hk'
 refine Runs.cut (fun ρ H n => ρ 1 = pA n1 1 ∧ H (n1, 1) = some ⟨6, [bC false b]⟩) (by refine ⟨?_, ?_⟩ <;> simp [hh]) ?_
 clear hh
 rintro ρ H n3 ⟨hh, m1_1⟩
 refine Runs.seq ?_
 refine zE fun k' hk' => ?_
 obtain ⟨J4, hJ5, hr6⟩ := h
 have fin8 : ∀ (sJ : Bool) (ρ : Env) (H : Heap) (n : Nat), J4 sJ → (match sJ with | b7 => (ρ 1 = pA n1 1 ∧ ρ 15 = bool b7) ∧ H (n1, 1) = some ⟨6, [bC false b]⟩) → Runs Tryz.prog 90 62 k' ρ H n Q := by
  rintro b7 ρ H n9 h ⟨hh, m1_1⟩
  replace h := hr6 _ h
  apply hk'
  refine Runs.ite (b := b7) (by simp [hh, m1_1]) (fun db7 => ?_) (fun db7 => ?_)
  ·replace h := h.1 db7
   refine zE fun k' hk' => ?_
   simp [hh, m1_1, db7]
   apply hk'
   exact Runs.ret1 (v := bool false) Tryz.func90 Tryz.results90 (by simp [hh, m1_1, db7]) (hQ _ _ _ _ (.of (.v _)) ⟨false, h, rfl⟩)
  replace h := h.2 db7
  refine Runs.skip ?_
  refine Runs.seq ?_
  refine zE fun k' hk' => ?_
  obtain ⟨hb10, h⟩ := h
  obtain ⟨v11, ev11, h⟩ := atm h
  have f12 := ub_neg hb10 ev11
  simp [hh, m1_1, f12, db7, -unF, ub_not']
  apply hk'
  refine Runs.block ?_
  refine Runs.loopW h (fun (sJ : Int) ρ H n => match sJ with | placeV15 => (ρ 1 = pA n1 1 ∧ ρ 3 = int placeV15) ∧ H (n1, 1) = some ⟨6, [bC false b]⟩) (by refine ⟨?_, ?_⟩ <;> simp [hh, m1_1, db7]) ?_
  clear hh m1_1
  rintro placeV15 ρ H n16 K h ⟨hh, m1_1⟩ IH17
  refine Runs.seq ?_
  refine zE fun k' hk' => ?_
  obtain ⟨len19, elen19, h⟩ := atm h
  have f20 := fun H => len_list (H := H) (fr := false) (f := (GNode.cells false)) kd_35 elen19
  obtain ⟨c21, ec21, h⟩ := atm h
  have f22 := ib_lss (k := .i64) ec21
  simp [hh, m1_1, f20, f22, -intBin, -lenF]
  apply hk'
  refine Runs.ite (b := c21) (by simp [hh, m1_1]) (fun dc21 => ?_) (fun dc21 => ?_)
  ·replace h := h.1 dc21
   refine Runs.skip ?_
   refine Runs.seq ?_
   refine Runs.block ?_
   refine zE fun k' hk' => ?_
   obtain ⟨hb23, h⟩ := h
   obtain ⟨r24, er24, h⟩ := atm h
   simp [hh, m1_1, dc21]
   refine RunK.callA Ty_ok ((childrenOf_ok b placeV15 hb23).pure) e92 (.cons (argB false b) (.cons (.v _ _ _) .nil)) (by decide) (by decide) rfl (by simp [hh, m1_1, dc21]) ?_
   rintro _ rfl
   rw [← er24]
   simp [hh, m1_1, dc21]
   apply hk'
   refine zE fun k' hk' => ?_
   obtain ⟨J25, hJ26, hr27⟩ := h
   have fin29 : ∀ (sJ : Bool) (ρ : Env) (H : Heap) (n : Nat), J25 sJ → (match sJ with | b28 => (ρ 1 = pA n1 1 ∧ ρ 3 = int placeV15 ∧ ρ 48 = bool b28) ∧ H (n1, 1) = some ⟨6, [bC false b]⟩) → Runs Tryz.prog 90 62 k' ρ H n Q := by
    rintro b28 ρ H n30 h ⟨hh, m1_1⟩
    replace h := hr27 _ h
    apply hk'
    refine Runs.ite (b := b28) (by simp [hh, m1_1]) (fun db28 => ?_) (fun db28 => ?_)
    ·replace h := h.1 db28
     refine zE fun k' hk' => ?_
     simp [hh, m1_1, db28]
     apply hk'
     exact Runs.ret1 (v := bool false) Tryz.func90 Tryz.results90 (by simp [hh, m1_1, db28]) (hQ _ _ _ _ (.of (.v _)) ⟨false, h, rfl⟩)
    replace h := h.2 db28
    refine Runs.skip ?_
    refine Runs.inBlock ?_
    refine zF fun k' hk' => ?_
    obtain ⟨hb31, h⟩ := h
    obtain ⟨v32, ev32, h⟩ := atm h
    have f33 := ib_add hb31 ev32
    simp [hh, m1_1, f33, db28, -intBin]
    apply hk'
    refine IH17 (v32) _ _ _ h (by refine ⟨?_, ?_⟩ <;> simp [hh, m1_1, db28])
   replace h := hJ26
   obtain ⟨c34, ec34, h⟩ := atm h
   have f35 := ib_lss (k := .i64) ec34
   rcases Bool.eq_false_or_eq_true c34 with dc34 | dc34
   ·replace h := h.1 dc34
    obtain ⟨len36, elen36, h⟩ := atm h
    have f37 := fun H => len_list (H := H) (fr := true) (f := intC) kd_24 elen36
    obtain ⟨c38, ec38, h⟩ := atm h
    have f39 := ib_eql (k := .i64) ec38
    rcases Bool.eq_false_or_eq_true c38 with dc38 | dc38
    ·replace h := h.1 dc38
     simp [hh, m1_1, f35, f37, f39, dc21, dc34, dc38, -intBin, -lenF]
     exact fin29 (true) _ _ _ h (by refine ⟨?_, ?_⟩ <;> simp [hh, m1_1, f35, f37, f39, dc21, dc34, dc38, -intBin, -lenF])
    replace h := h.2 dc38
    obtain ⟨len40, elen40, h⟩ := atm h
    have f41 := fun H => len_list (H := H) (fr := true) (f := intC) kd_24 elen40
    obtain ⟨c42, ec42, h⟩ := atm h
    have f43 := ib_gtr (k := .i64) ec42
    rcases Bool.eq_false_or_eq_true c42 with dc42 | dc42
    ·replace h := h.1 dc42
     simp [hh, m1_1, f35, f37, f39, f41, f43, dc21, dc34, dc38, dc42, -intBin, -lenF]
     exact fin29 (true) _ _ _ h (by refine ⟨?_, ?_⟩ <;> simp [hh, m1_1, f35, f37, f39, f41, f43, dc21, dc34, dc38, dc42, -intBin, -lenF])
    replace h := h.2 dc42
    obtain ⟨len44, elen44, h⟩ := atm h
    have hq45 := elen40.trans elen44.symm
    subst hq45
    have f46 := fun H => len_list (H := H) (fr := true) (f := intC) kd_24 elen40
    obtain ⟨c47, ec47, h⟩ := atm h
    have f48 := ib_gtr (k := .i64) ec47
    simp [hh, m1_1, f35, f37, f39, f41, f43, f46, f48, dc21, dc34, dc38, dc42, -intBin, -lenF]
    exact fin29 (c47) _ _ _ h (by refine ⟨?_, ?_⟩ <;> simp [hh, m1_1, f35, f37, f39, f41, f43, f46, f48, dc21, dc34, dc38, dc42, -intBin, -lenF])
   replace h := h.2 dc34
   obtain ⟨len49, elen49, h⟩ := atm h
   have f50 := fun H => len_list (H := H) (fr := true) (f := intC) kd_24 elen49
   obtain ⟨c51, ec51, h⟩ := atm h
   have f52 := ib_gtr (k := .i64) ec51
   simp [hh, m1_1, f35, f50, f52, dc21, dc34, -intBin, -lenF]
   exact fin29 (c51) _ _ _ h (by refine ⟨?_, ?_⟩ <;> simp [hh, m1_1, f35, f50, f52, dc21, dc34, -intBin, -lenF])
  replace h := h.2 dc21
  refine Runs.exit rfl ?_
  refine Runs.seq ?_
  refine zE fun k' hk' => ?_
  obtain ⟨len53, elen53, h⟩ := atm h
  have f54 := fun H => len_list (H := H) (fr := false) (f := strC) kd_25 elen53
  obtain ⟨hb55, h⟩ := h
  obtain ⟨v56, ev56, h⟩ := atm h
  have f57 := ib_add hb55 ev56
  simp [hh, m1_1, f54, f57, dc21, -intBin, -lenF]
  apply hk'
  refine Runs.block ?_
  refine Runs.loopW h (fun (sJ : Int) ρ H n => match sJ with | v60 => (ρ 1 = pA n1 1 ∧ ρ 54 = int v56 ∧ ρ 55 = int v60) ∧ H (n1, 1) = some ⟨6, [bC false b]⟩) (by refine ⟨?_, ?_⟩ <;> simp [hh, m1_1, dc21]) ?_
  clear hh m1_1
  rintro v60 ρ H n61 K h ⟨hh, m1_1⟩ IH62
  refine zE fun k' hk' => ?_
  obtain ⟨c64, ec64, h⟩ := atm h
  have f65 := ib_lss (k := .i64) ec64
  simp [hh, m1_1, f65, -intBin]
  apply hk'
  refine Runs.seq ?_
  refine Runs.ite (b := c64) (by simp [hh, m1_1]) (fun dc64 => ?_) (fun dc64 => ?_)
  ·replace h := h.1 dc64
   refine Runs.skip ?_
   refine Runs.seq ?_
   refine Runs.block ?_
   refine zE fun k' hk' => ?_
   simp [hh, m1_1, dc64]
   apply hk'
   refine zE fun k' hk' => ?_
   obtain ⟨hb66, h⟩ := h
   obtain ⟨r67, er67, h⟩ := atm h
   simp [hh, m1_1, dc64]
   refine RunK.callA Ty_ok (isIdle_ok b v60 hb66) e122 (.cons (argB false b) (.cons (.v _ _ _) .nil)) (by decide) (by decide) rfl (by simp [hh, m1_1, dc64]) ?_
   rintro _ rfl
   rw [← er67]
   simp [hh, m1_1, dc64]
   apply hk'
   refine Runs.ite (b := r67) (by simp [hh, m1_1, dc64]) (fun dr67 => ?_) (fun dr67 => ?_)
   ·replace h := h.1 dr67
    refine zE fun k' hk' => ?_
    simp [hh, m1_1, dc64, dr67]
    apply hk'
    exact Runs.ret1 (v := bool false) Tryz.func90 Tryz.results90 (by simp [hh, m1_1, dc64, dr67]) (hQ _ _ _ _ (.of (.v _)) ⟨false, h, rfl⟩)
   replace h := h.2 dr67
   refine Runs.skip ?_
   refine Runs.inBlock ?_
   refine zF fun k' hk' => ?_
   obtain ⟨hb68, h⟩ := h
   obtain ⟨v69, ev69, h⟩ := atm h
   have f70 := ib_add hb68 ev69
   simp [hh, m1_1, f70, dc64, dr67, -intBin]
   apply hk'
   refine IH62 (v69) _ _ _ h (by refine ⟨?_, ?_⟩ <;> simp [hh, m1_1, dc64, dr67])
  replace h := h.2 dc64
  refine Runs.exit rfl ?_
  refine zE fun k' hk' => ?_
  simp [hh, m1_1, dc64]
  apply hk'
  exact Runs.ret1 (v := bool true) Tryz.func90 Tryz.results90 (by simp [hh, m1_1, dc64]) (hQ _ _ _ _ (.of (.v _)) ⟨true, h, rfl⟩)
 replace h := hJ5
 obtain ⟨len71, elen71, h⟩ := atm h
 have f72 := fun H => len_list (H := H) (fr := false) (f := Wire.cells) kd_36 elen71
 obtain ⟨c73, ec73, h⟩ := atm h
 have f74 := ib_gtr (k := .i64) ec73
 rcases Bool.eq_false_or_eq_true c73 with dc73 | dc73
 ·replace h := h.1 dc73
  simp [hh, m1_1, f72, f74, dc73, -intBin, -lenF]
  exact fin8 (true) _ _ _ h (by refine ⟨?_, ?_⟩ <;> simp [hh, m1_1, f72, f74, dc73, -intBin, -lenF])
 replace h := h.2 dc73
 obtain ⟨c75, ec75, h⟩ := atm h
 have f76 := ib_eql (k := .i64) ec75
 simp [hh, m1_1, f72, f74, f76, dc73, -intBin, -lenF]
 exact fin8 (c75) _ _ _ h (by refine ⟨?_, ?_⟩ <;> simp [hh, m1_1, f72, f74, f76, dc73, -intBin, -lenF])
theorem isRedex_ok (b : Big) (hp : isRedex_pre b) : PureC Tryz.prog 90 [.agg (bC false b)] (fun r => r = bool (isRedex b)) := (isRedex_walk b _ (isRedex_vc b hp)).mono (by rintro _ ⟨_, rfl, rfl⟩; rfl)
theorem e104 : Ent Tryz.prog 104 := Ent.of Tryz.func104 (by kernel_rfl) rfl
theorem l8Solid_walk (b : Big) (Z : Bool → Prop) (h : l8Solid_wp b Z) : PureC Tryz.prog 104 [.agg (bC false b)] (fun r => ∃ y : Bool, Z y ∧ r = bool y) := by
 unfold l8Solid_wp at h
 refine PureC.of Tryz.func104 rfl Tryz.ntmps104 (by simp) fun Q hQ => ?_
 refine Runs.cut (fun ρ H n => ρ 0 = .agg (bC false b)) (by simp) ?_
 rintro ρ H n1 hh
 refine zE fun k' hk' => ?_
 simp [hh]
 apply hk'
 refine Runs.cut (fun ρ H n => ρ 1 = pA n1 1 ∧ H (n1, 1) = some ⟨6, [bC false b]⟩) (by refine ⟨?_, ?_⟩ <;> simp [hh]) ?_
 clear hh
 rintro ρ H n3 ⟨hh, m1_1⟩
 refine Runs.seq ?_
 refine zE fun k' hk' => ?_
 obtain ⟨J4, hJ5, hr6⟩ := h
 have fin8 : ∀ (sJ : Bool) (ρ : Env) (H : Heap) (n : Nat), J4 sJ → (match sJ with | b7 => (ρ 1 = pA n1 1 ∧ ρ 14 = bool b7) ∧ H (n1, 1) = some ⟨6, [bC false b]⟩) → Runs Tryz.prog 104 60 k' ρ H n Q := by
  rintro b7 ρ H n9 h ⟨hh, m1_1⟩
  replace h := hr6 _ h
  apply hk'
  refine Runs.ite (b := b7) (by simp [hh, m1_1]) (fun db7 => ?_) (fun db7 => ?_)
  ·replace h := h.1 db7
   refine zE fun k' hk' => ?_
   simp [hh, m1_1, db7]
   apply hk'
   exact Runs.ret1 (v := bool false) Tryz.func104 Tryz.results104 (by simp [hh, m1_1, db7]) (hQ _ _ _ _ (.of (.v _)) ⟨false, h, rfl⟩)
  replace h := h.2 db7
  refine Runs.skip ?_
  refine Runs.seq ?_
  refine zE fun k' hk' => ?_
  simp [hh, m1_1, db7]
  apply hk'
  refine Runs.block ?_
  refine Runs.loopW h (fun (sJ : Int) ρ H n => match sJ with | r12 => (ρ 1 = pA n1 1 ∧ ρ 3 = int r12) ∧ H (n1, 1) = some ⟨6, [bC false b]⟩) (by refine ⟨?_, ?_⟩ <;> simp [hh, m1_1, db7]) ?_
  clear hh m1_1
  rintro r12 ρ H n13 K h ⟨hh, m1_1⟩ IH14
  refine Runs.seq ?_
  refine zE fun k' hk' => ?_
  obtain ⟨c16, ec16, h⟩ := atm h
  have f17 := ib_lss (k := .i64) ec16
  simp [hh, m1_1, f17, -intBin]
  apply hk'
  refine Runs.ite (b := c16) (by simp [hh, m1_1]) (fun dc16 => ?_) (fun dc16 => ?_)
  ·replace h := h.1 dc16
   refine Runs.skip ?_
   refine Runs.seq ?_
   refine Runs.block ?_
   refine zE fun k' hk' => ?_
   obtain ⟨J18, hJ19, hr20⟩ := h
   have fin22 : ∀ (sJ : Bool) (ρ : Env) (H : Heap) (n : Nat), J18 sJ → (match sJ with | b21 => (ρ 1 = pA n1 1 ∧ ρ 3 = int r12 ∧ ρ 34 = bool b21) ∧ H (n1, 1) = some ⟨6, [bC false b]⟩) → Runs Tryz.prog 104 60 k' ρ H n Q := by
    rintro b21 ρ H n23 h ⟨hh, m1_1⟩
    replace h := hr20 _ h
    apply hk'
    refine Runs.ite (b := b21) (by simp [hh, m1_1]) (fun db21 => ?_) (fun db21 => ?_)
    ·replace h := h.1 db21
     refine zE fun k' hk' => ?_
     simp [hh, m1_1, db21]
     apply hk'
     exact Runs.ret1 (v := bool false) Tryz.func104 Tryz.results104 (by simp [hh, m1_1, db21]) (hQ _ _ _ _ (.of (.v _)) ⟨false, h, rfl⟩)
    replace h := h.2 db21
    refine Runs.skip ?_
    refine Runs.inBlock ?_
    refine zF fun k' hk' => ?_
    obtain ⟨hb24, h⟩ := h
    obtain ⟨v25, ev25, h⟩ := atm h
    have f26 := ib_add hb24 ev25
    simp [hh, m1_1, f26, db21, -intBin]
    apply hk'
    refine IH14 (v25) _ _ _ h (by refine ⟨?_, ?_⟩ <;> simp [hh, m1_1, db21])
   replace h := hJ19
   obtain ⟨hb27, h⟩ := h
   obtain ⟨v28, ev28, h⟩ := atm h
   have f29 := ib_sub hb27 ev28
   obtain ⟨hb30, h⟩ := h
   obtain ⟨r31, er31, h⟩ := atm h
   simp [hh, m1_1, f29, dc16, -intBin]
   refine RunK.callA Ty_ok ((l2Kids_ok b v28 hb30).pure) e105 (.cons (argB false b) (.cons (.v _ _ _) .nil)) (by decide) (by decide) rfl (by simp [hh, m1_1, f29, dc16, -intBin]) ?_
   rintro _ rfl
   rw [← er31]
   obtain ⟨len32, elen32, h⟩ := atm h
   have f33 := fun H => len_list (H := H) (fr := true) (f := intC) kd_24 elen32
   obtain ⟨c34, ec34, h⟩ := atm h
   have f35 := ib_eql (k := .i64) ec34
   rcases Bool.eq_false_or_eq_true c34 with dc34 | dc34
   ·replace h := h.1 dc34
    simp [hh, m1_1, f29, f33, f35, dc16, dc34, -intBin, -lenF]
    exact fin22 (true) _ _ _ h (by refine ⟨?_, ?_⟩ <;> simp [hh, m1_1, f29, f33, f35, dc16, dc34, -intBin, -lenF])
   replace h := h.2 dc34
   obtain ⟨hb36, h⟩ := h
   obtain ⟨v37, ev37, h⟩ := atm h
   have hq38 := ev28.trans ev37.symm
   subst hq38
   have f39 := ib_sub hb36 ev28
   obtain ⟨hb40, h⟩ := h
   obtain ⟨r41, er41, h⟩ := atm h
   simp [hh, m1_1, f29, f33, f35, f39, dc16, dc34, -intBin, -lenF]
   refine RunK.callA Ty_ok ((l2Holes_ok b v28 hb40).pure) e156 (.cons (argB false b) (.cons (.v _ _ _) .nil)) (by decide) (by decide) rfl (by simp [hh, m1_1, f29, f33, f35, f39, dc16, dc34, -intBin, -lenF]) ?_
   rintro _ rfl
   rw [← er41]
   obtain ⟨len42, elen42, h⟩ := atm h
   have f43 := fun H => len_list (H := H) (fr := true) (f := intC) kd_24 elen42
   obtain ⟨c44, ec44, h⟩ := atm h
   have f45 := ib_gtr (k := .i64) ec44
   simp [hh, m1_1, f29, f33, f35, f39, f43, f45, dc16, dc34, -intBin, -lenF]
   exact fin22 (c44) _ _ _ h (by refine ⟨?_, ?_⟩ <;> simp [hh, m1_1, f29, f33, f35, f39, f43, f45, dc16, dc34, -intBin, -lenF])
  replace h := h.2 dc16
  refine Runs.exit rfl ?_
  refine Runs.seq ?_
  refine zE fun k' hk' => ?_
  simp [hh, m1_1, dc16]
  apply hk'
  refine Runs.block ?_
  refine Runs.loopW h (fun (sJ : Int) ρ H n => match sJ with | i48 => (ρ 1 = pA n1 1 ∧ ρ 4 = int i48) ∧ H (n1, 1) = some ⟨6, [bC false b]⟩) (by refine ⟨?_, ?_⟩ <;> simp [hh, m1_1, dc16]) ?_
  clear hh m1_1
  rintro i48 ρ H n49 K h ⟨hh, m1_1⟩ IH50
  refine Runs.seq ?_
  refine zE fun k' hk' => ?_
  obtain ⟨len52, elen52, h⟩ := atm h
  have f53 := fun H => len_list (H := H) (fr := false) (f := (GNode.cells false)) kd_35 elen52
  obtain ⟨c54, ec54, h⟩ := atm h
  have f55 := ib_lss (k := .i64) ec54
  simp [hh, m1_1, f53, f55, -intBin, -lenF]
  apply hk'
  refine Runs.ite (b := c54) (by simp [hh, m1_1]) (fun dc54 => ?_) (fun dc54 => ?_)
  ·replace h := h.1 dc54
   refine Runs.skip ?_
   refine Runs.seq ?_
   refine Runs.block ?_
   refine zE fun k' hk' => ?_
   obtain ⟨hb56, h⟩ := h
   obtain ⟨r57, er57, h⟩ := atm h
   simp [hh, m1_1, dc54]
   refine RunK.callA Ty_ok ((l2Holes_ok b i48 hb56).pure) e156 (.cons (argB false b) (.cons (.v _ _ _) .nil)) (by decide) (by decide) rfl (by simp [hh, m1_1, dc54]) ?_
   rintro _ rfl
   rw [← er57]
   obtain ⟨len58, elen58, h⟩ := atm h
   have f59 := fun H => len_list (H := H) (fr := true) (f := intC) kd_24 elen58
   obtain ⟨c60, ec60, h⟩ := atm h
   have f61 := ib_gtr (k := .i64) ec60
   simp [hh, m1_1, f59, f61, dc54, -intBin, -lenF]
   apply hk'
   refine Runs.ite (b := c60) (by simp [hh, m1_1, dc54]) (fun dc60 => ?_) (fun dc60 => ?_)
   ·replace h := h.1 dc60
    refine zE fun k' hk' => ?_
    simp [hh, m1_1, dc54, dc60]
    apply hk'
    exact Runs.ret1 (v := bool false) Tryz.func104 Tryz.results104 (by simp [hh, m1_1, dc54, dc60]) (hQ _ _ _ _ (.of (.v _)) ⟨false, h, rfl⟩)
   replace h := h.2 dc60
   refine Runs.skip ?_
   refine Runs.inBlock ?_
   refine zF fun k' hk' => ?_
   obtain ⟨hb62, h⟩ := h
   obtain ⟨v63, ev63, h⟩ := atm h
   have f64 := ib_add hb62 ev63
   simp [hh, m1_1, f64, dc54, dc60, -intBin]
   apply hk'
   refine IH50 (v63) _ _ _ h (by refine ⟨?_, ?_⟩ <;> simp [hh, m1_1, dc54, dc60])
  replace h := h.2 dc54
  refine Runs.exit rfl ?_
  refine Runs.seq ?_
  refine zE fun k' hk' => ?_
  simp [hh, m1_1, dc54]
  apply hk'
  refine Runs.block ?_
  refine Runs.loopW h (fun (sJ : Int) ρ H n => match sJ with | link67 => (ρ 1 = pA n1 1 ∧ ρ 5 = int link67) ∧ H (n1, 1) = some ⟨6, [bC false b]⟩) (by refine ⟨?_, ?_⟩ <;> simp [hh, m1_1, dc54]) ?_
  clear hh m1_1
  rintro link67 ρ H n68 K h ⟨hh, m1_1⟩ IH69
  refine Runs.seq ?_
  refine zE fun k' hk' => ?_
  obtain ⟨len71, elen71, h⟩ := atm h
  have f72 := fun H => len_list (H := H) (fr := false) (f := strC) kd_25 elen71
  obtain ⟨hb73, h⟩ := h
  obtain ⟨v74, ev74, h⟩ := atm h
  have f75 := ib_add hb73 ev74
  obtain ⟨c76, ec76, h⟩ := atm h
  have f77 := ib_lss (k := .i64) ec76
  simp [hh, m1_1, f72, f75, f77, -intBin, -lenF]
  apply hk'
  refine Runs.ite (b := c76) (by simp [hh, m1_1]) (fun dc76 => ?_) (fun dc76 => ?_)
  ·replace h := h.1 dc76
   refine Runs.skip ?_
   refine Runs.seq ?_
   refine Runs.block ?_
   refine zE fun k' hk' => ?_
   obtain ⟨hb78, h⟩ := h
   obtain ⟨r79, er79, h⟩ := atm h
   simp [hh, m1_1, dc76]
   refine RunK.callA Ty_ok (l2Idle_ok b link67 hb78) e157 (.cons (argB false b) (.cons (.v _ _ _) .nil)) (by decide) (by decide) rfl (by simp [hh, m1_1, dc76]) ?_
   rintro _ rfl
   rw [← er79]
   simp [hh, m1_1, dc76]
   apply hk'
   refine Runs.ite (b := r79) (by simp [hh, m1_1, dc76]) (fun dr79 => ?_) (fun dr79 => ?_)
   ·replace h := h.1 dr79
    refine zE fun k' hk' => ?_
    simp [hh, m1_1, dc76, dr79]
    apply hk'
    exact Runs.ret1 (v := bool false) Tryz.func104 Tryz.results104 (by simp [hh, m1_1, dc76, dr79]) (hQ _ _ _ _ (.of (.v _)) ⟨false, h, rfl⟩)
   replace h := h.2 dr79
   refine Runs.skip ?_
   refine Runs.inBlock ?_
   refine zF fun k' hk' => ?_
   obtain ⟨hb80, h⟩ := h
   obtain ⟨v81, ev81, h⟩ := atm h
   have f82 := ib_add hb80 ev81
   simp [hh, m1_1, f82, dc76, dr79, -intBin]
   apply hk'
   refine IH69 (v81) _ _ _ h (by refine ⟨?_, ?_⟩ <;> simp [hh, m1_1, dc76, dr79])
  replace h := h.2 dc76
  refine Runs.exit rfl ?_
  refine zE fun k' hk' => ?_
  simp [hh, m1_1, dc76]
  apply hk'
  exact Runs.ret1 (v := bool true) Tryz.func104 Tryz.results104 (by simp [hh, m1_1, dc76]) (hQ _ _ _ _ (.of (.v _)) ⟨true, h, rfl⟩)
 replace h := hJ5
 obtain ⟨len83, elen83, h⟩ := atm h
 have f84 := fun H => len_list (H := H) (fr := false) (f := Wire.cells) kd_36 elen83
 obtain ⟨c85, ec85, h⟩ := atm h
 have f86 := ib_gtr (k := .i64) ec85
 rcases Bool.eq_false_or_eq_true c85 with dc85 | dc85
 ·replace h := h.1 dc85
  simp [hh, m1_1, f84, f86, dc85, -intBin, -lenF]
  exact fin8 (true) _ _ _ h (by refine ⟨?_, ?_⟩ <;> simp [hh, m1_1, f84, f86, dc85, -intBin, -lenF])
 replace h := h.2 dc85
 obtain ⟨c87, ec87, h⟩ := atm h
 have f88 := ib_eql (k := .i64) ec87
 simp [hh, m1_1, f84, f86, f88, dc85, -intBin, -lenF]
 exact fin8 (c87) _ _ _ h (by refine ⟨?_, ?_⟩ <;> simp [hh, m1_1, f84, f86, f88, dc85, -intBin, -lenF])
theorem l8Solid_ok (b : Big) (hp : l8Solid_pre b) : PureC Tryz.prog 104 [.agg (bC false b)] (fun r => r = bool (l8Solid b)) := (l8Solid_walk b _ (l8Solid_vc b hp)).mono (by rintro _ ⟨_, rfl, rfl⟩; rfl)
end Go.Ab.Vg
/- The abstract machine, part O: regions that draw their order and make variables. -/
namespace Go.Ab
def kindN : Op → Nat
 | .move _ | .assign _ | .pick .. | .binOp .. | .unOp .. | .convert .. | .makeFunc .. | .extract .. | .field .. | .index .. | .build .. => 0
 | .load .. | .fieldAddr .. | .indexAddr .. | .nilCheck _ | .call ⟨.builtin .len, _, _⟩ => 1
 | .alloc _ => 3
 | .store .. => 4
 | _ => 2
def compatN (a b : Nat) : Bool := a == 0 || b == 0 || (a == 1 && (b == 1 || b == 3 || b == 4)) || (a == 3 && (b == 1 || b == 3 || b == 4)) || (a == 4 && (b == 1 || b == 3))
def idOk (n0 : Nat) : AVal → Prop
 | .ptr id _ _ _ | .arr id _ _ _ => id.1 < n0
 | _ => True
def condN (n0 : Nat) (op : Op) (ρ : Env) : Prop :=
 match op with
 | .load _ a | .fieldAddr _ a _ | .nilCheck a => idOk n0 (ρ.ev a)
 | .indexAddr _ x _ => idOk n0 (ρ.ev x)
 | .call ⟨.builtin .len, args, _⟩ => ∀ x ∈ args.toList, idOk n0 (ρ.ev x)
 | .store _ a _ => ∃ id g idx off, ρ.ev a = .ptr id g idx off ∧ n0 ≤ id.1
 | _ => kindN op = 0
theorem view_agree {n0 : Nat} {H H2 : Heap} (hag : ∀ id : Id, id.1 < n0 → H2 id = H id) {p : AVal} (hp : idOk n0 p) : viewOf H2 p = viewOf H p := by
 cases p with
 | ptr id g idx off => simp only [viewOf]; rw [hag id hp]
 | _ => rfl
theorem live_agree {n0 : Nat} {H H2 : Heap} (hag : ∀ id : Id, id.1 < n0 → H2 id = H id) {id : Id} {g : Nat} (hp : id.1 < n0) : live H2 id g = live H id g := by
 unfold live
 rw [hag id hp]
section
variable {Ty : Types} {ρ : Env} {H H2 H' : Heap} {n n2 n' n0 : Nat} {d : Option Tmp} {v : AVal} {op : Op}
theorem stepF_n0 (hk : kindN op = 0) (h : stepF Ty d op ρ H n = some (v, H', n')) : H' = H ∧ n' = n ∧ ∀ H2 n2, stepF Ty d op ρ H2 n2 = some (v, H2, n2) := by
 refine stepF_k0 ?_ h
 cases op with
 | call c =>
  obtain ⟨cal, args, ats⟩ := c
  cases cal with
  | builtin b => cases b <;> simp [kindN] at hk
  | _ => simp [kindN] at hk
 | _ => first | rfl | (simp [kindN] at hk)
theorem stepF_n1 (hk : kindN op = 1) (hc : condN n0 op ρ) (hag : ∀ id : Id, id.1 < n0 → H2 id = H id) (h : stepF Ty d op ρ H n = some (v, H', n')) : H' = H ∧ n' = n ∧ stepF Ty d op ρ H2 n2 = some (v, H2, n2) := by
 cases op with
 | load t a =>
  simp only [stepF] at h ⊢
  rw [view_agree hag hc]
  split at h
  ·split at h
   ·cases h; exact ⟨rfl, rfl, rfl⟩
   ·cases h
  ·cases h
 | fieldAddr t a f =>
  simp only [stepF] at h ⊢
  rw [view_agree hag hc]
  split at h
  ·split at h
   ·split at h
    ·cases h
    ·rename_i hz
     cases h
     exact ⟨rfl, rfl, by rw [if_neg hz]⟩
   ·cases h
  ·cases h
 | nilCheck a =>
  simp only [stepF] at h ⊢
  rw [view_agree hag hc]
  split at h
  ·cases h; exact ⟨rfl, rfl, rfl⟩
  ·cases h
 | indexAddr t x ix =>
  obtain ⟨h1, h2, h3⟩ := map_some_eq h
  refine ⟨h2, h3, ?_⟩
  have : indexAddrF Ty H2 t (ρ.ev x) (ρ.ev ix) = indexAddrF Ty H t (ρ.ev x) (ρ.ev ix) := by
   simp only [condN] at hc
   unfold indexAddrF
   split
   ·generalize ρ.ev x = p at hc
    cases hkd : kd Ty t with
    | slice j => cases p with
     | arr id g off len => simp only [live_agree hag (show id.1 < n0 from hc)]
     | _ => rfl
    | arr len j => simp only [view_agree hag hc]
    | _ => rfl
   ·rfl
  simp only [stepF, this, h1, Option.map_some]
 | call c =>
  obtain ⟨cal, args, ats⟩ := c
  cases cal with
  | builtin b =>
   cases b <;> simp [kindN] at hk
   simp only [stepF] at h ⊢
   split at h
   ·rename_i x t hx ht
    obtain ⟨h1, h2, h3⟩ := map_some_eq h
    refine ⟨h2, h3, ?_⟩
    have hcx : idOk n0 (ρ.ev x) := hc x (by rw [hx]; simp)
    have : lenF Ty H2 t (ρ.ev x) = lenF Ty H t (ρ.ev x) := by
     unfold lenF
     generalize ρ.ev x = p at hcx
     cases hkd : kd Ty t with
     | slice j => cases p with
      | arr id g off len => simp only [live_agree hag (show id.1 < n0 from hcx)]
      | v x => cases x <;> rfl
      | _ => rfl
     | string => cases p with
      | v x => cases x <;> rfl
      | _ => rfl
     | _ => rfl
    simp only [this, h1, Option.map_some]
   ·cases h
  | _ => simp [kindN] at hk
 | _ => simp [kindN] at hk
def tgt : Op → Env → Option Id
 | .store _ a _, ρ => match ρ.ev a with
  | .ptr id _ _ _ => some id
  | _ => none
 | _, _ => none
theorem stepF_n4 (hk : kindN op = 4) (hc : condN n0 op ρ) (h : stepF Ty d op ρ H n = some (v, H', n')) :
  ∃ id ob ob', tgt op ρ = some id ∧ n0 ≤ id.1 ∧ H id = some ob ∧ H' = H.set id ob' ∧ n' = n ∧ ∀ H2 n2, H2 id = some ob → stepF Ty d op ρ H2 n2 = some (v, H2.set id ob', n2) := by
 cases op with
 | store t a x =>
  obtain ⟨id, g, idx, off, ha, hid⟩ := hc
  simp only [stepF] at h ⊢
  rw [ha] at h ⊢
  split at h
  ·rename_i H1 hs
   cases h
   unfold storeF at hs
   split at hs
   ·rename_i i id1 g1 idx1 off1 new e1 e2 e3
    cases e2
    split at hs
    ·rename_i o hl
     split at hs
     ·rename_i hcond
      cases hs
      obtain ⟨l1, l2⟩ := live_some hl
      refine ⟨id, o, o.write idx off new, by simp only [tgt, ha], hid, l1, rfl, rfl, fun H2 n2 h2 => ?_⟩
      have hl2 : live H2 id g = some o := by
       unfold live
       rw [h2]
       simp [l2]
      simp only [storeF, e1, e3, hl2, if_pos hcond]
     ·cases hs
    ·cases hs
   ·cases hs
  ·cases h
 | call c =>
  obtain ⟨cal, args, ats⟩ := c
  cases cal with
  | builtin b => cases b <;> simp [kindN] at hk
  | _ => simp [kindN] at hk
 | _ => simp [kindN] at hk
end
theorem condN_loc {n0 : Nat} {op : Op} {ρ : Env} : condN n0 op (loc op ρ) ↔ condN n0 op ρ := by
 have h : ∀ x, x ∈ op.operands → (loc op ρ).ev x = ρ.ev x := fun x hx => loc_ev hx
 generalize loc op ρ = ρ' at h
 cases op with
 | call c =>
  obtain ⟨cal, args, ats⟩ := c
  cases cal with
  | builtin b =>
   cases b <;> try rfl
   have ha : ∀ x, x ∈ args.toList → ρ'.ev x = ρ.ev x := fun x hx => h x (by simp [Op.operands, Call.operands]; simpa using hx)
   simp only [condN]
   exact ⟨fun hc x hx => by rw [← ha x hx]; exact hc x hx, fun hc x hx => by rw [ha x hx]; exact hc x hx⟩
  | _ => rfl
 | load t a => simp only [condN]; rw [h a (by simp [Op.operands])]
 | fieldAddr t a f => simp only [condN]; rw [h a (by simp [Op.operands])]
 | nilCheck a => simp only [condN]; rw [h a (by simp [Op.operands])]
 | indexAddr t x i => simp only [condN]; rw [h x (by simp [Op.operands])]
 | store t a x => simp only [condN]; rw [h a (by simp [Op.operands])]
 | _ => rfl
section
variable (Ty : Types) (ops : Array Oper) (n0 : Nat)
def DoN (o : Oper) (s : AS) (R : AS → Prop) : Prop :=
 (gok ops o s.1 = some false ∧ R (s.1.put o.dst skv, s.2)) ∨
 (gok ops o s.1 = some true ∧ kindN o.op ≠ 3 ∧ condN n0 o.op s.1 ∧ ∃ v H', stepF Ty o.dst o.op s.1 s.2.1 s.2.2 = some (v, H', s.2.2) ∧ R (s.1.put o.dst v, H', s.2.2)) ∨
 (gok ops o s.1 = some true ∧ ∃ t k i, o.op = .alloc t ∧ o.dst = some k ∧ Ty t = some i ∧ ∀ a, n0 ≤ a → (∀ j, s.2.1 (a, j) = none) → R (s.1.put (some k) (.ptr (a, k) 1 0 0), s.2.1.set (a, k) ⟨i.zero.length, [i.zero.map .v]⟩, max s.2.2 (a + 1)))
def Bd (s : AS) : Prop := n0 ≤ s.2.2 ∧ ∀ id o, s.2.1 id = some o → id.1 < s.2.2
end
theorem set_comm {H : Heap} {i j : Id} (o p : Ob) (h : i ≠ j) : (H.set i o).set j p = (H.set j p).set i o := by
 funext x
 simp only [Heap.set]
 by_cases h1 : x = i <;> by_cases h2 : x = j <;> simp_all
section
variable {Ty : Types} {ops : Array Oper} {n0 : Nat}
theorem DoN.mono {o : Oper} {s : AS} {R R' : AS → Prop} (h : DoN Ty ops n0 o s R) (hR : ∀ s, R s → R' s) : DoN Ty ops n0 o s R' := by
 rcases h with ⟨h1, h2⟩ | ⟨h1, h2, h3, v, H', h4, h5⟩ | ⟨h1, t, k, i, h2, h3, h4, h5⟩
 ·exact .inl ⟨h1, hR _ h2⟩
 ·exact .inr (.inl ⟨h1, h2, h3, v, H', h4, hR _ h5⟩)
 ·exact .inr (.inr ⟨h1, t, k, i, h2, h3, h4, fun a ha hf => hR _ (h5 a ha hf)⟩)
theorem kind_cond {op : Op} {ρ : Env} (h3 : kindN op ≠ 3) (h : condN n0 op ρ) : kindN op = 0 ∨ kindN op = 1 ∨ kindN op = 4 := by
 cases op with
 | call c =>
  obtain ⟨cal, args, ats⟩ := c
  cases cal with
  | builtin b => cases b <;> first | (simp [kindN]; done) | (simp [condN, kindN] at h)
  | _ => simp [condN, kindN] at h
 | buildSlice t len ps => simp only [condN] at h; exact .inl h
 | _ => first | (simp [kindN]; done) | (simp [condN, kindN] at h; done) | (simp [kindN] at h3)
theorem fresh_ex {s : AS} (hb : Bd n0 s) (j : Nat) : s.2.1 (s.2.2, j) = none := by
 cases h : s.2.1 (s.2.2, j) with
 | none => rfl
 | some o => have := hb.2 _ o h; simp at this
theorem DoN.bd {o : Oper} {s : AS} {R : AS → Prop} (hb : Bd n0 s) (h : DoN Ty ops n0 o s R) : DoN Ty ops n0 o s fun s' => Bd n0 s' ∧ R s' := by
 rcases h with ⟨h1, h2⟩ | ⟨h1, h2, h3, v, H', h4, h5⟩ | ⟨h1, t, k, i, h2, h3, h4, h5⟩
 ·exact .inl ⟨h1, hb, h2⟩
 ·refine .inr (.inl ⟨h1, h2, h3, v, H', h4, ⟨hb.1, ?_⟩, h5⟩)
  rcases kind_cond h2 h3 with hk | hk | hk
  ·obtain ⟨rfl, _⟩ := stepF_n0 hk h4; exact hb.2
  ·obtain ⟨rfl, _⟩ := stepF_n1 (H2 := s.2.1) (n2 := s.2.2) hk h3 (fun _ _ => rfl) h4; exact hb.2
  ·obtain ⟨id, ob, ob', _, _, e2, rfl, _⟩ := stepF_n4 hk h3 h4
   intro id' o' ho'
   simp only at ho' ⊢
   by_cases he : id' = id
   ·rw [he]; exact hb.2 _ _ e2
   ·rw [Heap.get_set_ne _ _ he] at ho'; exact hb.2 _ _ ho'
 ·refine .inr (.inr ⟨h1, t, k, i, h2, h3, h4, fun a ha hf => ⟨⟨?_, ?_⟩, h5 a ha hf⟩⟩)
  ·have := hb.1; simp only; omega
  ·intro id' o' ho'
   simp only at ho' ⊢
   by_cases he : id' = (a, k)
   ·rw [he]; simp only; omega
   ·rw [Heap.get_set_ne _ _ he] at ho'
    have := hb.2 _ _ ho'
    omega
theorem DoN.swap {oi oj : Oper} (hap : oi.apart ops oj = true) (hc : compatN (kindN oi.op) (kindN oj.op) = true) {s : AS} (hb : Bd n0 s) {R : AS → Prop} (h : DoN Ty ops n0 oi s fun si => DoN Ty ops n0 oj si R) :
  DoN Ty ops n0 oj s fun sj => DoN Ty ops n0 oi sj R := by
 obtain ⟨h1, h2, h3⟩ := Oper.apart_spec hap
 have sj : ∀ v H n, stepF Ty oj.dst oj.op (s.1.put oi.dst v) H n = stepF Ty oj.dst oj.op s.1 H n := fun v H n => by rw [← stepF_loc, loc_put (looks_tmps h1), stepF_loc]
 have si : ∀ v H n, stepF Ty oi.dst oi.op (s.1.put oj.dst v) H n = stepF Ty oi.dst oi.op s.1 H n := fun v H n => by rw [← stepF_loc, loc_put (looks_tmps h3), stepF_loc]
 have cj : ∀ v, condN n0 oj.op (s.1.put oi.dst v) ↔ condN n0 oj.op s.1 := fun v => by rw [← condN_loc, loc_put (looks_tmps h1), condN_loc]
 have ci : ∀ v, condN n0 oi.op (s.1.put oj.dst v) ↔ condN n0 oi.op s.1 := fun v => by rw [← condN_loc, loc_put (looks_tmps h3), condN_loc]
 have gj : ∀ v, gok ops oj (s.1.put oi.dst v) = gok ops oj s.1 := fun v => gok_put h1
 have gi : ∀ v, gok ops oi (s.1.put oj.dst v) = gok ops oi s.1 := fun v => gok_put h3
 have pc : ∀ v u, (s.1.put oi.dst v).put oj.dst u = (s.1.put oj.dst u).put oi.dst v := fun v u => put_comm v u h2
 obtain ⟨ρ, H, n⟩ := s
 simp only at sj si cj ci gj gi pc
 rcases h with ⟨hgi, h⟩ | ⟨hgi, hki, hci, v, Hi, hsi, h⟩ | ⟨hgi, t, k, i, hop, hd, hT, h⟩
 ·-- oi is skipped
  rcases h with ⟨hgj, h⟩ | ⟨hgj, hkj, hcj, u, Hj, hsj, h⟩ | ⟨hgj, t', k', i', hop', hd', hT', h⟩
  ·simp only [gj] at hgj
   exact .inl ⟨hgj, .inl ⟨by simpa only [gi] using hgi, by simpa only [pc] using h⟩⟩
  ·simp only [gj, cj, sj] at hgj hcj hsj
   exact .inr (.inl ⟨hgj, hkj, hcj, u, Hj, hsj, .inl ⟨by simpa only [gi] using hgi, by simpa only [pc] using h⟩⟩)
  ·simp only [gj] at hgj
   rw [hd'] at pc gi
   exact .inr (.inr ⟨hgj, t', k', i', hop', hd', hT', fun a ha hf => .inl ⟨by simpa only [gi] using hgi, by simpa only [pc] using h a ha hf⟩⟩)
 ·-- oi runs
  rcases h with ⟨hgj, h⟩ | ⟨hgj, hkj, hcj, u, Hj, hsj, h⟩ | ⟨hgj, t', k', i', hop', hd', hT', h⟩
  ·simp only [gj] at hgj
   exact .inl ⟨hgj, .inr (.inl ⟨by simpa only [gi] using hgi, hki, by simpa only [ci] using hci, v, Hi, by simpa only [si] using hsi, by simpa only [pc] using h⟩)⟩
  ·simp only [gj, cj, sj] at hgj hcj hsj
   simp only at hsi hci hgi h
   -- both run
   have key : ∃ Hj', stepF Ty oj.dst oj.op ρ H n = some (u, Hj', n) ∧ stepF Ty oi.dst oi.op ρ Hj' n = some (v, Hj, n) := by
    rcases kind_cond hki hci with ki | ki | ki
    ·obtain ⟨rfl, _, hall⟩ := stepF_n0 ki hsi
     exact ⟨Hj, hsj, hall Hj n⟩
    ·obtain ⟨rfl, _, _⟩ := stepF_n1 (H2 := H) (n2 := n) ki hci (fun _ _ => rfl) hsi
     rcases kind_cond hkj hcj with kj | kj | kj
     ·obtain ⟨rfl, _, hall⟩ := stepF_n0 kj hsj
      exact ⟨_, hsj, hsi⟩
     ·obtain ⟨rfl, _, _⟩ := stepF_n1 (H2 := Hi) (n2 := n) kj hcj (fun _ _ => rfl) hsj
      exact ⟨_, hsj, hsi⟩
     ·obtain ⟨id, ob, ob', _, e1, e2, rfl, _, _⟩ := stepF_n4 kj hcj hsj
      refine ⟨_, hsj, ?_⟩
      exact (stepF_n1 ki hci (fun id' hid => Heap.get_set_ne _ _ (by rintro rfl; omega)) hsi).2.2
    ·obtain ⟨id, ob, ob', _, e1, e2, rfl, _, hall⟩ := stepF_n4 ki hci hsi
     rcases kind_cond hkj hcj with kj | kj | kj
     ·obtain ⟨rfl, _, hall'⟩ := stepF_n0 kj hsj
      exact ⟨H, hall' H n, hsi⟩
     ·obtain ⟨rfl, _, hst⟩ := stepF_n1 (H2 := H) (n2 := n) kj hcj (fun id' hid => (Heap.get_set_ne _ _ (by rintro rfl; omega)).symm) hsj
      exact ⟨H, hst, hsi⟩
     ·rw [ki, kj] at hc; simp [compatN] at hc
   obtain ⟨Hj', k1, k2⟩ := key
   exact .inr (.inl ⟨hgj, hkj, hcj, u, Hj', k1, .inr (.inl ⟨by simpa only [gi] using hgi, hki, by simpa only [ci] using hci, v, Hj, by simpa only [si] using k2, by simpa only [pc] using h⟩)⟩)
  ·-- oj makes a variable
   simp only [gj] at hgj
   rw [hd'] at pc gi si ci
   refine .inr (.inr ⟨hgj, t', k', i', hop', hd', hT', fun a ha hf => ?_⟩)
   simp only at hsi hci hgi h hf
   rcases kind_cond hki hci with ki | ki | ki
   ·obtain ⟨rfl, _, hall⟩ := stepF_n0 ki hsi
    exact .inr (.inl ⟨by simpa only [gi] using hgi, hki, by simpa only [ci] using hci, v, _, by simpa only [si] using hall _ _, by simpa only [pc] using h a ha hf⟩)
   ·obtain ⟨rfl, _, _⟩ := stepF_n1 (H2 := H) (n2 := n) ki hci (fun _ _ => rfl) hsi
    have hst := (stepF_n1 (n2 := max n (a + 1)) ki hci (fun id' hid => Heap.get_set_ne Hi ⟨i'.zero.length, [i'.zero.map .v]⟩ (i := (a, k')) (by rintro rfl; simp only at hid; omega)) hsi).2.2
    exact .inr (.inl ⟨by simpa only [gi] using hgi, hki, by simpa only [ci] using hci, v, _, by simpa only [si] using hst, by simpa only [pc] using h a ha hf⟩)
   ·obtain ⟨id, ob, ob', _, e1, e2, rfl, _, hall⟩ := stepF_n4 ki hci hsi
    have hne : id ≠ (a, k') := by rintro rfl; rw [hf k'] at e2; cases e2
    have hf' : ∀ j, (H.set id ob') (a, j) = none := fun j => by
     rw [Heap.get_set_ne _ _ (by rintro rfl; rw [hf j] at e2; cases e2)]
     exact hf j
    have hst := hall (H.set (a, k') ⟨i'.zero.length, [i'.zero.map .v]⟩) (max n (a + 1)) (by rw [Heap.get_set_ne _ _ hne]; exact e2)
    have hfin := h a ha hf'
    rw [set_comm _ _ hne] at hfin
    exact .inr (.inl ⟨by simpa only [gi] using hgi, hki, by simpa only [ci] using hci, v, _, by simpa only [si] using hst, by simpa only [pc] using hfin⟩)
 ·-- oi makes a variable
  simp only at hgi h
  rw [hd] at pc gj sj cj
  have hf0 : ∀ j, H (n, j) = none := fun j => fresh_ex hb j
  have hn0 : n0 ≤ n := hb.1
  have hi3 : kindN oi.op = 3 := by rw [hop]; rfl
  rcases h n hn0 hf0 with ⟨hgj, _⟩ | ⟨hgj, hkj, hcj, u, Hj, hsj, _⟩ | ⟨hgj, t', k', i', hop', hd', hT', _⟩
  ·simp only [gj] at hgj
   refine .inl ⟨hgj, .inr (.inr ⟨by simpa only [gi] using hgi, t, k, i, hop, hd, hT, fun a ha hf => ?_⟩)⟩
   rcases h a ha hf with ⟨_, h⟩ | ⟨hg, _⟩ | ⟨hg, _⟩
   ·simpa only [pc] using h
   ·simp only [gj, hgj] at hg; cases hg
   ·simp only [gj, hgj] at hg; cases hg
  ·simp only [gj, cj, sj] at hgj hcj hsj
   have back : ∀ a, n0 ≤ a → (∀ j, H (a, j) = none) → ∃ ua Ha, stepF Ty oj.dst oj.op ρ (H.set (a, k) ⟨i.zero.length, [i.zero.map .v]⟩) (max n (a + 1)) = some (ua, Ha, max n (a + 1)) ∧ R ((ρ.put (some k) (.ptr (a, k) 1 0 0)).put oj.dst ua, Ha, max n (a + 1)) := by
    intro a ha hf
    rcases h a ha hf with ⟨hg, _⟩ | ⟨_, _, _, ua, Ha, hs, hR⟩ | ⟨_, t', _, _, hop', _⟩
    ·simp only [gj, hgj] at hg; cases hg
    ·simp only [sj] at hs
     exact ⟨ua, Ha, hs, hR⟩
    ·exact absurd (by rw [hop']; rfl) hkj
   have hout : ∀ (a : Nat) (id' : Id), n0 ≤ a → id'.1 < n0 → (H.set (a, k) ⟨i.zero.length, [i.zero.map .v]⟩) id' = H id' := fun a id' ha hid => Heap.get_set_ne _ _ (by rintro rfl; simp only at hid; omega)
   rcases kind_cond hkj hcj with kj | kj | kj
   ·obtain ⟨rfl, _, hall⟩ := stepF_n0 kj hsj
    refine .inr (.inl ⟨hgj, hkj, hcj, u, H, hall H n, .inr (.inr ⟨by simpa only [gi] using hgi, t, k, i, hop, hd, hT, fun a ha hf => ?_⟩)⟩)
    obtain ⟨ua, Ha, hs, hR⟩ := back a ha hf
    rw [hall] at hs
    cases hs
    simpa only [pc] using hR
   ·have hst := (stepF_n1 (H2 := H) (n2 := n) kj hcj (fun id' hid => (hout n id' hn0 hid).symm) hsj).2.2
    refine .inr (.inl ⟨hgj, hkj, hcj, u, H, hst, .inr (.inr ⟨by simpa only [gi] using hgi, t, k, i, hop, hd, hT, fun a ha hf => ?_⟩)⟩)
    obtain ⟨ua, Ha, hs, hR⟩ := back a ha hf
    have hst2 := (stepF_n1 (H2 := H.set (a, k) ⟨i.zero.length, [i.zero.map .v]⟩) (n2 := max n (a + 1)) kj hcj (fun id' hid => hout a id' ha hid) hst).2.2
    rw [hst2] at hs
    cases hs
    simpa only [pc] using hR
   ·obtain ⟨id, o1, o1', t1, _, e2, rfl, _, hall⟩ := stepF_n4 kj hcj hsj
    obtain ⟨u2, H2, hs2, _⟩ := back (n + 1) (by omega) (fun j => by
     cases hx : H (n + 1, j) with
     | none => rfl
     | some o => have := hb.2 (n + 1, j) o hx; simp only at this; omega)
    obtain ⟨id2, o2, o2', t2, _, e2', _⟩ := stepF_n4 kj hcj hs2
    rw [t1] at t2
    cases t2
    have hne : id ≠ (n, k) := by
     rintro rfl
     rw [Heap.get_set_ne _ _ (by intro he; have := congrArg Prod.fst he; simp only at this; omega), hf0 k] at e2'
     cases e2'
    rw [Heap.get_set_ne _ _ hne] at e2
    refine .inr (.inl ⟨hgj, hkj, hcj, u, H.set id o1', hall H n e2, .inr (.inr ⟨by simpa only [gi] using hgi, t, k, i, hop, hd, hT, fun a ha hf => ?_⟩)⟩)
    simp only at hf ⊢
    have hf' : ∀ j, H (a, j) = none := fun j => by
     have := hf j
     by_cases he : (a, j) = id
     ·rw [he, Heap.get_set_self] at this; cases this
     ·rwa [Heap.get_set_ne _ _ he] at this
    have hne' : id ≠ (a, k) := by
     rintro rfl
     rw [hf' k] at e2
     cases e2
    obtain ⟨ua, Ha, hs, hR⟩ := back a ha hf'
    rw [hall _ _ (by rw [Heap.get_set_ne _ _ hne']; exact e2)] at hs
    cases hs
    rw [set_comm _ _ hne', ← pc]
    exact hR
  ·simp only [gj] at hgj
   rw [hd'] at pc gi
   refine .inr (.inr ⟨hgj, t', k', i', hop', hd', hT', fun b hb' hfb => .inr (.inr ⟨by simpa only [gi] using hgi, t, k, i, hop, hd, hT, fun a ha hfa => ?_⟩)⟩)
   simp only at hfa ⊢
   have hab : a ≠ b := by
    rintro rfl
    have := hfa k'
    rw [Heap.get_set_self] at this
    cases this
   have hfa' : ∀ j, H (a, j) = none := fun j => by
    have := hfa j
    rwa [Heap.get_set_ne _ _ (by intro he; exact hab (congrArg Prod.fst he))] at this
   rcases h a ha hfa' with ⟨hg, _⟩ | ⟨_, hk3, _⟩ | ⟨_, t2, k2, i2, hop2, hd2, hT2, h2'⟩
   ·simp only [gj, hgj] at hg; cases hg
   ·exact absurd (by rw [hop']; rfl) hk3
   ·rw [hop'] at hop2
    cases hop2
    rw [hd'] at hd2
    cases hd2
    rw [hT'] at hT2
    cases hT2
    have hfin := h2' b hb' (fun j => by simp only; rw [Heap.get_set_ne _ _ (by intro he; exact hab (congrArg Prod.fst he).symm)]; exact hfb j)
    simp only at hfin
    rw [set_comm _ _ (by intro he; exact hab (congrArg Prod.fst he)), pc] at hfin
    have hm : max (max n (b + 1)) (a + 1) = max (max n (a + 1)) (b + 1) := by omega
    rw [hm]
    exact hfin
theorem DoN.some_ {o : Oper} {s : AS} {q : Prop} (hb : Bd n0 s) (h : DoN Ty ops n0 o s fun _ => q) : q := by
 rcases h with ⟨_, h⟩ | ⟨_, _, _, _, _, _, h⟩ | ⟨_, _, _, _, _, _, _, h⟩
 ·exact h
 ·exact h
 ·exact h s.2.2 hb.1 (fun j => fresh_ex hb j)
variable (Ty ops n0) in
def AnyN (R : AS → Prop) : Nat → Array Bool → AS → Prop
 | 0, listed, s => Region.ready .any ops listed = [] ∧ R s
 | fuel + 1, listed, s => (Region.ready .any ops listed = [] → R s) ∧ ∀ i ∈ Region.ready .any ops listed, ∃ o, ops[i]? = some o ∧ DoN Ty ops n0 o s (AnyN R fuel (listed.setIfInBounds i true))
variable (Ty ops n0) in
def RunN (R : AS → Prop) : List Oper → AS → Prop
 | [], s => R s
 | o :: l, s => DoN Ty ops n0 o s (RunN R l)
theorem AnyN.first {R : AS → Prop} {i : Nat} {oi : Oper} (hi : ops[i]? = some oi) (D : List Nat) (hD : ∀ j oj, ops[j]? = some oj → j ∈ D → j ≠ i → ∃ e ∈ oj.after, Region.binds .any e = true ∧ e.on ∈ D) : ∀ (fuel : Nat) (listed : Array Bool) (s : AS), Bd n0 s →
  (∀ j ∈ D, listed.getD j true = false) → (∀ j oj, ops[j]? = some oj → j ≠ i → listed.getD j true = false → j ∉ D → oi.apart ops oj = true ∧ compatN (kindN oi.op) (kindN oj.op) = true) →
  i ∈ Region.ready .any ops listed → DoN Ty ops n0 oi s (AnyN Ty ops n0 R fuel (listed.setIfInBounds i true)) → AnyN Ty ops n0 R (fuel + 1) listed s := by
 intro fuel
 induction fuel with
 | zero =>
  intro listed s hb _ _ hr H
  refine ⟨fun h => (by rw [h] at hr; cases hr), fun j hj => ?_⟩
  by_cases hji : j = i
  ·subst hji; exact ⟨oi, hi, H⟩
  ·have := ready_mono hj hji
   have h0 : Region.ready .any ops (listed.setIfInBounds i true) = [] := DoN.some_ hb (H.mono fun s' h => h.1)
   rw [h0] at this
   cases this
 | succ fuel ih =>
  intro listed s hb hinv hfree hr H
  refine ⟨fun h => (by rw [h] at hr; cases hr), fun j hj => ?_⟩
  by_cases hji : j = i
  ·subst hji; exact ⟨oi, hi, H⟩
  ·obtain ⟨hjun, oj, hoj, hall⟩ := mem_ready.1 hj
   have hnot : j ∉ D := fun hd => by
    obtain ⟨e, he, hb', hed⟩ := hD j oj hoj hd hji
    have h1 := hall e he hb'
    have h0 := hinv e.on hed
    rcases Nat.lt_or_ge e.on listed.size with h' | h'
    ·simp [h'] at h0 h1; rw [h0] at h1; cases h1
    ·simp [Array.getElem?_eq_none h'] at h1
   obtain ⟨hap, hco⟩ := hfree j oj hoj hji hjun hnot
   have H2 : DoN Ty ops n0 oi s fun s' => DoN Ty ops n0 oj s' (AnyN Ty ops n0 R fuel ((listed.setIfInBounds i true).setIfInBounds j true)) := H.mono fun s' h => by
    obtain ⟨oj', hoj', h'⟩ := h.2 j (ready_mono hj hji)
    rw [hoj] at hoj'
    cases hoj'
    exact h'
   refine ⟨oj, hoj, (DoN.bd hb (DoN.swap hap hco hb H2)).mono fun sj ⟨hbj, hsj⟩ => ih (listed.setIfInBounds j true) sj hbj (fun k hk => ?_) (fun k ok hk hki hun hno => ?_) (ready_mono hr (Ne.symm hji)) ?_⟩
   ·have hjk : j ≠ k := fun he => hnot (he ▸ hk)
    rw [getD_set_ne true hjk]
    exact hinv k hk
   ·refine hfree k ok hk hki ?_ hno
    by_cases hjk : j = k
    ·subst hjk; exact hjun
    ·rw [getD_set_ne true hjk] at hun; exact hun
   ·rw [Array.setIfInBounds_comm _ _ hji]
    exact hsj
variable (ops) in
def freeN (listed : Array Bool) (i : Nat) : Bool :=
 match ops[i]? with
 | none => false
 | some oi => ((behind ops i).all fun j => !(listed.getD j true) && match ops[j]? with
   | none => true
   | some oj => j == i || oj.after.any (fun e => Region.binds .any e && (behind ops i).contains e.on)) &&
  (List.range ops.size).all fun j => match ops[j]? with
  | none => true
  | some oj => j == i || listed.getD j true || (behind ops i).contains j || (oi.apart ops oj && compatN (kindN oi.op) (kindN oj.op))
variable (ops) in
def lexN : Nat → Nat → Array Bool → Bool
 | 0, _, listed => (Region.ready .any ops listed).isEmpty
 | fuel + 1, k, listed => (Region.ready .any ops listed).contains k && freeN ops listed k && lexN fuel (k + 1) (listed.setIfInBounds k true)
variable (ops) in
def drawN : Bool := lexN ops ops.size 0 (Array.replicate ops.size false)
theorem freeN_spec {listed : Array Bool} {i : Nat} {oi : Oper} (hi : ops[i]? = some oi) (h : freeN ops listed i = true) :
  (∀ j oj, ops[j]? = some oj → j ∈ behind ops i → j ≠ i → ∃ e ∈ oj.after, Region.binds .any e = true ∧ e.on ∈ behind ops i) ∧ (∀ j ∈ behind ops i, listed.getD j true = false) ∧
  ∀ j oj, ops[j]? = some oj → j ≠ i → listed.getD j true = false → j ∉ behind ops i → oi.apart ops oj = true ∧ compatN (kindN oi.op) (kindN oj.op) = true := by
 unfold freeN at h
 simp only [hi, Bool.and_eq_true] at h
 obtain ⟨h1, h2⟩ := h
 refine ⟨fun j oj hj hd hji => ?_, fun j hd => ?_, fun j oj hj hji hun hno => ?_⟩
 ·have := List.all_eq_true.1 h1 j hd
  simp only [hj, Bool.and_eq_true, Bool.or_eq_true, beq_iff_eq] at this
  rcases this.2 with h3 | h3
  ·exact absurd h3 hji
  ·obtain ⟨e, he, hb⟩ := Array.any_eq_true'.1 h3
   simp only [Bool.and_eq_true, List.contains_iff_mem] at hb
   exact ⟨e, he, hb.1, hb.2⟩
 ·have := List.all_eq_true.1 h1 j hd
  simp only [Bool.and_eq_true, Bool.not_eq_true'] at this
  exact this.1
 ·have hlt : j < ops.size := (Array.getElem?_eq_some_iff.1 hj).1
  have := List.all_eq_true.1 h2 j (List.mem_range.2 hlt)
  simp only [hj, hun, Bool.or_false, Bool.or_eq_true, beq_iff_eq, Bool.and_eq_true, List.contains_iff_mem] at this
  rcases this with (h1 | h1) | h1
  ·exact absurd h1 hji
  ·exact absurd h1 hno
  ·exact h1
theorem AnyN.lex {R : AS → Prop} : ∀ (l : List Oper) (k : Nat) (listed : Array Bool) (s : AS), Bd n0 s → (∀ j : Nat, l[j]? = ops[k + j]?) → lexN ops l.length k listed = true → RunN Ty ops n0 R l s → AnyN Ty ops n0 R l.length listed s
 | [], _, _, _, _, _, hB, h => ⟨by simpa [lexN] using hB, h⟩
 | o :: l, k, listed, s, hb, hl, hB, h => by
  have h0 : ops[k]? = some o := by simpa using (hl 0).symm
  simp only [List.length_cons, lexN, Bool.and_eq_true] at hB
  obtain ⟨⟨hr, hf⟩, hB'⟩ := hB
  obtain ⟨f1, f2, f3⟩ := freeN_spec h0 hf
  exact AnyN.first h0 (behind ops k) f1 l.length listed s hb f2 f3 (by simpa using hr)
   ((DoN.bd hb h).mono fun s' ⟨hb', h'⟩ => AnyN.lex l (k + 1) _ s' hb' (fun j => by have := hl (j + 1); simpa [Nat.add_assoc, Nat.add_comm 1 j] using this) hB' h')
end
section
variable {P : Program} {N : Nat} {Ty : Types} {ops : Array Oper} {n0 : Nat}
theorem AnyN.sound (hT : TypesOk P Ty) {R : AS → Prop} (hN : ops.toList.all (fun o => dok N o.dst) = true) {Q : Exit → Act → World → Prop} {c0 : Ctx} (hQ : ∀ a c ρ, Keeps c0 c → Good c → RelE N c ρ a → R (ρ, c.H, c.n) → Q .normal a c.w) :
  ∀ (fuel : Nat) (listed : Array Bool) (ρ : Env) (c : Ctx) (a : Act), n0 ≤ c.n → Keeps c0 c → Good c → RelE N c ρ a → AnyN Ty ops n0 R fuel listed (ρ, c.H, c.n) → wpAny P .any ops Q fuel listed a c.w
 | 0, _, _, _, _, _, hk, g, r, h => ⟨h.1, hQ _ _ _ hk g r h.2⟩
 | fuel + 1, listed, ρ, c, a, hn0, hk, g, r, h => by
  refine ⟨fun h0 => hQ _ _ _ hk g r (h.1 h0), fun i hi => ?_⟩
  obtain ⟨o, ho, hst⟩ := h.2 i hi
  have hd : dok N o.dst = true := List.all_eq_true.1 hN o (by rw [← Array.getElem?_toList] at ho; exact List.mem_of_getElem? ho)
  unfold wpOp
  simp only [ho]
  rcases hst with ⟨hg, hrest⟩ | ⟨hg, hk3, hc, v, H', hs, hrest⟩ | ⟨hg, t, k, i', hop, hdst, hTy, hrest⟩
  ·rw [if_neg (by rw [wanted_of_gok r hN hg]; simp)]
   exact AnyN.sound hT hN hQ fuel _ _ c _ hn0 hk g (r.put hd (.v _)) hrest
  ·rw [if_pos (wanted_of_gok r hN hg)]
   simp only at hs hrest
   refine .inl (stepF_ok hT hs c a rfl rfl g r _ _ ?_)
   rintro v1 x c' ⟨rfl, hH, hn⟩ hrep hgood hkeep
   exact AnyN.sound hT hN hQ fuel _ _ c' _ (by rw [hn]; exact hn0) (hk.trans hkeep) hgood ((r.keeps hkeep).put hd hrep) (by rw [hH, hn]; exact hrest)
  ·rw [if_pos (wanted_of_gok r hN hg)]
   have hs : stepF Ty o.dst o.op ρ c.H c.n = some (.ptr (c.n, k) 1 0 0, c.H.set (c.n, k) ⟨i'.zero.length, [i'.zero.map .v]⟩, c.n + 1) := by rw [hop, hdst]; simp only [stepF, hTy]
   refine .inl (stepF_ok hT hs c a rfl rfl g r _ _ ?_)
   rintro v1 x c' ⟨rfl, hH, hn⟩ hrep hgood hkeep
   have hr := hrest c.n hn0 (fun j => by
    show c.H (c.n, j) = none
    cases hx : c.H (c.n, j) with
    | none => rfl
    | some ob => have := g.stamp _ _ hx; simp only at this; omega)
   have hm : max c.n (c.n + 1) = c.n + 1 := by omega
   simp only [hm] at hr
   rw [← hdst] at hr
   exact AnyN.sound hT hN hQ fuel _ _ c' _ (by rw [hn]; omega) (hk.trans hkeep) hgood ((r.keeps hkeep).put hd hrep) (by rw [hH, hn]; exact hr)
end
section
variable {P : Program} {f : FuncId} {N : Nat} {k : List Item} {ρ : Env} {H : Heap} {n : Nat} {Q : AVal → Heap → Nat → Prop} {Ty : Types}
theorem Runs.drawN (hT : TypesOk P Ty) {id : Nat} {ops : List Oper} (hm : P.follows .mixedOrders = true) (hN : ops.all (fun o => dok N o.dst) = true) (hB : drawN ops.toArray = true)
  (h : RunN Ty ops.toArray n (fun s => Runs P f N k s.1 s.2.1 s.2.2 Q) ops (ρ, H, n)) : Runs P f N (.code (.region id ops.toArray true) :: k) ρ H n Q := by
 intro c a hH hn g r b cs hf hk
 subst hH
 subst hn
 obtain ⟨d1, d2⟩ := draw_keeps g
 have hany := AnyN.lex (Ty := Ty) (ops := ops.toArray) (n0 := c.n) ops 0 (Array.replicate ops.toArray.size false) (ρ, c.H, c.n) ⟨Nat.le_refl _, fun id o ho => g.stamp id o ho⟩ (by simp) (by simpa [Ab.drawN] using hB) h
 have hw : (Code.region id ops.toArray true).wp P (fun e a' w' => e = .normal ∧ ∃ c' ρ', c'.w = w' ∧ Keeps c c' ∧ Good c' ∧ RelE N c' ρ' a' ∧ Runs P f N k ρ' c'.H c'.n Q) a c.w := by
  refine wp_region_any hm ?_
  have := AnyN.sound (P := P) (N := N) (Ty := Ty) (ops := ops.toArray) (n0 := c.n) (c0 := c) hT (by simpa using hN) (Q := fun e a' w' => e = .normal ∧ ∃ c' ρ', c'.w = w' ∧ Keeps c c' ∧ Good c' ∧ RelE N c' ρ' a' ∧ Runs P f N k ρ' c'.H c'.n Q)
   (R := fun s => Runs P f N k s.1 s.2.1 s.2.2 Q) (fun a' c' ρ' hk' hg' hr' hR => ⟨rfl, c', ρ', rfl, hk', hg', hr', hR⟩) ops.length (Array.replicate ops.toArray.size false) ρ { c with w := { c.w with drawn := c.w.drawn + 1 } } a (Nat.le_refl _) d1 d2 (r.keeps d1) hany
  simpa using this
 obtain ⟨e, a', w', ⟨rfl, c', ρ', rfl, hk', hg', hr', hR⟩, harr⟩ := hw b k cs
 obtain ⟨x, v, c'', fr, q, hr, hg, hke, hst, rest⟩ := hR c' a' rfl rfl hg' hr' b cs hf hk
 exact ⟨x, v, c'', fr, q, hr, hg, hk'.trans hke, Steps.trans harr hst, rest⟩
end
def newF (Ty : Types) (d : Option Nat) : Op → Option (Nat × Ob)
 | .alloc t => match d, Ty t with
  | some k, some i => some (k, ⟨i.zero.length, [i.zero.map .v]⟩)
  | _, _ => none
 | _ => none
section
variable (P : Program) (f : FuncId) (N : Nat) (k : List Item) (Q : AVal → Heap → Nat → Prop) (Ty : Types) (ops : Array Oper) (n0 : Nat)
def evalN : List Oper → Env → Heap → Nat → Prop
 | [], ρ, H, n => Runs P f N k ρ H n Q
 | o :: l, ρ, H, n =>
  match gok ops o ρ with
  | some false => evalN l (ρ.put o.dst skv) H n
  | some true => match newF Ty o.dst o.op with
   | some (j, ob) => ∀ a, n0 ≤ a → (∀ q, H (a, q) = none) → evalN l (ρ.put (some j) (.ptr (a, j) 1 0 0)) (H.set (a, j) ob) (max n (a + 1))
   | none => match stepF Ty o.dst o.op ρ H n with
    | some (v, H', _) => condN n0 o.op ρ ∧ evalN l (ρ.put o.dst v) H' n
    | none => False
  | none => False
end
section
variable {P : Program} {f : FuncId} {N : Nat} {k : List Item} {ρ : Env} {H : Heap} {n : Nat} {Q : AVal → Heap → Nat → Prop} {Ty : Types} {ops : Array Oper} {n0 : Nat}
theorem newF_none {d : Option Nat} {op : Op} {v : AVal} {H' : Heap} {n' : Nat} (h : newF Ty d op = none) (hs : stepF Ty d op ρ H n = some (v, H', n')) : kindN op ≠ 3 := by
 cases op with
 | alloc t =>
  simp only [stepF] at hs
  split at hs
  ·rename_i k' i hi
   simp only [newF, hi] at h
   cases h
  ·cases hs
 | call c =>
  obtain ⟨cal, args, ats⟩ := c
  cases cal with
  | builtin b => cases b <;> simp [kindN]
  | _ => simp [kindN]
 | buildSlice t len ps =>
  unfold kindN
  simp only
  by_cases h0 : len = 0 <;> simp [h0]
 | _ => simp [kindN]
theorem evalN_sound : ∀ (l : List Oper) (ρ : Env) (H : Heap) (n : Nat), evalN P f N k Q Ty ops n0 l ρ H n → RunN Ty ops n0 (fun s => Runs P f N k s.1 s.2.1 s.2.2 Q) l (ρ, H, n)
 | [], _, _, _, h => h
 | o :: l, ρ, H, n, h => by
  rw [evalN] at h
  split at h
  ·rename_i hg
   exact .inl ⟨hg, evalN_sound l _ _ _ h⟩
  ·rename_i hg
   split at h
   ·rename_i j ob hnew
    unfold newF at hnew
    split at hnew
    ·rename_i t hop
     split at hnew
     ·rename_i k' i hdst hTy
      cases hnew
      exact .inr (.inr ⟨hg, t, _, _, hop, hdst, hTy, fun a ha hf => evalN_sound l _ _ _ (h a ha hf)⟩)
     ·cases hnew
    ·cases hnew
   ·rename_i hnew
    split at h
    ·rename_i v H' n' hs
     have hk3 := newF_none hnew hs
     obtain ⟨hc, h⟩ := h
     have hn : n' = n := by
      rcases kind_cond hk3 hc with hk | hk | hk
      ·exact (stepF_n0 hk hs).2.1
      ·exact (stepF_n1 (H2 := H) (n2 := n) hk hc (fun _ _ => rfl) hs).2.1
      ·obtain ⟨_, _, _, _, _, _, _, e, _⟩ := stepF_n4 hk hc hs; exact e
     subst hn
     exact .inr (.inl ⟨hg, hk3, hc, v, H', hs, evalN_sound l _ _ _ h⟩)
    ·exact h.elim
  ·exact h.elim
@[simp] theorem evalN_nil : evalN P f N k Q Ty ops n0 [] ρ H n = Runs P f N k ρ H n Q := by rw [evalN]
@[simp] theorem evalN_cons {o : Oper} {l : List Oper} : evalN P f N k Q Ty ops n0 (o :: l) ρ H n = (match gok ops o ρ with
  | some false => evalN P f N k Q Ty ops n0 l (ρ.put o.dst skv) H n
  | some true => match newF Ty o.dst o.op with
   | some (j, ob) => ∀ a, n0 ≤ a → (∀ q, H (a, q) = none) → evalN P f N k Q Ty ops n0 l (ρ.put (some j) (.ptr (a, j) 1 0 0)) (H.set (a, j) ob) (max n (a + 1))
   | none => match stepF Ty o.dst o.op ρ H n with
    | some (v, H', _) => condN n0 o.op ρ ∧ evalN P f N k Q Ty ops n0 l (ρ.put o.dst v) H' n
    | none => False
  | none => False) := by rw [evalN]
theorem Runs.seqN (hT : TypesOk P Ty) {id : Nat} {ops : List Oper} {y : Code} (hm : P.follows .mixedOrders = true) (hN : ops.all (fun o => dok N o.dst) = true) (hB : Ab.drawN ops.toArray = true)
  (h : ∀ k' : List Item, (∀ ρ H n, Runs P f N (.code y :: k) ρ H n Q → Runs P f N k' ρ H n Q) → evalN P f N k' Q Ty ops.toArray n ops ρ H n) : Runs P f N (.code (.seq (.region id ops.toArray true) y) :: k) ρ H n Q :=
 Runs.seq (Runs.drawN hT hm hN hB (evalN_sound ops _ _ _ (h (.code y :: k) fun _ _ _ h => h)))
end
attribute [simp] gok condN idOk newF kindN
end Go.Ab
