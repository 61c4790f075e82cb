/- Merged texts (9 of 15) of the proof that ends in Ljy: Rp Rb Md St Mu Mv L2kw Maw. -/
import Derived.Test.YtbpdcoahefnnkaaGreatDoorAbQlj8
/- Readers of the laws' arguments: processes. -/
namespace Go.Proofs.YtbpdcoahefnnkaaGreatDoor
open Go.ChangeShapes Go.WideShapes Go.ChangeAt Go.RowKit Go.Ab
set_option maxRecDepth 100000
theorem own : ownKnob Tryz.prog.godebug = none := by kernel_rfl
theorem laidOut : laidOutB Tryz.prog = true := by kernel_rfl
theorem underBool : Tryz.prog.underlying 4 = some .bool := Tryz.underlying4
end Go.Proofs.YtbpdcoahefnnkaaGreatDoor
/- Readers of the laws' arguments: signatures and bigraphs. -/
namespace Go.Proofs.YtbpdcoahefnnkaaGreatDoor
open Go.ChangeShapes Go.WideShapes Go.ChangeAt Go.RowKit Go.Ab
set_option maxRecDepth 100000
theorem rControl : Reader Tryz.prog 89 Control.cells (fun x => x.name.length ≤ 9223372036854775807) := by
 have h := Reader.struct Tryz.underlying89 (n := 3) (by kernel_rfl) (FReader.cons (n := 1) rfl (by kernel_rfl) (Reader.str Tryz.underlying9) (FReader.cons (n := 1) rfl (by kernel_rfl) (Reader.int Tryz.underlying3) (FReader.cons (n := 1) rfl (by kernel_rfl) (Reader.int Tryz.underlying3) (FReader.nil 3))))
 exact h.map (fun p => ⟨p.1, p.2.1, p.2.2.1⟩) (fun p => rfl) (fun p hp => hp.1)
theorem rWire : Reader Tryz.prog 130 Wire.cells (fun x => x.name.length ≤ 9223372036854775807) := by
 have h := Reader.struct Tryz.underlying130 (n := 2) (by kernel_rfl) (FReader.cons (n := 1) rfl (by kernel_rfl) (Reader.str Tryz.underlying9) (FReader.cons (n := 1) rfl (by kernel_rfl) (Reader.int Tryz.underlying3) (FReader.nil 2)))
 exact h.map (fun p => ⟨p.1, p.2.1⟩) (fun p => rfl) (fun p hp => hp.1)
theorem rInts : Reader Tryz.prog 24 (fun l : List Int => [Ab.encI false l]) (fun l => l.length ≤ 9223372036854775807 ∧ ∀ p ∈ l, I64 p) :=
 Reader.slice Tryz.underlying24 (of_decide_eq_true (by kernel_rfl)) (Reader.int Tryz.underlying3)
theorem rStrs : Reader Tryz.prog 25 (fun l : List Str => [Ab.encS false l]) (fun l => l.length ≤ 9223372036854775807 ∧ ∀ s ∈ l, s.length ≤ 9223372036854775807) :=
 Reader.slice Tryz.underlying25 (of_decide_eq_true (by kernel_rfl)) (Reader.str Tryz.underlying9)
theorem rGNode : Reader Tryz.prog 127 (GNode.cells false) (fun x => x.links.length ≤ 9223372036854775807 ∧ I64 x.parent) := by
 have h := Reader.struct Tryz.underlying127 (n := 3) (by kernel_rfl) (FReader.cons (n := 1) rfl (by kernel_rfl) (Reader.int Tryz.underlying3) (FReader.cons (n := 1) rfl (by kernel_rfl) (Reader.int Tryz.underlying3) (FReader.cons (n := 1) rfl (by kernel_rfl) rInts (FReader.nil 3))))
 exact h.map (fun p => ⟨p.1, p.2.1, p.2.2.1⟩) (fun p => rfl) (fun p hp => ⟨hp.2.2.1.1, hp.2.1⟩)
theorem rNodes : Reader Tryz.prog 23 (fun l : List GNode => [Ab.encN false l]) (fun l => l.length ≤ 9223372036854775807 ∧ ∀ x ∈ l, x.links.length ≤ 9223372036854775807 ∧ I64 x.parent) :=
 Reader.slice Tryz.underlying23 (of_decide_eq_true (by kernel_rfl)) rGNode
theorem rWires : Reader Tryz.prog 26 (fun l : List Wire => [Ab.encW false l]) (fun l => l.length ≤ 9223372036854775807 ∧ ∀ x ∈ l, x.name.length ≤ 9223372036854775807) :=
 Reader.slice Tryz.underlying26 (of_decide_eq_true (by kernel_rfl)) rWire
theorem rSig : ArgR Tryz.prog 22 (encSig false) HugeS := by
 refine ArgR.cell (cell_slice Tryz.underlying22) ?_
 have h := Reader.slice Tryz.underlying22 (of_decide_eq_true (by kernel_rfl)) rControl
 exact h.map (fun p => p) (fun p => rfl) (fun p hp => ⟨hp.1, hp.2⟩)
theorem rBigF : Reader Tryz.prog 28 (Big.cells false) HugeB := by
 have h := Reader.struct Tryz.underlying28 (n := 6) (by kernel_rfl) (FReader.cons (n := 1) rfl (by kernel_rfl) (Reader.int Tryz.underlying3) (FReader.cons (n := 1) rfl (by kernel_rfl) rNodes (FReader.cons (n := 1) rfl (by kernel_rfl) rInts
  (FReader.cons (n := 1) rfl (by kernel_rfl) (Reader.int Tryz.underlying3) (FReader.cons (n := 1) rfl (by kernel_rfl) rStrs (FReader.cons (n := 1) rfl (by kernel_rfl) rWires (FReader.nil 6)))))))
 exact h.map (e' := Big.cells false) (ok' := HugeB) (fun p => ⟨p.1, p.2.1, p.2.2.1, p.2.2.2.1, p.2.2.2.2.1, p.2.2.2.2.2.1⟩) (fun p => rfl) (fun p hp => by
  obtain ⟨_, h1, h2, _, h3, h4, _⟩ := hp
  exact ⟨h1.1, fun x hx => (h1.2 x hx).1, h2.1, h3.1, h3.2, h4.1, h4.2, fun x hx => (h1.2 x hx).2, h2.2⟩)
theorem rBig : ArgR Tryz.prog 28 (encB false) HugeB := ArgR.struct Tryz.underlying28 rBigF
end Go.Proofs.YtbpdcoahefnnkaaGreatDoor
/- IsMatch, IsActiveMatch, MatchLinks (statements 12, 14, 16): the laws' own functions on matches, and the laws. -/
namespace Go.Ab.Vg
set_option linter.unusedSimpArgs false
set_option linter.unusedVariables false
abbrev HugeM (m : Match) : Prop := m.nodes.length ≤ 9223372036854775807 ∧ m.roots.length ≤ 9223372036854775807
abbrev toMatch (m : Match) : Match := m
abbrev toMatch_pre (m : Match) : Prop := MSz m
def toMatch_wp (a : Match) (Z : Match → Prop) : Prop :=
 (toIntS_pre a.nodes) ∧ ∀ r8 : List Int, r8 = toIntS a.nodes → (toIntS_pre a.roots) ∧ ∀ r20 : List Int, r20 = toIntS a.roots → Z (Match.mk r8 r20)
theorem toMatch_vc (m : Match) (h : toMatch_pre m) : toMatch_wp m (fun y => y = toMatch m) := by
 unfold toMatch_wp
 simp only [forall_eq]
 exact ⟨h.1, h.2, trivial⟩
def szM (m : Match) (left : Int) : Int := if szI m.nodes left < 0 then -1 else szI m.roots (szI m.nodes left)
abbrev szM_pre (m : Match) (left : Int) : Prop := (0 ≤ left ∧ left ≤ 1048576) ∧ HugeM m
def szM_wp (a : Match) (left : Int) (Z : Int → Prop) : Prop :=
 (((0 : Int) ≤ left ∧ (left : Int) ≤ 1048576) ∧ a.nodes.length ≤ 9223372036854775807) ∧ ∀ r5 : Int, r5 = szI a.nodes left → ∀ c6 : Bool, c6 = decide (r5 < 0) → ((c6 = true → Z (-1)) ∧ (c6 = false → (((0 : Int) ≤ r5 ∧ (r5 : Int) ≤ 1048576) ∧ a.roots.length ≤ 9223372036854775807) ∧ ∀ r9 : Int, r9 = szI a.roots r5 → ∀ c10 : Bool, c10 = decide (r9 < 0) → ((c10 = true → Z (-1)) ∧ (c10 = false → Z r9))))
theorem szM_vc (m : Match) (left : Int) (h : szM_pre m left) : szM_wp m left (fun y => y = szM m left) := by
 unfold szM_wp
 obtain ⟨⟨h0, h1⟩, h2, h3⟩ := h
 have h4 := f_le szI m.nodes left h0
 simp only [forall_eq, decide_eq_true_eq, decide_eq_false_iff_not]
 refine ⟨⟨⟨h0, h1⟩, h2⟩, fun h5 => by rw [szM, if_pos h5], fun h5 => ⟨⟨⟨by omega, by omega⟩, h3⟩, fun h6 => ?_, fun h6 => by rw [szM, if_neg h5]⟩⟩
 rw [szM, if_neg h5]
 have : szI m.roots (szI m.nodes left) < 0 := h6
 simp only [szI] at this ⊢
 split at this <;> omega
abbrev eqM (a b : Match) : Bool := decide (a = b)
abbrev eqM_pre (a _ : Match) : Prop := MSz a
def eqM_wp (a : Match) (b : Match) (Z : Bool → Prop) : Prop :=
 (a.nodes.length ≤ 1048576) ∧ ∀ r6 : Bool, r6 = decide (a.nodes = b.nodes) → ((r6 = true → (a.roots.length ≤ 1048576) ∧ ∀ r8 : Bool, r8 = decide (a.roots = b.roots) → ((r8 = true → Z true) ∧ (r8 = false → Z false))) ∧ (r6 = false → Z false))
theorem eqM_vc (a b : Match) (h : eqM_pre a b) : eqM_wp a b (fun y => y = eqM a b) := by
 unfold eqM_wp
 simp only [forall_eq, decide_eq_true_eq, decide_eq_false_iff_not]
 obtain ⟨x, y⟩ := a
 obtain ⟨z, w⟩ := b
 refine ⟨h.1, fun h1 => ⟨h.2, fun h2 => ?_, fun h2 => ?_⟩, fun h1 => ?_⟩
 ·simp only at h1 h2; subst h1 h2; simp
 ·simp only at h1 h2; simp [eqM, h2]
 ·simp only at h1; simp [eqM, h1]
abbrev EqB (x : Big) : Prop := x.nodes.length ≤ 1048576 ∧ (∀ z ∈ x.nodes, z.links.length ≤ 1048576) ∧ x.sites.length ≤ 1048576 ∧ x.outer.length ≤ 1048576 ∧ x.inner.length ≤ 1048576
theorem eqOf {sig : Sig} {b : Big} (h : SmallB sig b) : EqB b := ⟨h.nodesLen, h.linksLen, h.sitesLen, h.outerLen, h.innerLen⟩
theorem toOf {sig : Sig} {b : Big} (h : SmallB sig b) : toBigraph_pre b := ⟨⟨h.nodesLen, h.linksLen⟩, h.sitesLen, h.outerLen, h.innerLen⟩
theorem bothOf {sig s2 : Sig} {b b2 : Big} (h : SmallB sig b2) (h2 : SmallB s2 b) : SmallB sig b :=
 ⟨h.sigLen, h.sigNames, h2.nodesLen, h2.sitesLen, h2.outerLen, h2.innerLen, h2.outerNames, h2.innerNames, h2.linksLen, h2.parents, h2.sites64⟩
theorem szB_le (b : Big) (left : Int) (h : 0 ≤ left) : szB b left ≤ left := by
 unfold szB
 have h1 := szS_le szN b.nodes left h
 split
 ·omega
 have h2 := f_le szI b.sites (szS szN b.nodes left) (by omega)
 split
 ·omega
 have h3 := szS_le szStr b.outer (szI b.sites (szS szN b.nodes left)) (by omega)
 split
 ·omega
 have h4 := szS_le szW b.inner (szS szStr b.outer (szI b.sites (szS szN b.nodes left))) (by omega)
 split <;> omega
end Go.Ab.Vg
/- The abstract machine, part St: rules, guards, systems. -/
namespace Go.Ab
structure Rule where
 redex : Big
 reactum : Big
 copies : List Int
 deriving Inhabited, DecidableEq
def Rule.cells (t : Bool) (r : Rule) : List AVal := [int r.redex.roots, .list t (r.redex.nodes.map (GNode.cells t)), .list t (r.redex.sites.map intC), int r.redex.edges, .list t (r.redex.outer.map strC), .list t (r.redex.inner.map Wire.cells),
 int r.reactum.roots, .list t (r.reactum.nodes.map (GNode.cells t)), .list t (r.reactum.sites.map intC), int r.reactum.edges, .list t (r.reactum.outer.map strC), .list t (r.reactum.inner.map Wire.cells), .list t (r.copies.map intC)]
structure Guard where
 zone : Int
 neg : Bool
 pattern : Big
 deriving Inhabited, DecidableEq
def Guard.cells (t : Bool) (g : Guard) : List AVal := [int g.zone, bool g.neg, int g.pattern.roots, .list t (g.pattern.nodes.map (GNode.cells t)), .list t (g.pattern.sites.map intC), int g.pattern.edges, .list t (g.pattern.outer.map strC), .list t (g.pattern.inner.map Wire.cells)]
structure Sys where
 states : List Big
 steps : List (Int × Int × Int)
 deriving Inhabited, DecidableEq
def Sys.cells (t : Bool) (x : Sys) : List AVal := [.list t (x.states.map (Big.cells t)), .list t (x.steps.map intC3)]
abbrev rC (t : Bool) (r : Rule) : List AVal := [int r.redex.roots, .list t (r.redex.nodes.map (GNode.cells t)), .list t (r.redex.sites.map intC), int r.redex.edges, .list t (r.redex.outer.map strC), .list t (r.redex.inner.map Wire.cells),
 int r.reactum.roots, .list t (r.reactum.nodes.map (GNode.cells t)), .list t (r.reactum.sites.map intC), int r.reactum.edges, .list t (r.reactum.outer.map strC), .list t (r.reactum.inner.map Wire.cells), .list t (r.copies.map intC)]
abbrev gC (t : Bool) (g : Guard) : List AVal := [int g.zone, bool g.neg, int g.pattern.roots, .list t (g.pattern.nodes.map (GNode.cells t)), .list t (g.pattern.sites.map intC), int g.pattern.edges, .list t (g.pattern.outer.map strC), .list t (g.pattern.inner.map Wire.cells)]
section
variable {H : Heap} {n : Nat}
theorem argR (t : Bool) (r : Rule) : ArgOk H n (.agg (rC t r)) (.agg (rC false r)) := ArgOk.agg (.cons (.v _ _ _) (.cons (ArgOk.nest_Node t r.redex.nodes) (.cons (argI t r.redex.sites) (.cons (.v _ _ _) (.cons (argS t r.redex.outer) (.cons (argW t r.redex.inner) (.cons (.v _ _ _) (.cons (ArgOk.nest_Node t r.reactum.nodes) (.cons (argI t r.reactum.sites) (.cons (.v _ _ _) (.cons (argS t r.reactum.outer) (.cons (argW t r.reactum.inner) (.cons (argI t r.copies) .nil)))))))))))))
theorem argG (t : Bool) (g : Guard) : ArgOk H n (.agg (gC t g)) (.agg (gC false g)) := ArgOk.agg (.cons (.v _ _ _) (.cons (.v _ _ _) (.cons (.v _ _ _) (.cons (ArgOk.nest_Node t g.pattern.nodes) (.cons (argI t g.pattern.sites) (.cons (.v _ _ _) (.cons (argS t g.pattern.outer) (.cons (argW t g.pattern.inner) .nil))))))))
end
end Go.Ab
/- Rules and guards: what makes them valid, and when a guard holds. -/
namespace Go.Ab.Vg
set_option linter.unusedSimpArgs false
set_option linter.unusedVariables false
noncomputable abbrev areTwo (sig : Sig) (a b : Big) : Bool := goodB sig a && goodB sig b
abbrev areTwo_pre (sig : Sig) (a b : Big) : Prop := SmallB sig a ∧ SmallB sig b
def areTwo_wp (sig : List Control) (a : Big) (b : Big) (Z : Bool → Prop) : Prop :=
 joinW (fun (J5 : Bool → Prop) => (SmallB sig a) ∧ ∀ r12 : Bool, r12 = goodB sig a → ((r12 = true → (SmallB sig b) ∧ ∀ r14 : Bool, r14 = goodB sig b → J5 (r14)) ∧ (r12 = false → J5 (false)))) (fun b8 => Z b8)
theorem areTwo_vc (sig : Sig) (a b : Big) (h : areTwo_pre sig a b) : areTwo_wp sig a b (fun y => y = areTwo sig a b) := by
 unfold areTwo_wp
 simp only [forall_eq]
 exact ⟨fun c => c = areTwo sig a b, ⟨h.1, fun h1 => ⟨h.2, by rw [areTwo, h1]; rfl⟩, fun h1 => by rw [areTwo, h1]; rfl⟩, fun c h => h⟩
abbrev eqStrs (a b : List Str) : Bool := decide (a = b)
abbrev eqStrs_pre (a b : List Str) : Prop := a.length ≤ 1048576 ∧ b.length ≤ 1048576
def eqStrs_wp (s1 : List Str) (s2 : List Str) (Z : Bool → Prop) : Prop :=
 ∀ len2 : Int, len2 = (s1.length : Int) → ∀ len4 : Int, len4 = (s2.length : Int) → ∀ c6 : Bool, c6 = decide (len2 ≠ len4) → ((c6 = true → Z false) ∧ (c6 = false → ∀ len8 : Int, len8 = (s1.length : Int) → loopW (σ := Int) (fun v12 K15 => ∀ c16 : Bool, c16 = decide (v12 < len8) → ((c16 = true → (0 ≤ v12 ∧ v12 < s1.length) ∧ ∀ x19 : Str, x19 = at' s1 v12 → (0 ≤ v12 ∧ v12 < s2.length) ∧ ∀ x22 : Str, x22 = at' s2 v12 → ∀ c24 : Bool, c24 = decide (x19 ≠ x22) → ((c24 = true → Z false) ∧ (c24 = false → (I64 (v12 + 1)) ∧ ∀ v27 : Int, v27 = v12 + 1 → K15 (v27)))) ∧ (c16 = false → Z true))) (0)))
theorem eqStrs_vc (a b : List Str) (h : eqStrs_pre a b) : eqStrs_wp a b (fun y => y = eqStrs a b) := by
 unfold eqStrs_wp
 obtain ⟨h1, h2⟩ := h
 simp only [forall_eq, decide_eq_true_eq, decide_eq_false_iff_not]
 refine ⟨fun h3 => ?_, fun h3 => ?_⟩
 ·rw [eqStrs, decide_eq_false]
  rintro rfl
  exact h3 rfl
 ·have hl : a.length = b.length := by omega
  refine loopW.up1 a.length (fun i => ∀ j : Nat, j < i → at' a (j : Int) = at' b (j : Int)) (fun j hj => by omega) ?_
  rintro i K hi hI IH
  refine ⟨fun h4 => ⟨⟨by omega, by omega⟩, ⟨by omega, by omega⟩, fun h5 => ?_, fun h5 => ⟨by simp only [I64]; omega, IH (by omega) fun j hj => ?_⟩⟩, fun h4 => ?_⟩
  ·rw [eqStrs, decide_eq_false]
   rintro rfl
   exact h5 rfl
  ·rcases Nat.lt_or_ge j i with h6 | h6
   ·exact hI j h6
   ·rw [show j = i by omega]; exact Classical.not_not.1 h5
  ·rw [eqStrs, decide_eq_true]
   refine List.ext_getElem hl fun j hj hj' => ?_
   have := hI j (by omega)
   rwa [at_lt hj, at_lt hj'] at this
def isRule1_wp (k_ : Int) (v_ : Rule) (Z : Bool → Prop) : Prop :=
 ∀ len2 : Int, len2 = (v_.redex.sites.length : Int) → (I64 (len2 - 1)) ∧ ∀ v5 : Int, v5 = len2 - 1 → ∀ r7 : Bool, r7 = within k_ 0 v5 → Z (!r7)
abbrev isRule1 (k : Int) (r : Rule) : Bool := !(within k 0 (r.redex.sites.length - 1))
abbrev isRule1_pre (_ : Int) (r : Rule) : Prop := r.redex.sites.length ≤ 1048576
theorem isRule1_vc (k : Int) (r : Rule) (h : isRule1_pre k r) : isRule1_wp k r (fun y => y = isRule1 k r) := by
 unfold isRule1_wp
 simp only [forall_eq]
 exact ⟨by simp only [I64]; omega, trivial⟩
noncomputable def ruleB (sig : Sig) (r : Rule) : Bool := goodB sig r.redex && redexB r.redex && goodB sig r.reactum && decide (r.reactum.inner.length = 0) && decide (r.redex.roots = r.reactum.roots) && decide (r.redex.outer = r.reactum.outer) &&
 decide (r.copies.length = r.reactum.sites.length) && r.copies.all (fun k => within k 0 (r.redex.sites.length - 1))
abbrev SmallR (sig : Sig) (r : Rule) : Prop := SmallB sig r.redex ∧ SmallB sig r.reactum ∧ r.copies.length ≤ 1048576
abbrev IsRule_pre (sig : Sig) (r : Rule) : Prop := SmallR sig r
noncomputable abbrev IsRule (sig : Sig) (r : Rule) : Bool := ruleB sig r
def IsRule_wp (sig : List Control) (r_ : Rule) (Z : Bool → Prop) : Prop :=
 joinW (fun (J4 : Bool → Prop) => (areTwo_pre sig r_.redex r_.reactum) ∧ ∀ r25 : Bool, r25 = areTwo sig r_.redex r_.reactum → ((r25 = true → (isRedex_pre r_.redex) ∧ ∀ r27 : Bool, r27 = isRedex r_.redex → ((r27 = true → ∀ len28 : Int, len28 = (r_.reactum.inner.length : Int) → ∀ c30 : Bool, c30 = decide (0 < len28) → ((c30 = true → J4 (true)) ∧ (c30 = false → ∀ c32 : Bool, c32 = decide (r_.redex.roots ≠ r_.reactum.roots) → ((c32 = true → J4 (true)) ∧ (c32 = false → (eqStrs_pre r_.redex.outer r_.reactum.outer) ∧ ∀ r35 : Bool, r35 = eqStrs r_.redex.outer r_.reactum.outer → J4 ((!r35))))))) ∧ (r27 = false → J4 (true)))) ∧ (r25 = false → J4 (true)))) (fun b7 => ((b7 = true → Z false) ∧ (b7 = false → joinW (fun (J10 : Bool → Prop) => ∀ len16 : Int, len16 = (r_.copies.length : Int) → ∀ len18 : Int, len18 = (r_.reactum.sites.length : Int) → ∀ c20 : Bool, c20 = decide (len16 = len18) → ((c20 = true → (r_.copies.length ≤ 1048576 ∧ ∀ z ∈ r_.copies, isRule1_pre z r_) ∧ ∀ r23 : Bool, r23 = r_.copies.any (fun z => isRule1 z r_) → J10 ((!r23))) ∧ (c20 = false → J10 (false)))) (fun b13 => Z b13))))
theorem IsRule_vc (sig : Sig) (r : Rule) (h : IsRule_pre sig r) : IsRule_wp sig r (fun y => y = IsRule sig r) := by
 unfold IsRule_wp
 obtain ⟨h1, h2, h3⟩ := h
 simp only [forall_eq, decide_eq_true_eq, decide_eq_false_iff_not]
 refine ⟨fun c => c = !(goodB sig r.redex && goodB sig r.reactum && redexB r.redex && decide (r.reactum.inner.length = 0) && decide (r.redex.roots = r.reactum.roots) && decide (r.redex.outer = r.reactum.outer)),
  ⟨⟨h1, h2⟩, fun h4 => ?_, fun h4 => ?_⟩, ?_⟩
 ·have h4' := h4
  simp only [areTwo, Bool.and_eq_true] at h4'
  refine ⟨(goodB_valid h4'.1).redexPre, fun h5 => ⟨fun h6 => ?_, fun h6 => ⟨fun h7 => ?_, fun h7 => ⟨⟨h1.outerLen, h2.outerLen⟩, ?_⟩⟩⟩, fun h5 => ?_⟩
  ·rw [decide_eq_false (show ¬ r.reactum.inner.length = 0 by omega)]; simp
  ·rw [decide_eq_false h7]; simp
  ·rw [show (goodB sig r.redex && goodB sig r.reactum) = true from h4, show redexB r.redex = true from h5, decide_eq_true (show r.reactum.inner.length = 0 by omega), decide_eq_true (show r.redex.roots = r.reactum.roots from Classical.not_not.1 h7)]; rfl
  ·rw [show redexB r.redex = false from h5]; simp
 ·rw [show (goodB sig r.redex && goodB sig r.reactum) = false from h4]; simp
 ·rintro _ rfl
  refine ⟨fun h4 => ?_, fun h4 => ⟨fun c => c = ruleB sig r, ⟨fun h5 => ⟨⟨h3, fun z _ => h1.sitesLen⟩, ?_⟩, fun h5 => ?_⟩, fun c h => h⟩⟩
  ·rw [IsRule, ruleB]
   simp only [Bool.not_eq_true', Bool.and_eq_false_iff] at h4
   symm
   simp only [Bool.and_eq_false_iff]
   rcases h4 with ((((h4 | h4) | h4) | h4) | h4) | h4 <;> first | (simp [h4]; done) | (have h4 := of_decide_eq_false h4; simp only [List.length_eq_zero_iff] at h4; simp [h4])
  ·rw [ruleB]
   simp only [Bool.not_eq_false', Bool.and_eq_true, decide_eq_true_eq] at h4
   obtain ⟨⟨⟨⟨⟨a1, a2⟩, a3⟩, a4⟩, a5⟩, a6⟩ := h4
   rw [a1, a2, a3, a4, a5, a6, decide_eq_true (show r.copies.length = r.reactum.sites.length by omega)]
   simp only [decide_true, Bool.and_true, Bool.true_and]
   rw [List.not_any_eq_all_not]
   simp [isRule1]
  ·rw [ruleB, decide_eq_false (show ¬ r.copies.length = r.reactum.sites.length by omega)]; simp
noncomputable def guardB (sig : Sig) (g : Guard) : Bool := within g.zone 1 3 && (goodB sig g.pattern && redexB g.pattern)
noncomputable abbrev isGuard (sig : Sig) (g : Guard) : Bool := guardB sig g
abbrev isGuard_pre (sig : Sig) (g : Guard) : Prop := SmallB sig g.pattern
def isGuard_wp (sig : List Control) (g : Guard) (Z : Bool → Prop) : Prop :=
 joinW (fun (J4 : Bool → Prop) => ∀ r10 : Bool, r10 = within g.zone 1 3 → ((r10 = true → (SmallB sig g.pattern) ∧ ∀ r12 : Bool, r12 = goodB sig g.pattern → ((r12 = true → (isRedex_pre g.pattern) ∧ ∀ r14 : Bool, r14 = isRedex g.pattern → J4 (r14)) ∧ (r12 = false → J4 (false)))) ∧ (r10 = false → J4 (false)))) (fun b7 => Z b7)
theorem isGuard_vc (sig : Sig) (g : Guard) (h : isGuard_pre sig g) : isGuard_wp sig g (fun y => y = isGuard sig g) := by
 unfold isGuard_wp
 simp only [forall_eq]
 refine ⟨fun c => c = guardB sig g, ⟨fun h1 => ⟨h, fun h2 => ⟨(goodB_valid h2).redexPre, by rw [guardB, h1, h2]; rfl⟩, fun h2 => by rw [guardB, h2]; simp⟩, fun h1 => by rw [guardB, h1]; rfl⟩, fun c h => h⟩
def mayB (zone : Int) (agent : Big) (m : Match) (x : Int) : Bool := if zone = 2 then !(underB agent m.nodes x) else if zone = 3 then underB agent m.nodes x && !(hasI m.nodes x) else true
def mayL (zone : Int) (agent : Big) (m : Match) (k : Nat) : List Int := ((List.range k).map fun i : Nat => (i : Int)).filter (mayB zone agent m)
theorem mayL_succ (zone : Int) (agent : Big) (m : Match) (k : Nat) : mayL zone agent m (k + 1) = if mayB zone agent m k then mayL zone agent m k ++ [(k : Int)] else mayL zone agent m k := by
 rw [mayL, List.range_succ, List.map_append, List.filter_append]
 by_cases h : mayB zone agent m k = true <;> simp [h, mayL]
theorem mayL_len (zone : Int) (agent : Big) (m : Match) (k : Nat) : (mayL zone agent m k).length ≤ k := by
 have := List.length_filter_le (mayB zone agent m) ((List.range k).map fun i : Nat => (i : Int))
 simpa [mayL] using this
theorem mem_mayL {zone : Int} {agent : Big} {m : Match} {k : Nat} {x : Int} : x ∈ mayL zone agent m k ↔ (0 ≤ x ∧ x < k) ∧ mayB zone agent m x = true := by
 simp only [mayL, List.mem_filter, List.mem_map, List.mem_range]
 constructor
 ·rintro ⟨⟨i, hi, rfl⟩, h⟩
  exact ⟨⟨by omega, by omega⟩, h⟩
 ·rintro ⟨⟨h1, h2⟩, h⟩
  exact ⟨⟨x.toNat, by omega, by omega⟩, h⟩
abbrev restOf (agent : Big) (m : Match) : List Int := mayL 2 agent m agent.nodes.length
abbrev restOf_pre (agent : Big) (m : Match) : Prop := DownB agent ∧ m.nodes.length ≤ 1048576
def restOf_wp (agent : Big) (m : Match) (Z : (List Int) → Prop) : Prop :=
 ∀ len8 : Int, len8 = (agent.nodes.length : Int) → loopW (σ := Int × (List Int)) (fun (v17, l18) K22 => ∀ c23 : Bool, c23 = decide (v17 < len8) → ((c23 = true → (isUnder_pre agent v17 m.nodes) ∧ ∀ r26 : Bool, r26 = isUnder agent v17 m.nodes → ((r26 = true → (I64 (v17 + 1)) ∧ ∀ v41 : Int, v41 = v17 + 1 → K22 (v41, l18)) ∧ (r26 = false → (l18.length + 1 ≤ 1073741824) ∧ ∀ l28 : List Int, l28 = l18 ++ [v17] → (I64 (v17 + 1)) ∧ ∀ v38 : Int, v38 = v17 + 1 → K22 (v38, l28)))) ∧ (c23 = false → Z l18))) (0, ([] : List Int))
theorem restOf_vc (agent : Big) (m : Match) (h : restOf_pre agent m) : restOf_wp agent m (fun y => y = restOf agent m) := by
 unfold restOf_wp
 obtain ⟨h1, h2⟩ := h
 have h8 := h1.1
 simp only [forall_eq, decide_eq_true_eq, decide_eq_false_iff_not]
 refine loopW.upL agent.nodes.length (fun k t => t = mayL 2 agent m k) [] rfl ?_
 rintro k _ K hk rfl IH
 dsimp only
 have hl := mayL_len 2 agent m k
 refine ⟨fun h3 => ⟨⟨h1, by omega, h2⟩, fun h4 => ⟨by simp only [I64]; omega, IH (by omega) _ ?_⟩, fun h4 => ⟨by omega, by simp only [I64]; omega, IH (by omega) _ ?_⟩⟩, fun h3 => ?_⟩
 ·rw [mayL_succ, if_neg (by simp only [mayB, if_true]; rw [show underB agent m.nodes (k : Int) = true from h4]; simp)]
 ·rw [mayL_succ, if_pos (by simp only [mayB, if_true]; rw [show underB agent m.nodes (k : Int) = false from h4]; simp)]
 ·rw [restOf, show agent.nodes.length = k by omega]
abbrev parameterOf (agent : Big) (m : Match) : List Int := mayL 3 agent m agent.nodes.length
abbrev parameterOf_pre (agent : Big) (m : Match) : Prop := DownB agent ∧ m.nodes.length ≤ 1048576
def parameterOf_wp (agent : Big) (m : Match) (Z : (List Int) → Prop) : Prop :=
 ∀ len8 : Int, len8 = (agent.nodes.length : Int) → loopW (σ := Int × (List Int)) (fun (v17, l18) K22 => ∀ c23 : Bool, c23 = decide (v17 < len8) → ((c23 = true → joinW (fun (J25 : Bool → Prop) => (isUnder_pre agent v17 m.nodes) ∧ ∀ r49 : Bool, r49 = isUnder agent v17 m.nodes → ((r49 = true → (m.nodes.length ≤ 1048576) ∧ ∀ r51 : Bool, r51 = hasI m.nodes v17 → J25 ((!r51))) ∧ (r49 = false → J25 (false)))) (fun b28 => ((b28 = true → (l18.length + 1 ≤ 1073741824) ∧ ∀ l33 : List Int, l33 = l18 ++ [v17] → (I64 (v17 + 1)) ∧ ∀ v43 : Int, v43 = v17 + 1 → K22 (v43, l33)) ∧ (b28 = false → (I64 (v17 + 1)) ∧ ∀ v46 : Int, v46 = v17 + 1 → K22 (v46, l18))))) ∧ (c23 = false → Z l18))) (0, ([] : List Int))
theorem parameterOf_vc (agent : Big) (m : Match) (h : parameterOf_pre agent m) : parameterOf_wp agent m (fun y => y = parameterOf agent m) := by
 unfold parameterOf_wp
 obtain ⟨h1, h2⟩ := h
 have h8 := h1.1
 simp only [forall_eq, decide_eq_true_eq, decide_eq_false_iff_not]
 refine loopW.upL agent.nodes.length (fun k t => t = mayL 3 agent m k) [] rfl ?_
 rintro k _ K hk rfl IH
 dsimp only
 have hl := mayL_len 3 agent m k
 refine ⟨fun h3 => ⟨fun b => b = mayB 3 agent m k, ⟨⟨h1, by omega, h2⟩, fun h4 => ⟨h2, ?_⟩, fun h4 => ?_⟩, ?_⟩, fun h3 => ?_⟩
 ·simp only [mayB]; rw [show underB agent m.nodes (k : Int) = true from h4]; simp
 ·simp only [mayB]; rw [show underB agent m.nodes (k : Int) = false from h4]; simp
 ·rintro _ rfl
  refine ⟨fun h4 => ⟨by omega, by simp only [I64]; omega, IH (by omega) _ ?_⟩, fun h4 => ⟨by simp only [I64]; omega, IH (by omega) _ ?_⟩⟩
  ·rw [mayL_succ, if_pos h4]
  ·rw [mayL_succ, if_neg (by rw [h4]; simp)]
 ·rw [parameterOf, show agent.nodes.length = k by omega]
def isPart1_wp (n_ : Int) (v_ : List Int) (Z : Bool → Prop) : Prop :=
 (v_.length ≤ 1048576) ∧ ∀ r3 : Bool, r3 = hasI v_ n_ → Z (!r3)
abbrev isPart1 (n : Int) (b : List Int) : Bool := !(hasI b n)
abbrev isPart1_pre (_ : Int) (b : List Int) : Prop := b.length ≤ 1048576
theorem isPart1_vc (n : Int) (b : List Int) (h : isPart1_pre n b) : isPart1_wp n b (fun y => y = isPart1 n b) := by
 unfold isPart1_wp
 simp only [forall_eq]
 exact ⟨h, trivial⟩
abbrev isPart (a b : List Int) : Bool := a.all (fun n => hasI b n)
abbrev isPart_pre (a b : List Int) : Prop := a.length ≤ 1048576 ∧ b.length ≤ 1048576
def isPart_wp (a : List Int) (b : List Int) (Z : Bool → Prop) : Prop :=
 (a.length ≤ 1048576 ∧ ∀ z ∈ a, isPart1_pre z b) ∧ ∀ r5 : Bool, r5 = a.any (fun z => isPart1 z b) → Z (!r5)
theorem isPart_vc (a b : List Int) (h : isPart_pre a b) : isPart_wp a b (fun y => y = isPart a b) := by
 unfold isPart_wp
 simp only [forall_eq]
 refine ⟨⟨h.1, fun z _ => h.2⟩, ?_⟩
 rw [isPart, List.not_any_eq_all_not]
 simp [isPart1]
abbrev holds1 (own : Match) (allowed : List Int) : List Int × Bool := (allowed, !(isPart own.nodes allowed))
abbrev holds1_pre (own : Match) (allowed : List Int) : Prop := own.nodes.length ≤ 1048576 ∧ allowed.length ≤ 1048576
def holds1_wp (own : Match) (v_ : List Int) (Z : ((List Int) × Bool) → Prop) : Prop :=
 (isPart_pre own.nodes v_) ∧ ∀ r16 : Bool, r16 = isPart own.nodes v_ → Z (v_, (!r16))
theorem holds1_vc (own : Match) (allowed : List Int) (h : holds1_pre own allowed) : holds1_wp own allowed (fun y => y = holds1 own allowed) := by
 unfold holds1_wp
 simp only [forall_eq]
 exact ⟨h, trivial⟩
theorem matched_in {g : Big} {agent : Big} {m : Match} (h : matchB g agent m = true) : ∀ x ∈ m.nodes, 0 ≤ x ∧ x < agent.nodes.length := fun x hx => by
 obtain ⟨i, hi, rfl⟩ := List.getElem_of_mem hx
 have hM := matchB_iff.1 h
 have := (hM.1.2 i (by have := hM.1.1; omega)).1
 rw [at_lt hi] at this
 simp only [isNodeB, within, Bool.and_eq_true, decide_eq_true_eq] at this
 omega
theorem part_may {zone : Int} {g agent : Big} {m o : Match} (h : matchB g agent o = true) : isPart o.nodes (mayL zone agent m agent.nodes.length) = o.nodes.all (mayB zone agent m) := by
 rw [isPart, Bool.eq_iff_iff, List.all_eq_true, List.all_eq_true]
 refine ⟨fun h1 x hx => ?_, fun h1 x hx => ?_⟩
 ·exact (mem_mayL.1 (hasI_iff.1 (h1 x hx))).2
 ·exact hasI_iff.2 (mem_mayL.2 ⟨matched_in h x hx, h1 x hx⟩)
theorem found_may {zone : Int} {g agent : Big} {m : Match} : matchesY (fun s o => holds1 o s) g agent [] (mayL zone agent m agent.nodes.length) = (mayL zone agent m agent.nodes.length, !((matchesB g agent).any fun o => o.nodes.all (mayB zone agent m))) := by
 rw [matchesY]
 have e : (fun (s : List Int) (o : Match) => holds1 o s) = fun (s : List Int) (o : Match) => (s, !(isPart o.nodes s)) := rfl
 have : ∀ (l : List Match) (s : List Int), (∀ o ∈ l, isPart o.nodes s = o.nodes.all (mayB zone agent m)) → runY (fun (s : List Int) (o : Match) => (s, !(isPart o.nodes s))) l s = (s, !(l.any fun o => o.nodes.all (mayB zone agent m))) := by
  intro l
  induction l with
  | nil => intro s _; rfl
  | cons o l ih =>
   intro s hs
   rw [runY, hs o (by simp)]
   cases h : o.nodes.all (mayB zone agent m) with
   | true => simp [h]
   | false =>
    simp only [h, Bool.not_false, if_true, List.any_cons, Bool.false_or]
    exact ih s fun o' ho => hs o' (by simp [ho])
 rw [e, this]
 exact fun o ho => part_may (allM_match ho)
noncomputable def holdsB (g : Guard) (agent : Big) (m : Match) : Bool := ((matchesB g.pattern agent).any fun o => o.nodes.all (mayB g.zone agent m)) != g.neg
noncomputable abbrev holds (g : Guard) (agent : Big) (m : Match) : Bool := holdsB g agent m
abbrev holds_pre (g : Guard) (agent : Big) (m : Match) : Prop := (∃ sig, Pair sig g.pattern agent) ∧ MSz m ∧ 1 ≤ g.zone ∧ g.zone ≤ 3
def holds_wp (g : Guard) (agent : Big) (m : Match) (Z : Bool → Prop) : Prop :=
 ∀ c10 : Bool, c10 = decide (g.zone = 1) → ((c10 = true → ∀ len12 : Int, len12 = (agent.nodes.length : Int) → loopW (σ := Int × (List Int)) (fun (v21, l22) K26 => ∀ c27 : Bool, c27 = decide (v21 < len12) → ((c27 = true → (l22.length + 1 ≤ 1073741824) ∧ ∀ l30 : List Int, l30 = l22 ++ [v21] → (I64 (v21 + 1)) ∧ ∀ v41 : Int, v41 = v21 + 1 → K26 (v41, l30)) ∧ (c27 = false → (matchesY_pre (fun s m => holds1 m s) (fun s => ∀ m, MZ m → holds1_pre m s) g.pattern agent [] l22) ∧ ∀ r45 : (List Int) × Bool, r45 = matchesY (fun s m => holds1 m s) g.pattern agent [] l22 → ∀ c53 : Bool, c53 = !((!r45.2) == g.neg) → Z c53))) (0, ([] : List Int))) ∧ (c10 = false → ∀ c55 : Bool, c55 = decide (g.zone = 2) → ((c55 = true → (restOf_pre agent m) ∧ ∀ r58 : List Int, r58 = restOf agent m → (matchesY_pre (fun s m => holds1 m s) (fun s => ∀ m, MZ m → holds1_pre m s) g.pattern agent [] r58) ∧ ∀ r71 : (List Int) × Bool, r71 = matchesY (fun s m => holds1 m s) g.pattern agent [] r58 → ∀ c79 : Bool, c79 = !((!r71.2) == g.neg) → Z c79) ∧ (c55 = false → (parameterOf_pre agent m) ∧ ∀ r82 : List Int, r82 = parameterOf agent m → (matchesY_pre (fun s m => holds1 m s) (fun s => ∀ m, MZ m → holds1_pre m s) g.pattern agent [] r82) ∧ ∀ r95 : (List Int) × Bool, r95 = matchesY (fun s m => holds1 m s) g.pattern agent [] r82 → ∀ c103 : Bool, c103 = !((!r95.2) == g.neg) → Z c103))))
theorem holds_vc (g : Guard) (agent : Big) (m : Match) (h : holds_pre g agent m) : holds_wp g agent m (fun y => y = holds g agent m) := by
 unfold holds_wp
 obtain ⟨hP, hm, hz1, hz3⟩ := h
 obtain ⟨sig, hP'⟩ := hP
 have h8 := hP'.a.len
 have hG : ∀ z, matchesY_pre (fun s o => holds1 o s) (fun s => ∀ o, MZ o → holds1_pre o s) g.pattern agent [] (mayL z agent m agent.nodes.length) := fun z =>
  ⟨giv0 ⟨sig, hP'⟩, fun o ho => ⟨ho.1, by have := mayL_len z agent m agent.nodes.length; omega⟩, fun s o h1 _ => h1⟩
 simp only [forall_eq, decide_eq_true_eq, decide_eq_false_iff_not]
 refine ⟨fun h1 => ?_, fun h1 => ⟨fun h2 => ⟨⟨hP'.a.downB, hm.1⟩, hG 2, ?_⟩, fun h2 => ⟨⟨hP'.a.downB, hm.1⟩, hG 3, ?_⟩⟩⟩
 ·refine loopW.upL agent.nodes.length (fun k t => t = mayL 1 agent m k) [] rfl ?_
  rintro k _ K hk rfl IH
  dsimp only
  have hl := mayL_len 1 agent m k
  refine ⟨fun h3 => ⟨by omega, by simp only [I64]; omega, IH (by omega) _ ?_⟩, fun h3 => ?_⟩
  ·rw [mayL_succ, if_pos (show mayB 1 agent m (k : Int) = true from rfl)]
  ·rw [show k = agent.nodes.length by omega]
   refine ⟨hG 1, ?_⟩
   rw [found_may, holds, holdsB, h1]
   simp [bne]
 ·rw [restOf, found_may, holds, holdsB, h2]
  simp [bne]
 ·rw [parameterOf, found_may, holds, holdsB, show g.zone = 3 by omega]
  simp [bne]
theorem guard_pre {sig : Sig} {g : Guard} {r agent : Big} {m : Match} (h : guardB sig g = true) (h2 : matching sig r agent = true) (hm : MSz m) : holds_pre g agent m := by
 simp only [guardB, matching, within, Bool.and_eq_true, decide_eq_true_eq] at h h2
 exact ⟨⟨sig, matching_pair (by rw [matching, h.2.1, h.2.2, h2.2]; rfl)⟩, hm, by omega, by omega⟩
noncomputable abbrev GuardHolds (sig : Sig) (g : Guard) (r : Rule) (agent : Big) (m : Match) : Bool × Bool := if ruleB sig r && guardB sig g && (matching sig r.redex agent && matchB r.redex agent m) then (holdsB g agent m, true) else (false, false)
abbrev GuardHolds_pre (sig : Sig) (g : Guard) (r : Rule) (agent : Big) (m : Match) : Prop := SmallB sig g.pattern ∧ SmallR sig r ∧ SmallB sig agent ∧ MSz m
def GuardHolds_wp (sig : List Control) (g : Guard) (r_ : Rule) (agent : Big) (m : Match) (Z : (Bool × Bool) → Prop) : Prop :=
 joinW (fun (J7 : Bool → Prop) => (IsRule_pre sig r_) ∧ ∀ r16 : Bool, r16 = IsRule sig r_ → ((r16 = true → (isGuard_pre sig g) ∧ ∀ r18 : Bool, r18 = isGuard sig g → ((r18 = true → (isMatched_pre sig r_.redex agent m) ∧ ∀ r20 : Bool, r20 = isMatched sig r_.redex agent m → J7 ((!r20))) ∧ (r18 = false → J7 (true)))) ∧ (r16 = false → J7 (true)))) (fun b10 => ((b10 = true → Z (false, false)) ∧ (b10 = false → (holds_pre g agent m) ∧ ∀ r14 : Bool, r14 = holds g agent m → Z (r14, true))))
theorem GuardHolds_vc (sig : Sig) (g : Guard) (r : Rule) (agent : Big) (m : Match) (h : GuardHolds_pre sig g r agent m) : GuardHolds_wp sig g r agent m (fun y => y = GuardHolds sig g r agent m) := by
 unfold GuardHolds_wp
 obtain ⟨h1, h2, h3, h4⟩ := h
 simp only [forall_eq]
 refine ⟨fun c => c = !(ruleB sig r && guardB sig g && (matching sig r.redex agent && matchB r.redex agent m)), ⟨h2, fun h5 => ⟨h1, fun h6 => ⟨⟨h2.1, h3, h4⟩, ?_⟩, fun h6 => ?_⟩, fun h5 => ?_⟩, ?_⟩
 ·rw [show ruleB sig r = true from h5, show guardB sig g = true from h6]; rfl
 ·rw [show guardB sig g = false from h6]; simp
 ·rw [show ruleB sig r = false from h5]; simp
 ·rintro _ rfl
  refine ⟨fun h5 => ?_, fun h5 => ⟨?_, ?_⟩⟩
  ·rw [GuardHolds, if_neg (by rw [show (ruleB sig r && guardB sig g && (matching sig r.redex agent && matchB r.redex agent m)) = false by simpa only [Bool.not_eq_true'] using h5]; simp)]
  ·simp only [Bool.not_eq_false', Bool.and_eq_true] at h5
   exact guard_pre h5.1.2 h5.2.1 h4
  ·rw [GuardHolds, if_pos (by simpa using h5)]
abbrev l3SameNames (a b : List Str) : Bool := decide (a = b)
abbrev l3SameNames_pre (a b : List Str) : Prop := eqStrs_pre a b
def l3SameNames_wp (a : List Str) (b : List Str) (Z : Bool → Prop) : Prop :=
 loopW (σ := Int) (fun i4 K7 => joinW (fun (J8 : Bool → Prop) => ∀ len31 : Int, len31 = (a.length : Int) → ∀ c33 : Bool, c33 = decide (i4 < len31) → ((c33 = true → ∀ len35 : Int, len35 = (b.length : Int) → ∀ c37 : Bool, c37 = decide (i4 < len35) → J8 (c37)) ∧ (c33 = false → J8 (false)))) (fun b11 => ((b11 = true → (0 ≤ i4 ∧ i4 < a.length) ∧ ∀ x15 : Str, x15 = at' a i4 → (0 ≤ i4 ∧ i4 < b.length) ∧ ∀ x18 : Str, x18 = at' b i4 → ∀ c20 : Bool, c20 = decide (x15 ≠ x18) → ((c20 = true → Z false) ∧ (c20 = false → (I64 (i4 + 1)) ∧ ∀ v23 : Int, v23 = i4 + 1 → K7 (v23)))) ∧ (b11 = false → ∀ len25 : Int, len25 = (a.length : Int) → ∀ len27 : Int, len27 = (b.length : Int) → ∀ c29 : Bool, c29 = decide (len25 = len27) → Z c29)))) (0)
theorem l3SameNames_vc (a b : List Str) (h : l3SameNames_pre a b) : l3SameNames_wp a b (fun y => y = l3SameNames a b) := by
 unfold l3SameNames_wp
 obtain ⟨h1, h2⟩ := h
 simp only [forall_eq, decide_eq_true_eq, decide_eq_false_iff_not]
 refine loopW.up1 (min a.length b.length) (fun i => ∀ j : Nat, j < i → at' a (j : Int) = at' b (j : Int)) (fun j hj => by omega) ?_
 rintro i K hi hI IH
 refine ⟨fun c => c = true ↔ (i < a.length ∧ i < b.length), ⟨fun h3 => by simp only [decide_eq_true_eq]; omega, fun h3 => by simp only [Bool.false_eq_true, false_iff]; omega⟩, fun c hJ => ⟨fun h3 => ?_, fun h3 => ?_⟩⟩
 ·have h4 := hJ.1 h3
  refine ⟨⟨by omega, by omega⟩, ⟨by omega, by omega⟩, fun h5 => ?_, fun h5 => ⟨by simp only [I64]; omega, IH (by omega) fun j hj => ?_⟩⟩
  ·rw [l3SameNames, decide_eq_false]
   rintro rfl
   exact h5 rfl
  ·rcases Nat.lt_or_ge j i with h6 | h6
   ·exact hI j h6
   ·rw [show j = i by omega]; exact Classical.not_not.1 h5
 ·have h4 : ¬ (i < a.length ∧ i < b.length) := fun h => by rw [hJ.2 h] at h3; cases h3
  by_cases hl : a.length = b.length
  ·rw [decide_eq_true (by omega), l3SameNames, decide_eq_true]
   refine List.ext_getElem hl fun j hj hj' => ?_
   have := hI j (by omega)
   rwa [at_lt hj, at_lt hj'] at this
  ·rw [decide_eq_false (by omega), l3SameNames, decide_eq_false]
   rintro rfl
   exact hl rfl
abbrev l9Copies (r : Rule) : Bool := decide (r.copies.length = r.reactum.sites.length) && r.copies.all (fun k => within k 0 (r.redex.sites.length - 1))
abbrev l9Copies_pre (r : Rule) : Prop := r.copies.length ≤ 1048576 ∧ r.redex.sites.length ≤ 1048576 ∧ r.reactum.sites.length ≤ 1048576
def l9Copies_wp (r_ : Rule) (Z : Bool → Prop) : Prop :=
 loopW (σ := Int) (fun i6 K9 => ∀ len10 : Int, len10 = (r_.copies.length : Int) → ∀ c12 : Bool, c12 = decide (i6 < len10) → ((c12 = true → (0 ≤ i6 ∧ i6 < r_.copies.length) ∧ ∀ x15 : Int, x15 = at' r_.copies i6 → ∀ len17 : Int, len17 = (r_.redex.sites.length : Int) → (I64 (len17 - 1)) ∧ ∀ v20 : Int, v20 = len17 - 1 → ∀ r22 : Bool, r22 = within x15 0 v20 → ((r22 = true → (I64 (i6 + 1)) ∧ ∀ v25 : Int, v25 = i6 + 1 → K9 (v25)) ∧ (r22 = false → Z false))) ∧ (c12 = false → ∀ len27 : Int, len27 = (r_.copies.length : Int) → ∀ len29 : Int, len29 = (r_.reactum.sites.length : Int) → ∀ c31 : Bool, c31 = decide (len27 = len29) → Z c31))) (0)
theorem l9Copies_vc (r : Rule) (h : l9Copies_pre r) : l9Copies_wp r (fun y => y = l9Copies r) := by
 unfold l9Copies_wp
 obtain ⟨h1, h2, h3⟩ := h
 simp only [forall_eq, decide_eq_true_eq, decide_eq_false_iff_not]
 refine loopW.up1 r.copies.length (fun i => ∀ j : Nat, j < i → within (at' r.copies (j : Int)) 0 (r.redex.sites.length - 1) = true) (fun j hj => by omega) ?_
 rintro i K hi hI IH
 refine ⟨fun h4 => ⟨⟨by omega, by omega⟩, by simp only [I64]; omega, fun h5 => ⟨by simp only [I64]; omega, IH (by omega) fun j hj => ?_⟩, fun h5 => ?_⟩, fun h4 => ?_⟩
 ·rcases Nat.lt_or_ge j i with h6 | h6
  ·exact hI j h6
  ·rw [show j = i by omega]; exact h5
 ·have : r.copies.all (fun k => within k 0 (r.redex.sites.length - 1)) = false := by
   rw [List.all_eq_false]
   exact ⟨at' r.copies (i : Int), at_mem ⟨by omega, by omega⟩, by rw [h5]; simp⟩
  rw [l9Copies, this]; simp
 ·have : r.copies.all (fun k => within k 0 (r.redex.sites.length - 1)) = true := by
   rw [List.all_eq_true]
   intro x hx
   obtain ⟨j, hj, rfl⟩ := List.getElem_of_mem hx
   have := hI j (by omega)
   rwa [at_lt hj] at this
  rw [l9Copies, this, Bool.and_true, Bool.eq_iff_iff]
  simp only [decide_eq_true_eq]
  omega
noncomputable abbrev l9Good (sig : Sig) (r : Rule) : Bool := ruleB sig r
abbrev l9Good_pre (sig : Sig) (r : Rule) : Prop := SmallR sig r
def l9Good_wp (sig : List Control) (r_ : Rule) (Z : Bool → Prop) : Prop :=
 joinW (fun (J4 : Bool → Prop) => (l8Redex_pre sig r_.redex) ∧ ∀ r11 : Bool, r11 = l8Redex sig r_.redex → ((r11 = true → (SmallB sig r_.reactum) ∧ ∀ r13 : Bool, r13 = goodB sig r_.reactum → ((r13 = true → ∀ len14 : Int, len14 = (r_.reactum.inner.length : Int) → ∀ c16 : Bool, c16 = decide (len14 = 0) → ((c16 = true → ∀ c18 : Bool, c18 = decide (r_.redex.roots = r_.reactum.roots) → ((c18 = true → (l3SameNames_pre r_.redex.outer r_.reactum.outer) ∧ ∀ r21 : Bool, r21 = l3SameNames r_.redex.outer r_.reactum.outer → ((r21 = true → (l9Copies_pre r_) ∧ ∀ r23 : Bool, r23 = l9Copies r_ → J4 (r23)) ∧ (r21 = false → J4 (false)))) ∧ (c18 = false → J4 (false)))) ∧ (c16 = false → J4 (false)))) ∧ (r13 = false → J4 (false)))) ∧ (r11 = false → J4 (false)))) (fun b7 => Z b7)
theorem l9Good_vc (sig : Sig) (r : Rule) (h : l9Good_pre sig r) : l9Good_wp sig r (fun y => y = l9Good sig r) := by
 unfold l9Good_wp
 obtain ⟨h1, h2, h3⟩ := h
 simp only [forall_eq, decide_eq_true_eq, decide_eq_false_iff_not]
 refine ⟨fun c => c = ruleB sig r, ⟨h1, fun h4 => ⟨h2, fun h5 => ⟨fun h6 => ⟨fun h7 => ⟨⟨h1.outerLen, h2.outerLen⟩, fun h8 => ⟨⟨h3, h1.sitesLen, h2.sitesLen⟩, ?_⟩, fun h8 => ?_⟩, fun h7 => ?_⟩, fun h6 => ?_⟩, fun h5 => ?_⟩, fun h4 => ?_⟩, fun c h => h⟩
 ·rw [ruleB, show (goodB sig r.redex && redexB r.redex) = true from h4, h5, decide_eq_true (show r.reactum.inner.length = 0 by omega), decide_eq_true h7, show decide (r.redex.outer = r.reactum.outer) = true by simpa using h8]; rfl
 ·rw [ruleB, show decide (r.redex.outer = r.reactum.outer) = false by simpa using h8]; simp
 ·rw [ruleB, decide_eq_false h7]; simp
 ·rw [ruleB, decide_eq_false (show ¬ r.reactum.inner.length = 0 by omega)]; simp
 ·rw [ruleB, h5]; simp
 ·rw [ruleB, show (goodB sig r.redex && redexB r.redex) = false from h4]; rfl
noncomputable abbrev l9Guard (sig : Sig) (g : Guard) : Bool := guardB sig g
abbrev l9Guard_pre (sig : Sig) (g : Guard) : Prop := SmallB sig g.pattern
def l9Guard_wp (sig : List Control) (g : Guard) (Z : Bool → Prop) : Prop :=
 joinW (fun (J4 : Bool → Prop) => ∀ r10 : Bool, r10 = within g.zone 1 3 → ((r10 = true → (l8Redex_pre sig g.pattern) ∧ ∀ r12 : Bool, r12 = l8Redex sig g.pattern → J4 (r12)) ∧ (r10 = false → J4 (false)))) (fun b7 => Z b7)
theorem l9Guard_vc (sig : Sig) (g : Guard) (h : l9Guard_pre sig g) : l9Guard_wp sig g (fun y => y = l9Guard sig g) := by
 unfold l9Guard_wp
 simp only [forall_eq]
 refine ⟨fun c => c = guardB sig g, ⟨fun h1 => ⟨h, by rw [guardB, h1]; rfl⟩, fun h1 => by rw [guardB, h1]; rfl⟩, fun c h => h⟩
abbrev l9May (zone : Int) (agent : Big) (m : Match) (x : Int) : Bool := mayB zone agent m x
abbrev l9May_pre (zone : Int) (agent : Big) (m : Match) (x : Int) : Prop := DownB agent ∧ x < agent.nodes.length ∧ m.nodes.length ≤ 1048576
def l9May_wp (zone : Int) (agent : Big) (m : Match) (node : Int) (Z : Bool → Prop) : Prop :=
 ∀ c5 : Bool, c5 = decide (zone = 2) → ((c5 = true → (l8Inside_pre agent m node) ∧ ∀ r8 : Bool, r8 = l8Inside agent m node → Z (!r8)) ∧ (c5 = false → ∀ c9 : Bool, c9 = decide (zone = 3) → ((c9 = true → joinW (fun (J11 : Bool → Prop) => (l8Inside_pre agent m node) ∧ ∀ r18 : Bool, r18 = l8Inside agent m node → ((r18 = true → (m.nodes.length ≤ 1048576) ∧ ∀ r20 : Bool, r20 = hasI m.nodes node → J11 ((!r20))) ∧ (r18 = false → J11 (false)))) (fun b14 => Z b14)) ∧ (c9 = false → Z true))))
theorem l9May_vc (zone : Int) (agent : Big) (m : Match) (x : Int) (h : l9May_pre zone agent m x) : l9May_wp zone agent m x (fun y => y = l9May zone agent m x) := by
 unfold l9May_wp
 obtain ⟨h1, h2, h3⟩ := h
 simp only [forall_eq, decide_eq_true_eq, decide_eq_false_iff_not]
 refine ⟨fun h4 => ⟨⟨h1, h2, h3⟩, ?_⟩, fun h4 => ⟨fun h5 => ⟨fun c => c = mayB zone agent m x, ⟨⟨h1, h2, h3⟩, fun h6 => ⟨h3, ?_⟩, fun h6 => ?_⟩, fun c h => h⟩, fun h5 => ?_⟩⟩
 ·rw [l9May, mayB, if_pos h4]
 ·rw [mayB, if_neg h4, if_pos h5, show underB agent m.nodes x = true from h6]; rfl
 ·rw [mayB, if_neg h4, if_pos h5, show underB agent m.nodes x = false from h6]; rfl
 ·rw [l9May, mayB, if_neg h4, if_neg h5]
theorem allM_prefix {redex agent : Big} {rs : List Int → List Int} {can : List Int → Int → Bool} : ∀ {k : Nat} {nodes : List Int} {m : Match}, m ∈ allM redex agent rs can k nodes → ∃ t, m.nodes = nodes ++ t
 | 0, nodes, m, h => by
  rw [allM_zero] at h
  split at h
  ·rw [List.mem_singleton] at h
   exact ⟨[], by rw [h]; simp⟩
  ·cases h
 | k + 1, nodes, m, h => by
  rw [allM_succ, List.mem_flatMap] at h
  obtain ⟨x, _, hx⟩ := h
  split at hx
  ·obtain ⟨t, ht⟩ := allM_prefix hx
   exact ⟨(x : Int) :: t, by rw [ht]; simp⟩
  ·cases hx
noncomputable def l9Found (g : Guard) (agent : Big) (m : Match) (nodes : List Int) : Bool := (restM g.pattern agent nodes).any fun o => (o.nodes.drop nodes.length).all (mayB g.zone agent m)
abbrev l9Found_pre (g : Guard) (agent : Big) (m : Match) (nodes : List Int) : Prop := Giv g.pattern agent nodes ∧ MSz m
abbrev l9Found_ms (g : Guard) (agent : Big) (m : Match) (nodes : List Int) : Nat := g.pattern.nodes.length - nodes.length
def l9Found_wp (g : Guard) (agent : Big) (m : Match) (nodes : List Int) (Z : Bool → Prop) : Prop :=
 ∀ len6 : Int, len6 = (nodes.length : Int) → ∀ len8 : Int, len8 = (g.pattern.nodes.length : Int) → ∀ c10 : Bool, c10 = decide (len6 = len8) → ((c10 = true → (l8Roots_pre g.pattern agent nodes) ∧ ∀ r13 : List Int, r13 = l8Roots g.pattern agent nodes → (l8Match_pre g.pattern agent (Match.mk nodes r13)) ∧ ∀ r15 : Bool, r15 = l8Match g.pattern agent (Match.mk nodes r13) → Z r15) ∧ (c10 = false → loopW (σ := Int) (fun x19 K22 => ∀ len23 : Int, len23 = (agent.nodes.length : Int) → ∀ c25 : Bool, c25 = decide (x19 < len23) → ((c25 = true → (l8Can_pre g.pattern agent nodes x19) ∧ ∀ r29 : Bool, r29 = l8Can g.pattern agent nodes x19 → ((r29 = true → (l9May_pre g.zone agent m x19) ∧ ∀ r31 : Bool, r31 = l9May g.zone agent m x19 → ((r31 = true → (l1Own_pre nodes) ∧ ∀ r33 : List Int, r33 = l1Own nodes → (r33.length + 1 ≤ 1073741824) ∧ ∀ l36 : List Int, l36 = r33 ++ [x19] → (l9Found_pre g agent m l36 ∧ l9Found_ms g agent m l36 < l9Found_ms g agent m nodes) ∧ ∀ r38 : Bool, r38 = l9Found g agent m l36 → ((r38 = true → Z true) ∧ (r38 = false → (I64 (x19 + 1)) ∧ ∀ v67 : Int, v67 = x19 + 1 → K22 (v67)))) ∧ (r31 = false → (I64 (x19 + 1)) ∧ ∀ v71 : Int, v71 = x19 + 1 → K22 (v71)))) ∧ (r29 = false → (I64 (x19 + 1)) ∧ ∀ v75 : Int, v75 = x19 + 1 → K22 (v75)))) ∧ (c25 = false → Z false))) (0)))
theorem l9Found_vc (g : Guard) (agent : Big) (m : Match) (nodes : List Int) (h : l9Found_pre g agent m nodes) : l9Found_wp g agent m nodes (fun y => y = l9Found g agent m nodes) := by
 unfold l9Found_wp
 obtain ⟨⟨⟨sig, hP⟩, hl, hin⟩, hm⟩ := h
 have hr8 := hP.r.len
 have ha8 := hP.a.len
 have hMS : MSz ⟨nodes, rootsB g.pattern agent nodes⟩ := ⟨by show nodes.length ≤ _; omega, by show (rootsB g.pattern agent nodes).length ≤ _; rw [rootsB_len]; have := hP.r.roots; omega⟩
 simp only [forall_eq, decide_eq_true_eq, decide_eq_false_iff_not, l1Own]
 refine ⟨fun h1 => ⟨⟨⟨⟨sig, hP⟩, hl, hin⟩, by omega⟩, ⟨⟨sig, hP⟩, hMS⟩, ?_⟩, fun h1 => ?_⟩
 ·rw [l9Found, restM_end (by omega), l8Match, l8Roots]
  cases matchB g.pattern agent ⟨nodes, rootsB g.pattern agent nodes⟩ <;> simp
 ·have hlt : nodes.length < g.pattern.nodes.length := by omega
  have hnext : ∀ x : Nat, ((nextM g.pattern agent nodes x).any fun o => (o.nodes.drop nodes.length).all (mayB g.zone agent m)) = (canB g.pattern agent nodes (x : Int) && (mayB g.zone agent m (x : Int) && l9Found g agent m (nodes ++ [(x : Int)]))) := fun x => by
   rw [nextM]
   cases hc : canB g.pattern agent nodes (x : Int) with
   | false => simp
   | true =>
    simp only [if_true, Bool.true_and]
    have : ∀ l : List Match, (∀ o ∈ l, ∃ t, o.nodes = nodes ++ [(x : Int)] ++ t) → (l.any fun o => (o.nodes.drop nodes.length).all (mayB g.zone agent m)) = (mayB g.zone agent m (x : Int) && l.any fun o => (o.nodes.drop (nodes ++ [(x : Int)]).length).all (mayB g.zone agent m)) := by
     intro l
     induction l with
     | nil => intro _; simp
     | cons o l ih =>
      intro ho
      obtain ⟨t, ht⟩ := ho o (by simp)
      have e1 : (nodes ++ [(x : Int)] ++ t).drop nodes.length = (x : Int) :: t := by simp
      have e2 : (nodes ++ [(x : Int)] ++ t).drop (nodes ++ [(x : Int)]).length = t := List.drop_left
      rw [List.any_cons, List.any_cons, ih fun o' h => ho o' (by simp [h]), ht, e1, e2, List.all_cons]
      cases mayB g.zone agent m (x : Int) <;> rfl
    rw [this _ fun o ho => allM_prefix ho, l9Found]
  refine loopW.up1 agent.nodes.length (fun k => (((List.range k).flatMap (nextM g.pattern agent nodes)).any fun o => (o.nodes.drop nodes.length).all (mayB g.zone agent m)) = false) (by simp) ?_
  rintro k K hk hI IH
  have hstep : (canB g.pattern agent nodes (k : Int) && (mayB g.zone agent m (k : Int) && l9Found g agent m (nodes ++ [(k : Int)]))) = false → (((List.range (k + 1)).flatMap (nextM g.pattern agent nodes)).any fun o => (o.nodes.drop nodes.length).all (mayB g.zone agent m)) = false := fun h => by
   rw [range_flat, List.any_append, hI, hnext, h]; rfl
  refine ⟨fun h2 => ⟨⟨⟨sig, hP⟩, hlt, by omega, by omega⟩, fun h3 => ⟨⟨hP.a.downB, by omega, hm.1⟩, fun h4 => ⟨by omega, by omega, ⟨⟨⟨⟨sig, hP⟩, by simp; omega, hin.snoc ⟨by omega, by omega⟩⟩, hm⟩, by simp only [l9Found_ms, List.length_append, List.length_cons, List.length_nil]; omega⟩, fun h5 => ?_, fun h5 => ⟨by simp only [I64]; omega, IH (by omega) (hstep (by rw [h5]; simp))⟩⟩, fun h4 => ⟨by simp only [I64]; omega, IH (by omega) (hstep (by rw [show mayB g.zone agent m (k : Int) = false from h4]; simp))⟩⟩, fun h3 => ⟨by simp only [I64]; omega, IH (by omega) (hstep (by rw [show canB g.pattern agent nodes (k : Int) = false from h3]; simp))⟩⟩, fun h2 => ?_⟩
  ·have e : ((nextM g.pattern agent nodes k).any fun o => (o.nodes.drop nodes.length).all (mayB g.zone agent m)) = true := by
    rw [hnext, show canB g.pattern agent nodes (k : Int) = true from h3, show mayB g.zone agent m (k : Int) = true from h4, h5]; rfl
   rw [l9Found, restM_next hlt, List.any_flatMap]
   symm
   exact List.any_eq_true.2 ⟨k, by simp; omega, e⟩
  ·rw [l9Found, restM_next hlt, show agent.nodes.length = k by omega, hI]
noncomputable abbrev l9Holds (g : Guard) (agent : Big) (m : Match) : Bool := holdsB g agent m
abbrev l9Holds_pre (g : Guard) (agent : Big) (m : Match) : Prop := holds_pre g agent m
def l9Holds_wp (g : Guard) (agent : Big) (m : Match) (Z : Bool → Prop) : Prop :=
 (l9Found_pre g agent m ([] : List Int)) ∧ ∀ r8 : Bool, r8 = l9Found g agent m ([] : List Int) → ∀ c9 : Bool, c9 = !(r8 == g.neg) → Z c9
theorem l9Holds_vc (g : Guard) (agent : Big) (m : Match) (h : l9Holds_pre g agent m) : l9Holds_wp g agent m (fun y => y = l9Holds g agent m) := by
 unfold l9Holds_wp
 obtain ⟨hP, hm, _⟩ := h
 simp only [forall_eq]
 refine ⟨⟨giv0 hP, hm⟩, ?_⟩
 rw [l9Holds, holdsB, l9Found]
 simp [bne]
noncomputable abbrev sGuardHolds (sig : Sig) (g : Guard) (r : Rule) (agent : Big) (m : Match) : Bool × Bool := GuardHolds sig g r agent m
abbrev sGuardHolds_pre (sig : Sig) (g : Guard) (r : Rule) (agent : Big) (m : Match) : Prop := GuardHolds_pre sig g r agent m
def sGuardHolds_wp (sig : List Control) (g : Guard) (r_ : Rule) (agent : Big) (m : Match) (Z : (Bool × Bool) → Prop) : Prop :=
 joinW (fun (J7 : Bool → Prop) => (l9Guard_pre sig g) ∧ ∀ r16 : Bool, r16 = l9Guard sig g → ((r16 = true → (l9Good_pre sig r_) ∧ ∀ r18 : Bool, r18 = l9Good sig r_ → ((r18 = true → (l8Given_pre sig r_.redex agent m) ∧ ∀ r20 : Bool, r20 = l8Given sig r_.redex agent m → J7 ((!r20))) ∧ (r18 = false → J7 (true)))) ∧ (r16 = false → J7 (true)))) (fun b10 => ((b10 = true → Z (false, false)) ∧ (b10 = false → (l9Holds_pre g agent m) ∧ ∀ r14 : Bool, r14 = l9Holds g agent m → Z (r14, true))))
theorem sGuardHolds_vc (sig : Sig) (g : Guard) (r : Rule) (agent : Big) (m : Match) (h : sGuardHolds_pre sig g r agent m) : sGuardHolds_wp sig g r agent m (fun y => y = sGuardHolds sig g r agent m) := by
 unfold sGuardHolds_wp
 obtain ⟨h1, h2, h3, h4⟩ := h
 simp only [forall_eq]
 refine ⟨fun c => c = !(ruleB sig r && guardB sig g && (matching sig r.redex agent && matchB r.redex agent m)), ⟨h1, fun h5 => ⟨h2, fun h6 => ⟨⟨h2.1, h3, h4⟩, ?_⟩, fun h6 => ?_⟩, fun h5 => ?_⟩, ?_⟩
 ·rw [show ruleB sig r = true from h6, show guardB sig g = true from h5]; rfl
 ·rw [show ruleB sig r = false from h6]; simp
 ·rw [show guardB sig g = false from h5]; simp
 ·rintro _ rfl
  refine ⟨fun h5 => ?_, fun h5 => ⟨?_, ?_⟩⟩
  ·rw [sGuardHolds, GuardHolds, if_neg (by rw [show (ruleB sig r && guardB sig g && (matching sig r.redex agent && matchB r.redex agent m)) = false by simpa only [Bool.not_eq_true'] using h5]; simp)]
  ·simp only [Bool.not_eq_false', Bool.and_eq_true] at h5
   exact guard_pre h5.1.2 h5.2.1 h4
  ·rw [sGuardHolds, GuardHolds, if_pos (by simpa using h5)]
end Go.Ab.Vg
/- GuardHolds (statement 24): the law. -/
namespace Go.Ab.Vg
set_option linter.unusedSimpArgs false
set_option linter.unusedVariables false
abbrev HugeR (r : Rule) : Prop := HugeB r.redex ∧ HugeB r.reactum ∧ r.copies.length ≤ 9223372036854775807
abbrev HugeG (g : Guard) : Prop := HugeB g.pattern
abbrev ToR (r : Rule) : Prop := toBigraph_pre r.redex ∧ toBigraph_pre r.reactum ∧ r.copies.length ≤ 1048576
abbrev toRule (r : Rule) : Rule := r
abbrev toRule_pre (r : Rule) : Prop := ToR r
def toRule_wp (a : Rule) (Z : Rule → Prop) : Prop :=
 (toBigraph_pre a.redex) ∧ ∀ r8 : Big, r8 = toBigraph a.redex → (toBigraph_pre a.reactum) ∧ ∀ r11 : Big, r11 = toBigraph a.reactum → (toIntS_pre a.copies) ∧ ∀ r14 : List Int, r14 = toIntS a.copies → Z (Rule.mk r8 r11 r14)
theorem toRule_vc (r : Rule) (h : toRule_pre r) : toRule_wp r (fun y => y = toRule r) := by
 unfold toRule_wp
 simp only [forall_eq]
 exact ⟨h.1, h.2.1, h.2.2, trivial⟩
abbrev toGuard (g : Guard) : Guard := g
abbrev toGuard_pre (g : Guard) : Prop := toBigraph_pre g.pattern
def toGuard_wp (a : Guard) (Z : Guard → Prop) : Prop :=
 (toBigraph_pre a.pattern) ∧ ∀ r10 : Big, r10 = toBigraph a.pattern → Z (Guard.mk a.zone a.neg r10)
theorem toGuard_vc (g : Guard) (h : toGuard_pre g) : toGuard_wp g (fun y => y = toGuard g) := by
 unfold toGuard_wp
 simp only [forall_eq]
 exact ⟨h, trivial⟩
def szR (r : Rule) (left : Int) : Int := if szB r.redex left < 0 then -1 else if szB r.reactum (szB r.redex left) < 0 then -1 else szI r.copies (szB r.reactum (szB r.redex left))
abbrev szR_pre (r : Rule) (left : Int) : Prop := (0 ≤ left ∧ left ≤ 1048576) ∧ HugeR r
def szR_wp (a : Rule) (left : Int) (Z : Int → Prop) : Prop :=
 (((0 : Int) ≤ left ∧ (left : Int) ≤ 1048576) ∧ HugeB a.redex) ∧ ∀ r5 : Int, r5 = szB a.redex left → ∀ c6 : Bool, c6 = decide (r5 < 0) → ((c6 = true → Z (-1)) ∧ (c6 = false → (((0 : Int) ≤ r5 ∧ (r5 : Int) ≤ 1048576) ∧ HugeB a.reactum) ∧ ∀ r9 : Int, r9 = szB a.reactum r5 → ∀ c10 : Bool, c10 = decide (r9 < 0) → ((c10 = true → Z (-1)) ∧ (c10 = false → (((0 : Int) ≤ r9 ∧ (r9 : Int) ≤ 1048576) ∧ a.copies.length ≤ 9223372036854775807) ∧ ∀ r14 : Int, r14 = szI a.copies r9 → ∀ c16 : Bool, c16 = decide (r14 < 0) → ((c16 = true → Z (-1)) ∧ (c16 = false → Z r14))))))
theorem szR_vc (r : Rule) (left : Int) (h : szR_pre r left) : szR_wp r left (fun y => y = szR r left) := by
 unfold szR_wp
 obtain ⟨⟨h0, h1⟩, h2, h3, h4⟩ := h
 have l1 := szB_le r.redex left h0
 simp only [forall_eq, decide_eq_true_eq, decide_eq_false_iff_not]
 refine ⟨⟨⟨h0, h1⟩, h2⟩, fun h5 => by rw [szR, if_pos h5], fun h5 => ?_⟩
 have l2 := szB_le r.reactum (szB r.redex left) (by omega)
 refine ⟨⟨⟨by omega, by omega⟩, h3⟩, fun h6 => by rw [szR, if_neg h5, if_pos h6], fun h6 => ⟨⟨⟨by omega, by omega⟩, h4⟩, fun h7 => ?_, fun h7 => by rw [szR, if_neg h5, if_neg h6]⟩⟩
 rw [szR, if_neg h5, if_neg h6]
 simp only [szI] at h7 ⊢
 split at h7 <;> omega
def szG (g : Guard) (left : Int) : Int := szB g.pattern left
abbrev szG_pre (g : Guard) (left : Int) : Prop := (0 ≤ left ∧ left ≤ 1048576) ∧ HugeG g
def szG_wp (a : Guard) (left : Int) (Z : Int → Prop) : Prop :=
 (((0 : Int) ≤ left ∧ (left : Int) ≤ 1048576) ∧ HugeB a.pattern) ∧ ∀ r5 : Int, r5 = szB a.pattern left → ∀ c6 : Bool, c6 = decide (r5 < 0) → ((c6 = true → Z (-1)) ∧ (c6 = false → Z r5))
theorem szG_vc (g : Guard) (left : Int) (h : szG_pre g left) : szG_wp g left (fun y => y = szG g left) := by
 unfold szG_wp
 obtain ⟨⟨h0, h1⟩, h2⟩ := h
 simp only [forall_eq, decide_eq_true_eq, decide_eq_false_iff_not, szG]
 refine ⟨⟨⟨h0, h1⟩, h2⟩, fun h5 => ?_, fun _ => trivial⟩
 simp only [szB] at h5 ⊢
 split
 ·rfl
 ·rename_i a1
  rw [if_neg a1] at h5
  split
  ·rfl
  ·rename_i a2
   rw [if_neg a2] at h5
   split
   ·rfl
   ·rename_i a3
    rw [if_neg a3] at h5
    split
    ·rfl
    ·rename_i a4
     rw [if_neg a4] at h5
     exact absurd h5 a4
abbrev eqR (a b : Rule) : Bool := decide (a = b)
abbrev EqR (a : Rule) : Prop := EqB a.redex ∧ EqB a.reactum ∧ a.copies.length ≤ 1048576
abbrev eqR_pre (a _ : Rule) : Prop := EqR a
def eqR_wp (a : Rule) (b : Rule) (Z : Bool → Prop) : Prop :=
 (EqB a.redex) ∧ ∀ r6 : Bool, r6 = decide (a.redex = b.redex) → ((r6 = true → (EqB a.reactum) ∧ ∀ r8 : Bool, r8 = decide (a.reactum = b.reactum) → ((r8 = true → (a.copies.length ≤ 1048576) ∧ ∀ r10 : Bool, r10 = decide (a.copies = b.copies) → ((r10 = true → Z true) ∧ (r10 = false → Z false))) ∧ (r8 = false → Z false))) ∧ (r6 = false → Z false))
theorem eqR_vc (a b : Rule) (h : eqR_pre a b) : eqR_wp a b (fun y => y = eqR a b) := by
 unfold eqR_wp
 obtain ⟨h1, h2, h3⟩ := h
 obtain ⟨x, y, z⟩ := a
 obtain ⟨u, v, w⟩ := b
 simp only [forall_eq, decide_eq_true_eq, decide_eq_false_iff_not]
 refine ⟨h1, fun h4 => ⟨h2, fun h5 => ⟨h3, fun h6 => ?_, fun h6 => ?_⟩, fun h5 => ?_⟩, fun h4 => ?_⟩ <;> simp_all [eqR]
abbrev eqG (a b : Guard) : Bool := decide (a = b)
abbrev eqG_pre (a _ : Guard) : Prop := EqB a.pattern
def eqG_wp (a : Guard) (b : Guard) (Z : Bool → Prop) : Prop :=
 ∀ c5 : Bool, c5 = decide (a.zone ≠ b.zone) → ((c5 = true → Z false) ∧ (c5 = false → ∀ c7 : Bool, c7 = !(a.neg == b.neg) → ((c7 = true → Z false) ∧ (c7 = false → (EqB a.pattern) ∧ ∀ r10 : Bool, r10 = decide (a.pattern = b.pattern) → ((r10 = true → Z true) ∧ (r10 = false → Z false))))))
theorem eqG_vc (a b : Guard) (h : eqG_pre a b) : eqG_wp a b (fun y => y = eqG a b) := by
 unfold eqG_wp
 obtain ⟨x, y, z⟩ := a
 obtain ⟨u, v, w⟩ := b
 simp only [forall_eq, decide_eq_true_eq, decide_eq_false_iff_not]
 refine ⟨fun h4 => ?_, fun h4 => ⟨fun h5 => ?_, fun h5 => ⟨h, fun h6 => ?_, fun h6 => ?_⟩⟩⟩ <;> simp_all [eqG]
theorem smallOf {b : Big} {left : Int} (h0 : 0 ≤ left) (h1 : left ≤ 1048576) (hb : ¬ szB b left < 0) (hh : HugeB b) : SmallB [] b := by
 have e0 : szS szC [] left = left := by
  have : szS szC [] left = (if left - (([] : Sig).length : Int) < 0 then -1 else left - (([] : Sig).length : Int)) := by
   unfold szS; split <;> rfl
  rw [this]; simp only [List.length_nil]; split <;> omega
 exact smallB (left := left) (by omega) (by omega) (by rw [e0]; omega) (by rw [e0]; omega) hh
theorem szI_le (l : List Int) (left : Int) (h : 0 ≤ left) : szI l left ≤ left := f_le szI l left h
theorem szR_le (r : Rule) (left : Int) (h : 0 ≤ left) : szR r left ≤ left := by
 have h1 := szB_le r.redex left h
 unfold szR
 split
 ·omega
 have h2 := szB_le r.reactum (szB r.redex left) (by omega)
 split
 ·omega
 have h3 := szI_le r.copies (szB r.reactum (szB r.redex left)) (by omega)
 omega
theorem ruleOf {sig : Sig} {b : Big} {r : Rule} {left : Int} (h0 : 0 ≤ left) (h1 : left ≤ 1048576) (hs : SmallB sig b) (hr : ¬ szR r left < 0) (hh : HugeR r) : SmallR sig r ∧ ToR r ∧ EqR r := by
 unfold szR at hr
 split at hr
 ·omega
 rename_i a1
 split at hr
 ·omega
 rename_i a2
 have l1 := szB_le r.redex left h0
 have l2 := szB_le r.reactum (szB r.redex left) (by omega)
 have l3 := szI_len (s := r.copies) (c := szB r.reactum (szB r.redex left)) (by omega)
 have s1 := smallOf h0 h1 a1 hh.1
 have s2 := smallOf (by omega) (by omega) a2 hh.2.1
 exact ⟨⟨bothOf hs s1, bothOf hs s2, by omega⟩, ⟨toOf s1, toOf s2, by omega⟩, eqOf s1, eqOf s2, by omega⟩
abbrev lawGuard (_ : Sig) (_ : Guard) (_ : Rule) (_ : Big) (_ : Match) : Bool := true
abbrev lawGuard_pre (sig : Sig) (g : Guard) (r : Rule) (a : Big) (m : Match) : Prop := HugeS sig ∧ HugeG g ∧ HugeR r ∧ HugeB a ∧ HugeM m
def lawGuard_wp (aSig : List Control) (aG : Guard) (aR : Rule) (aAgent : Big) (aM : Match) (Z : Bool → Prop) : Prop :=
 (((0 : Int) ≤ 1048576 ∧ (1048576 : Int) ≤ 1048576) ∧ HugeS aSig) ∧ ∀ r8 : Int, r8 = szS szC aSig 1048576 → ∀ c9 : Bool, c9 = decide (r8 < 0) → ((c9 = true → Z true) ∧ (c9 = false → (szG_pre aG r8) ∧ ∀ r12 : Int, r12 = szG aG r8 → ∀ c13 : Bool, c13 = decide (r12 < 0) → ((c13 = true → Z true) ∧ (c13 = false → (szR_pre aR r12) ∧ ∀ r16 : Int, r16 = szR aR r12 → ∀ c18 : Bool, c18 = decide (r16 < 0) → ((c18 = true → Z true) ∧ (c18 = false → (((0 : Int) ≤ r16 ∧ (r16 : Int) ≤ 1048576) ∧ HugeB aAgent) ∧ ∀ r21 : Int, r21 = szB aAgent r16 → ∀ c22 : Bool, c22 = decide (r21 < 0) → ((c22 = true → Z true) ∧ (c22 = false → (szM_pre aM r21) ∧ ∀ r25 : Int, r25 = szM aM r21 → ∀ c26 : Bool, c26 = decide (r25 < 0) → ((c26 = true → Z true) ∧ (c26 = false → (toControlS_pre aSig) ∧ ∀ r30 : List Control, r30 = toControlS aSig → (toGuard_pre aG) ∧ ∀ r32 : Guard, r32 = toGuard aG → (toRule_pre aR) ∧ ∀ r34 : Rule, r34 = toRule aR → (toBigraph_pre aAgent) ∧ ∀ r36 : Big, r36 = toBigraph aAgent → (toMatch_pre aM) ∧ ∀ r38 : Match, r38 = toMatch aM → (sGuardHolds_pre r30 r32 r34 r36 r38) ∧ ∀ r40 : Bool × Bool, r40 = sGuardHolds r30 r32 r34 r36 r38 → (toControlS_pre aSig) ∧ ∀ r43 : List Control, r43 = toControlS aSig → (toGuard_pre aG) ∧ ∀ r45 : Guard, r45 = toGuard aG → (toRule_pre aR) ∧ ∀ r49 : Rule, r49 = toRule aR → (toBigraph_pre aAgent) ∧ ∀ r53 : Big, r53 = toBigraph aAgent → (toMatch_pre aM) ∧ ∀ r57 : Match, r57 = toMatch aM → (GuardHolds_pre r43 r45 r49 r53 r57) ∧ ∀ r61 : Bool × Bool, r61 = GuardHolds r43 r45 r49 r53 r57 → joinW (fun (J62 : Bool → Prop) => ∀ c89 : Bool, c89 = !(r61.1 == r40.1) → ((c89 = true → J62 (true)) ∧ (c89 = false → ∀ c91 : Bool, c91 = !(r61.2 == r40.2) → J62 (c91)))) (fun b65 => ((b65 = true → Z false) ∧ (b65 = false → (toControlS_pre aSig) ∧ ∀ r69 : List Control, r69 = toControlS aSig → (r43.length ≤ 1048576) ∧ ∀ r71 : Bool, r71 = decide (r43 = r69) → ((r71 = true → (toGuard_pre aG) ∧ ∀ r73 : Guard, r73 = toGuard aG → (eqG_pre r45 r73) ∧ ∀ r75 : Bool, r75 = eqG r45 r73 → ((r75 = true → (toRule_pre aR) ∧ ∀ r77 : Rule, r77 = toRule aR → (eqR_pre r49 r77) ∧ ∀ r79 : Bool, r79 = eqR r49 r77 → ((r79 = true → (toBigraph_pre aAgent) ∧ ∀ r82 : Big, r82 = toBigraph aAgent → (EqB r53) ∧ ∀ r84 : Bool, r84 = decide (r53 = r82) → ((r84 = true → (toMatch_pre aM) ∧ ∀ r86 : Match, r86 = toMatch aM → (eqM_pre r57 r86) ∧ ∀ r88 : Bool, r88 = eqM r57 r86 → ((r88 = true → Z true) ∧ (r88 = false → Z false))) ∧ (r84 = false → Z false))) ∧ (r79 = false → Z false))) ∧ (r75 = false → Z false))) ∧ (r71 = false → Z false)))))))))))))))
theorem lawGuard_vc (sig : Sig) (g : Guard) (r : Rule) (a : Big) (m : Match) (h : lawGuard_pre sig g r a m) : lawGuard_wp sig g r a m (fun y => y = lawGuard sig g r a m) := by
 unfold lawGuard_wp
 obtain ⟨h1, h2, h3, h4, h5⟩ := h
 simp only [forall_eq, decide_eq_true_eq, decide_eq_false_iff_not, toControlS, toBigraph, toMatch, toRule, toGuard, sGuardHolds, szG]
 refine ⟨⟨by omega, h1⟩, fun _ => trivial, fun s1 => ?_⟩
 have l1 := szS_le szC sig 1048576 (by omega)
 refine ⟨⟨by omega, h2⟩, fun _ => trivial, fun s2 => ?_⟩
 have l2 := szB_le g.pattern (szS szC sig 1048576) (by omega)
 refine ⟨⟨by omega, h3⟩, fun _ => trivial, fun s3 => ?_⟩
 have l3 := szR_le r (szB g.pattern (szS szC sig 1048576)) (by omega)
 refine ⟨⟨by omega, h4⟩, fun _ => trivial, fun s4 => ?_⟩
 have l4 := szB_le a (szR r (szB g.pattern (szS szC sig 1048576))) (by omega)
 refine ⟨⟨by omega, h5⟩, fun _ => trivial, fun s5 => ?_⟩
 have hG : SmallB sig g.pattern := smallB (left := 1048576) (by omega) (by omega) (by omega) (by omega) h2
 obtain ⟨r1, r2, r3⟩ := ruleOf (by omega) (by omega) hG s3 h3
 have hA0 := smallOf (by omega) (by omega) s4 h4
 have hA : SmallB sig a := bothOf hG hA0
 have hM : MSz m := by
  unfold szM at s5
  split at s5
  ·omega
  have := szI_len (s := m.nodes) (c := szB a (szR r (szB g.pattern (szS szC sig 1048576)))) (by omega)
  have l6 := szI_le m.nodes (szB a (szR r (szB g.pattern (szS szC sig 1048576)))) (by omega)
  have := szI_len (s := m.roots) (c := szI m.nodes (szB a (szR r (szB g.pattern (szS szC sig 1048576))))) (by omega)
  exact ⟨by omega, by omega⟩
 have hS := hG.sigLen
 refine ⟨hS, toOf hG, r2, toOf hA, hM, ⟨hG, r1, hA, hM⟩, hS, toOf hG, r2, toOf hA, hM, ⟨hG, r1, hA, hM⟩, fun c => c = false, ⟨fun h => by simp at h, fun _ => by simp⟩, ?_⟩
 rintro _ rfl
 exact ⟨fun h => (by cases h), fun _ => ⟨hS, hS, fun _ => ⟨toOf hG, eqOf hG, fun _ => ⟨r2, r3, fun _ => ⟨toOf hA, eqOf hA, fun _ => ⟨hM, hM, fun _ => trivial, fun h => by simp [eqM] at h⟩, fun h => absurd trivial h⟩, fun h => by simp [eqR] at h⟩, fun h => by simp [eqG] at h⟩, fun h => absurd trivial h⟩⟩
end Go.Ab.Vg
/- Walks by program for YtbpdcoahefnnkaaGreatDoorAbL2k. -/
namespace Go.Ab.Vg
open Go.Proofs
set_option maxRecDepth 100000
set_option linter.unusedSimpArgs false
set_option linter.unusedVariables false
attribute [local simp] GNode.cells Wire.cells intC sliceC strC bC pA
theorem e160 : Ent Tryz.prog 160 := Ent.of Tryz.func160 (by kernel_rfl) rfl
theorem l2Kids_walk (b : Big) (parent : Int) (Z : (List Int) → Prop) (h : l2Kids_wp b parent Z) : OwnS Tryz.prog 160 [.agg (bC false b), int parent] (.s [.c]) (fun r => ∃ y : List Int, Z y ∧ r = .list true (y.map intC)) := by
 unfold l2Kids_wp at h
 have sp : Sep noHeap 0 [] [] := Sep.nil (by simp)
 refine OwnS.of Tryz.func160 rfl Tryz.ntmps160 (by simp) fun Q hQ => ?_
 refine Runs.cut (fun ρ H n => (ρ 0 = .agg (bC false b) ∧ ρ 1 = int parent) ∧ Sep H n [] []) (by refine ⟨?_, sp⟩ <;> simp ) ?_
 rintro ρ H n1 ⟨hh, sp⟩
 refine zE fun k' hk' => ?_
 simp [hh]
 apply hk'
 refine Runs.cut (fun ρ H n => (ρ 1 = int parent ∧ ρ 2 = pA n1 2) ∧ H (n1, 2) = some ⟨6, [bC false b]⟩ ∧ Sep H n [] [(n1, 2)]) (by refine ⟨?_, ?_, sp.var⟩ <;> simp [hh]) ?_
 clear hh
 rintro ρ H n3 ⟨hh, m2_1, sp⟩
 refine zE fun k' hk' => ?_
 simp [hh, m2_1]
 apply hk'
 refine Runs.cut (fun ρ H n => ∃ (v5 : AVal), (ρ 1 = int parent ∧ ρ 2 = pA n1 2 ∧ ρ 5 = v5) ∧ H (n1, 2) = some ⟨6, [bC false b]⟩ ∧ Sep H n [oI v5 ([] : List Int)] [(n1, 2)]) (by refine ⟨.arr (n3, 7) 0 0 0, ?_, ?_, (Sep.addEmpty (l := [.c]) sp)⟩ <;> simp [hh, m2_1]) ?_
 clear hh m2_1
 rintro ρ H n6 ⟨v5, hh, m2_1, sp⟩
 refine Runs.seq ?_
 refine zE fun k' hk' => ?_
 simp [hh, m2_1]
 apply hk'
 refine Runs.block ?_
 refine Runs.loopW h (fun (sJ : Int × (List Int)) ρ H n => match sJ with | (i14, l15) => ∃ (v16 : AVal), (ρ 1 = int parent ∧ ρ 2 = pA n1 2 ∧ ρ 5 = v16 ∧ ρ 6 = int i14) ∧ H (n1, 2) = some ⟨6, [bC false b]⟩ ∧ Sep H n [oI v16 l15] [(n1, 2)]) (by refine ⟨v5, ?_, ?_, sp⟩ <;> simp [hh, m2_1]) ?_
 clear hh m2_1
 rintro ⟨i14, l15⟩ ρ H n17 K h ⟨v16, hh, m2_1, sp⟩ IH18
 refine Runs.seq ?_
 refine zE fun k' hk' => ?_
 obtain ⟨len20, elen20, h⟩ := atm h
 have f21 := fun H => len_list (H := H) (fr := false) (f := (GNode.cells false)) kd_44 elen20
 obtain ⟨c22, ec22, h⟩ := atm h
 have f23 := ib_lss (k := .i64) ec22
 simp [hh, m2_1, f21, f23, -intBin, -lenF]
 apply hk'
 refine Runs.ite (b := c22) (by simp [hh, m2_1]) (fun dc22 => ?_) (fun dc22 => ?_)
 ·replace h := h.1 dc22
  refine Runs.skip ?_
  refine Runs.seq ?_
  refine Runs.block ?_
  refine zE fun k' hk' => ?_
  obtain ⟨hb24, h⟩ := h
  obtain ⟨x25, ex25, h⟩ := atm h
  have f26 := fun H => ix_list (H := H) (fr := false) (f := (GNode.cells false)) (k := .i64) kd_44 (fun _ => rfl) hb24 ex25
  obtain ⟨c27, ec27, h⟩ := atm h
  have f28 := ib_eql (k := .i64) ec27
  simp [hh, m2_1, f26, f28, dc22, -indexAddrF, -intBin]
  apply hk'
  refine Runs.ite (b := c27) (by simp [hh, m2_1, dc22]) (fun dc27 => ?_) (fun dc27 => ?_)
  ·replace h := h.1 dc27
   refine zF fun k' hk' => ?_
   obtain ⟨hb29, h⟩ := h
   obtain ⟨l30, el30, h⟩ := atm h
   simp [hh, m2_1, dc22, dc27, -appendF]
   refine bind_append [] [] [[int i14]] [intC i14] sp kd_24 (by simp) (by simp) (by simp) (by simp [-one1, o1x]) (rows_one (Fill.v _ Fill.nil)) (by simp) (by simpa using hb29) ?_
   rintro v31 H32 n33 sp hfr34 hle35
   replace sp : Sep H32 n33 [oI v31 l30] [(n1, 2)] := Sep.ap el30 sp
   have m2_1 : H32 (n1, 2) = some ⟨6, [bC false b]⟩ := (hfr34 _ (by simp)).trans (by simp [hh, m2_1, Heap.get_set])
   simp [hh, m2_1, dc22, dc27]
   apply hk'
   refine Runs.cut (fun ρ H n => ∃ (v37 : AVal), (ρ 1 = int parent ∧ ρ 2 = pA n1 2 ∧ ρ 5 = v37 ∧ ρ 6 = int i14) ∧ H (n1, 2) = some ⟨6, [bC false b]⟩ ∧ Sep H n [oI v37 l30] [(n1, 2)]) (by refine ⟨v31, ?_, ?_, sp⟩ <;> simp [hh, m2_1, dc22, dc27]) ?_
   clear hh m2_1
   rintro ρ H n38 ⟨v37, hh, m2_1, sp⟩
   refine Runs.inBlock ?_
   refine zF fun k' hk' => ?_
   obtain ⟨hb39, h⟩ := h
   obtain ⟨v40, ev40, h⟩ := atm h
   have f41 := ib_add hb39 ev40
   simp [hh, m2_1, f41, -intBin]
   apply hk'
   refine IH18 (v40, l30) _ _ _ h (by refine ⟨v37, ?_, ?_, sp⟩ <;> simp [hh, m2_1])
  replace h := h.2 dc27
  refine Runs.skip ?_
  refine Runs.inBlock ?_
  refine zF fun k' hk' => ?_
  obtain ⟨hb42, h⟩ := h
  obtain ⟨v43, ev43, h⟩ := atm h
  have f44 := ib_add hb42 ev43
  simp [hh, m2_1, f44, dc22, dc27, -intBin]
  apply hk'
  refine Runs.cut (fun ρ H n => ∃ (v45 : AVal), (ρ 1 = int parent ∧ ρ 2 = pA n1 2 ∧ ρ 5 = v45 ∧ ρ 6 = int v43) ∧ H (n1, 2) = some ⟨6, [bC false b]⟩ ∧ Sep H n [oI v45 l15] [(n1, 2)]) (by refine ⟨v16, ?_, ?_, sp⟩ <;> simp [hh, m2_1, f44, dc22, dc27, -intBin]) ?_
  clear hh m2_1
  rintro ρ H n46 ⟨v45, hh, m2_1, sp⟩
  refine IH18 (v43, l15) _ _ _ h (by refine ⟨v45, ?_, ?_, sp⟩ <;> simp [hh, m2_1])
 replace h := h.2 dc22
 refine Runs.exit rfl ?_
 refine zE fun k' hk' => ?_
 simp [hh, m2_1, dc22]
 apply hk'
 exact Runs.ret1 (v := v16) Tryz.func160 Tryz.results160 (by simp [hh, m2_1, dc22]) (hQ _ _ _ _ (Sep.sub (ids' := []) sp (by simp)) ⟨l15, h, rfl⟩)
theorem l2Kids_ok (b : Big) (parent : Int) (hp : l2Kids_pre b parent) : OwnS Tryz.prog 160 [.agg (bC false b), int parent] (.s [.c]) (fun r => r = .list true ((l2Kids b parent).map intC)) := (l2Kids_walk b parent _ (l2Kids_vc b parent hp)).mono (by rintro _ ⟨_, rfl, rfl⟩; rfl)
theorem e161 : Ent Tryz.prog 161 := Ent.of Tryz.func161 (by kernel_rfl) rfl
theorem l2Holes_walk (b : Big) (parent : Int) (Z : (List Int) → Prop) (h : l2Holes_wp b parent Z) : OwnS Tryz.prog 161 [.agg (bC false b), int parent] (.s [.c]) (fun r => ∃ y : List Int, Z y ∧ r = .list true (y.map intC)) := by
 unfold l2Holes_wp at h
 have sp : Sep noHeap 0 [] [] := Sep.nil (by simp)
 refine OwnS.of Tryz.func161 rfl Tryz.ntmps161 (by simp) fun Q hQ => ?_
 refine Runs.cut (fun ρ H n => (ρ 0 = .agg (bC false b) ∧ ρ 1 = int parent) ∧ Sep H n [] []) (by refine ⟨?_, sp⟩ <;> simp ) ?_
 rintro ρ H n1 ⟨hh, sp⟩
 refine zE fun k' hk' => ?_
 simp [hh]
 apply hk'
 refine Runs.cut (fun ρ H n => (ρ 1 = int parent ∧ ρ 2 = pA n1 2) ∧ H (n1, 2) = some ⟨6, [bC false b]⟩ ∧ Sep H n [] [(n1, 2)]) (by refine ⟨?_, ?_, sp.var⟩ <;> simp [hh]) ?_
 clear hh
 rintro ρ H n3 ⟨hh, m2_1, sp⟩
 refine zE fun k' hk' => ?_
 simp [hh, m2_1]
 apply hk'
 refine Runs.cut (fun ρ H n => ∃ (v5 : AVal), (ρ 1 = int parent ∧ ρ 2 = pA n1 2 ∧ ρ 5 = v5) ∧ H (n1, 2) = some ⟨6, [bC false b]⟩ ∧ Sep H n [oI v5 ([] : List Int)] [(n1, 2)]) (by refine ⟨.arr (n3, 7) 0 0 0, ?_, ?_, (Sep.addEmpty (l := [.c]) sp)⟩ <;> simp [hh, m2_1]) ?_
 clear hh m2_1
 rintro ρ H n6 ⟨v5, hh, m2_1, sp⟩
 refine Runs.seq ?_
 refine zE fun k' hk' => ?_
 simp [hh, m2_1]
 apply hk'
 refine Runs.block ?_
 refine Runs.loopW h (fun (sJ : Int × (List Int)) ρ H n => match sJ with | (i14, l15) => ∃ (v16 : AVal), (ρ 1 = int parent ∧ ρ 2 = pA n1 2 ∧ ρ 5 = v16 ∧ ρ 6 = int i14) ∧ H (n1, 2) = some ⟨6, [bC false b]⟩ ∧ Sep H n [oI v16 l15] [(n1, 2)]) (by refine ⟨v5, ?_, ?_, sp⟩ <;> simp [hh, m2_1]) ?_
 clear hh m2_1
 rintro ⟨i14, l15⟩ ρ H n17 K h ⟨v16, hh, m2_1, sp⟩ IH18
 refine Runs.seq ?_
 refine zE fun k' hk' => ?_
 obtain ⟨len20, elen20, h⟩ := atm h
 have f21 := fun H => len_list (H := H) (fr := false) (f := intC) kd_24 elen20
 obtain ⟨c22, ec22, h⟩ := atm h
 have f23 := ib_lss (k := .i64) ec22
 simp [hh, m2_1, f21, f23, -intBin, -lenF]
 apply hk'
 refine Runs.ite (b := c22) (by simp [hh, m2_1]) (fun dc22 => ?_) (fun dc22 => ?_)
 ·replace h := h.1 dc22
  refine Runs.skip ?_
  refine Runs.seq ?_
  refine Runs.block ?_
  refine zE fun k' hk' => ?_
  obtain ⟨hb24, h⟩ := h
  obtain ⟨x25, ex25, h⟩ := atm h
  have f26 := fun H => ix_list (H := H) (fr := false) (f := intC) (k := .i64) kd_24 (fun _ => rfl) hb24 ex25
  obtain ⟨c27, ec27, h⟩ := atm h
  have f28 := ib_eql (k := .i64) ec27
  simp [hh, m2_1, f26, f28, dc22, -indexAddrF, -intBin]
  apply hk'
  refine Runs.ite (b := c27) (by simp [hh, m2_1, dc22]) (fun dc27 => ?_) (fun dc27 => ?_)
  ·replace h := h.1 dc27
   refine zF fun k' hk' => ?_
   obtain ⟨hb29, h⟩ := h
   obtain ⟨l30, el30, h⟩ := atm h
   simp [hh, m2_1, dc22, dc27, -appendF]
   refine bind_append [] [] [[int i14]] [intC i14] sp kd_24 (by simp) (by simp) (by simp) (by simp [-one1, o1x]) (rows_one (Fill.v _ Fill.nil)) (by simp) (by simpa using hb29) ?_
   rintro v31 H32 n33 sp hfr34 hle35
   replace sp : Sep H32 n33 [oI v31 l30] [(n1, 2)] := Sep.ap el30 sp
   have m2_1 : H32 (n1, 2) = some ⟨6, [bC false b]⟩ := (hfr34 _ (by simp)).trans (by simp [hh, m2_1, Heap.get_set])
   simp [hh, m2_1, dc22, dc27]
   apply hk'
   refine Runs.cut (fun ρ H n => ∃ (v37 : AVal), (ρ 1 = int parent ∧ ρ 2 = pA n1 2 ∧ ρ 5 = v37 ∧ ρ 6 = int i14) ∧ H (n1, 2) = some ⟨6, [bC false b]⟩ ∧ Sep H n [oI v37 l30] [(n1, 2)]) (by refine ⟨v31, ?_, ?_, sp⟩ <;> simp [hh, m2_1, dc22, dc27]) ?_
   clear hh m2_1
   rintro ρ H n38 ⟨v37, hh, m2_1, sp⟩
   refine Runs.inBlock ?_
   refine zF fun k' hk' => ?_
   obtain ⟨hb39, h⟩ := h
   obtain ⟨v40, ev40, h⟩ := atm h
   have f41 := ib_add hb39 ev40
   simp [hh, m2_1, f41, -intBin]
   apply hk'
   refine IH18 (v40, l30) _ _ _ h (by refine ⟨v37, ?_, ?_, sp⟩ <;> simp [hh, m2_1])
  replace h := h.2 dc27
  refine Runs.skip ?_
  refine Runs.inBlock ?_
  refine zF fun k' hk' => ?_
  obtain ⟨hb42, h⟩ := h
  obtain ⟨v43, ev43, h⟩ := atm h
  have f44 := ib_add hb42 ev43
  simp [hh, m2_1, f44, dc22, dc27, -intBin]
  apply hk'
  refine Runs.cut (fun ρ H n => ∃ (v45 : AVal), (ρ 1 = int parent ∧ ρ 2 = pA n1 2 ∧ ρ 5 = v45 ∧ ρ 6 = int v43) ∧ H (n1, 2) = some ⟨6, [bC false b]⟩ ∧ Sep H n [oI v45 l15] [(n1, 2)]) (by refine ⟨v16, ?_, ?_, sp⟩ <;> simp [hh, m2_1, f44, dc22, dc27, -intBin]) ?_
  clear hh m2_1
  rintro ρ H n46 ⟨v45, hh, m2_1, sp⟩
  refine IH18 (v43, l15) _ _ _ h (by refine ⟨v45, ?_, ?_, sp⟩ <;> simp [hh, m2_1])
 replace h := h.2 dc22
 refine Runs.exit rfl ?_
 refine zE fun k' hk' => ?_
 simp [hh, m2_1, dc22]
 apply hk'
 exact Runs.ret1 (v := v16) Tryz.func161 Tryz.results161 (by simp [hh, m2_1, dc22]) (hQ _ _ _ _ (Sep.sub (ids' := []) sp (by simp)) ⟨l15, h, rfl⟩)
theorem l2Holes_ok (b : Big) (parent : Int) (hp : l2Holes_pre b parent) : OwnS Tryz.prog 161 [.agg (bC false b), int parent] (.s [.c]) (fun r => r = .list true ((l2Holes b parent).map intC)) := (l2Holes_walk b parent _ (l2Holes_vc b parent hp)).mono (by rintro _ ⟨_, rfl, rfl⟩; rfl)
theorem e126 : Ent Tryz.prog 126 := Ent.of Tryz.func126 (by kernel_rfl) rfl
theorem childrenOf_walk (b : Big) (parent : Int) (Z : ((List Int) × (List Int)) → Prop) (h : childrenOf_wp b parent Z) : OwnS Tryz.prog 126 [.agg (bC false b), int parent] (.t [.s [.c], .s [.c]]) (fun r => ∃ y : (List Int) × (List Int), Z y ∧ r = .tup [.list true (y.1.map intC), .list true (y.2.map intC)]) := by
 unfold childrenOf_wp at h
 have sp : Sep noHeap 0 [] [] := Sep.nil (by simp)
 refine OwnS.of Tryz.func126 rfl Tryz.ntmps126 (by simp) fun Q hQ => ?_
 refine Runs.cut (fun ρ H n => (ρ 0 = .agg (bC false b) ∧ ρ 1 = int parent) ∧ Sep H n [] []) (by refine ⟨?_, sp⟩ <;> simp ) ?_
 rintro ρ H n1 ⟨hh, sp⟩
 refine zE fun k' hk' => ?_
 simp [hh]
 apply hk'
 refine Runs.cut (fun ρ H n => (ρ 1 = int parent ∧ ρ 2 = pA n1 2) ∧ H (n1, 2) = some ⟨6, [bC false b]⟩ ∧ Sep H n [] [(n1, 2)]) (by refine ⟨?_, ?_, sp.var⟩ <;> simp [hh]) ?_
 clear hh
 rintro ρ H n3 ⟨hh, m2_1, sp⟩
 refine zE fun k' hk' => ?_
 simp [hh, m2_1]
 apply hk'
 refine Runs.cut (fun ρ H n => ∃ (v6 v7 : AVal), (ρ 1 = int parent ∧ ρ 2 = pA n1 2 ∧ ρ 6 = v7 ∧ ρ 7 = v6) ∧ H (n1, 2) = some ⟨6, [bC false b]⟩ ∧ Sep H n [oI v6 ([] : List Int), oI v7 ([] : List Int)] [(n1, 2)]) (by refine ⟨.arr (n3 + 1, 13) 0 0 0, .arr (n3, 12) 0 0 0, ?_, ?_, (Sep.addEmpty (l := [.c]) (Sep.addEmpty (l := [.c]) sp))⟩ <;> simp [hh, m2_1]) ?_
 clear hh m2_1
 rintro ρ H n8 ⟨v6, v7, hh, m2_1, sp⟩
 refine Runs.seq ?_
 refine zE fun k' hk' => ?_
 obtain ⟨len9, elen9, h⟩ := atm h
 have f10 := fun H => len_list (H := H) (fr := false) (f := (GNode.cells false)) kd_44 elen9
 simp [hh, m2_1, f10, -lenF]
 apply hk'
 refine Runs.block ?_
 refine Runs.loopW h (fun (sJ : Int × (List Int)) ρ H n => match sJ with | (v20, l21) => ∃ (v22 v23 : AVal), (ρ 1 = int parent ∧ ρ 2 = pA n1 2 ∧ ρ 6 = v23 ∧ ρ 7 = v22 ∧ ρ 15 = .list false (b.nodes.map (GNode.cells false)) ∧ ρ 16 = int len9 ∧ ρ 17 = int v20) ∧ H (n1, 2) = some ⟨6, [bC false b]⟩ ∧ Sep H n [oI v22 ([] : List Int), oI v23 l21] [(n1, 2)]) (by refine ⟨v6, v7, ?_, ?_, sp⟩ <;> simp [hh, m2_1]) ?_
 clear hh m2_1
 rintro ⟨v20, l21⟩ ρ H n24 K h ⟨v22, v23, hh, m2_1, sp⟩ IH25
 refine zE fun k' hk' => ?_
 obtain ⟨c27, ec27, h⟩ := atm h
 have f28 := ib_lss (k := .i64) ec27
 simp [hh, m2_1, f28, -intBin]
 apply hk'
 refine Runs.seq ?_
 refine Runs.ite (b := c27) (by simp [hh, m2_1]) (fun dc27 => ?_) (fun dc27 => ?_)
 ·replace h := h.1 dc27
  refine Runs.skip ?_
  refine Runs.seq ?_
  refine Runs.block ?_
  refine zE fun k' hk' => ?_
  obtain ⟨hb29, h⟩ := h
  obtain ⟨x30, ex30, h⟩ := atm h
  have f31 := fun H => ix_list (H := H) (fr := false) (f := (GNode.cells false)) (k := .i64) kd_44 (fun _ => rfl) hb29 ex30
  simp [hh, m2_1, f31, dc27, -indexAddrF]
  apply hk'
  refine Runs.cut (fun ρ H n => ∃ (v33 v34 : AVal), (ρ 1 = int parent ∧ ρ 2 = pA n1 2 ∧ ρ 6 = v34 ∧ ρ 7 = v33 ∧ ρ 8 = int v20 ∧ ρ 9 = pA n24 9 ∧ ρ 15 = .list false (b.nodes.map (GNode.cells false)) ∧ ρ 16 = int len9 ∧ ρ 17 = int v20) ∧ H (n1, 2) = some ⟨6, [bC false b]⟩ ∧ H (n24, 9) = some ⟨3, [[int x30.control, int x30.parent, .list false (x30.links.map intC)]]⟩ ∧ Sep H n [oI v33 ([] : List Int), oI v34 l21] [(n24, 9), (n1, 2)]) (by refine ⟨v22, v23, ?_, ?_, ?_, sp.var⟩ <;> simp [hh, m2_1, f31, dc27, -indexAddrF]) ?_
  clear hh m2_1
  rintro ρ H n35 ⟨v33, v34, hh, m2_1, m9_31, sp⟩
  refine zE fun k' hk' => ?_
  obtain ⟨c36, ec36, h⟩ := atm h
  have f37 := ib_eql (k := .i64) ec36
  simp [hh, m2_1, m9_31, f37, -intBin]
  apply hk'
  refine Runs.ite (b := c36) (by simp [hh, m2_1, m9_31]) (fun dc36 => ?_) (fun dc36 => ?_)
  ·replace h := h.1 dc36
   refine zF fun k' hk' => ?_
   obtain ⟨hb38, h⟩ := h
   obtain ⟨l39, el39, h⟩ := atm h
   simp [hh, m2_1, m9_31, dc36, -appendF]
   refine bind_append [] [oI v33 ([] : List Int)] [[int v20]] [intC v20] sp.f1 kd_24 (by simp) (by simp) (by simp) (by simp [-one1, o1x]) (rows_one (Fill.v _ Fill.nil)) (by simp) (by simpa using hb38) ?_
   rintro v40 H41 n42 sp hfr43 hle44
   replace sp : Sep H41 n42 [oI v40 l39, oI v33 ([] : List Int)] [(n24, 9), (n1, 2)] := Sep.ap el39 sp
   have m2_1 : H41 (n1, 2) = some ⟨6, [bC false b]⟩ := (hfr43 _ (by simp)).trans (by simp [hh, m2_1, m9_31, Heap.get_set])
   have m9_31 : H41 (n24, 9) = some ⟨3, [[int x30.control, int x30.parent, .list false (x30.links.map intC)]]⟩ := (hfr43 _ (by simp)).trans (by simp [hh, m2_1, m9_31, Heap.get_set])
   simp [hh, m2_1, m9_31, dc36]
   apply hk'
   refine Runs.cut (fun ρ H n => ∃ (v46 v47 : AVal), (ρ 1 = int parent ∧ ρ 2 = pA n1 2 ∧ ρ 6 = v46 ∧ ρ 7 = v47 ∧ ρ 15 = .list false (b.nodes.map (GNode.cells false)) ∧ ρ 16 = int len9 ∧ ρ 17 = int v20) ∧ H (n1, 2) = some ⟨6, [bC false b]⟩ ∧ Sep H n [oI v46 l39, oI v47 ([] : List Int)] [(n1, 2)]) (by refine ⟨v40, v33, ?_, ?_, (Sep.sub sp (by simp +contextual))⟩ <;> simp [hh, m2_1, m9_31, dc36]) ?_
   clear hh m2_1 m9_31
   rintro ρ H n48 ⟨v46, v47, hh, m2_1, sp⟩
   refine Runs.inBlock ?_
   refine zF fun k' hk' => ?_
   obtain ⟨hb49, h⟩ := h
   obtain ⟨v50, ev50, h⟩ := atm h
   have f51 := ib_add hb49 ev50
   simp [hh, m2_1, f51, -intBin]
   apply hk'
   refine IH25 (v50, l39) _ _ _ h (by refine ⟨v47, v46, ?_, ?_, sp.f1⟩ <;> simp [hh, m2_1])
  replace h := h.2 dc36
  refine Runs.skip ?_
  refine Runs.inBlock ?_
  refine zF fun k' hk' => ?_
  obtain ⟨hb52, h⟩ := h
  obtain ⟨v53, ev53, h⟩ := atm h
  have f54 := ib_add hb52 ev53
  simp [hh, m2_1, m9_31, f54, dc36, -intBin]
  apply hk'
  refine IH25 (v53, l21) _ _ _ h (by refine ⟨v33, v34, ?_, ?_, (Sep.sub sp (by simp +contextual))⟩ <;> simp [hh, m2_1, m9_31, dc36])
 replace h := h.2 dc27
 refine Runs.exit rfl ?_
 refine Runs.seq ?_
 refine zE fun k' hk' => ?_
 obtain ⟨len55, elen55, h⟩ := atm h
 have f56 := fun H => len_list (H := H) (fr := false) (f := intC) kd_24 elen55
 simp [hh, m2_1, f56, dc27, -lenF]
 apply hk'
 refine Runs.block ?_
 refine Runs.loopW h (fun (sJ : Int × (List Int)) ρ H n => match sJ with | (v66, l67) => ∃ (v68 v69 : AVal), (ρ 1 = int parent ∧ ρ 6 = v69 ∧ ρ 7 = v68 ∧ ρ 32 = .list false (b.sites.map intC) ∧ ρ 33 = int len55 ∧ ρ 34 = int v66) ∧ Sep H n [oI v68 l67, oI v69 l21] []) (by refine ⟨v22, v23, ?_, (Sep.sub sp (by simp +contextual))⟩ <;> simp [hh, m2_1, dc27]) ?_
 clear hh m2_1
 rintro ⟨v66, l67⟩ ρ H n70 K h ⟨v68, v69, hh, sp⟩ IH71
 refine zE fun k' hk' => ?_
 obtain ⟨c73, ec73, h⟩ := atm h
 have f74 := ib_lss (k := .i64) ec73
 simp [hh, f74, -intBin]
 apply hk'
 refine Runs.seq ?_
 refine Runs.ite (b := c73) (by simp [hh]) (fun dc73 => ?_) (fun dc73 => ?_)
 ·replace h := h.1 dc73
  refine Runs.skip ?_
  refine Runs.seq ?_
  refine Runs.block ?_
  refine zE fun k' hk' => ?_
  obtain ⟨hb75, h⟩ := h
  obtain ⟨x76, ex76, h⟩ := atm h
  have f77 := fun H => ix_list (H := H) (fr := false) (f := intC) (k := .i64) kd_24 (fun _ => rfl) hb75 ex76
  simp [hh, f77, dc73, -indexAddrF]
  apply hk'
  refine zE fun k' hk' => ?_
  obtain ⟨c78, ec78, h⟩ := atm h
  have f79 := ib_eql (k := .i64) ec78
  simp [hh, f79, dc73, -intBin]
  apply hk'
  refine Runs.ite (b := c78) (by simp [hh, dc73]) (fun dc78 => ?_) (fun dc78 => ?_)
  ·replace h := h.1 dc78
   refine zF fun k' hk' => ?_
   obtain ⟨hb80, h⟩ := h
   obtain ⟨l81, el81, h⟩ := atm h
   simp [hh, dc73, dc78, -appendF]
   refine bind_append [] [oI v69 l21] [[int v66]] [intC v66] sp kd_24 (by simp) (by simp) (by simp) (by simp [-one1, o1x]) (rows_one (Fill.v _ Fill.nil)) (by simp) (by simpa using hb80) ?_
   rintro v82 H83 n84 sp hfr85 hle86
   replace sp : Sep H83 n84 [oI v82 l81, oI v69 l21] [] := Sep.ap el81 sp
   simp [hh, dc73, dc78]
   apply hk'
   refine Runs.cut (fun ρ H n => ∃ (v88 v89 : AVal), (ρ 1 = int parent ∧ ρ 6 = v89 ∧ ρ 7 = v88 ∧ ρ 32 = .list false (b.sites.map intC) ∧ ρ 33 = int len55 ∧ ρ 34 = int v66) ∧ Sep H n [oI v88 l81, oI v89 l21] []) (by refine ⟨v82, v69, ?_, sp⟩ <;> simp [hh, dc73, dc78]) ?_
   clear hh
   rintro ρ H n90 ⟨v88, v89, hh, sp⟩
   refine Runs.inBlock ?_
   refine zF fun k' hk' => ?_
   obtain ⟨hb91, h⟩ := h
   obtain ⟨v92, ev92, h⟩ := atm h
   have f93 := ib_add hb91 ev92
   simp [hh, f93, -intBin]
   apply hk'
   refine IH71 (v92, l81) _ _ _ h (by refine ⟨v88, v89, ?_, sp⟩ <;> simp [hh])
  replace h := h.2 dc78
  refine Runs.skip ?_
  refine Runs.inBlock ?_
  refine zF fun k' hk' => ?_
  obtain ⟨hb94, h⟩ := h
  obtain ⟨v95, ev95, h⟩ := atm h
  have f96 := ib_add hb94 ev95
  simp [hh, f96, dc73, dc78, -intBin]
  apply hk'
  refine IH71 (v95, l67) _ _ _ h (by refine ⟨v68, v69, ?_, sp⟩ <;> simp [hh, dc73, dc78])
 replace h := h.2 dc73
 refine Runs.exit rfl ?_
 refine zE fun k' hk' => ?_
 simp [hh, dc73]
 apply hk'
 exact Runs.ret2 (v := v69) (w := v68) Tryz.func126 Tryz.results126 (by simp [hh, dc73]) (by simp [hh, dc73]) (hQ _ _ _ _ (Sep.sub (ids' := []) (Sep.packT (Fill.own (Fill.own Fill.nil)) sp.f1) (by simp)) ⟨(l21, l67), h, rfl⟩)
theorem childrenOf_ok (b : Big) (parent : Int) (hp : childrenOf_pre b parent) : OwnS Tryz.prog 126 [.agg (bC false b), int parent] (.t [.s [.c], .s [.c]]) (fun r => r = .tup [.list true (((childrenOf b parent).1).map intC), .list true (((childrenOf b parent).2).map intC)]) := (childrenOf_walk b parent _ (childrenOf_vc b parent hp)).mono (by rintro _ ⟨_, rfl, rfl⟩; rfl)
end Go.Ab.Vg
/- Walks by program for YtbpdcoahefnnkaaGreatDoorAbMa. -/
namespace Go.Ab.Vg
open Go.Proofs
set_option maxRecDepth 100000
set_option linter.unusedSimpArgs false
set_option linter.unusedVariables false
attribute [local simp] Control.cells GNode.cells Wire.cells intC intC2 sliceC strC bC pA
theorem e173 : Ent Tryz.prog 173 := Ent.of Tryz.func173 (by kernel_rfl) rfl
theorem l2Ports_walk (b : Big) (link : Int) (Z : (List (Int × Int)) → Prop) (h : l2Ports_wp b link Z) : OwnS Tryz.prog 173 [.agg (bC false b), int link] (.s [.c, .c]) (fun r => ∃ y : List (Int × Int), Z y ∧ r = .list true (y.map intC2)) := by
 unfold l2Ports_wp at h
 have sp : Sep noHeap 0 [] [] := Sep.nil (by simp)
 refine OwnS.of Tryz.func173 rfl Tryz.ntmps173 (by simp) fun Q hQ => ?_
 refine Runs.cut (fun ρ H n => (ρ 0 = .agg (bC false b) ∧ ρ 1 = int link) ∧ Sep H n [] []) (by refine ⟨?_, sp⟩ <;> simp ) ?_
 rintro ρ H n1 ⟨hh, sp⟩
 refine zE fun k' hk' => ?_
 simp [hh]
 apply hk'
 refine Runs.cut (fun ρ H n => (ρ 1 = int link ∧ ρ 2 = pA n1 2) ∧ H (n1, 2) = some ⟨6, [bC false b]⟩ ∧ Sep H n [] [(n1, 2)]) (by refine ⟨?_, ?_, sp.var⟩ <;> simp [hh]) ?_
 clear hh
 rintro ρ H n3 ⟨hh, m2_1, sp⟩
 refine zE fun k' hk' => ?_
 simp [hh, m2_1]
 apply hk'
 refine Runs.cut (fun ρ H n => ∃ (v5 : AVal), (ρ 1 = int link ∧ ρ 2 = pA n1 2 ∧ ρ 5 = v5) ∧ H (n1, 2) = some ⟨6, [bC false b]⟩ ∧ Sep H n [oE [.c, .c] intC2 v5 ([] : List (Int × Int))] [(n1, 2)]) (by refine ⟨.arr (n3, 8) 0 0 0, ?_, ?_, (Sep.addEmpty (l := [.c, .c]) sp)⟩ <;> simp [hh, m2_1]) ?_
 clear hh m2_1
 rintro ρ H n6 ⟨v5, hh, m2_1, sp⟩
 refine Runs.seq ?_
 refine zE fun k' hk' => ?_
 simp [hh, m2_1]
 apply hk'
 refine Runs.block ?_
 refine Runs.loopW h (fun (sJ : Int × (List (Int × Int))) ρ H n => match sJ with | (i14, l15) => ∃ (v16 : AVal), (ρ 1 = int link ∧ ρ 2 = pA n1 2 ∧ ρ 5 = v16 ∧ ρ 6 = int i14) ∧ H (n1, 2) = some ⟨6, [bC false b]⟩ ∧ Sep H n [oE [.c, .c] intC2 v16 l15] [(n1, 2)]) (by refine ⟨v5, ?_, ?_, sp⟩ <;> simp [hh, m2_1]) ?_
 clear hh m2_1
 rintro ⟨i14, l15⟩ ρ H n17 K h ⟨v16, hh, m2_1, sp⟩ IH18
 refine Runs.seq ?_
 refine zE fun k' hk' => ?_
 obtain ⟨len20, elen20, h⟩ := atm h
 have f21 := fun H => len_list (H := H) (fr := false) (f := (GNode.cells false)) kd_44 elen20
 obtain ⟨c22, ec22, h⟩ := atm h
 have f23 := ib_lss (k := .i64) ec22
 simp [hh, m2_1, f21, f23, -intBin, -lenF]
 apply hk'
 refine Runs.ite (b := c22) (by simp [hh, m2_1]) (fun dc22 => ?_) (fun dc22 => ?_)
 ·replace h := h.1 dc22
  refine Runs.skip ?_
  refine Runs.seq ?_
  refine Runs.block ?_
  refine zE fun k' hk' => ?_
  simp [hh, m2_1, dc22]
  apply hk'
  refine Runs.block ?_
  refine Runs.loopW h (fun (sJ : Int × (List (Int × Int))) ρ H n => match sJ with | (k31, l32) => ∃ (v33 : AVal), (ρ 1 = int link ∧ ρ 2 = pA n1 2 ∧ ρ 5 = v33 ∧ ρ 6 = int i14 ∧ ρ 7 = int k31) ∧ H (n1, 2) = some ⟨6, [bC false b]⟩ ∧ Sep H n [oE [.c, .c] intC2 v33 l32] [(n1, 2)]) (by refine ⟨v16, ?_, ?_, sp⟩ <;> simp [hh, m2_1, dc22]) ?_
  clear hh m2_1
  rintro ⟨k31, l32⟩ ρ H n34 K h ⟨v33, hh, m2_1, sp⟩ IH35
  refine Runs.seq ?_
  refine zE fun k' hk' => ?_
  obtain ⟨hb37, h⟩ := h
  obtain ⟨x38, ex38, h⟩ := atm h
  have f39 := fun H => ix_list (H := H) (fr := false) (f := (GNode.cells false)) (k := .i64) kd_44 (fun _ => rfl) hb37 ex38
  obtain ⟨len40, elen40, h⟩ := atm h
  have f41 := fun H => len_list (H := H) (fr := false) (f := intC) kd_24 elen40
  obtain ⟨c42, ec42, h⟩ := atm h
  have f43 := ib_lss (k := .i64) ec42
  simp [hh, m2_1, f39, f41, f43, -indexAddrF, -intBin, -lenF]
  apply hk'
  refine Runs.ite (b := c42) (by simp [hh, m2_1]) (fun dc42 => ?_) (fun dc42 => ?_)
  ·replace h := h.1 dc42
   refine Runs.skip ?_
   refine Runs.seq ?_
   refine Runs.block ?_
   refine zE fun k' hk' => ?_
   obtain ⟨hb44, h⟩ := h
   obtain ⟨x45, ex45, h⟩ := atm h
   have hq46 := ex38.trans ex45.symm
   subst hq46
   have f47 := fun H => ix_list (H := H) (fr := false) (f := (GNode.cells false)) (k := .i64) kd_44 (fun _ => rfl) hb44 ex38
   obtain ⟨hb48, h⟩ := h
   obtain ⟨x49, ex49, h⟩ := atm h
   have f50 := fun H => ix_list (H := H) (fr := false) (f := intC) (k := .i64) kd_24 (fun _ => rfl) hb48 ex49
   obtain ⟨c51, ec51, h⟩ := atm h
   have f52 := ib_eql (k := .i64) ec51
   simp [hh, m2_1, f47, f50, f52, dc42, -indexAddrF, -intBin]
   apply hk'
   refine Runs.cut (fun ρ H n => ∃ (v53 : AVal), (ρ 1 = int link ∧ ρ 2 = pA n1 2 ∧ ρ 5 = v53 ∧ ρ 6 = int i14 ∧ ρ 7 = int k31 ∧ ρ 37 = bool c51) ∧ H (n1, 2) = some ⟨6, [bC false b]⟩ ∧ Sep H n [oE [.c, .c] intC2 v53 l32] [(n1, 2)]) (by refine ⟨v33, ?_, ?_, sp⟩ <;> simp [hh, m2_1, f47, f50, f52, dc42, -indexAddrF, -intBin]) ?_
   clear hh m2_1
   rintro ρ H n54 ⟨v53, hh, m2_1, sp⟩
   refine Runs.ite (b := c51) (by simp [hh, m2_1]) (fun dc51 => ?_) (fun dc51 => ?_)
   ·replace h := h.1 dc51
    refine zF fun k' hk' => ?_
    obtain ⟨hb55, h⟩ := h
    obtain ⟨l56, el56, h⟩ := atm h
    simp [hh, m2_1, dc51, -appendF]
    refine bind_append [] [] [[int i14, int k31]] [intC2 (i14, k31)] sp kd_186 (by simp) (by simp) (by simp) (by simp [-one1, o1x]) (rows_one (Fill.v _ (Fill.v _ Fill.nil))) (by simp) (by simpa using hb55) ?_
    rintro v57 H58 n59 sp hfr60 hle61
    replace sp : Sep H58 n59 [oE [.c, .c] intC2 v57 l56] [(n1, 2)] := Sep.ap el56 sp
    have m2_1 : H58 (n1, 2) = some ⟨6, [bC false b]⟩ := (hfr60 _ (by simp)).trans (by simp [hh, m2_1, Heap.get_set])
    simp [hh, m2_1, dc51]
    apply hk'
    refine Runs.cut (fun ρ H n => ∃ (v63 : AVal), (ρ 1 = int link ∧ ρ 2 = pA n1 2 ∧ ρ 5 = v63 ∧ ρ 6 = int i14 ∧ ρ 7 = int k31) ∧ H (n1, 2) = some ⟨6, [bC false b]⟩ ∧ Sep H n [oE [.c, .c] intC2 v63 l56] [(n1, 2)]) (by refine ⟨v57, ?_, ?_, sp⟩ <;> simp [hh, m2_1, dc51]) ?_
    clear hh m2_1
    rintro ρ H n64 ⟨v63, hh, m2_1, sp⟩
    refine Runs.inBlock ?_
    refine zF fun k' hk' => ?_
    obtain ⟨hb65, h⟩ := h
    obtain ⟨v66, ev66, h⟩ := atm h
    have f67 := ib_add hb65 ev66
    simp [hh, m2_1, f67, -intBin]
    apply hk'
    refine IH35 (v66, l56) _ _ _ h (by refine ⟨v63, ?_, ?_, sp⟩ <;> simp [hh, m2_1])
   replace h := h.2 dc51
   refine Runs.skip ?_
   refine Runs.inBlock ?_
   refine zF fun k' hk' => ?_
   obtain ⟨hb68, h⟩ := h
   obtain ⟨v69, ev69, h⟩ := atm h
   have f70 := ib_add hb68 ev69
   simp [hh, m2_1, f70, dc51, -intBin]
   apply hk'
   refine IH35 (v69, l32) _ _ _ h (by refine ⟨v53, ?_, ?_, sp⟩ <;> simp [hh, m2_1, dc51])
  replace h := h.2 dc42
  refine Runs.exit rfl ?_
  refine Runs.inBlock ?_
  refine zF fun k' hk' => ?_
  obtain ⟨hb71, h⟩ := h
  obtain ⟨v72, ev72, h⟩ := atm h
  have f73 := ib_add hb71 ev72
  simp [hh, m2_1, f73, dc42, -intBin]
  apply hk'
  refine IH18 (v72, l32) _ _ _ h (by refine ⟨v33, ?_, ?_, sp⟩ <;> simp [hh, m2_1, dc42])
 replace h := h.2 dc22
 refine Runs.exit rfl ?_
 refine zE fun k' hk' => ?_
 simp [hh, m2_1, dc22]
 apply hk'
 exact Runs.ret1 (v := v16) Tryz.func173 Tryz.results173 (by simp [hh, m2_1, dc22]) (hQ _ _ _ _ (Sep.sub (ids' := []) sp (by simp)) ⟨l15, h, rfl⟩)
theorem l2Ports_ok (b : Big) (link : Int) (hp : l2Ports_pre b link) : OwnS Tryz.prog 173 [.agg (bC false b), int link] (.s [.c, .c]) (fun r => r = .list true ((l2Ports b link).map intC2)) := (l2Ports_walk b link _ (l2Ports_vc b link hp)).mono (by rintro _ ⟨_, rfl, rfl⟩; rfl)
theorem e183 : Ent Tryz.prog 183 := Ent.of Tryz.func183 (by kernel_rfl) rfl
theorem l2Ends_walk (b : Big) (link : Int) (Z : (List Str) → Prop) (h : l2Ends_wp b link Z) : OwnS Tryz.prog 183 [.agg (bC false b), int link] (.s [.c]) (fun r => ∃ y : List Str, Z y ∧ r = .list true (y.map strC)) := by
 unfold l2Ends_wp at h
 have sp : Sep noHeap 0 [] [] := Sep.nil (by simp)
 refine OwnS.of Tryz.func183 rfl Tryz.ntmps183 (by simp) fun Q hQ => ?_
 refine Runs.cut (fun ρ H n => (ρ 0 = .agg (bC false b) ∧ ρ 1 = int link) ∧ Sep H n [] []) (by refine ⟨?_, sp⟩ <;> simp ) ?_
 rintro ρ H n1 ⟨hh, sp⟩
 refine zE fun k' hk' => ?_
 simp [hh]
 apply hk'
 refine Runs.cut (fun ρ H n => (ρ 1 = int link ∧ ρ 2 = pA n1 2) ∧ H (n1, 2) = some ⟨6, [bC false b]⟩ ∧ Sep H n [] [(n1, 2)]) (by refine ⟨?_, ?_, sp.var⟩ <;> simp [hh]) ?_
 clear hh
 rintro ρ H n3 ⟨hh, m2_1, sp⟩
 refine zE fun k' hk' => ?_
 simp [hh, m2_1]
 apply hk'
 refine Runs.cut (fun ρ H n => ∃ (v5 : AVal), (ρ 1 = int link ∧ ρ 2 = pA n1 2 ∧ ρ 5 = v5) ∧ H (n1, 2) = some ⟨6, [bC false b]⟩ ∧ Sep H n [oS v5 ([] : List Str)] [(n1, 2)]) (by refine ⟨.arr (n3, 7) 0 0 0, ?_, ?_, (Sep.addEmpty (l := [.c]) sp)⟩ <;> simp [hh, m2_1]) ?_
 clear hh m2_1
 rintro ρ H n6 ⟨v5, hh, m2_1, sp⟩
 refine Runs.seq ?_
 refine zE fun k' hk' => ?_
 simp [hh, m2_1]
 apply hk'
 refine Runs.block ?_
 refine Runs.loopW h (fun (sJ : Int × (List Str)) ρ H n => match sJ with | (i14, l15) => ∃ (v16 : AVal), (ρ 1 = int link ∧ ρ 2 = pA n1 2 ∧ ρ 5 = v16 ∧ ρ 6 = int i14) ∧ H (n1, 2) = some ⟨6, [bC false b]⟩ ∧ Sep H n [oS v16 l15] [(n1, 2)]) (by refine ⟨v5, ?_, ?_, sp⟩ <;> simp [hh, m2_1]) ?_
 clear hh m2_1
 rintro ⟨i14, l15⟩ ρ H n17 K h ⟨v16, hh, m2_1, sp⟩ IH18
 refine Runs.seq ?_
 refine zE fun k' hk' => ?_
 obtain ⟨len20, elen20, h⟩ := atm h
 have f21 := fun H => len_list (H := H) (fr := false) (f := Wire.cells) kd_45 elen20
 obtain ⟨c22, ec22, h⟩ := atm h
 have f23 := ib_lss (k := .i64) ec22
 simp [hh, m2_1, f21, f23, -intBin, -lenF]
 apply hk'
 refine Runs.ite (b := c22) (by simp [hh, m2_1]) (fun dc22 => ?_) (fun dc22 => ?_)
 ·replace h := h.1 dc22
  refine Runs.skip ?_
  refine Runs.seq ?_
  refine Runs.block ?_
  refine zE fun k' hk' => ?_
  obtain ⟨hb24, h⟩ := h
  obtain ⟨x25, ex25, h⟩ := atm h
  have f26 := fun H => ix_list (H := H) (fr := false) (f := Wire.cells) (k := .i64) kd_45 (fun _ => rfl) hb24 ex25
  obtain ⟨c27, ec27, h⟩ := atm h
  have f28 := ib_eql (k := .i64) ec27
  simp [hh, m2_1, f26, f28, dc22, -indexAddrF, -intBin]
  apply hk'
  refine Runs.ite (b := c27) (by simp [hh, m2_1, dc22]) (fun dc27 => ?_) (fun dc27 => ?_)
  ·replace h := h.1 dc27
   refine zF fun k' hk' => ?_
   obtain ⟨hb29, h⟩ := h
   obtain ⟨x30, ex30, h⟩ := atm h
   have hq31 := ex25.trans ex30.symm
   subst hq31
   have f32 := fun H => ix_list (H := H) (fr := false) (f := Wire.cells) (k := .i64) kd_45 (fun _ => rfl) hb29 ex25
   obtain ⟨hb33, h⟩ := h
   obtain ⟨l34, el34, h⟩ := atm h
   simp [hh, m2_1, f32, dc22, dc27, -indexAddrF, -appendF]
   refine bind_append [] [] [[str x25.name]] [strC x25.name] sp kd_25 (by simp) (by simp) (by simp) (by simp [-one1, o1x]) (rows_one (Fill.v _ Fill.nil)) (by simp) (by simpa using hb33) ?_
   rintro v35 H36 n37 sp hfr38 hle39
   replace sp : Sep H36 n37 [oS v35 l34] [(n1, 2)] := Sep.ap el34 sp
   have m2_1 : H36 (n1, 2) = some ⟨6, [bC false b]⟩ := (hfr38 _ (by simp)).trans (by simp [hh, m2_1, Heap.get_set])
   simp [hh, m2_1, f32, dc22, dc27, -indexAddrF]
   apply hk'
   refine Runs.cut (fun ρ H n => ∃ (v41 : AVal), (ρ 1 = int link ∧ ρ 2 = pA n1 2 ∧ ρ 5 = v41 ∧ ρ 6 = int i14) ∧ H (n1, 2) = some ⟨6, [bC false b]⟩ ∧ Sep H n [oS v41 l34] [(n1, 2)]) (by refine ⟨v35, ?_, ?_, sp⟩ <;> simp [hh, m2_1, f32, dc22, dc27, -indexAddrF]) ?_
   clear hh m2_1
   rintro ρ H n42 ⟨v41, hh, m2_1, sp⟩
   refine Runs.inBlock ?_
   refine zF fun k' hk' => ?_
   obtain ⟨hb43, h⟩ := h
   obtain ⟨v44, ev44, h⟩ := atm h
   have f45 := ib_add hb43 ev44
   simp [hh, m2_1, f45, -intBin]
   apply hk'
   refine IH18 (v44, l34) _ _ _ h (by refine ⟨v41, ?_, ?_, sp⟩ <;> simp [hh, m2_1])
  replace h := h.2 dc27
  refine Runs.skip ?_
  refine Runs.inBlock ?_
  refine zF fun k' hk' => ?_
  obtain ⟨hb46, h⟩ := h
  obtain ⟨v47, ev47, h⟩ := atm h
  have f48 := ib_add hb46 ev47
  simp [hh, m2_1, f48, dc22, dc27, -intBin]
  apply hk'
  refine Runs.cut (fun ρ H n => ∃ (v49 : AVal), (ρ 1 = int link ∧ ρ 2 = pA n1 2 ∧ ρ 5 = v49 ∧ ρ 6 = int v47) ∧ H (n1, 2) = some ⟨6, [bC false b]⟩ ∧ Sep H n [oS v49 l15] [(n1, 2)]) (by refine ⟨v16, ?_, ?_, sp⟩ <;> simp [hh, m2_1, f48, dc22, dc27, -intBin]) ?_
  clear hh m2_1
  rintro ρ H n50 ⟨v49, hh, m2_1, sp⟩
  refine IH18 (v47, l15) _ _ _ h (by refine ⟨v49, ?_, ?_, sp⟩ <;> simp [hh, m2_1])
 replace h := h.2 dc22
 refine Runs.exit rfl ?_
 refine zE fun k' hk' => ?_
 simp [hh, m2_1, dc22]
 apply hk'
 exact Runs.ret1 (v := v16) Tryz.func183 Tryz.results183 (by simp [hh, m2_1, dc22]) (hQ _ _ _ _ (Sep.sub (ids' := []) sp (by simp)) ⟨l15, h, rfl⟩)
theorem l2Ends_ok (b : Big) (link : Int) (hp : l2Ends_pre b link) : OwnS Tryz.prog 183 [.agg (bC false b), int link] (.s [.c]) (fun r => r = .list true ((l2Ends b link).map strC)) := (l2Ends_walk b link _ (l2Ends_vc b link hp)).mono (by rintro _ ⟨_, rfl, rfl⟩; rfl)
theorem e169 : Ent Tryz.prog 169 := Ent.of Tryz.func169 (by kernel_rfl) rfl
theorem pointsOf_walk (b : Big) (link : Int) (Z : ((List (Int × Int)) × (List Str)) → Prop) (h : pointsOf_wp b link Z) : OwnS Tryz.prog 169 [.agg (bC false b), int link] (.t [.s [.c, .c], .s [.c]]) (fun r => ∃ y : (List (Int × Int)) × (List Str), Z y ∧ r = .tup [.list true (y.1.map intC2), .list true (y.2.map strC)]) := by
 unfold pointsOf_wp at h
 have sp : Sep noHeap 0 [] [] := Sep.nil (by simp)
 refine OwnS.of Tryz.func169 rfl Tryz.ntmps169 (by simp) fun Q hQ => ?_
 refine Runs.cut (fun ρ H n => (ρ 0 = .agg (bC false b) ∧ ρ 1 = int link) ∧ Sep H n [] []) (by refine ⟨?_, sp⟩ <;> simp ) ?_
 rintro ρ H n1 ⟨hh, sp⟩
 refine zE fun k' hk' => ?_
 simp [hh]
 apply hk'
 refine Runs.cut (fun ρ H n => (ρ 1 = int link ∧ ρ 2 = pA n1 2) ∧ H (n1, 2) = some ⟨6, [bC false b]⟩ ∧ Sep H n [] [(n1, 2)]) (by refine ⟨?_, ?_, sp.var⟩ <;> simp [hh]) ?_
 clear hh
 rintro ρ H n3 ⟨hh, m2_1, sp⟩
 refine zE fun k' hk' => ?_
 simp [hh, m2_1]
 apply hk'
 refine Runs.cut (fun ρ H n => ∃ (v6 v7 : AVal), (ρ 1 = int link ∧ ρ 2 = pA n1 2 ∧ ρ 6 = v7 ∧ ρ 7 = v6) ∧ H (n1, 2) = some ⟨6, [bC false b]⟩ ∧ Sep H n [oS v6 ([] : List Str), oE [.c, .c] intC2 v7 ([] : List (Int × Int))] [(n1, 2)]) (by refine ⟨.arr (n3 + 1, 15) 0 0 0, .arr (n3, 14) 0 0 0, ?_, ?_, (Sep.addEmpty (l := [.c]) (Sep.addEmpty (l := [.c, .c]) sp))⟩ <;> simp [hh, m2_1]) ?_
 clear hh m2_1
 rintro ρ H n8 ⟨v6, v7, hh, m2_1, sp⟩
 refine Runs.seq ?_
 refine zE fun k' hk' => ?_
 obtain ⟨len9, elen9, h⟩ := atm h
 have f10 := fun H => len_list (H := H) (fr := false) (f := (GNode.cells false)) kd_44 elen9
 simp [hh, m2_1, f10, -lenF]
 apply hk'
 refine Runs.block ?_
 refine Runs.loopW h (fun (sJ : Int × (List (Int × Int))) ρ H n => match sJ with | (v20, l21) => ∃ (v22 v23 : AVal), (ρ 1 = int link ∧ ρ 2 = pA n1 2 ∧ ρ 6 = v23 ∧ ρ 7 = v22 ∧ ρ 17 = .list false (b.nodes.map (GNode.cells false)) ∧ ρ 18 = int len9 ∧ ρ 19 = int v20) ∧ H (n1, 2) = some ⟨6, [bC false b]⟩ ∧ Sep H n [oS v22 ([] : List Str), oE [.c, .c] intC2 v23 l21] [(n1, 2)]) (by refine ⟨v6, v7, ?_, ?_, sp⟩ <;> simp [hh, m2_1]) ?_
 clear hh m2_1
 rintro ⟨v20, l21⟩ ρ H n24 K h ⟨v22, v23, hh, m2_1, sp⟩ IH25
 refine zE fun k' hk' => ?_
 obtain ⟨c27, ec27, h⟩ := atm h
 have f28 := ib_lss (k := .i64) ec27
 simp [hh, m2_1, f28, -intBin]
 apply hk'
 refine Runs.seq ?_
 refine Runs.ite (b := c27) (by simp [hh, m2_1]) (fun dc27 => ?_) (fun dc27 => ?_)
 ·replace h := h.1 dc27
  refine Runs.skip ?_
  refine Runs.seq ?_
  refine Runs.block ?_
  refine zE fun k' hk' => ?_
  obtain ⟨hb29, h⟩ := h
  obtain ⟨x30, ex30, h⟩ := atm h
  have f31 := fun H => ix_list (H := H) (fr := false) (f := (GNode.cells false)) (k := .i64) kd_44 (fun _ => rfl) hb29 ex30
  simp [hh, m2_1, f31, dc27, -indexAddrF]
  apply hk'
  refine Runs.cut (fun ρ H n => ∃ (v33 v34 : AVal), (ρ 1 = int link ∧ ρ 2 = pA n1 2 ∧ ρ 6 = v34 ∧ ρ 7 = v33 ∧ ρ 8 = int v20 ∧ ρ 9 = pA n24 9 ∧ ρ 17 = .list false (b.nodes.map (GNode.cells false)) ∧ ρ 18 = int len9 ∧ ρ 19 = int v20) ∧ H (n1, 2) = some ⟨6, [bC false b]⟩ ∧ H (n24, 9) = some ⟨3, [[int x30.control, int x30.parent, .list false (x30.links.map intC)]]⟩ ∧ Sep H n [oS v33 ([] : List Str), oE [.c, .c] intC2 v34 l21] [(n24, 9), (n1, 2)]) (by refine ⟨v22, v23, ?_, ?_, ?_, sp.var⟩ <;> simp [hh, m2_1, f31, dc27, -indexAddrF]) ?_
  clear hh m2_1
  rintro ρ H n35 ⟨v33, v34, hh, m2_1, m9_31, sp⟩
  refine zE fun k' hk' => ?_
  obtain ⟨len36, elen36, h⟩ := atm h
  have f37 := fun H => len_list (H := H) (fr := false) (f := intC) kd_24 elen36
  simp [hh, m2_1, m9_31, f37, -lenF]
  apply hk'
  refine Runs.block ?_
  refine Runs.loopW h (fun (sJ : Int × (List (Int × Int))) ρ H n => match sJ with | (v47, l48) => ∃ (v49 v50 : AVal), (ρ 1 = int link ∧ ρ 2 = pA n1 2 ∧ ρ 6 = v50 ∧ ρ 7 = v49 ∧ ρ 8 = int v20 ∧ ρ 17 = .list false (b.nodes.map (GNode.cells false)) ∧ ρ 18 = int len9 ∧ ρ 19 = int v20 ∧ ρ 25 = .list false (x30.links.map intC) ∧ ρ 26 = int len36 ∧ ρ 27 = int v47) ∧ H (n1, 2) = some ⟨6, [bC false b]⟩ ∧ Sep H n [oS v49 ([] : List Str), oE [.c, .c] intC2 v50 l48] [(n1, 2)]) (by refine ⟨v33, v34, ?_, ?_, (Sep.sub sp (by simp +contextual))⟩ <;> simp [hh, m2_1, m9_31]) ?_
  clear hh m2_1 m9_31
  rintro ⟨v47, l48⟩ ρ H n51 K h ⟨v49, v50, hh, m2_1, sp⟩ IH52
  refine zE fun k' hk' => ?_
  obtain ⟨c54, ec54, h⟩ := atm h
  have f55 := ib_lss (k := .i64) ec54
  simp [hh, m2_1, f55, -intBin]
  apply hk'
  refine Runs.seq ?_
  refine Runs.ite (b := c54) (by simp [hh, m2_1]) (fun dc54 => ?_) (fun dc54 => ?_)
  ·replace h := h.1 dc54
   refine Runs.skip ?_
   refine Runs.seq ?_
   refine Runs.block ?_
   refine zE fun k' hk' => ?_
   obtain ⟨hb56, h⟩ := h
   obtain ⟨x57, ex57, h⟩ := atm h
   have f58 := fun H => ix_list (H := H) (fr := false) (f := intC) (k := .i64) kd_24 (fun _ => rfl) hb56 ex57
   simp [hh, m2_1, f58, dc54, -indexAddrF]
   apply hk'
   refine zE fun k' hk' => ?_
   obtain ⟨c59, ec59, h⟩ := atm h
   have f60 := ib_eql (k := .i64) ec59
   simp [hh, m2_1, f60, dc54, -intBin]
   apply hk'
   refine Runs.ite (b := c59) (by simp [hh, m2_1, dc54]) (fun dc59 => ?_) (fun dc59 => ?_)
   ·replace h := h.1 dc59
    refine zF fun k' hk' => ?_
    obtain ⟨hb61, h⟩ := h
    obtain ⟨l62, el62, h⟩ := atm h
    simp [hh, m2_1, dc54, dc59, -appendF]
    refine bind_append [] [oS v49 ([] : List Str)] [[int v20, int v47]] [intC2 (v20, v47)] sp.f1 kd_186 (by simp) (by simp) (by simp) (by simp [-one1, o1x]) (rows_one (Fill.v _ (Fill.v _ Fill.nil))) (by simp) (by simpa using hb61) ?_
    rintro v63 H64 n65 sp hfr66 hle67
    replace sp : Sep H64 n65 [oE [.c, .c] intC2 v63 l62, oS v49 ([] : List Str)] [(n1, 2)] := Sep.ap el62 sp
    have m2_1 : H64 (n1, 2) = some ⟨6, [bC false b]⟩ := (hfr66 _ (by simp)).trans (by simp [hh, m2_1, Heap.get_set])
    simp [hh, m2_1, dc54, dc59]
    apply hk'
    refine Runs.cut (fun ρ H n => ∃ (v69 v70 : AVal), (ρ 1 = int link ∧ ρ 2 = pA n1 2 ∧ ρ 6 = v69 ∧ ρ 7 = v70 ∧ ρ 8 = int v20 ∧ ρ 17 = .list false (b.nodes.map (GNode.cells false)) ∧ ρ 18 = int len9 ∧ ρ 19 = int v20 ∧ ρ 25 = .list false (x30.links.map intC) ∧ ρ 26 = int len36 ∧ ρ 27 = int v47) ∧ H (n1, 2) = some ⟨6, [bC false b]⟩ ∧ Sep H n [oE [.c, .c] intC2 v69 l62, oS v70 ([] : List Str)] [(n1, 2)]) (by refine ⟨v63, v49, ?_, ?_, sp⟩ <;> simp [hh, m2_1, dc54, dc59]) ?_
    clear hh m2_1
    rintro ρ H n71 ⟨v69, v70, hh, m2_1, sp⟩
    refine Runs.inBlock ?_
    refine zF fun k' hk' => ?_
    obtain ⟨hb72, h⟩ := h
    obtain ⟨v73, ev73, h⟩ := atm h
    have f74 := ib_add hb72 ev73
    simp [hh, m2_1, f74, -intBin]
    apply hk'
    refine IH52 (v73, l62) _ _ _ h (by refine ⟨v70, v69, ?_, ?_, sp.f1⟩ <;> simp [hh, m2_1])
   replace h := h.2 dc59
   refine Runs.skip ?_
   refine Runs.inBlock ?_
   refine zF fun k' hk' => ?_
   obtain ⟨hb75, h⟩ := h
   obtain ⟨v76, ev76, h⟩ := atm h
   have f77 := ib_add hb75 ev76
   simp [hh, m2_1, f77, dc54, dc59, -intBin]
   apply hk'
   refine IH52 (v76, l48) _ _ _ h (by refine ⟨v49, v50, ?_, ?_, sp⟩ <;> simp [hh, m2_1, dc54, dc59])
  replace h := h.2 dc54
  refine Runs.exit rfl ?_
  refine Runs.inBlock ?_
  refine zF fun k' hk' => ?_
  obtain ⟨hb78, h⟩ := h
  obtain ⟨v79, ev79, h⟩ := atm h
  have f80 := ib_add hb78 ev79
  simp [hh, m2_1, f80, dc54, -intBin]
  apply hk'
  refine IH25 (v79, l48) _ _ _ h (by refine ⟨v49, v50, ?_, ?_, sp⟩ <;> simp [hh, m2_1, dc54])
 replace h := h.2 dc27
 refine Runs.exit rfl ?_
 refine Runs.seq ?_
 refine zE fun k' hk' => ?_
 obtain ⟨len81, elen81, h⟩ := atm h
 have f82 := fun H => len_list (H := H) (fr := false) (f := Wire.cells) kd_45 elen81
 simp [hh, m2_1, f82, dc27, -lenF]
 apply hk'
 refine Runs.block ?_
 refine Runs.loopW h (fun (sJ : Int × (List Str)) ρ H n => match sJ with | (v92, l93) => ∃ (v94 v95 : AVal), (ρ 1 = int link ∧ ρ 6 = v95 ∧ ρ 7 = v94 ∧ ρ 44 = .list false (b.inner.map Wire.cells) ∧ ρ 45 = int len81 ∧ ρ 46 = int v92) ∧ Sep H n [oS v94 l93, oE [.c, .c] intC2 v95 l21] []) (by refine ⟨v22, v23, ?_, (Sep.sub sp (by simp +contextual))⟩ <;> simp [hh, m2_1, dc27]) ?_
 clear hh m2_1
 rintro ⟨v92, l93⟩ ρ H n96 K h ⟨v94, v95, hh, sp⟩ IH97
 refine zE fun k' hk' => ?_
 obtain ⟨c99, ec99, h⟩ := atm h
 have f100 := ib_lss (k := .i64) ec99
 simp [hh, f100, -intBin]
 apply hk'
 refine Runs.seq ?_
 refine Runs.ite (b := c99) (by simp [hh]) (fun dc99 => ?_) (fun dc99 => ?_)
 ·replace h := h.1 dc99
  refine Runs.skip ?_
  refine Runs.seq ?_
  refine Runs.block ?_
  refine zE fun k' hk' => ?_
  obtain ⟨hb101, h⟩ := h
  obtain ⟨x102, ex102, h⟩ := atm h
  have f103 := fun H => ix_list (H := H) (fr := false) (f := Wire.cells) (k := .i64) kd_45 (fun _ => rfl) hb101 ex102
  simp [hh, f103, dc99, -indexAddrF]
  apply hk'
  refine Runs.cut (fun ρ H n => ∃ (v105 v106 : AVal), (ρ 1 = int link ∧ ρ 6 = v106 ∧ ρ 7 = v105 ∧ ρ 13 = pA n96 13 ∧ ρ 44 = .list false (b.inner.map Wire.cells) ∧ ρ 45 = int len81 ∧ ρ 46 = int v92) ∧ H (n96, 13) = some ⟨2, [[str x102.name, int x102.link]]⟩ ∧ Sep H n [oS v105 l93, oE [.c, .c] intC2 v106 l21] [(n96, 13)]) (by refine ⟨v94, v95, ?_, ?_, sp.var⟩ <;> simp [hh, f103, dc99, -indexAddrF]) ?_
  clear hh
  rintro ρ H n107 ⟨v105, v106, hh, m13_103, sp⟩
  refine zE fun k' hk' => ?_
  obtain ⟨c108, ec108, h⟩ := atm h
  have f109 := ib_eql (k := .i64) ec108
  simp [hh, m13_103, f109, -intBin]
  apply hk'
  refine Runs.ite (b := c108) (by simp [hh, m13_103]) (fun dc108 => ?_) (fun dc108 => ?_)
  ·replace h := h.1 dc108
   refine zF fun k' hk' => ?_
   obtain ⟨hb110, h⟩ := h
   obtain ⟨l111, el111, h⟩ := atm h
   simp [hh, m13_103, dc108, -appendF]
   refine bind_append [] [oE [.c, .c] intC2 v106 l21] [[str x102.name]] [strC x102.name] sp kd_25 (by simp) (by simp) (by simp) (by simp [-one1, o1x]) (rows_one (Fill.v _ Fill.nil)) (by simp) (by simpa using hb110) ?_
   rintro v112 H113 n114 sp hfr115 hle116
   replace sp : Sep H113 n114 [oS v112 l111, oE [.c, .c] intC2 v106 l21] [(n96, 13)] := Sep.ap el111 sp
   have m13_103 : H113 (n96, 13) = some ⟨2, [[str x102.name, int x102.link]]⟩ := (hfr115 _ (by simp)).trans (by simp [hh, m13_103, Heap.get_set])
   simp [hh, m13_103, dc108]
   apply hk'
   refine Runs.cut (fun ρ H n => ∃ (v118 v119 : AVal), (ρ 1 = int link ∧ ρ 6 = v119 ∧ ρ 7 = v118 ∧ ρ 44 = .list false (b.inner.map Wire.cells) ∧ ρ 45 = int len81 ∧ ρ 46 = int v92) ∧ Sep H n [oS v118 l111, oE [.c, .c] intC2 v119 l21] []) (by refine ⟨v112, v106, ?_, (Sep.sub sp (by simp +contextual))⟩ <;> simp [hh, m13_103, dc108]) ?_
   clear hh m13_103
   rintro ρ H n120 ⟨v118, v119, hh, sp⟩
   refine Runs.inBlock ?_
   refine zF fun k' hk' => ?_
   obtain ⟨hb121, h⟩ := h
   obtain ⟨v122, ev122, h⟩ := atm h
   have f123 := ib_add hb121 ev122
   simp [hh, f123, -intBin]
   apply hk'
   refine IH97 (v122, l111) _ _ _ h (by refine ⟨v118, v119, ?_, sp⟩ <;> simp [hh])
  replace h := h.2 dc108
  refine Runs.skip ?_
  refine Runs.inBlock ?_
  refine zF fun k' hk' => ?_
  obtain ⟨hb124, h⟩ := h
  obtain ⟨v125, ev125, h⟩ := atm h
  have f126 := ib_add hb124 ev125
  simp [hh, m13_103, f126, dc108, -intBin]
  apply hk'
  refine IH97 (v125, l93) _ _ _ h (by refine ⟨v105, v106, ?_, (Sep.sub sp (by simp +contextual))⟩ <;> simp [hh, m13_103, dc108])
 replace h := h.2 dc99
 refine Runs.exit rfl ?_
 refine zE fun k' hk' => ?_
 simp [hh, dc99]
 apply hk'
 exact Runs.ret2 (v := v95) (w := v94) Tryz.func169 Tryz.results169 (by simp [hh, dc99]) (by simp [hh, dc99]) (hQ _ _ _ _ (Sep.sub (ids' := []) (Sep.packT (Fill.own (Fill.own Fill.nil)) sp.f1) (by simp)) ⟨(l21, l93), h, rfl⟩)
theorem pointsOf_ok (b : Big) (link : Int) (hp : pointsOf_pre b link) : OwnS Tryz.prog 169 [.agg (bC false b), int link] (.t [.s [.c, .c], .s [.c]]) (fun r => r = .tup [.list true (((pointsOf b link).1).map intC2), .list true (((pointsOf b link).2).map strC)]) := (pointsOf_walk b link _ (pointsOf_vc b link hp)).mono (by rintro _ ⟨_, rfl, rfl⟩; rfl)
theorem e162 : Ent Tryz.prog 162 := Ent.of Tryz.func162 (by kernel_rfl) rfl
theorem l2Idle_walk (b : Big) (link : Int) (Z : Bool → Prop) (h : l2Idle_wp b link Z) : PureC Tryz.prog 162 [.agg (bC false b), int link] (fun r => ∃ y : Bool, Z y ∧ r = bool y) := by
 unfold l2Idle_wp at h
 refine PureC.of Tryz.func162 rfl Tryz.ntmps162 (by simp) fun Q hQ => ?_
 refine Runs.cut (fun ρ H n => (ρ 0 = .agg (bC false b) ∧ ρ 1 = int link)) (by simp) ?_
 rintro ρ H n1 hh
 refine zE fun k' hk' => ?_
 simp [hh]
 apply hk'
 refine Runs.cut (fun ρ H n => (ρ 1 = int link ∧ ρ 2 = pA n1 2) ∧ H (n1, 2) = some ⟨6, [bC false b]⟩) (by refine ⟨?_, ?_⟩ <;> simp [hh]) ?_
 clear hh
 rintro ρ H n3 ⟨hh, m2_1⟩
 refine zE fun k' hk' => ?_
 obtain ⟨J4, hJ5, hr6⟩ := h
 have fin8 : ∀ (sJ : Bool) (ρ : Env) (H : Heap) (n : Nat), J4 sJ → (match sJ with | b7 => ρ 4 = bool b7) → Runs Tryz.prog 162 17 k' ρ H n Q := by
  rintro b7 ρ H n9 h hh
  replace h := hr6 _ h
  apply hk'
  exact Runs.ret1 (v := bool b7) Tryz.func162 Tryz.results162 (by simp [hh]) (hQ _ _ _ _ (.of (.v _)) ⟨b7, h, rfl⟩)
 replace h := hJ5
 obtain ⟨hb10, h⟩ := h
 obtain ⟨r11, er11, h⟩ := atm h
 simp [hh, m2_1]
 refine RunK.callA Ty_ok ((l2Ports_ok b link hb10).pure) e173 (.cons (argB false b) (.cons (.v _ _ _) .nil)) (by decide) (by decide) rfl (by simp [hh, m2_1]) ?_
 rintro _ rfl
 rw [← er11]
 obtain ⟨len12, elen12, h⟩ := atm h
 have f13 := fun H => len_list (H := H) (fr := true) (f := intC2) kd_186 elen12
 obtain ⟨c14, ec14, h⟩ := atm h
 have f15 := ib_eql (k := .i64) ec14
 rcases Bool.eq_false_or_eq_true c14 with dc14 | dc14
 ·replace h := h.1 dc14
  obtain ⟨hb16, h⟩ := h
  obtain ⟨r17, er17, h⟩ := atm h
  simp [hh, m2_1, f13, f15, dc14, -intBin, -lenF]
  refine RunK.callA Ty_ok ((l2Ends_ok b link hb16).pure) e183 (.cons (argB false b) (.cons (.v _ _ _) .nil)) (by decide) (by decide) rfl (by simp [hh, m2_1, f13, f15, dc14, -intBin, -lenF]) ?_
  rintro _ rfl
  rw [← er17]
  obtain ⟨len18, elen18, h⟩ := atm h
  have f19 := fun H => len_list (H := H) (fr := true) (f := strC) kd_25 elen18
  obtain ⟨c20, ec20, h⟩ := atm h
  have f21 := ib_eql (k := .i64) ec20
  simp [hh, m2_1, f13, f15, f19, f21, dc14, -intBin, -lenF]
  exact fin8 (c20) _ _ _ h (by simp [hh, m2_1, f13, f15, f19, f21, dc14, -intBin, -lenF])
 replace h := h.2 dc14
 simp [hh, m2_1, f13, f15, dc14, -intBin, -lenF]
 exact fin8 (false) _ _ _ h (by simp [hh, m2_1, f13, f15, dc14, -intBin, -lenF])
theorem l2Idle_ok (b : Big) (link : Int) (hp : l2Idle_pre b link) : PureC Tryz.prog 162 [.agg (bC false b), int link] (fun r => r = bool (l2Idle b link)) := (l2Idle_walk b link _ (l2Idle_vc b link hp)).mono (by rintro _ ⟨_, rfl, rfl⟩; rfl)
theorem e127 : Ent Tryz.prog 127 := Ent.of Tryz.func127 (by kernel_rfl) rfl
theorem isIdle_walk (b : Big) (link : Int) (Z : Bool → Prop) (h : isIdle_wp b link Z) : PureC Tryz.prog 127 [.agg (bC false b), int link] (fun r => ∃ y : Bool, Z y ∧ r = bool y) := by
 unfold isIdle_wp at h
 refine PureC.of Tryz.func127 rfl Tryz.ntmps127 (by simp) fun Q hQ => ?_
 refine Runs.cut (fun ρ H n => (ρ 0 = .agg (bC false b) ∧ ρ 1 = int link)) (by simp) ?_
 rintro ρ H n1 hh
 refine zE fun k' hk' => ?_
 simp [hh]
 apply hk'
 refine Runs.cut (fun ρ H n => (ρ 1 = int link ∧ ρ 2 = pA n1 2) ∧ H (n1, 2) = some ⟨6, [bC false b]⟩) (by refine ⟨?_, ?_⟩ <;> simp [hh]) ?_
 clear hh
 rintro ρ H n3 ⟨hh, m2_1⟩
 refine zE fun k' hk' => ?_
 obtain ⟨hb4, h⟩ := h
 obtain ⟨r5, er5, h⟩ := atm h
 simp [hh, m2_1]
 refine RunK.callA Ty_ok ((pointsOf_ok b link hb4).pure) e169 (.cons (argB false b) (.cons (.v _ _ _) .nil)) (by decide) (by decide) rfl (by simp [hh, m2_1]) ?_
 rintro _ rfl
 rw [← er5]
 simp [hh, m2_1]
 apply hk'
 refine zE fun k' hk' => ?_
 obtain ⟨len6, elen6, h⟩ := atm h
 have f7 := fun H => len_list (H := H) (fr := true) (f := intC2) kd_186 elen6
 obtain ⟨len8, elen8, h⟩ := atm h
 have f9 := fun H => len_list (H := H) (fr := true) (f := strC) kd_25 elen8
 obtain ⟨hb10, h⟩ := h
 obtain ⟨v11, ev11, h⟩ := atm h
 have f12 := ib_add hb10 ev11
 obtain ⟨c13, ec13, h⟩ := atm h
 have f14 := ib_eql (k := .i64) ec13
 simp [hh, m2_1, f7, f9, f12, f14, -intBin, -lenF]
 apply hk'
 refine Runs.cut (fun ρ H n => ρ 4 = bool c13) (by simp [hh, m2_1, f7, f9, f12, f14, -intBin, -lenF]) ?_
 clear hh m2_1
 rintro ρ H n15 hh
 exact Runs.ret1 (v := bool c13) Tryz.func127 Tryz.results127 (by simp [hh]) (hQ _ _ _ _ (.of (.v _)) ⟨c13, h, rfl⟩)
theorem isIdle_ok (b : Big) (link : Int) (hp : isIdle_pre b link) : PureC Tryz.prog 127 [.agg (bC false b), int link] (fun r => r = bool (isIdle b link)) := (isIdle_walk b link _ (isIdle_vc b link hp)).mono (by rintro _ ⟨_, rfl, rfl⟩; rfl)
theorem e129 : Ent Tryz.prog 129 := Ent.of Tryz.func129 (by kernel_rfl) rfl
theorem isClosedB_walk (b : Big) (Z : Bool → Prop) (h : isClosedB_wp b Z) : PureC Tryz.prog 129 [.agg (bC false b)] (fun r => ∃ y : Bool, Z y ∧ r = bool y) := by
 unfold isClosedB_wp at h
 refine PureC.of Tryz.func129 rfl Tryz.ntmps129 (by simp) fun Q hQ => ?_
 refine Runs.cut (fun ρ H n => ρ 0 = .agg (bC false b)) (by simp) ?_
 rintro ρ H n1 hh
 refine zE fun k' hk' => ?_
 simp [hh]
 apply hk'
 refine Runs.cut (fun ρ H n => ρ 1 = pA n1 1 ∧ H (n1, 1) = some ⟨6, [bC false b]⟩) (by refine ⟨?_, ?_⟩ <;> simp [hh]) ?_
 clear hh
 rintro ρ H n3 ⟨hh, m1_1⟩
 refine zE fun k' hk' => ?_
 obtain ⟨J4, hJ5, hr6⟩ := h
 have fin8 : ∀ (sJ : Bool) (ρ : Env) (H : Heap) (n : Nat), J4 sJ → (match sJ with | b7 => ρ 2 = bool b7) → Runs Tryz.prog 129 13 k' ρ H n Q := by
  rintro b7 ρ H n9 h hh
  replace h := hr6 _ h
  apply hk'
  exact Runs.ret1 (v := bool b7) Tryz.func129 Tryz.results129 (by simp [hh]) (hQ _ _ _ _ (.of (.v _)) ⟨b7, h, rfl⟩)
 replace h := hJ5
 obtain ⟨len10, elen10, h⟩ := atm h
 have f11 := fun H => len_list (H := H) (fr := false) (f := intC) kd_24 elen10
 obtain ⟨c12, ec12, h⟩ := atm h
 have f13 := ib_eql (k := .i64) ec12
 rcases Bool.eq_false_or_eq_true c12 with dc12 | dc12
 ·replace h := h.1 dc12
  obtain ⟨len14, elen14, h⟩ := atm h
  have f15 := fun H => len_list (H := H) (fr := false) (f := Wire.cells) kd_45 elen14
  obtain ⟨c16, ec16, h⟩ := atm h
  have f17 := ib_eql (k := .i64) ec16
  simp [hh, m1_1, f11, f13, f15, f17, dc12, -intBin, -lenF]
  exact fin8 (c16) _ _ _ h (by simp [hh, m1_1, f11, f13, f15, f17, dc12, -intBin, -lenF])
 replace h := h.2 dc12
 simp [hh, m1_1, f11, f13, dc12, -intBin, -lenF]
 exact fin8 (false) _ _ _ h (by simp [hh, m1_1, f11, f13, dc12, -intBin, -lenF])
theorem isClosedB_ok (b : Big) (hp : isClosedB_pre b) : PureC Tryz.prog 129 [.agg (bC false b)] (fun r => r = bool (isClosedB b)) := (isClosedB_walk b _ (isClosedB_vc b hp)).mono (by rintro _ ⟨_, rfl, rfl⟩; rfl)
theorem e74 : Ent Tryz.prog 74 := Ent.of Tryz.func74 (by kernel_rfl) rfl
theorem agentB_walk (sig : List Control) (b : Big) (Z : Bool → Prop) (h : agentB_wp sig b Z) : PureC Tryz.prog 74 [.list false (sig.map Control.cells), .agg (bC false b)] (fun r => ∃ y : Bool, Z y ∧ r = bool y) := by
 unfold agentB_wp at h
 refine PureC.of Tryz.func74 rfl Tryz.ntmps74 (by simp) fun Q hQ => ?_
 refine Runs.cut (fun ρ H n => (ρ 0 = .list false (sig.map Control.cells) ∧ ρ 1 = .agg (bC false b))) (by simp) ?_
 rintro ρ H n1 hh
 refine zE fun k' hk' => ?_
 simp [hh]
 apply hk'
 refine Runs.cut (fun ρ H n => (ρ 0 = .list false (sig.map Control.cells) ∧ ρ 3 = pA n1 3) ∧ H (n1, 3) = some ⟨6, [bC false b]⟩) (by refine ⟨?_, ?_⟩ <;> simp [hh]) ?_
 clear hh
 rintro ρ H n3 ⟨hh, m3_1⟩
 refine zE fun k' hk' => ?_
 obtain ⟨J4, hJ5, hr6⟩ := h
 have fin8 : ∀ (sJ : Bool) (ρ : Env) (H : Heap) (n : Nat), J4 sJ → (match sJ with | b7 => ρ 4 = bool b7) → Runs Tryz.prog 74 12 k' ρ H n Q := by
  rintro b7 ρ H n9 h hh
  replace h := hr6 _ h
  apply hk'
  exact Runs.ret1 (v := bool b7) Tryz.func74 Tryz.results74 (by simp [hh]) (hQ _ _ _ _ (.of (.v _)) ⟨b7, h, rfl⟩)
 replace h := hJ5
 obtain ⟨hb10, h⟩ := h
 obtain ⟨r11, er11, h⟩ := atm h
 simp [hh, m3_1]
 refine RunK.callA Ty_ok (IsBigraph_ok sig b hb10) e70 (.cons (argC false sig) (.cons (argB false b) .nil)) (by decide) (by decide) rfl (by simp [hh, m3_1]) ?_
 rintro _ rfl
 rw [← er11]
 rcases Bool.eq_false_or_eq_true r11 with dr11 | dr11
 ·replace h := h.1 dr11
  obtain ⟨hb12, h⟩ := h
  obtain ⟨r13, er13, h⟩ := atm h
  simp [hh, m3_1, dr11]
  refine RunK.callA Ty_ok (isClosedB_ok b hb12) e129 (.cons (argB false b) .nil) (by decide) (by decide) rfl (by simp [hh, m3_1, dr11]) ?_
  rintro _ rfl
  rw [← er13]
  simp [hh, m3_1, dr11]
  exact fin8 (r13) _ _ _ h (by simp [hh, m3_1, dr11])
 replace h := h.2 dr11
 simp [hh, m3_1, dr11]
 exact fin8 (false) _ _ _ h (by simp [hh, m3_1, dr11])
theorem agentB_ok (sig : List Control) (b : Big) (hp : agentB_pre sig b) : PureC Tryz.prog 74 [.list false (sig.map Control.cells), .agg (bC false b)] (fun r => r = bool (agentB sig b)) := (agentB_walk sig b _ (agentB_vc sig b hp)).mono (by rintro _ ⟨_, rfl, rfl⟩; rfl)
theorem e65 : Ent Tryz.prog 65 := Ent.of Tryz.func65 (by kernel_rfl) rfl
theorem l2Agent_walk (sig : List Control) (b : Big) (Z : Bool → Prop) (h : l2Agent_wp sig b Z) : PureC Tryz.prog 65 [.list false (sig.map Control.cells), .agg (bC false b)] (fun r => ∃ y : Bool, Z y ∧ r = bool y) := by
 unfold l2Agent_wp at h
 refine PureC.of Tryz.func65 rfl Tryz.ntmps65 (by simp) fun Q hQ => ?_
 refine Runs.cut (fun ρ H n => (ρ 0 = .list false (sig.map Control.cells) ∧ ρ 1 = .agg (bC false b))) (by simp) ?_
 rintro ρ H n1 hh
 refine zE fun k' hk' => ?_
 simp [hh]
 apply hk'
 refine Runs.cut (fun ρ H n => (ρ 0 = .list false (sig.map Control.cells) ∧ ρ 3 = pA n1 3) ∧ H (n1, 3) = some ⟨6, [bC false b]⟩) (by refine ⟨?_, ?_⟩ <;> simp [hh]) ?_
 clear hh
 rintro ρ H n3 ⟨hh, m3_1⟩
 refine zE fun k' hk' => ?_
 obtain ⟨J4, hJ5, hr6⟩ := h
 have fin8 : ∀ (sJ : Bool) (ρ : Env) (H : Heap) (n : Nat), J4 sJ → (match sJ with | b7 => ρ 4 = bool b7) → Runs Tryz.prog 65 20 k' ρ H n Q := by
  rintro b7 ρ H n9 h hh
  replace h := hr6 _ h
  apply hk'
  exact Runs.ret1 (v := bool b7) Tryz.func65 Tryz.results65 (by simp [hh]) (hQ _ _ _ _ (.of (.v _)) ⟨b7, h, rfl⟩)
 replace h := hJ5
 obtain ⟨hb10, h⟩ := h
 obtain ⟨r11, er11, h⟩ := atm h
 simp [hh, m3_1]
 refine RunK.callA Ty_ok (l2Good_ok sig b hb10) e89 (.cons (argC false sig) (.cons (argB false b) .nil)) (by decide) (by decide) rfl (by simp [hh, m3_1]) ?_
 rintro _ rfl
 rw [← er11]
 rcases Bool.eq_false_or_eq_true r11 with dr11 | dr11
 ·replace h := h.1 dr11
  obtain ⟨len12, elen12, h⟩ := atm h
  have f13 := fun H => len_list (H := H) (fr := false) (f := intC) kd_24 elen12
  obtain ⟨c14, ec14, h⟩ := atm h
  have f15 := ib_eql (k := .i64) ec14
  rcases Bool.eq_false_or_eq_true c14 with dc14 | dc14
  ·replace h := h.1 dc14
   obtain ⟨len16, elen16, h⟩ := atm h
   have f17 := fun H => len_list (H := H) (fr := false) (f := Wire.cells) kd_45 elen16
   obtain ⟨c18, ec18, h⟩ := atm h
   have f19 := ib_eql (k := .i64) ec18
   simp [hh, m3_1, f13, f15, f17, f19, dr11, dc14, -intBin, -lenF]
   exact fin8 (c18) _ _ _ h (by simp [hh, m3_1, f13, f15, f17, f19, dr11, dc14, -intBin, -lenF])
  replace h := h.2 dc14
  simp [hh, m3_1, f13, f15, dr11, dc14, -intBin, -lenF]
  exact fin8 (false) _ _ _ h (by simp [hh, m3_1, f13, f15, dr11, dc14, -intBin, -lenF])
 replace h := h.2 dr11
 simp [hh, m3_1, dr11]
 exact fin8 (false) _ _ _ h (by simp [hh, m3_1, dr11])
theorem l2Agent_ok (sig : List Control) (b : Big) (hp : l2Agent_pre sig b) : PureC Tryz.prog 65 [.list false (sig.map Control.cells), .agg (bC false b)] (fun r => r = bool (l2Agent sig b)) := (l2Agent_walk sig b _ (l2Agent_vc sig b hp)).mono (by rintro _ ⟨_, rfl, rfl⟩; rfl)
theorem e71 : Ent Tryz.prog 71 := Ent.of Tryz.func71 (by kernel_rfl) rfl
theorem isRedex_walk (b : Big) (Z : Bool → Prop) (h : isRedex_wp b Z) : PureC Tryz.prog 71 [.agg (bC false b)] (fun r => ∃ y : Bool, Z y ∧ r = bool y) := by
 unfold isRedex_wp at h
 refine PureC.of Tryz.func71 rfl Tryz.ntmps71 (by simp) fun Q hQ => ?_
 refine Runs.cut (fun ρ H n => ρ 0 = .agg (bC false b)) (by simp) ?_
 rintro ρ H n1 hh
 refine zE fun k' hk' => ?_
 simp [hh]
 apply hk'
 refine Runs.cut (fun ρ H n => ρ 1 = pA n1 1 ∧ H (n1, 1) = some ⟨6, [bC false b]⟩) (by refine ⟨?_, ?_⟩ <;> simp [hh]) ?_
 clear hh
 rintro ρ H n3 ⟨hh, m1_1⟩
 refine Runs.seq ?_
 refine zE fun k' hk' => ?_
 obtain ⟨J4, hJ5, hr6⟩ := h
 have fin8 : ∀ (sJ : Bool) (ρ : Env) (H : Heap) (n : Nat), J4 sJ → (match sJ with | b7 => (ρ 1 = pA n1 1 ∧ ρ 15 = bool b7) ∧ H (n1, 1) = some ⟨6, [bC false b]⟩) → Runs Tryz.prog 71 62 k' ρ H n Q := by
  rintro b7 ρ H n9 h ⟨hh, m1_1⟩
  replace h := hr6 _ h
  apply hk'
  refine Runs.ite (b := b7) (by simp [hh, m1_1]) (fun db7 => ?_) (fun db7 => ?_)
  ·replace h := h.1 db7
   refine zE fun k' hk' => ?_
   simp [hh, m1_1, db7]
   apply hk'
   exact Runs.ret1 (v := bool false) Tryz.func71 Tryz.results71 (by simp [hh, m1_1, db7]) (hQ _ _ _ _ (.of (.v _)) ⟨false, h, rfl⟩)
  replace h := h.2 db7
  refine Runs.skip ?_
  refine Runs.seq ?_
  refine zE fun k' hk' => ?_
  obtain ⟨hb10, h⟩ := h
  obtain ⟨v11, ev11, h⟩ := atm h
  have f12 := ub_neg hb10 ev11
  simp [hh, m1_1, f12, db7, -unF, ub_not']
  apply hk'
  refine Runs.block ?_
  refine Runs.loopW h (fun (sJ : Int) ρ H n => match sJ with | placeV15 => (ρ 1 = pA n1 1 ∧ ρ 3 = int placeV15) ∧ H (n1, 1) = some ⟨6, [bC false b]⟩) (by refine ⟨?_, ?_⟩ <;> simp [hh, m1_1, db7]) ?_
  clear hh m1_1
  rintro placeV15 ρ H n16 K h ⟨hh, m1_1⟩ IH17
  refine Runs.seq ?_
  refine zE fun k' hk' => ?_
  obtain ⟨len19, elen19, h⟩ := atm h
  have f20 := fun H => len_list (H := H) (fr := false) (f := (GNode.cells false)) kd_44 elen19
  obtain ⟨c21, ec21, h⟩ := atm h
  have f22 := ib_lss (k := .i64) ec21
  simp [hh, m1_1, f20, f22, -intBin, -lenF]
  apply hk'
  refine Runs.ite (b := c21) (by simp [hh, m1_1]) (fun dc21 => ?_) (fun dc21 => ?_)
  ·replace h := h.1 dc21
   refine Runs.skip ?_
   refine Runs.seq ?_
   refine Runs.block ?_
   refine zE fun k' hk' => ?_
   obtain ⟨hb23, h⟩ := h
   obtain ⟨r24, er24, h⟩ := atm h
   simp [hh, m1_1, dc21]
   refine RunK.callA Ty_ok ((childrenOf_ok b placeV15 hb23).pure) e126 (.cons (argB false b) (.cons (.v _ _ _) .nil)) (by decide) (by decide) rfl (by simp [hh, m1_1, dc21]) ?_
   rintro _ rfl
   rw [← er24]
   simp [hh, m1_1, dc21]
   apply hk'
   refine zE fun k' hk' => ?_
   obtain ⟨J25, hJ26, hr27⟩ := h
   have fin29 : ∀ (sJ : Bool) (ρ : Env) (H : Heap) (n : Nat), J25 sJ → (match sJ with | b28 => (ρ 1 = pA n1 1 ∧ ρ 3 = int placeV15 ∧ ρ 48 = bool b28) ∧ H (n1, 1) = some ⟨6, [bC false b]⟩) → Runs Tryz.prog 71 62 k' ρ H n Q := by
    rintro b28 ρ H n30 h ⟨hh, m1_1⟩
    replace h := hr27 _ h
    apply hk'
    refine Runs.ite (b := b28) (by simp [hh, m1_1]) (fun db28 => ?_) (fun db28 => ?_)
    ·replace h := h.1 db28
     refine zE fun k' hk' => ?_
     simp [hh, m1_1, db28]
     apply hk'
     exact Runs.ret1 (v := bool false) Tryz.func71 Tryz.results71 (by simp [hh, m1_1, db28]) (hQ _ _ _ _ (.of (.v _)) ⟨false, h, rfl⟩)
    replace h := h.2 db28
    refine Runs.skip ?_
    refine Runs.inBlock ?_
    refine zF fun k' hk' => ?_
    obtain ⟨hb31, h⟩ := h
    obtain ⟨v32, ev32, h⟩ := atm h
    have f33 := ib_add hb31 ev32
    simp [hh, m1_1, f33, db28, -intBin]
    apply hk'
    refine IH17 (v32) _ _ _ h (by refine ⟨?_, ?_⟩ <;> simp [hh, m1_1, db28])
   replace h := hJ26
   obtain ⟨c34, ec34, h⟩ := atm h
   have f35 := ib_lss (k := .i64) ec34
   rcases Bool.eq_false_or_eq_true c34 with dc34 | dc34
   ·replace h := h.1 dc34
    obtain ⟨len36, elen36, h⟩ := atm h
    have f37 := fun H => len_list (H := H) (fr := true) (f := intC) kd_24 elen36
    obtain ⟨c38, ec38, h⟩ := atm h
    have f39 := ib_eql (k := .i64) ec38
    rcases Bool.eq_false_or_eq_true c38 with dc38 | dc38
    ·replace h := h.1 dc38
     simp [hh, m1_1, f35, f37, f39, dc21, dc34, dc38, -intBin, -lenF]
     exact fin29 (true) _ _ _ h (by refine ⟨?_, ?_⟩ <;> simp [hh, m1_1, f35, f37, f39, dc21, dc34, dc38, -intBin, -lenF])
    replace h := h.2 dc38
    obtain ⟨len40, elen40, h⟩ := atm h
    have f41 := fun H => len_list (H := H) (fr := true) (f := intC) kd_24 elen40
    obtain ⟨c42, ec42, h⟩ := atm h
    have f43 := ib_gtr (k := .i64) ec42
    rcases Bool.eq_false_or_eq_true c42 with dc42 | dc42
    ·replace h := h.1 dc42
     simp [hh, m1_1, f35, f37, f39, f41, f43, dc21, dc34, dc38, dc42, -intBin, -lenF]
     exact fin29 (true) _ _ _ h (by refine ⟨?_, ?_⟩ <;> simp [hh, m1_1, f35, f37, f39, f41, f43, dc21, dc34, dc38, dc42, -intBin, -lenF])
    replace h := h.2 dc42
    obtain ⟨len44, elen44, h⟩ := atm h
    have hq45 := elen40.trans elen44.symm
    subst hq45
    have f46 := fun H => len_list (H := H) (fr := true) (f := intC) kd_24 elen40
    obtain ⟨c47, ec47, h⟩ := atm h
    have f48 := ib_gtr (k := .i64) ec47
    simp [hh, m1_1, f35, f37, f39, f41, f43, f46, f48, dc21, dc34, dc38, dc42, -intBin, -lenF]
    exact fin29 (c47) _ _ _ h (by refine ⟨?_, ?_⟩ <;> simp [hh, m1_1, f35, f37, f39, f41, f43, f46, f48, dc21, dc34, dc38, dc42, -intBin, -lenF])
   replace h := h.2 dc34
   obtain ⟨len49, elen49, h⟩ := atm h
   have f50 := fun H => len_list (H := H) (fr := true) (f := intC) kd_24 elen49
   obtain ⟨c51, ec51, h⟩ := atm h
   have f52 := ib_gtr (k := .i64) ec51
   simp [hh, m1_1, f35, f50, f52, dc21, dc34, -intBin, -lenF]
   exact fin29 (c51) _ _ _ h (by refine ⟨?_, ?_⟩ <;> simp [hh, m1_1, f35, f50, f52, dc21, dc34, -intBin, -lenF])
  replace h := h.2 dc21
  refine Runs.exit rfl ?_
  refine Runs.seq ?_
  refine zE fun k' hk' => ?_
  obtain ⟨len53, elen53, h⟩ := atm h
  have f54 := fun H => len_list (H := H) (fr := false) (f := strC) kd_25 elen53
  obtain ⟨hb55, h⟩ := h
  obtain ⟨v56, ev56, h⟩ := atm h
  have f57 := ib_add hb55 ev56
  simp [hh, m1_1, f54, f57, dc21, -intBin, -lenF]
  apply hk'
  refine Runs.block ?_
  refine Runs.loopW h (fun (sJ : Int) ρ H n => match sJ with | v60 => (ρ 1 = pA n1 1 ∧ ρ 54 = int v56 ∧ ρ 55 = int v60) ∧ H (n1, 1) = some ⟨6, [bC false b]⟩) (by refine ⟨?_, ?_⟩ <;> simp [hh, m1_1, dc21]) ?_
  clear hh m1_1
  rintro v60 ρ H n61 K h ⟨hh, m1_1⟩ IH62
  refine zE fun k' hk' => ?_
  obtain ⟨c64, ec64, h⟩ := atm h
  have f65 := ib_lss (k := .i64) ec64
  simp [hh, m1_1, f65, -intBin]
  apply hk'
  refine Runs.seq ?_
  refine Runs.ite (b := c64) (by simp [hh, m1_1]) (fun dc64 => ?_) (fun dc64 => ?_)
  ·replace h := h.1 dc64
   refine Runs.skip ?_
   refine Runs.seq ?_
   refine Runs.block ?_
   refine zE fun k' hk' => ?_
   simp [hh, m1_1, dc64]
   apply hk'
   refine zE fun k' hk' => ?_
   obtain ⟨hb66, h⟩ := h
   obtain ⟨r67, er67, h⟩ := atm h
   simp [hh, m1_1, dc64]
   refine RunK.callA Ty_ok (isIdle_ok b v60 hb66) e127 (.cons (argB false b) (.cons (.v _ _ _) .nil)) (by decide) (by decide) rfl (by simp [hh, m1_1, dc64]) ?_
   rintro _ rfl
   rw [← er67]
   simp [hh, m1_1, dc64]
   apply hk'
   refine Runs.ite (b := r67) (by simp [hh, m1_1, dc64]) (fun dr67 => ?_) (fun dr67 => ?_)
   ·replace h := h.1 dr67
    refine zE fun k' hk' => ?_
    simp [hh, m1_1, dc64, dr67]
    apply hk'
    exact Runs.ret1 (v := bool false) Tryz.func71 Tryz.results71 (by simp [hh, m1_1, dc64, dr67]) (hQ _ _ _ _ (.of (.v _)) ⟨false, h, rfl⟩)
   replace h := h.2 dr67
   refine Runs.skip ?_
   refine Runs.inBlock ?_
   refine zF fun k' hk' => ?_
   obtain ⟨hb68, h⟩ := h
   obtain ⟨v69, ev69, h⟩ := atm h
   have f70 := ib_add hb68 ev69
   simp [hh, m1_1, f70, dc64, dr67, -intBin]
   apply hk'
   refine IH62 (v69) _ _ _ h (by refine ⟨?_, ?_⟩ <;> simp [hh, m1_1, dc64, dr67])
  replace h := h.2 dc64
  refine Runs.exit rfl ?_
  refine zE fun k' hk' => ?_
  simp [hh, m1_1, dc64]
  apply hk'
  exact Runs.ret1 (v := bool true) Tryz.func71 Tryz.results71 (by simp [hh, m1_1, dc64]) (hQ _ _ _ _ (.of (.v _)) ⟨true, h, rfl⟩)
 replace h := hJ5
 obtain ⟨len71, elen71, h⟩ := atm h
 have f72 := fun H => len_list (H := H) (fr := false) (f := Wire.cells) kd_45 elen71
 obtain ⟨c73, ec73, h⟩ := atm h
 have f74 := ib_gtr (k := .i64) ec73
 rcases Bool.eq_false_or_eq_true c73 with dc73 | dc73
 ·replace h := h.1 dc73
  simp [hh, m1_1, f72, f74, dc73, -intBin, -lenF]
  exact fin8 (true) _ _ _ h (by refine ⟨?_, ?_⟩ <;> simp [hh, m1_1, f72, f74, dc73, -intBin, -lenF])
 replace h := h.2 dc73
 obtain ⟨c75, ec75, h⟩ := atm h
 have f76 := ib_eql (k := .i64) ec75
 simp [hh, m1_1, f72, f74, f76, dc73, -intBin, -lenF]
 exact fin8 (c75) _ _ _ h (by refine ⟨?_, ?_⟩ <;> simp [hh, m1_1, f72, f74, f76, dc73, -intBin, -lenF])
theorem isRedex_ok (b : Big) (hp : isRedex_pre b) : PureC Tryz.prog 71 [.agg (bC false b)] (fun r => r = bool (isRedex b)) := (isRedex_walk b _ (isRedex_vc b hp)).mono (by rintro _ ⟨_, rfl, rfl⟩; rfl)
theorem e111 : Ent Tryz.prog 111 := Ent.of Tryz.func111 (by kernel_rfl) rfl
theorem l8Solid_walk (b : Big) (Z : Bool → Prop) (h : l8Solid_wp b Z) : PureC Tryz.prog 111 [.agg (bC false b)] (fun r => ∃ y : Bool, Z y ∧ r = bool y) := by
 unfold l8Solid_wp at h
 refine PureC.of Tryz.func111 rfl Tryz.ntmps111 (by simp) fun Q hQ => ?_
 refine Runs.cut (fun ρ H n => ρ 0 = .agg (bC false b)) (by simp) ?_
 rintro ρ H n1 hh
 refine zE fun k' hk' => ?_
 simp [hh]
 apply hk'
 refine Runs.cut (fun ρ H n => ρ 1 = pA n1 1 ∧ H (n1, 1) = some ⟨6, [bC false b]⟩) (by refine ⟨?_, ?_⟩ <;> simp [hh]) ?_
 clear hh
 rintro ρ H n3 ⟨hh, m1_1⟩
 refine Runs.seq ?_
 refine zE fun k' hk' => ?_
 obtain ⟨J4, hJ5, hr6⟩ := h
 have fin8 : ∀ (sJ : Bool) (ρ : Env) (H : Heap) (n : Nat), J4 sJ → (match sJ with | b7 => (ρ 1 = pA n1 1 ∧ ρ 14 = bool b7) ∧ H (n1, 1) = some ⟨6, [bC false b]⟩) → Runs Tryz.prog 111 60 k' ρ H n Q := by
  rintro b7 ρ H n9 h ⟨hh, m1_1⟩
  replace h := hr6 _ h
  apply hk'
  refine Runs.ite (b := b7) (by simp [hh, m1_1]) (fun db7 => ?_) (fun db7 => ?_)
  ·replace h := h.1 db7
   refine zE fun k' hk' => ?_
   simp [hh, m1_1, db7]
   apply hk'
   exact Runs.ret1 (v := bool false) Tryz.func111 Tryz.results111 (by simp [hh, m1_1, db7]) (hQ _ _ _ _ (.of (.v _)) ⟨false, h, rfl⟩)
  replace h := h.2 db7
  refine Runs.skip ?_
  refine Runs.seq ?_
  refine zE fun k' hk' => ?_
  simp [hh, m1_1, db7]
  apply hk'
  refine Runs.block ?_
  refine Runs.loopW h (fun (sJ : Int) ρ H n => match sJ with | r12 => (ρ 1 = pA n1 1 ∧ ρ 3 = int r12) ∧ H (n1, 1) = some ⟨6, [bC false b]⟩) (by refine ⟨?_, ?_⟩ <;> simp [hh, m1_1, db7]) ?_
  clear hh m1_1
  rintro r12 ρ H n13 K h ⟨hh, m1_1⟩ IH14
  refine Runs.seq ?_
  refine zE fun k' hk' => ?_
  obtain ⟨c16, ec16, h⟩ := atm h
  have f17 := ib_lss (k := .i64) ec16
  simp [hh, m1_1, f17, -intBin]
  apply hk'
  refine Runs.ite (b := c16) (by simp [hh, m1_1]) (fun dc16 => ?_) (fun dc16 => ?_)
  ·replace h := h.1 dc16
   refine Runs.skip ?_
   refine Runs.seq ?_
   refine Runs.block ?_
   refine zE fun k' hk' => ?_
   obtain ⟨J18, hJ19, hr20⟩ := h
   have fin22 : ∀ (sJ : Bool) (ρ : Env) (H : Heap) (n : Nat), J18 sJ → (match sJ with | b21 => (ρ 1 = pA n1 1 ∧ ρ 3 = int r12 ∧ ρ 34 = bool b21) ∧ H (n1, 1) = some ⟨6, [bC false b]⟩) → Runs Tryz.prog 111 60 k' ρ H n Q := by
    rintro b21 ρ H n23 h ⟨hh, m1_1⟩
    replace h := hr20 _ h
    apply hk'
    refine Runs.ite (b := b21) (by simp [hh, m1_1]) (fun db21 => ?_) (fun db21 => ?_)
    ·replace h := h.1 db21
     refine zE fun k' hk' => ?_
     simp [hh, m1_1, db21]
     apply hk'
     exact Runs.ret1 (v := bool false) Tryz.func111 Tryz.results111 (by simp [hh, m1_1, db21]) (hQ _ _ _ _ (.of (.v _)) ⟨false, h, rfl⟩)
    replace h := h.2 db21
    refine Runs.skip ?_
    refine Runs.inBlock ?_
    refine zF fun k' hk' => ?_
    obtain ⟨hb24, h⟩ := h
    obtain ⟨v25, ev25, h⟩ := atm h
    have f26 := ib_add hb24 ev25
    simp [hh, m1_1, f26, db21, -intBin]
    apply hk'
    refine IH14 (v25) _ _ _ h (by refine ⟨?_, ?_⟩ <;> simp [hh, m1_1, db21])
   replace h := hJ19
   obtain ⟨hb27, h⟩ := h
   obtain ⟨v28, ev28, h⟩ := atm h
   have f29 := ib_sub hb27 ev28
   obtain ⟨hb30, h⟩ := h
   obtain ⟨r31, er31, h⟩ := atm h
   simp [hh, m1_1, f29, dc16, -intBin]
   refine RunK.callA Ty_ok ((l2Kids_ok b v28 hb30).pure) e160 (.cons (argB false b) (.cons (.v _ _ _) .nil)) (by decide) (by decide) rfl (by simp [hh, m1_1, f29, dc16, -intBin]) ?_
   rintro _ rfl
   rw [← er31]
   obtain ⟨len32, elen32, h⟩ := atm h
   have f33 := fun H => len_list (H := H) (fr := true) (f := intC) kd_24 elen32
   obtain ⟨c34, ec34, h⟩ := atm h
   have f35 := ib_eql (k := .i64) ec34
   rcases Bool.eq_false_or_eq_true c34 with dc34 | dc34
   ·replace h := h.1 dc34
    simp [hh, m1_1, f29, f33, f35, dc16, dc34, -intBin, -lenF]
    exact fin22 (true) _ _ _ h (by refine ⟨?_, ?_⟩ <;> simp [hh, m1_1, f29, f33, f35, dc16, dc34, -intBin, -lenF])
   replace h := h.2 dc34
   obtain ⟨hb36, h⟩ := h
   obtain ⟨v37, ev37, h⟩ := atm h
   have hq38 := ev28.trans ev37.symm
   subst hq38
   have f39 := ib_sub hb36 ev28
   obtain ⟨hb40, h⟩ := h
   obtain ⟨r41, er41, h⟩ := atm h
   simp [hh, m1_1, f29, f33, f35, f39, dc16, dc34, -intBin, -lenF]
   refine RunK.callA Ty_ok ((l2Holes_ok b v28 hb40).pure) e161 (.cons (argB false b) (.cons (.v _ _ _) .nil)) (by decide) (by decide) rfl (by simp [hh, m1_1, f29, f33, f35, f39, dc16, dc34, -intBin, -lenF]) ?_
   rintro _ rfl
   rw [← er41]
   obtain ⟨len42, elen42, h⟩ := atm h
   have f43 := fun H => len_list (H := H) (fr := true) (f := intC) kd_24 elen42
   obtain ⟨c44, ec44, h⟩ := atm h
   have f45 := ib_gtr (k := .i64) ec44
   simp [hh, m1_1, f29, f33, f35, f39, f43, f45, dc16, dc34, -intBin, -lenF]
   exact fin22 (c44) _ _ _ h (by refine ⟨?_, ?_⟩ <;> simp [hh, m1_1, f29, f33, f35, f39, f43, f45, dc16, dc34, -intBin, -lenF])
  replace h := h.2 dc16
  refine Runs.exit rfl ?_
  refine Runs.seq ?_
  refine zE fun k' hk' => ?_
  simp [hh, m1_1, dc16]
  apply hk'
  refine Runs.block ?_
  refine Runs.loopW h (fun (sJ : Int) ρ H n => match sJ with | i48 => (ρ 1 = pA n1 1 ∧ ρ 4 = int i48) ∧ H (n1, 1) = some ⟨6, [bC false b]⟩) (by refine ⟨?_, ?_⟩ <;> simp [hh, m1_1, dc16]) ?_
  clear hh m1_1
  rintro i48 ρ H n49 K h ⟨hh, m1_1⟩ IH50
  refine Runs.seq ?_
  refine zE fun k' hk' => ?_
  obtain ⟨len52, elen52, h⟩ := atm h
  have f53 := fun H => len_list (H := H) (fr := false) (f := (GNode.cells false)) kd_44 elen52
  obtain ⟨c54, ec54, h⟩ := atm h
  have f55 := ib_lss (k := .i64) ec54
  simp [hh, m1_1, f53, f55, -intBin, -lenF]
  apply hk'
  refine Runs.ite (b := c54) (by simp [hh, m1_1]) (fun dc54 => ?_) (fun dc54 => ?_)
  ·replace h := h.1 dc54
   refine Runs.skip ?_
   refine Runs.seq ?_
   refine Runs.block ?_
   refine zE fun k' hk' => ?_
   obtain ⟨hb56, h⟩ := h
   obtain ⟨r57, er57, h⟩ := atm h
   simp [hh, m1_1, dc54]
   refine RunK.callA Ty_ok ((l2Holes_ok b i48 hb56).pure) e161 (.cons (argB false b) (.cons (.v _ _ _) .nil)) (by decide) (by decide) rfl (by simp [hh, m1_1, dc54]) ?_
   rintro _ rfl
   rw [← er57]
   obtain ⟨len58, elen58, h⟩ := atm h
   have f59 := fun H => len_list (H := H) (fr := true) (f := intC) kd_24 elen58
   obtain ⟨c60, ec60, h⟩ := atm h
   have f61 := ib_gtr (k := .i64) ec60
   simp [hh, m1_1, f59, f61, dc54, -intBin, -lenF]
   apply hk'
   refine Runs.ite (b := c60) (by simp [hh, m1_1, dc54]) (fun dc60 => ?_) (fun dc60 => ?_)
   ·replace h := h.1 dc60
    refine zE fun k' hk' => ?_
    simp [hh, m1_1, dc54, dc60]
    apply hk'
    exact Runs.ret1 (v := bool false) Tryz.func111 Tryz.results111 (by simp [hh, m1_1, dc54, dc60]) (hQ _ _ _ _ (.of (.v _)) ⟨false, h, rfl⟩)
   replace h := h.2 dc60
   refine Runs.skip ?_
   refine Runs.inBlock ?_
   refine zF fun k' hk' => ?_
   obtain ⟨hb62, h⟩ := h
   obtain ⟨v63, ev63, h⟩ := atm h
   have f64 := ib_add hb62 ev63
   simp [hh, m1_1, f64, dc54, dc60, -intBin]
   apply hk'
   refine IH50 (v63) _ _ _ h (by refine ⟨?_, ?_⟩ <;> simp [hh, m1_1, dc54, dc60])
  replace h := h.2 dc54
  refine Runs.exit rfl ?_
  refine Runs.seq ?_
  refine zE fun k' hk' => ?_
  simp [hh, m1_1, dc54]
  apply hk'
  refine Runs.block ?_
  refine Runs.loopW h (fun (sJ : Int) ρ H n => match sJ with | link67 => (ρ 1 = pA n1 1 ∧ ρ 5 = int link67) ∧ H (n1, 1) = some ⟨6, [bC false b]⟩) (by refine ⟨?_, ?_⟩ <;> simp [hh, m1_1, dc54]) ?_
  clear hh m1_1
  rintro link67 ρ H n68 K h ⟨hh, m1_1⟩ IH69
  refine Runs.seq ?_
  refine zE fun k' hk' => ?_
  obtain ⟨len71, elen71, h⟩ := atm h
  have f72 := fun H => len_list (H := H) (fr := false) (f := strC) kd_25 elen71
  obtain ⟨hb73, h⟩ := h
  obtain ⟨v74, ev74, h⟩ := atm h
  have f75 := ib_add hb73 ev74
  obtain ⟨c76, ec76, h⟩ := atm h
  have f77 := ib_lss (k := .i64) ec76
  simp [hh, m1_1, f72, f75, f77, -intBin, -lenF]
  apply hk'
  refine Runs.ite (b := c76) (by simp [hh, m1_1]) (fun dc76 => ?_) (fun dc76 => ?_)
  ·replace h := h.1 dc76
   refine Runs.skip ?_
   refine Runs.seq ?_
   refine Runs.block ?_
   refine zE fun k' hk' => ?_
   obtain ⟨hb78, h⟩ := h
   obtain ⟨r79, er79, h⟩ := atm h
   simp [hh, m1_1, dc76]
   refine RunK.callA Ty_ok (l2Idle_ok b link67 hb78) e162 (.cons (argB false b) (.cons (.v _ _ _) .nil)) (by decide) (by decide) rfl (by simp [hh, m1_1, dc76]) ?_
   rintro _ rfl
   rw [← er79]
   simp [hh, m1_1, dc76]
   apply hk'
   refine Runs.ite (b := r79) (by simp [hh, m1_1, dc76]) (fun dr79 => ?_) (fun dr79 => ?_)
   ·replace h := h.1 dr79
    refine zE fun k' hk' => ?_
    simp [hh, m1_1, dc76, dr79]
    apply hk'
    exact Runs.ret1 (v := bool false) Tryz.func111 Tryz.results111 (by simp [hh, m1_1, dc76, dr79]) (hQ _ _ _ _ (.of (.v _)) ⟨false, h, rfl⟩)
   replace h := h.2 dr79
   refine Runs.skip ?_
   refine Runs.inBlock ?_
   refine zF fun k' hk' => ?_
   obtain ⟨hb80, h⟩ := h
   obtain ⟨v81, ev81, h⟩ := atm h
   have f82 := ib_add hb80 ev81
   simp [hh, m1_1, f82, dc76, dr79, -intBin]
   apply hk'
   refine IH69 (v81) _ _ _ h (by refine ⟨?_, ?_⟩ <;> simp [hh, m1_1, dc76, dr79])
  replace h := h.2 dc76
  refine Runs.exit rfl ?_
  refine zE fun k' hk' => ?_
  simp [hh, m1_1, dc76]
  apply hk'
  exact Runs.ret1 (v := bool true) Tryz.func111 Tryz.results111 (by simp [hh, m1_1, dc76]) (hQ _ _ _ _ (.of (.v _)) ⟨true, h, rfl⟩)
 replace h := hJ5
 obtain ⟨len83, elen83, h⟩ := atm h
 have f84 := fun H => len_list (H := H) (fr := false) (f := Wire.cells) kd_45 elen83
 obtain ⟨c85, ec85, h⟩ := atm h
 have f86 := ib_gtr (k := .i64) ec85
 rcases Bool.eq_false_or_eq_true c85 with dc85 | dc85
 ·replace h := h.1 dc85
  simp [hh, m1_1, f84, f86, dc85, -intBin, -lenF]
  exact fin8 (true) _ _ _ h (by refine ⟨?_, ?_⟩ <;> simp [hh, m1_1, f84, f86, dc85, -intBin, -lenF])
 replace h := h.2 dc85
 obtain ⟨c87, ec87, h⟩ := atm h
 have f88 := ib_eql (k := .i64) ec87
 simp [hh, m1_1, f84, f86, f88, dc85, -intBin, -lenF]
 exact fin8 (c87) _ _ _ h (by refine ⟨?_, ?_⟩ <;> simp [hh, m1_1, f84, f86, f88, dc85, -intBin, -lenF])
theorem l8Solid_ok (b : Big) (hp : l8Solid_pre b) : PureC Tryz.prog 111 [.agg (bC false b)] (fun r => r = bool (l8Solid b)) := (l8Solid_walk b _ (l8Solid_vc b hp)).mono (by rintro _ ⟨_, rfl, rfl⟩; rfl)
end Go.Ab.Vg
