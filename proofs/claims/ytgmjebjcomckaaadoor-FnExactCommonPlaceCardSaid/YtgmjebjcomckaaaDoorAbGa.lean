/- Bigraphs as values: types of data, and what a valid one is. -/
import Derived.Test.YtgmjebjcomckaaaDoorAbV
namespace Go.Ab
set_option linter.unusedSimpArgs false

structure Control where
  name : Str
  ports : Int
  kind : Int
  deriving Inhabited, DecidableEq
structure GNode where
  control : Int
  parent : Int
  links : List Int
  deriving Inhabited, DecidableEq
structure Wire where
  name : Str
  link : Int
  deriving Inhabited, DecidableEq
structure Big where
  roots : Int
  nodes : List GNode
  sites : List Int
  edges : Int
  outer : List Str
  inner : List Wire
  deriving Inhabited, DecidableEq
abbrev Sig := List Control

def intC (n : Int) : List AVal := [int n]
def strC (s : Str) : List AVal := [str s]
def Control.cells (x : Control) : List AVal := [str x.name, int x.ports, int x.kind]
def Wire.cells (x : Wire) : List AVal := [str x.name, int x.link]
def GNode.cells (t : Bool) (x : GNode) : List AVal := [int x.control, int x.parent, .list t (x.links.map intC)]
def encSig (t : Bool) (s : Sig) : AVal := .list t (s.map Control.cells)
def encI (t : Bool) (l : List Int) : AVal := .list t (l.map intC)
def encS (t : Bool) (l : List Str) : AVal := .list t (l.map strC)
def encW (t : Bool) (l : List Wire) : AVal := .list t (l.map Wire.cells)
def encN (t : Bool) (l : List GNode) : AVal := .list t (l.map (GNode.cells t))
def Big.cells (t : Bool) (b : Big) : List AVal := [int b.roots, encN t b.nodes, encI t b.sites, int b.edges, encS t b.outer, encW t b.inner]
def encB (t : Bool) (b : Big) : AVal := .agg (b.cells t)

theorem ints_flat (l : List Int) : ∀ e ∈ l.map intC, ∀ a ∈ e, flat a = true := by simp [intC]
theorem strs_flat (l : List Str) : ∀ e ∈ l.map strC, ∀ a ∈ e, flat a = true := by simp [strC]
theorem wires_flat (l : List Wire) : ∀ e ∈ l.map Wire.cells, ∀ a ∈ e, flat a = true := by simp [Wire.cells]
theorem sig_flat (l : Sig) : ∀ e ∈ l.map Control.cells, ∀ a ∈ e, flat a = true := by simp [Control.cells]

theorem old_encI (t : Bool) (l : List Int) : old (encI t l) = encI false l := by rw [encI, old_list, maps_old_flat (ints_flat l)]; rfl
theorem old_encS (t : Bool) (l : List Str) : old (encS t l) = encS false l := by rw [encS, old_list, maps_old_flat (strs_flat l)]; rfl
theorem old_encW (t : Bool) (l : List Wire) : old (encW t l) = encW false l := by rw [encW, old_list, maps_old_flat (wires_flat l)]; rfl
theorem old_encSig (t : Bool) (l : Sig) : old (encSig t l) = encSig false l := by rw [encSig, old_list, maps_old_flat (sig_flat l)]; rfl
theorem old_node (t : Bool) (x : GNode) : (x.cells t).map old = x.cells false := by
  simp only [GNode.cells, List.map_cons, List.map_nil, old_v]
  have := old_encI t x.links
  simp only [encI] at this
  rw [this]
theorem old_encN (t : Bool) (l : List GNode) : old (encN t l) = encN false l := by
  rw [encN, old_list, List.map_map]
  simp only [encN]
  congr 1
  exact List.map_congr_left fun x _ => old_node t x
theorem old_encB (t : Bool) (b : Big) : old (encB t b) = encB false b := by
  simp only [encB, Big.cells, old_agg, List.map_cons, List.map_nil, old_v, old_encN, old_encI, old_encS, old_encW]

theorem imm_encI (t : Bool) (l : List Int) : Imm (encI t l) := .list _ _ fun e he a ha => Imm.flat (ints_flat l e he a ha)
theorem imm_encS (t : Bool) (l : List Str) : Imm (encS t l) := .list _ _ fun e he a ha => Imm.flat (strs_flat l e he a ha)
theorem imm_encW (t : Bool) (l : List Wire) : Imm (encW t l) := .list _ _ fun e he a ha => Imm.flat (wires_flat l e he a ha)
theorem imm_encSig (t : Bool) (l : Sig) : Imm (encSig t l) := .list _ _ fun e he a ha => Imm.flat (sig_flat l e he a ha)
theorem imm_node (t : Bool) (x : GNode) : ∀ a ∈ x.cells t, Imm a := by
  intro a ha
  simp only [GNode.cells, List.mem_cons, List.not_mem_nil, or_false] at ha
  rcases ha with rfl | rfl | rfl
  · exact .v _
  · exact .v _
  · exact imm_encI t x.links
theorem imm_encN (t : Bool) (l : List GNode) : Imm (encN t l) := by
  refine .list _ _ fun e he a ha => ?_
  obtain ⟨x, _, rfl⟩ := List.mem_map.1 he
  exact imm_node t x a ha
theorem imm_encB (t : Bool) (b : Big) : Imm (encB t b) := by
  refine .agg _ fun a ha => ?_
  simp only [Big.cells, List.mem_cons, List.not_mem_nil, or_false] at ha
  rcases ha with rfl | rfl | rfl | rfl | rfl | rfl
  · exact .v _
  · exact imm_encN t _
  · exact imm_encI t _
  · exact .v _
  · exact imm_encS t _
  · exact imm_encW t _
section
variable {H : Heap} {n : Nat}
theorem ArgOk.encI (t : Bool) (l : List Int) : ArgOk H n (encI t l) (encI false l) := ArgOk.imm' (imm_encI t l) (old_encI t l)
theorem ArgOk.encS (t : Bool) (l : List Str) : ArgOk H n (encS t l) (encS false l) := ArgOk.imm' (imm_encS t l) (old_encS t l)
theorem ArgOk.encW (t : Bool) (l : List Wire) : ArgOk H n (encW t l) (encW false l) := ArgOk.imm' (imm_encW t l) (old_encW t l)
theorem ArgOk.encSig (t : Bool) (l : Sig) : ArgOk H n (encSig t l) (encSig false l) := ArgOk.imm' (imm_encSig t l) (old_encSig t l)
theorem ArgOk.encN (t : Bool) (l : List GNode) : ArgOk H n (encN t l) (encN false l) := ArgOk.imm' (imm_encN t l) (old_encN t l)
theorem ArgOk.encB (t : Bool) (b : Big) : ArgOk H n (encB t b) (encB false b) := ArgOk.imm' (imm_encB t b) (old_encB t b)
end

/-- What a machine integer is. -/
def I64 (n : Int) : Prop := -9223372036854775808 ≤ n ∧ n ≤ 9223372036854775807

def okControl (c : Control) : Bool := isNm c.name && within c.ports 0 3 && within c.kind 0 2
def newName (sig : Sig) (i : Nat) : Bool := !(sig.take i).any fun d => d.name == (sig.getD i default).name
def goodSig (sig : Sig) : Bool := within sig.length 1 6 && (List.range sig.length).all fun i => okControl (sig.getD i default) && newName sig i
def ascends (l : List Str) (i : Nat) : Bool := decide (i = 0) || Op.bytesLess (l.getD (i - 1) []) (l.getD i [])
def goodNames (l : List Str) : Bool := decide (l.length ≤ 16) && (List.range l.length).all fun i => isNm (l.getD i []) && ascends l i
def okLink (b : Big) (l : Int) : Bool := within l 0 (b.edges + b.outer.length - 1)
def okParent (sig : Sig) (b : Big) (parent : Int) (below : Nat) : Bool :=
  if parent < 0 then decide (-b.roots ≤ parent) else decide (parent < below) && decide ((sig.getD (b.nodes.getD parent.toNat default).control.toNat default).kind ≠ 2)
def okNodeB (sig : Sig) (b : Big) (i : Nat) : Bool :=
  within (b.nodes.getD i default).control 0 (sig.length - 1) && okParent sig b (b.nodes.getD i default).parent i && decide ((b.nodes.getD i default).links.length = (sig.getD (b.nodes.getD i default).control.toNat default).ports) &&
    (b.nodes.getD i default).links.all (okLink b)
def goodB (sig : Sig) (b : Big) : Bool :=
  goodSig sig && within b.roots 0 4 && decide (b.nodes.length ≤ 8) && decide (b.sites.length ≤ 4) && within b.edges 0 8 && goodNames b.outer && goodNames (b.inner.map (·.name)) &&
    (List.range b.nodes.length).all (okNodeB sig b) && b.sites.all (fun p => okParent sig b p b.nodes.length) && b.inner.all (fun w => okLink b w.link)
end Go.Ab
