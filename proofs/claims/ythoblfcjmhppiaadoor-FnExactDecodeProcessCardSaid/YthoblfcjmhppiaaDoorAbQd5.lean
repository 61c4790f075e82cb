/- Merged texts (5 of 10) of the proof that ends in Dy: Ga Uj Uk Lm Mp W Gb Gc Gd Ge Gf Gg Gh Gi Gj Gk Gl Gm Gn Go. -/
import Derived.Test.YthoblfcjmhppiaaDoorAbQd4
import Derived.Laws.BytesString
/- Bigraphs as values: types of data, and what a valid one is. -/
namespace Go.Ab
set_option linter.unusedSimpArgs false

structure Control where
  name : Str
  ports : Int
  kind : Int
  deriving Inhabited, DecidableEq
structure GNode where
  control : Int
  parent : Int
  links : List Int
  deriving Inhabited, DecidableEq
structure Wire where
  name : Str
  link : Int
  deriving Inhabited, DecidableEq
structure Big where
  roots : Int
  nodes : List GNode
  sites : List Int
  edges : Int
  outer : List Str
  inner : List Wire
  deriving Inhabited, DecidableEq
abbrev Sig := List Control

/-- A cell that is a slice. -/
def sliceC {α : Type} (fr : Bool) (f : α → List AVal) (l : List α) : List AVal := [.list fr (l.map f)]
def Control.cells (x : Control) : List AVal := [str x.name, int x.ports, int x.kind]
def Wire.cells (x : Wire) : List AVal := [str x.name, int x.link]
def GNode.cells (t : Bool) (x : GNode) : List AVal := [int x.control, int x.parent, .list t (x.links.map intC)]
def encSig (t : Bool) (s : Sig) : AVal := .list t (s.map Control.cells)
def encI (t : Bool) (l : List Int) : AVal := .list t (l.map intC)
def encS (t : Bool) (l : List Str) : AVal := .list t (l.map strC)
def encW (t : Bool) (l : List Wire) : AVal := .list t (l.map Wire.cells)
def encN (t : Bool) (l : List GNode) : AVal := .list t (l.map (GNode.cells t))
def Big.cells (t : Bool) (b : Big) : List AVal := [int b.roots, encN t b.nodes, encI t b.sites, int b.edges, encS t b.outer, encW t b.inner]
def encB (t : Bool) (b : Big) : AVal := .agg (b.cells t)

theorem ints_flat (l : List Int) : ∀ e ∈ l.map intC, ∀ a ∈ e, flat a = true := by simp [intC]
theorem strs_flat (l : List Str) : ∀ e ∈ l.map strC, ∀ a ∈ e, flat a = true := by simp [strC]
theorem wires_flat (l : List Wire) : ∀ e ∈ l.map Wire.cells, ∀ a ∈ e, flat a = true := by simp [Wire.cells]
theorem sig_flat (l : Sig) : ∀ e ∈ l.map Control.cells, ∀ a ∈ e, flat a = true := by simp [Control.cells]

theorem old_encI (t : Bool) (l : List Int) : old (encI t l) = encI false l := by rw [encI, old_list, maps_old_flat (ints_flat l)]; rfl
theorem old_encS (t : Bool) (l : List Str) : old (encS t l) = encS false l := by rw [encS, old_list, maps_old_flat (strs_flat l)]; rfl
theorem old_encW (t : Bool) (l : List Wire) : old (encW t l) = encW false l := by rw [encW, old_list, maps_old_flat (wires_flat l)]; rfl
theorem old_encSig (t : Bool) (l : Sig) : old (encSig t l) = encSig false l := by rw [encSig, old_list, maps_old_flat (sig_flat l)]; rfl
theorem old_node (t : Bool) (x : GNode) : (x.cells t).map old = x.cells false := by
  simp only [GNode.cells, List.map_cons, List.map_nil, old_v]
  have := old_encI t x.links
  simp only [encI] at this
  rw [this]
theorem old_encN (t : Bool) (l : List GNode) : old (encN t l) = encN false l := by
  rw [encN, old_list, List.map_map]
  simp only [encN]
  congr 1
  exact List.map_congr_left fun x _ => old_node t x
theorem old_encB (t : Bool) (b : Big) : old (encB t b) = encB false b := by
  simp only [encB, Big.cells, old_agg, List.map_cons, List.map_nil, old_v, old_encN, old_encI, old_encS, old_encW]

theorem imm_encI (t : Bool) (l : List Int) : Imm (encI t l) := .list _ _ fun e he a ha => Imm.flat (ints_flat l e he a ha)
theorem imm_encS (t : Bool) (l : List Str) : Imm (encS t l) := .list _ _ fun e he a ha => Imm.flat (strs_flat l e he a ha)
theorem imm_encW (t : Bool) (l : List Wire) : Imm (encW t l) := .list _ _ fun e he a ha => Imm.flat (wires_flat l e he a ha)
theorem imm_encSig (t : Bool) (l : Sig) : Imm (encSig t l) := .list _ _ fun e he a ha => Imm.flat (sig_flat l e he a ha)
theorem imm_node (t : Bool) (x : GNode) : ∀ a ∈ x.cells t, Imm a := by
  intro a ha
  simp only [GNode.cells, List.mem_cons, List.not_mem_nil, or_false] at ha
  rcases ha with rfl | rfl | rfl
  · exact .v _
  · exact .v _
  · exact imm_encI t x.links
theorem imm_encN (t : Bool) (l : List GNode) : Imm (encN t l) := by
  refine .list _ _ fun e he a ha => ?_
  obtain ⟨x, _, rfl⟩ := List.mem_map.1 he
  exact imm_node t x a ha
theorem imm_encB (t : Bool) (b : Big) : Imm (encB t b) := by
  refine .agg _ fun a ha => ?_
  simp only [Big.cells, List.mem_cons, List.not_mem_nil, or_false] at ha
  rcases ha with rfl | rfl | rfl | rfl | rfl | rfl
  · exact .v _
  · exact imm_encN t _
  · exact imm_encI t _
  · exact .v _
  · exact imm_encS t _
  · exact imm_encW t _
section
variable {H : Heap} {n : Nat}
theorem ArgOk.encI (t : Bool) (l : List Int) : ArgOk H n (encI t l) (encI false l) := ArgOk.imm' (imm_encI t l) (old_encI t l)
theorem ArgOk.encS (t : Bool) (l : List Str) : ArgOk H n (encS t l) (encS false l) := ArgOk.imm' (imm_encS t l) (old_encS t l)
theorem ArgOk.encW (t : Bool) (l : List Wire) : ArgOk H n (encW t l) (encW false l) := ArgOk.imm' (imm_encW t l) (old_encW t l)
theorem ArgOk.encSig (t : Bool) (l : Sig) : ArgOk H n (encSig t l) (encSig false l) := ArgOk.imm' (imm_encSig t l) (old_encSig t l)
theorem ArgOk.encN (t : Bool) (l : List GNode) : ArgOk H n (encN t l) (encN false l) := ArgOk.imm' (imm_encN t l) (old_encN t l)
theorem ArgOk.encB (t : Bool) (b : Big) : ArgOk H n (encB t b) (encB false b) := ArgOk.imm' (imm_encB t b) (old_encB t b)
end

def okControl (c : Control) : Bool := isNm c.name && within c.ports 0 3 && within c.kind 0 2
def newName (sig : Sig) (i : Nat) : Bool := !(sig.take i).any fun d => d.name == (sig.getD i default).name
def goodSig (sig : Sig) : Bool := within sig.length 1 6 && (List.range sig.length).all fun i => okControl (sig.getD i default) && newName sig i
def ascends (l : List Str) (i : Nat) : Bool := decide (i = 0) || Op.bytesLess (l.getD (i - 1) []) (l.getD i [])
def goodNames (l : List Str) : Bool := decide (l.length ≤ 16) && (List.range l.length).all fun i => isNm (l.getD i []) && ascends l i
def okLink (b : Big) (l : Int) : Bool := within l 0 (b.edges + b.outer.length - 1)
def okParent (sig : Sig) (b : Big) (parent : Int) (below : Nat) : Bool :=
  if parent < 0 then decide (-b.roots ≤ parent) else decide (parent < below) && decide ((sig.getD (b.nodes.getD parent.toNat default).control.toNat default).kind ≠ 2)
def okNodeB (sig : Sig) (b : Big) (i : Nat) : Bool :=
  within (b.nodes.getD i default).control 0 (sig.length - 1) && okParent sig b (b.nodes.getD i default).parent i && decide ((b.nodes.getD i default).links.length = (sig.getD (b.nodes.getD i default).control.toNat default).ports) &&
    (b.nodes.getD i default).links.all (okLink b)
def goodB (sig : Sig) (b : Big) : Bool :=
  goodSig sig && within b.roots 0 4 && decide (b.nodes.length ≤ 8) && decide (b.sites.length ≤ 4) && within b.edges 0 8 && goodNames b.outer && goodNames (b.inner.map (·.name)) &&
    (List.range b.nodes.length).all (okNodeB sig b) && b.sites.all (fun p => okParent sig b p b.nodes.length) && b.inner.all (fun w => okLink b w.link)
end Go.Ab

/- The conversion of bytes to a string; laws.markText. -/
namespace Go.Ab
set_option linter.unusedSimpArgs false

theorem bytes_fold : ∀ (ns : List Int) (s : Array UInt8), ns.foldl (fun r n => r.push (UInt8.ofNat n.toNat)) (ByteArray.mk s) = ByteArray.mk (s ++ (ns.map fun n => UInt8.ofNat n.toNat).toArray)
  | [], s => by simp
  | n :: ns, s => by
    have h : (ByteArray.mk s).push (UInt8.ofNat n.toNat) = ByteArray.mk (s.push (UInt8.ofNat n.toNat)) := rfl
    rw [List.foldl_cons, h, bytes_fold ns]
    congr 1
    simp

/-- The conversion of a slice of bytes to a string. -/
theorem step_convertBytes {P : Program} {N : Nat} {Ty : Types} (hT : TypesOk P Ty) {ρ : Env} {H : Heap} {n : Nat} {d : Option Tmp} {ty : TypeId} {pos : String} {af : Array Edge} {gu : Option (Nat × Bool)} {s t : TypeId} {x : Operand} {j : TI} {els : List (List AVal)} {ns : List Int}
    (hs : kd Ty s = .slice j) (hj : j.desc = .int .u8) (ht : kd Ty t = .string) (hx : srcOf H (ρ.ev x) = some els) (hn : els = ns.map fun n => [.v (.int .u8 n)]) :
    OpSem P N ⟨d, .convert s t x, ty, pos, af, gu⟩ ρ H n fun v1 H1 n1 => v1 = str (ns.map fun n => UInt8.ofNat n.toNat) ∧ H1 = H ∧ n1 = n := by
  refine OpSem.of_value fun c a hH hn' g r => ?_
  subst hH hn'
  obtain ⟨i1, e, hi1, hd1, he⟩ := kd_slice hs
  obtain ⟨i2, hi2, hd2⟩ := kd_string ht
  have d1 := (hT s i1 hi1).1
  rw [hd1] at d1
  have d2 := (hT t i2 hi2).1
  rw [hd2] at d2
  have d3 := (hT e j he).1
  rw [hj] at d3
  have hsrc := srcOf_ok (sz := 1) g (r.ev x) hx (by subst hn; simp)
  refine ⟨_, .string ⟨(ns.map fun n => UInt8.ofNat n.toNat).toArray⟩, c, ?_, ⟨rfl, rfl, rfl⟩, .v _, g, Keeps.refl c⟩
  rcases hsrc with ⟨h1, h2⟩ | ⟨ad, cap, news, h1, h2, h3, h4⟩
  · have h0 : ns = [] := by rw [h2] at hn; simpa using hn.symm
    subst h0
    have := run_convert_bytes_string (P := P) c.w s t e none 0 0 d1 d3 d2
    simp [execOp, h1, this, Conv.bytesToString, Sem.run_pure]
    rfl
  · have hnews : news = ns.map (Value.int .u8) := by
      apply List.ext_getElem?
      intro q
      rcases Nat.lt_or_ge q ns.length with hq | hq
      · have hel : els[q]? = some [.v (.int .u8 ns[q])] := by rw [hn]; simp [hq]
        obtain ⟨_, h5⟩ := h4 q _ hel
        obtain ⟨u, hu, hr⟩ := h5 0 _ rfl
        simp only [Nat.mul_one, Nat.add_zero] at hu
        rw [hu, hr.v_inv]
        simp [hq]
      · rw [List.getElem?_eq_none (by rw [h2, hn]; simpa using hq), List.getElem?_eq_none (by simpa using hq)]
    have hl := run_loadCells_list (P := P) c.w ad news h3
    have hlen : news.length = els.length := by rw [h2, Nat.mul_one]
    rw [hlen, hnews] at hl
    have h5 := run_bytesToString c.w ad els.length cap ns hl
    have h6 := run_convert_bytes_string (P := P) c.w s t e (some ad) els.length cap d1 d3 d2
    have h7 := bytes_fold ns #[]
    have h8 : (ByteArray.empty : ByteArray) = ByteArray.mk #[] := rfl
    simp [execOp, h1, h6, h5, h8, h7]
end Go.Ab

/- Contract of laws.markText. -/
namespace Go.Ab
open Go.Proofs
set_option linter.unusedSimpArgs false

/-- The digits of a number ahead of a text. -/
def digs (k : Nat) (out : Str) : Str := if k = 0 then out else digs (k / 10) (UInt8.ofNat (48 + k % 10) :: out)
  termination_by k
  decreasing_by omega
def markTextL (k : Nat) : Str := if k = 0 then [109, 48] else 109 :: digs k []

theorem wrap_u8 {a : Int} (h : 0 ≤ a) (h2 : a < 256) : IntKind.u8.wrap a = a := by
  unfold IntKind.wrap
  simp [IntKind.min, IntKind.max, IntKind.bits, IntKind.signed]
  omega

theorem e68 : Ent Tryd.prog 68 := Ent.of Tryd.func68 (by kernel_rfl) rfl

set_option maxRecDepth 20000 in
theorem markText_ok (k : Nat) (hk : k ≤ 1152921504606846976) : PureC Tryd.prog 68 [int k] (fun r => r = str (markTextL k)) := by
  refine PureC.of Tryd.func68 rfl Tryd.ntmps68 (by simp) fun Q hQ => ?_
  refine Runs.seqE Ty_ok (by decide) fun k' hk' => ?_
  simp   -- R0
  refine hk' _ _ _ ?_
  refine Runs.seq ?_
  refine Runs.seqE Ty_ok (by decide) fun k' hk' => ?_
  simp   -- R1
  refine hk' _ _ _ ?_
  refine Runs.ite rfl (fun hc1 => ?_) (fun hc1 => ?_)   -- t5
  · simp at hc1
    refine Runs.seqE Ty_ok (by decide) fun k' hk' => ?_
    simp   -- R2
    refine hk' _ _ _ ?_
    refine Runs.ret Tryd.func68 (RetOk.one Tryd.results68) (hQ _ _ _ _ (.v _ _ _) ?_)
    simp [markTextL, hc1]
  · simp at hc1
    refine Runs.skip ?_
    refine Runs.seqE Ty_ok (by decide) fun k' hk' => ?_
    simp   -- R3
    refine hk' _ _ _ ?_
    refine Runs.seq ?_
    refine Runs.block (Runs.loopM (fun m ρ H n => ρ 0 = int m ∧ ∃ out : Str, ρ 3 = str out ∧ out.length + m ≤ k ∧ digs m out = digs k []) k ?_ ?_)
    · simp
    · rintro m ρ H n ⟨h0, out, h3, hlen, hd⟩ IH
      refine Runs.seq ?_
      refine Runs.seqE Ty_ok (by decide) fun k' hk' => ?_
      simp [h0]   -- R4
      refine hk' _ _ _ ?_
      refine Runs.ite rfl (fun hc2 => ?_) (fun hc2 => ?_)   -- t7
      · simp at hc2
        refine Runs.skip ?_
        refine Runs.block ?_
        refine Runs.seqE Ty_ok (by decide) fun k' hk' => ?_
        obtain ⟨g, hg⟩ : ∃ g : Nat, g = 48 + m % 10 := ⟨_, rfl⟩
        obtain ⟨q, hq'⟩ : ∃ q : Nat, q = m / 10 := ⟨_, rfl⟩
        have hq : ((m : Int).tdiv 10) = (q : Int) := by rw [Int.tdiv_eq_ediv_of_nonneg (by omega)]; omega
        have hw : IntKind.i64.wrap (48 + ((m : Int).tmod 10)) = (g : Int) := by
          rw [Int.tmod_eq_emod_of_nonneg (by omega), wrap64] <;> omega
        have hw2 : IntKind.i64.wrap (q : Int) = (q : Int) := by rw [wrap64] <;> omega
        have hw3 : IntKind.u8.wrap (g : Int) = (g : Int) := wrap_u8 (by omega) (by omega)
        simp [h0, h3, hw, hw3]   -- R5
        refine RunK.op Ty_ok (by decide) (by decide) rfl (step_convertBytes (ns := [(g : Int)]) (els := [[.v (.int .u8 g)]]) Ty_ok kd_122 (by kernel_rfl) kd_9 (by simp [srcOf]) rfl) ?_
        rintro v H' n' ⟨rfl, rfl, rfl⟩
        simp [h3, show 1 + out.length < 4611686018427387904 by omega]
        refine hk' _ _ _ ?_
        refine Runs.evalE Ty_ok (by decide) fun k' hk' => ?_
        simp [h0, hq, hw2]   -- R6
        refine hk' _ _ _ ?_
        refine Runs.inBlock ?_
        refine IH q _ _ _ (by omega) ⟨by simp, UInt8.ofNat g :: out, by simp, by simp; omega, ?_⟩
        rw [← hd, hg, hq']
        conv => rhs; rw [digs, if_neg (by omega)]
      · simp at hc2
        subst hc2
        rw [digs, if_pos rfl] at hd
        refine Runs.exit rfl ?_
        refine Runs.seqE Ty_ok (by decide) fun k' hk' => ?_
        simp [h3, show 1 + out.length < 4611686018427387904 by omega]   -- R7
        refine hk' _ _ _ ?_
        refine Runs.ret Tryd.func68 (RetOk.one Tryd.results68) (hQ _ _ _ _ (.v _ _ _) ?_)
        simp [markTextL, hc1, hd, show ¬ k = 0 by omega]
end Go.Ab

/- The laws' own functions on bigraphs' types: copies, marks, and whether marks are held. -/
namespace Go.Ab.Vg
set_option linter.unusedSimpArgs false
set_option linter.unusedVariables false
theorem list_fill {α : Type} [Inhabited α] {a : List α} {k : Nat} (hk : k < a.length) : (a.take k ++ List.replicate (a.length - k) default).set k a[k] = a.take (k + 1) ++ List.replicate (a.length - (k + 1)) default := by
  rw [List.set_append_right _ _ (by simp; omega)]
  rw [List.take_succ_eq_append_getElem hk, List.append_assoc]
  congr 1
  have h1 : a.length - k = (a.length - (k + 1)) + 1 := by omega
  have h2 : k - (a.take k).length = 0 := by simp; omega
  rw [h1, h2, List.replicate_succ]
  rfl
abbrev filled {α : Type} [Inhabited α] (a : List α) (k : Nat) : List α := a.take k ++ List.replicate (a.length - k) default
theorem filled_len {α : Type} [Inhabited α] {a : List α} {k : Nat} (hk : k ≤ a.length) : (filled a k).length = a.length := by simp [filled]; omega
theorem filled_set {α : Type} [Inhabited α] {a : List α} {k : Nat} (hk : k < a.length) : (filled a k).set k (at' a (k : Int)) = filled a (k + 1) := by rw [at_lt hk]; exact list_fill hk
theorem filled_end {α : Type} [Inhabited α] (a : List α) : filled a a.length = a := by simp [filled]
theorem filled_zero {α : Type} [Inhabited α] (a : List α) : filled a 0 = List.replicate a.length default := by simp [filled]

abbrev toIntS (a : List Int) := a
abbrev toIntS_pre (a : List Int) : Prop := a.length ≤ 1048576
def toIntS_wp (a : List Int) (Z : (List Int) → Prop) : Prop :=
  ∀ len2 : Int, len2 = (a.length : Int) → (0 ≤ len2 ∧ len2 ≤ 1073741824) ∧ ∀ l5 : List Int, l5 = List.replicate len2.toNat default → loopW (σ := Int × (List Int)) (fun (i16, l17) K21 => ∀ len22 : Int, len22 = (a.length : Int) → ∀ c24 : Bool, c24 = decide (i16 < len22) → ((c24 = true → (0 ≤ i16 ∧ i16 < a.length) ∧ ∀ x27 : Int, x27 = at' a i16 → (0 ≤ i16 ∧ i16 < l17.length) ∧ ∀ x34 : Int, x34 = at' l17 i16 → ∀ l37 : List Int, l37 = l17.set i16.toNat x27 → (I64 (i16 + 1)) ∧ ∀ v44 : Int, v44 = i16 + 1 → K21 (v44, l37)) ∧ (c24 = false → Z l17))) (0, l5)
theorem toIntS_vc (a : List Int) (h : toIntS_pre a) : toIntS_wp a (fun y => y = toIntS a) := by
  unfold toIntS_wp
  simp only [toIntS_pre] at h
  simp only [forall_eq, Int.toNat_natCast]
  refine ⟨by omega, loopW.upL a.length (fun k out => out = filled a k) _ (filled_zero a).symm ?_⟩
  rintro k out K hk rfl IH
  have hl := filled_len hk
  simp only [decide_eq_true_eq, decide_eq_false_iff_not, I64, Int.toNat_natCast]
  refine ⟨fun h1 => ⟨by omega, by omega, by omega, IH (by omega) _ (filled_set (by omega))⟩, fun h1 => ?_⟩
  rw [show k = a.length by omega]
  exact filled_end a
abbrev toStringS (a : List Str) := a
abbrev toStringS_pre (a : List Str) : Prop := a.length ≤ 1048576
def toStringS_wp (a : List Str) (Z : (List Str) → Prop) : Prop :=
  ∀ len2 : Int, len2 = (a.length : Int) → (0 ≤ len2 ∧ len2 ≤ 1073741824) ∧ ∀ l5 : List Str, l5 = List.replicate len2.toNat default → loopW (σ := Int × (List Str)) (fun (i16, l17) K21 => ∀ len22 : Int, len22 = (a.length : Int) → ∀ c24 : Bool, c24 = decide (i16 < len22) → ((c24 = true → (0 ≤ i16 ∧ i16 < a.length) ∧ ∀ x27 : Str, x27 = at' a i16 → (0 ≤ i16 ∧ i16 < l17.length) ∧ ∀ x34 : Str, x34 = at' l17 i16 → ∀ l37 : List Str, l37 = l17.set i16.toNat x27 → (I64 (i16 + 1)) ∧ ∀ v44 : Int, v44 = i16 + 1 → K21 (v44, l37)) ∧ (c24 = false → Z l17))) (0, l5)
theorem toStringS_vc (a : List Str) (h : toStringS_pre a) : toStringS_wp a (fun y => y = toStringS a) := by
  unfold toStringS_wp
  simp only [toStringS_pre] at h
  simp only [forall_eq, Int.toNat_natCast]
  refine ⟨by omega, loopW.upL a.length (fun k out => out = filled a k) _ (filled_zero a).symm ?_⟩
  rintro k out K hk rfl IH
  have hl := filled_len hk
  simp only [decide_eq_true_eq, decide_eq_false_iff_not, I64, Int.toNat_natCast]
  refine ⟨fun h1 => ⟨by omega, by omega, by omega, IH (by omega) _ (filled_set (by omega))⟩, fun h1 => ?_⟩
  rw [show k = a.length by omega]
  exact filled_end a
abbrev toControl (a : Control) := a
-- laws.toControl is not in this seat
abbrev toControlS (a : List Control) := a
abbrev toControlS_pre (a : List Control) : Prop := a.length ≤ 1048576
-- laws.toControlS is not in this seat
abbrev toWire (a : Wire) := a
def toWire_wp (a : Wire) (Z : Wire → Prop) : Prop :=
  Z a
theorem toWire_vc (a : Wire) : toWire_wp a (fun y => y = toWire a) := rfl
abbrev toWireS (a : List Wire) := a
abbrev toWireS_pre (a : List Wire) : Prop := a.length ≤ 1048576
def toWireS_wp (a : List Wire) (Z : (List Wire) → Prop) : Prop :=
  ∀ len2 : Int, len2 = (a.length : Int) → (0 ≤ len2 ∧ len2 ≤ 1073741824) ∧ ∀ l5 : List Wire, l5 = List.replicate len2.toNat default → loopW (σ := Int × (List Wire)) (fun (i16, l17) K21 => ∀ len22 : Int, len22 = (a.length : Int) → ∀ c24 : Bool, c24 = decide (i16 < len22) → ((c24 = true → (0 ≤ i16 ∧ i16 < a.length) ∧ ∀ x27 : Wire, x27 = at' a i16 → ∀ r29 : Wire, r29 = toWire x27 → (0 ≤ i16 ∧ i16 < l17.length) ∧ ∀ x35 : Wire, x35 = at' l17 i16 → ∀ l38 : List Wire, l38 = l17.set i16.toNat r29 → (I64 (i16 + 1)) ∧ ∀ v45 : Int, v45 = i16 + 1 → K21 (v45, l38)) ∧ (c24 = false → Z l17))) (0, l5)
theorem toWireS_vc (a : List Wire) (h : toWireS_pre a) : toWireS_wp a (fun y => y = toWireS a) := by
  unfold toWireS_wp
  simp only [toWireS_pre] at h
  simp only [forall_eq, Int.toNat_natCast]
  refine ⟨by omega, loopW.upL a.length (fun k out => out = filled a k) _ (filled_zero a).symm ?_⟩
  rintro k out K hk rfl IH
  have hl := filled_len hk
  simp only [decide_eq_true_eq, decide_eq_false_iff_not, I64, Int.toNat_natCast]
  refine ⟨fun h1 => ⟨by omega, by omega, by omega, IH (by omega) _ (filled_set (by omega))⟩, fun h1 => ?_⟩
  rw [show k = a.length by omega]
  exact filled_end a
abbrev toNode (a : GNode) := a
abbrev toNode_pre (a : GNode) : Prop := a.links.length ≤ 1048576
def toNode_wp (a : GNode) (Z : GNode → Prop) : Prop :=
  (toIntS_pre a.links) ∧ ∀ r10 : List Int, r10 = toIntS a.links → Z (GNode.mk a.control a.parent r10)
theorem toNode_vc (a : GNode) (h : toNode_pre a) : toNode_wp a (fun y => y = toNode a) := by
  unfold toNode_wp
  exact ⟨h, by rintro _ rfl; rfl⟩
abbrev toNodeS (a : List GNode) := a
abbrev toNodeS_pre (a : List GNode) : Prop := a.length ≤ 1048576 ∧ ∀ x ∈ a, x.links.length ≤ 1048576
def toNodeS_wp (a : List GNode) (Z : (List GNode) → Prop) : Prop :=
  ∀ len2 : Int, len2 = (a.length : Int) → (0 ≤ len2 ∧ len2 ≤ 1073741824) ∧ ∀ l5 : List GNode, l5 = List.replicate len2.toNat default → loopW (σ := Int × (List GNode)) (fun (i16, l17) K21 => ∀ len22 : Int, len22 = (a.length : Int) → ∀ c24 : Bool, c24 = decide (i16 < len22) → ((c24 = true → (0 ≤ i16 ∧ i16 < a.length) ∧ ∀ x27 : GNode, x27 = at' a i16 → (toNode_pre x27) ∧ ∀ r30 : GNode, r30 = toNode x27 → (0 ≤ i16 ∧ i16 < l17.length) ∧ ∀ l46 : List GNode, l46 = l17.set i16.toNat r30 → (I64 (i16 + 1)) ∧ ∀ v53 : Int, v53 = i16 + 1 → K21 (v53, l46)) ∧ (c24 = false → Z l17))) (0, l5)
theorem toNodeS_vc (a : List GNode) (h : toNodeS_pre a) : toNodeS_wp a (fun y => y = toNodeS a) := by
  unfold toNodeS_wp
  obtain ⟨h, h'⟩ := h
  simp only [forall_eq, Int.toNat_natCast]
  refine ⟨by omega, loopW.upL a.length (fun k out => out = filled a k) _ (filled_zero a).symm ?_⟩
  rintro k out K hk rfl IH
  have hl := filled_len hk
  simp only [decide_eq_true_eq, decide_eq_false_iff_not, I64, Int.toNat_natCast]
  refine ⟨fun h1 => ⟨by omega, ?_, by omega, by omega, IH (by omega) _ (filled_set (by omega))⟩, fun h1 => ?_⟩
  · rw [at_lt (show k < a.length by omega)]
    exact h' _ (List.getElem_mem _)
  · rw [show k = a.length by omega]
    exact filled_end a
abbrev toBigraph (a : Big) := a
abbrev toBigraph_pre (a : Big) : Prop := (a.nodes.length ≤ 1048576 ∧ ∀ x ∈ a.nodes, x.links.length ≤ 1048576) ∧ a.sites.length ≤ 1048576 ∧ a.outer.length ≤ 1048576 ∧ a.inner.length ≤ 1048576
def toBigraph_wp (a : Big) (Z : Big → Prop) : Prop :=
  (toNodeS_pre a.nodes) ∧ ∀ r9 : List GNode, r9 = toNodeS a.nodes → (toIntS_pre a.sites) ∧ ∀ r22 : List Int, r22 = toIntS a.sites → (toStringS_pre a.outer) ∧ ∀ r39 : List Str, r39 = toStringS a.outer → (toWireS_pre a.inner) ∧ ∀ r54 : List Wire, r54 = toWireS a.inner → Z (Big.mk a.roots r9 r22 a.edges r39 r54)
theorem toBigraph_vc (a : Big) (h : toBigraph_pre a) : toBigraph_wp a (fun y => y = toBigraph a) := by
  unfold toBigraph_wp
  simp only [forall_eq]
  exact ⟨h.1, h.2.1, h.2.2.1, h.2.2.2, trivial⟩

/-- Elements that are marked up to one. -/
def markPre {α : Type} (g : α → Int → α) (c : Int) (l : List α) (k : Int) (i : Nat) : List α := l.mapIdx fun j x => if j < i then g x (k + c * j) else x
def markL {α : Type} (g : α → Int → α) (c : Int) (l : List α) (k : Int) : List α × Int := (markPre g c l k l.length, k + c * l.length)
section
variable {α : Type} (g : α → Int → α) (c : Int) (l : List α) (k : Int)
theorem markPre_zero : markPre g c l k 0 = l := by
  apply List.ext_getElem
  · simp [markPre]
  · intro j h1 h2
    simp [markPre]
theorem markPre_len (i : Nat) : (markPre g c l k i).length = l.length := by simp [markPre]
theorem markPre_get [Inhabited α] {i : Nat} (hi : i < l.length) : at' (markPre g c l k i) (i : Int) = l[i] := by
  rw [at_lt (by rw [markPre_len]; exact hi)]
  simp [markPre]
theorem markPre_set {i : Nat} (hi : i < l.length) : (markPre g c l k i).set i (g l[i] (k + c * i)) = markPre g c l k (i + 1) := by
  apply List.ext_getElem
  · simp [markPre]
  · intro j h1 h2
    simp only [List.getElem_set, markPre, List.getElem_mapIdx]
    by_cases hj : i = j
    · subst hj
      simp
    · rw [if_neg hj]
      by_cases h3 : j < i
      · rw [if_pos h3, if_pos (by omega)]
      · rw [if_neg h3, if_neg (by omega)]
end
def markTxt (k : Int) : Str := markTextL k.toNat
abbrev markTxt_pre (k : Int) : Prop := 0 ≤ k ∧ k ≤ 1152921504606846976
abbrev MarkOk (c n k : Int) : Prop := 0 ≤ k ∧ n ≤ 1048576 ∧ k + c * n ≤ 1152921504606846976

abbrev markIntS (l : List Int) (k : Int) := markL (fun _ k => k) 1 l k
abbrev markIntS_pre (l : List Int) (k : Int) : Prop := MarkOk 1 l.length k
def markIntS_wp (a : List Int) (k_ : Int) (Z : ((List Int) × Int) → Prop) : Prop :=
  loopW (σ := Int × Int × (List Int)) (fun (k10, i11, l12) K15 => ∀ len16 : Int, len16 = (l12.length : Int) → ∀ c18 : Bool, c18 = decide (i11 < len16) → ((c18 = true → (0 ≤ i11 ∧ i11 < l12.length) ∧ ∀ x25 : Int, x25 = at' l12 i11 → ∀ l28 : List Int, l28 = l12.set i11.toNat k10 → (I64 (k10 + 1)) ∧ ∀ v34 : Int, v34 = k10 + 1 → (I64 (i11 + 1)) ∧ ∀ v37 : Int, v37 = i11 + 1 → K15 (v34, v37, l28)) ∧ (c18 = false → Z (l12, k10)))) (k_, 0, a)
theorem markIntS_vc (l : List Int) (k : Int) (h : markIntS_pre l k) : markIntS_wp l k (fun y => y = markIntS l k) := by
  unfold markIntS_wp
  obtain ⟨h1, h2, h3⟩ := h
  refine loopW.up l.length (fun s => s.2.1) (fun i t => (k + 1 * i, (i : Int), t)) (fun _ _ => rfl) (fun i out => out = markPre (fun _ k => k) 1 l k i) l (by simp) (markPre_zero _ _ _ _).symm ?_
  rintro i out K hk rfl IH
  have hl := markPre_len (fun _ k => k) 1 l k i
  simp only [forall_eq, decide_eq_true_eq, decide_eq_false_iff_not, I64, Int.toNat_natCast]
  refine ⟨fun h4 => ⟨by omega, by omega, by omega, ?_⟩, fun h4 => ?_⟩
  · have hi : i < l.length := by omega
    have := IH hi _ rfl
    rw [← markPre_set _ _ _ _ hi] at this
    rw [show k + 1 * (((i + 1 : Nat)) : Int) = k + 1 * i + 1 by omega] at this
    simpa using this
  · rw [show i = l.length by omega]
    rfl
abbrev markStringS (l : List Str) (k : Int) := markL (fun _ k => markTxt k) 1 l k
abbrev markStringS_pre (l : List Str) (k : Int) : Prop := MarkOk 1 l.length k
def markStringS_wp (a : List Str) (k_ : Int) (Z : ((List Str) × Int) → Prop) : Prop :=
  loopW (σ := Int × Int × (List Str)) (fun (k10, i11, l12) K15 => ∀ len16 : Int, len16 = (l12.length : Int) → ∀ c18 : Bool, c18 = decide (i11 < len16) → ((c18 = true → (markTxt_pre k10) ∧ ∀ r21 : Str, r21 = markTxt k10 → (0 ≤ i11 ∧ i11 < l12.length) ∧ ∀ x27 : Str, x27 = at' l12 i11 → ∀ l30 : List Str, l30 = l12.set i11.toNat r21 → (I64 (k10 + 1)) ∧ ∀ v36 : Int, v36 = k10 + 1 → (I64 (i11 + 1)) ∧ ∀ v39 : Int, v39 = i11 + 1 → K15 (v36, v39, l30)) ∧ (c18 = false → Z (l12, k10)))) (k_, 0, a)
theorem markStringS_vc (l : List Str) (k : Int) (h : markStringS_pre l k) : markStringS_wp l k (fun y => y = markStringS l k) := by
  unfold markStringS_wp
  obtain ⟨h1, h2, h3⟩ := h
  refine loopW.up l.length (fun s => s.2.1) (fun i t => (k + 1 * i, (i : Int), t)) (fun _ _ => rfl) (fun i out => out = markPre (fun _ k => markTxt k) 1 l k i) l (by simp) (markPre_zero _ _ _ _).symm ?_
  rintro i out K hk rfl IH
  have hl := markPre_len (fun _ k => markTxt k) 1 l k i
  simp only [forall_eq, decide_eq_true_eq, decide_eq_false_iff_not, I64, Int.toNat_natCast]
  refine ⟨fun h4 => ⟨by simp only [markTxt_pre]; omega, by omega, by omega, by omega, ?_⟩, fun h4 => ?_⟩
  · have hi : i < l.length := by omega
    have := IH hi _ rfl
    rw [← markPre_set _ _ _ _ hi] at this
    rw [show k + 1 * (((i + 1 : Nat)) : Int) = k + 1 * i + 1 by omega] at this
    simpa using this
  · rw [show i = l.length by omega]
    rfl
theorem at_set {α : Type} [Inhabited α] {l : List α} {i : Nat} {x : α} (hi : i < l.length) : at' (l.set i x) (i : Int) = x := by
  rw [at_lt (by simpa using hi)]
  simp
abbrev markWireS (l : List Wire) (k : Int) := markL (fun _ k => (⟨markTxt k, k + 1⟩ : Wire)) 2 l k
abbrev markWireS_pre (l : List Wire) (k : Int) : Prop := MarkOk 2 l.length k
def markWireS_wp (a : List Wire) (k_ : Int) (Z : ((List Wire) × Int) → Prop) : Prop :=
  loopW (σ := Int × Int × (List Wire)) (fun (k10, i11, l12) K15 => ∀ len16 : Int, len16 = (l12.length : Int) → ∀ c18 : Bool, c18 = decide (i11 < len16) → ((c18 = true → (markTxt_pre k10) ∧ ∀ r21 : Str, r21 = markTxt k10 → (0 ≤ i11 ∧ i11 < l12.length) ∧ ∀ x27 : Wire, x27 = at' l12 i11 → ∀ l30 : List Wire, l30 = l12.set i11.toNat (Wire.mk r21 x27.link) → (I64 (k10 + 1)) ∧ ∀ v36 : Int, v36 = k10 + 1 → (0 ≤ i11 ∧ i11 < l30.length) ∧ ∀ x44 : Wire, x44 = at' l30 i11 → ∀ l47 : List Wire, l47 = l30.set i11.toNat (Wire.mk x44.name v36) → (I64 (v36 + 1)) ∧ ∀ v53 : Int, v53 = v36 + 1 → (I64 (i11 + 1)) ∧ ∀ v56 : Int, v56 = i11 + 1 → K15 (v53, v56, l47)) ∧ (c18 = false → Z (l12, k10)))) (k_, 0, a)
theorem markWireS_vc (l : List Wire) (k : Int) (h : markWireS_pre l k) : markWireS_wp l k (fun y => y = markWireS l k) := by
  unfold markWireS_wp
  obtain ⟨h1, h2, h3⟩ := h
  refine loopW.up l.length (fun s => s.2.1) (fun i t => (k + 2 * i, (i : Int), t)) (fun _ _ => rfl) (fun i out => out = markPre (fun _ k => (⟨markTxt k, k + 1⟩ : Wire)) 2 l k i) l (by simp) (markPre_zero _ _ _ _).symm ?_
  rintro i out K hk rfl IH
  have hl := markPre_len (fun _ k => (⟨markTxt k, k + 1⟩ : Wire)) 2 l k i
  simp only [forall_eq, decide_eq_true_eq, decide_eq_false_iff_not, I64, Int.toNat_natCast, List.length_set]
  refine ⟨fun h4 => ⟨by simp only [markTxt_pre]; omega, by omega, by omega, by omega, by omega, by omega, ?_⟩, fun h4 => ?_⟩
  · have hi : i < l.length := by omega
    rw [at_set (by rw [hl]; exact hi), List.set_set]
    have := IH hi _ rfl
    rw [← markPre_set _ _ _ _ hi] at this
    rw [show k + 2 * (((i + 1 : Nat)) : Int) = k + 2 * i + 1 + 1 by omega] at this
    simpa using this
  · rw [show i = l.length by omega]
    rfl
abbrev markControlS (l : List Control) (k : Int) := markL (fun _ k => (⟨markTxt k, k + 1, k + 1 + 1⟩ : Control)) 3 l k
abbrev markControlS_pre (l : List Control) (k : Int) : Prop := MarkOk 3 l.length k
-- laws.markControlS is not in this seat
/-- Whether marks are there. -/
def heldIntS (l : List Int) (k : Int) : Int := if (List.range l.length).all (fun i => decide (at' l (i : Int) = k + i)) then k + l.length else -1
abbrev heldIntS_pre (l : List Int) (k : Int) : Prop := MarkOk 1 l.length k
def heldIntS_wp (a : List Int) (k_ : Int) (Z : Int → Prop) : Prop :=
  loopW (σ := Int × Int) (fun (k5, i6) K9 => ∀ len10 : Int, len10 = (a.length : Int) → ∀ c12 : Bool, c12 = decide (i6 < len10) → ((c12 = true → (0 ≤ i6 ∧ i6 < a.length) ∧ ∀ x15 : Int, x15 = at' a i6 → ∀ c17 : Bool, c17 = decide (x15 ≠ k5) → ((c17 = true → Z (-1)) ∧ (c17 = false → (I64 (k5 + 1)) ∧ ∀ v20 : Int, v20 = k5 + 1 → (I64 (i6 + 1)) ∧ ∀ v23 : Int, v23 = i6 + 1 → K9 (v20, v23)))) ∧ (c12 = false → Z k5))) (k_, 0)
theorem heldIntS_vc (l : List Int) (k : Int) (h : heldIntS_pre l k) : heldIntS_wp l k (fun y => y = heldIntS l k) := by
  unfold heldIntS_wp
  obtain ⟨h1, h2, h3⟩ := h
  refine loopW.up (τ := Unit) l.length (fun s => s.2) (fun i _ => (k + i, (i : Int))) (fun _ _ => rfl) (fun i _ => ∀ j < i, at' l (j : Int) = k + j) () (by simp) (by simp) ?_
  rintro i _ K hk hI IH
  simp only [forall_eq, decide_eq_true_eq, decide_eq_false_iff_not, I64]
  refine ⟨fun h4 => ⟨by omega, fun h5 => ?_, fun h5 => ⟨by omega, by omega, ?_⟩⟩, fun h4 => ?_⟩
  · rw [heldIntS, if_neg]
    rw [List.all_eq_true]
    intro h6
    exact h5 (by simpa using h6 i (List.mem_range.2 (by omega)))
  · have := IH (by omega) () (fun j hj => by
      rcases Nat.lt_or_ge j i with h6 | h6
      · exact hI j h6
      · rw [show j = i by omega]; omega)
    simpa [show k + ((i : Int) + 1) = k + i + 1 by omega] using this
  · have hi : i = l.length := by omega
    rw [heldIntS, if_pos, hi]
    rw [List.all_eq_true]
    intro j hj
    simpa using hI j (by have := List.mem_range.1 hj; omega)
theorem held_mark (l : List Int) (k : Int) : heldIntS (markIntS l k).1 k = (markIntS l k).2 := by
  have hl : (markIntS l k).1.length = l.length := by simp [markIntS, markL, markPre_len]
  rw [heldIntS, if_pos, hl]
  · simp [markIntS, markL]
  · rw [List.all_eq_true]
    intro j hj
    have hj := List.mem_range.1 hj
    rw [at_lt hj]
    rw [hl] at hj
    simp [markIntS, markL, markPre, hj]
theorem marked_len {α : Type} (g : α → Int → α) (c : Int) (l : List α) (k : Int) : (markL g c l k).1.length = l.length := by simp [markL, markPre_len]
end Go.Ab.Vg

/- Marks on processes: what the laws' own functions on processes do. -/
namespace Go.Ab.Vg
set_option linter.unusedSimpArgs false
set_option linter.unusedVariables false
abbrev markAmbS (l : List AmbNode) (k : Int) := markL (fun _ k => (⟨k, markTxt (k + 1), k + 1 + 1⟩ : AmbNode)) 3 l k
abbrev markAmbS_pre (l : List AmbNode) (k : Int) : Prop := MarkOk 3 l.length k
def markAmbS_wp (a : List AmbNode) (k_ : Int) (Z : ((List AmbNode) × Int) → Prop) : Prop :=
  loopW (σ := Int × Int × (List AmbNode)) (fun (k10, i11, l12) K15 => ∀ len16 : Int, len16 = (l12.length : Int) → ∀ c18 : Bool, c18 = decide (i11 < len16) → ((c18 = true → (0 ≤ i11 ∧ i11 < l12.length) ∧ ∀ x25 : AmbNode, x25 = at' l12 i11 → ∀ l28 : List AmbNode, l28 = l12.set i11.toNat (AmbNode.mk k10 x25.name x25.parent) → (I64 (k10 + 1)) ∧ ∀ v34 : Int, v34 = k10 + 1 → (markTxt_pre v34) ∧ ∀ r37 : Str, r37 = markTxt v34 → (0 ≤ i11 ∧ i11 < l28.length) ∧ ∀ x44 : AmbNode, x44 = at' l28 i11 → ∀ l47 : List AmbNode, l47 = l28.set i11.toNat (AmbNode.mk x44.kind r37 x44.parent) → (I64 (v34 + 1)) ∧ ∀ v53 : Int, v53 = v34 + 1 → (0 ≤ i11 ∧ i11 < l47.length) ∧ ∀ x61 : AmbNode, x61 = at' l47 i11 → ∀ l64 : List AmbNode, l64 = l47.set i11.toNat (AmbNode.mk x61.kind x61.name v53) → (I64 (v53 + 1)) ∧ ∀ v70 : Int, v70 = v53 + 1 → (I64 (i11 + 1)) ∧ ∀ v73 : Int, v73 = i11 + 1 → K15 (v70, v73, l64)) ∧ (c18 = false → Z (l12, k10)))) (k_, 0, a)
theorem markAmbS_vc (l : List AmbNode) (k : Int) (h : markAmbS_pre l k) : markAmbS_wp l k (fun y => y = markAmbS l k) := by
  unfold markAmbS_wp
  obtain ⟨h1, h2, h3⟩ := h
  refine loopW.up l.length (fun s => s.2.1) (fun i t => (k + 3 * i, (i : Int), t)) (fun _ _ => rfl) (fun i out => out = markPre (fun _ k => (⟨k, markTxt (k + 1), k + 1 + 1⟩ : AmbNode)) 3 l k i) l (by simp) (markPre_zero _ _ _ _).symm ?_
  rintro i out K hk rfl IH
  have hl := markPre_len (fun _ k => (⟨k, markTxt (k + 1), k + 1 + 1⟩ : AmbNode)) 3 l k i
  simp only [forall_eq, decide_eq_true_eq, decide_eq_false_iff_not, I64, Int.toNat_natCast, List.length_set]
  refine ⟨fun h4 => ⟨by omega, by omega, by simp only [markTxt_pre]; omega, by omega, by omega, by omega, by omega, by omega, ?_⟩, fun h4 => ?_⟩
  · have hi : i < l.length := by omega
    rw [at_set (by rw [hl]; exact hi), List.set_set, at_set (by simp only [List.length_set, hl]; exact hi), List.set_set]
    have := IH hi _ rfl
    rw [← markPre_set _ _ _ _ hi] at this
    rw [show k + 3 * (((i + 1 : Nat)) : Int) = k + 3 * i + 1 + 1 + 1 by omega] at this
    simpa using this
  · rw [show i = l.length by omega]
    rfl
abbrev markProcess (p : Proc) (k : Int) : Proc × Int := markAmbS p k
abbrev markProcess_pre (p : Proc) (k : Int) : Prop := MarkOk 3 p.length k
def markProcess_wp (a : Proc) (k_ : Int) (Z : (Proc × Int) → Prop) : Prop :=
  (markAmbS_pre a k_) ∧ ∀ r8 : (List AmbNode) × Int, r8 = markAmbS a k_ → Z (r8.1, r8.2)
theorem markProcess_vc (p : Proc) (k : Int) (h : markProcess_pre p k) : markProcess_wp p k (fun y => y = markProcess p k) := by
  unfold markProcess_wp
  exact ⟨h, by rintro _ rfl; rfl⟩
def heldAmbS (l : List AmbNode) (k : Int) : Int := if (List.range l.length).all (fun i => decide ((at' l (i : Int)).kind = k + 3 * i ∧ (at' l (i : Int)).name = markTxt (k + 3 * i + 1) ∧ (at' l (i : Int)).parent = k + 3 * i + 1 + 1)) then k + 3 * l.length else -1
abbrev heldAmbS_pre (l : List AmbNode) (k : Int) : Prop := MarkOk 3 l.length k
def heldAmbS_wp (a : List AmbNode) (k_ : Int) (Z : Int → Prop) : Prop :=
  loopW (σ := Int × Int) (fun (k5, i6) K9 => ∀ len10 : Int, len10 = (a.length : Int) → ∀ c12 : Bool, c12 = decide (i6 < len10) → ((c12 = true → (0 ≤ i6 ∧ i6 < a.length) ∧ ∀ x15 : AmbNode, x15 = at' a i6 → ∀ c17 : Bool, c17 = decide (x15.kind ≠ k5) → ((c17 = true → Z (-1)) ∧ (c17 = false → (I64 (k5 + 1)) ∧ ∀ v20 : Int, v20 = k5 + 1 → (0 ≤ i6 ∧ i6 < a.length) ∧ ∀ x23 : AmbNode, x23 = at' a i6 → (markTxt_pre v20) ∧ ∀ r27 : Str, r27 = markTxt v20 → ∀ c28 : Bool, c28 = decide (x15.name ≠ r27) → ((c28 = true → Z (-1)) ∧ (c28 = false → (I64 (v20 + 1)) ∧ ∀ v32 : Int, v32 = v20 + 1 → (0 ≤ i6 ∧ i6 < a.length) ∧ ∀ x35 : AmbNode, x35 = at' a i6 → ∀ c37 : Bool, c37 = decide (x35.parent ≠ v32) → ((c37 = true → Z (-1)) ∧ (c37 = false → (I64 (v32 + 1)) ∧ ∀ v40 : Int, v40 = v32 + 1 → (I64 (i6 + 1)) ∧ ∀ v43 : Int, v43 = i6 + 1 → K9 (v40, v43)))))))) ∧ (c12 = false → Z k5))) (k_, 0)
theorem heldAmbS_vc (l : List AmbNode) (k : Int) (h : heldAmbS_pre l k) : heldAmbS_wp l k (fun y => y = heldAmbS l k) := by
  unfold heldAmbS_wp
  obtain ⟨h1, h2, h3⟩ := h
  refine loopW.up (τ := Unit) l.length (fun s => s.2) (fun i _ => (k + 3 * i, (i : Int))) (fun _ _ => rfl) (fun i _ => ∀ j < i, (at' l (j : Int)).kind = k + 3 * j ∧ (at' l (j : Int)).name = markTxt (k + 3 * j + 1) ∧ (at' l (j : Int)).parent = k + 3 * j + 1 + 1) () (by simp) (by simp) ?_
  rintro i _ K hk hI IH
  simp only [forall_eq, decide_eq_true_eq, decide_eq_false_iff_not, I64]
  have hno : i < l.length → ¬ ((at' l (i : Int)).kind = k + 3 * i ∧ (at' l (i : Int)).name = markTxt (k + 3 * i + 1) ∧ (at' l (i : Int)).parent = k + 3 * i + 1 + 1) → heldAmbS l k = -1 := fun hi hn => by
    rw [heldAmbS, if_neg]
    rw [List.all_eq_true]
    intro h6
    exact hn (by simpa using h6 i (List.mem_range.2 hi))
  refine ⟨fun h4 => ⟨by omega, fun h5 => ?_, fun h5 => ⟨by omega, by omega, by simp only [markTxt_pre]; omega, fun h6 => ?_, fun h6 => ⟨by omega, by omega, fun h7 => ?_, fun h7 => ⟨by omega, by omega, ?_⟩⟩⟩⟩, fun h4 => ?_⟩
  · exact (hno (by omega) fun h => h5 h.1).symm
  · exact (hno (by omega) fun h => h6 h.2.1).symm
  · exact (hno (by omega) fun h => h7 h.2.2).symm
  · have hi : i < l.length := by omega
    have := IH hi () (fun j hj => by
      rcases Nat.lt_or_ge j i with h8 | h8
      · exact hI j h8
      · rw [show j = i by omega]
        exact ⟨by simpa using h5, by simpa using h6, by simpa using h7⟩)
    rw [show k + 3 * (((i + 1 : Nat)) : Int) = k + 3 * i + 1 + 1 + 1 by omega] at this
    simpa using this
  · have hi : i = l.length := by omega
    rw [heldAmbS, if_pos, hi]
    rw [List.all_eq_true]
    intro j hj
    simpa using hI j (by have := List.mem_range.1 hj; omega)
theorem heldAmb_mark (l : List AmbNode) (k : Int) : heldAmbS (markAmbS l k).1 k = (markAmbS l k).2 := by
  have hl : (markAmbS l k).1.length = l.length := marked_len _ _ _ _
  rw [heldAmbS, if_pos, hl]
  · rfl
  · rw [List.all_eq_true]
    intro j hj
    have hj := List.mem_range.1 hj
    rw [at_lt hj]
    rw [hl] at hj
    simp [markAmbS, markL, markPre, hj]
def heldProcess (p : Proc) (k : Int) : Int := if heldAmbS p k < 0 then -1 else heldAmbS p k
abbrev heldProcess_pre (p : Proc) (k : Int) : Prop := MarkOk 3 p.length k
def heldProcess_wp (a : Proc) (k_ : Int) (Z : Int → Prop) : Prop :=
  (heldAmbS_pre a k_) ∧ ∀ r5 : Int, r5 = heldAmbS a k_ → ∀ c6 : Bool, c6 = decide (r5 < 0) → ((c6 = true → Z (-1)) ∧ (c6 = false → Z r5))
theorem heldProcess_vc (p : Proc) (k : Int) (h : heldProcess_pre p k) : heldProcess_wp p k (fun y => y = heldProcess p k) := by
  unfold heldProcess_wp
  refine ⟨h, ?_⟩
  rintro _ rfl
  simp only [forall_eq, decide_eq_true_eq, decide_eq_false_iff_not, heldProcess]
  exact ⟨fun h => (if_pos h).symm, fun h => (if_neg h).symm⟩
theorem heldP_mark (p : Proc) (k : Int) (hk : 0 ≤ k) : heldProcess (markProcess p k).1 k = (markProcess p k).2 := by
  rw [heldProcess, heldAmb_mark, if_neg]
  simp only [markL]
  omega
end Go.Ab.Vg

/- Contracts of spec.l1In, spec.l2Name and spec.l12Good. -/
namespace Go.Ab
open Go.Proofs
set_option linter.unusedSimpArgs false
theorem e47 : Ent Tryd.prog 47 := Ent.of Tryd.func47 (by kernel_rfl) rfl
theorem e70 : Ent Tryd.prog 70 := Ent.of Tryd.func70 (by kernel_rfl) rfl
theorem e71 : Ent Tryd.prog 71 := Ent.of Tryd.func71 (by kernel_rfl) rfl
theorem e100 : Ent Tryd.prog 100 := Ent.of Tryd.func100 (by kernel_rfl) rfl
theorem e101 : Ent Tryd.prog 101 := Ent.of Tryd.func101 (by kernel_rfl) rfl
theorem e113 : Ent Tryd.prog 113 := Ent.of Tryd.func113 (by kernel_rfl) rfl

theorem l1In_ok (n lo hi : Int) : PureC Tryd.prog 70 [int n, int lo, int hi] (fun r => r = bool (within n lo hi)) := by
  refine PureC.of Tryd.func70 rfl Tryd.ntmps70 (by simp) fun Q hQ => ?_
  refine Runs.seqE Ty_ok (by decide) fun k' hk' => ?_
  simp
  refine hk' _ _ _ (Runs.seqE Ty_ok (by decide) fun k' hk' => ?_)
  simp
  by_cases h : lo ≤ n
  all_goals
    simp [h]
    refine hk' _ _ _ (Runs.ret Tryd.func70 (RetOk.one Tryd.results70) (hQ _ _ _ _ (ResOk.v _ _ _) ?_))
    simp [within, h]

theorem isNm_bad {s : Str} {k : Nat} (hk : k < s.length) (h : lower s[k] = false) : isNm s = false := by
  have : s.all lower = false := by
    rw [List.all_eq_false]
    exact ⟨s[k], List.getElem_mem hk, by simp [h]⟩
  simp [isNm, this]

theorem l2Name_ok (s : Str) (hs : s.length ≤ 1048576) : PureC Tryd.prog 71 [str s] (fun r => r = bool (isNm s)) := by
  refine PureC.of Tryd.func71 rfl Tryd.ntmps71 (by simp) fun Q hQ => ?_
  refine Runs.seqE Ty_ok (by decide) fun k' hk' => ?_
  simp   -- R0
  refine hk' _ _ _ ?_
  refine Runs.seq ?_
  refine Runs.seqE Ty_ok (by decide) fun k' hk' => ?_
  simp   -- R1
  refine hk' _ _ _ ?_
  refine Runs.block (Runs.loopUp s.length (fun k ρ H n => ρ 0 = str s ∧ ρ 3 = int k ∧ (s.take k).all lower = true) ?_ ?_)
  · simp
  · rintro k ρ H n hk ⟨h0, h3, hall⟩ IH
    refine Runs.seq ?_
    refine Runs.seqE Ty_ok (by decide) fun k' hk' => ?_
    simp [h0, h3]   -- R2
    refine hk' _ _ _ ?_
    refine Runs.ite rfl (fun hc1 => ?_) (fun hc1 => ?_)   -- t7
    · simp at hc1
      refine Runs.skip ?_
      refine Runs.seq ?_
      refine Runs.block ?_
      refine Runs.seqE Ty_ok (by decide) fun k' hk' => ?_
      simp [h0, h3, hc1]   -- R4
      by_cases ha : (s[k].toNat : Int) < 97
      · simp [ha]
        refine hk' _ _ _ ?_
        refine Runs.ite rfl (fun _ => ?_) (fun h => by simp at h)
        refine Runs.seqE Ty_ok (by decide) fun k' hk' => ?_
        simp   -- R5
        refine hk' _ _ _ ?_
        refine Runs.ret Tryd.func71 (RetOk.one Tryd.results71) (hQ _ _ _ _ (.v _ _ _) ?_)
        rw [isNm_bad hc1 (by simp [lower]; omega)]
      · by_cases hz : (122 : Int) < s[k].toNat
        · simp [ha, hz, h0, h3, hc1]
          refine hk' _ _ _ ?_
          refine Runs.ite rfl (fun _ => ?_) (fun h => by simp at h)
          refine Runs.seqE Ty_ok (by decide) fun k' hk' => ?_
          simp   -- R5
          refine hk' _ _ _ ?_
          refine Runs.ret Tryd.func71 (RetOk.one Tryd.results71) (hQ _ _ _ _ (.v _ _ _) ?_)
          rw [isNm_bad hc1 (by simp [lower]; omega)]
        · simp [ha, hz, h0, h3, hc1]
          refine hk' _ _ _ ?_
          refine Runs.ite rfl (fun h => by simp at h) (fun _ => ?_)
          refine Runs.skip ?_
          refine Runs.inBlock ?_
          refine Runs.evalE Ty_ok (by decide) fun k' hk' => ?_
          simp [h3, wrap_succ (show k < 4611686018427387904 by omega)]   -- R3
          refine hk' _ _ _ ?_
          refine IH hc1 _ _ _ ?_
          rw [List.take_succ_eq_append_getElem hc1, List.all_append, hall]
          simp [h0, lower]
          omega
    · simp at hc1
      refine Runs.exit rfl ?_
      refine Runs.seqE Ty_ok (by decide) fun k' hk' => ?_
      simp [h0]   -- R6
      refine RunK.callA Ty_ok (l1In_ok s.length 1 4) e70 (.cons (.v _ _ _) (.cons (.v _ _ _) (.cons (.v _ _ _) .nil))) (by decide) (by decide) rfl (by simp) ?_
      rintro _ rfl
      simp
      refine hk' _ _ _ ?_
      refine Runs.ret Tryd.func71 (RetOk.one Tryd.results71) (hQ _ _ _ _ (.v _ _ _) ?_)
      rw [List.take_of_length_le hc1] at hall
      simp only [isNm, hall, Bool.and_true]

theorem l12Good_ok (p : Proc) (hp : p.length ≤ 1048576) (hn : ∀ i, i < p.length → (p.getD i default).name.length ≤ 1048576) : PureC Tryd.prog 47 [encP false p] (fun r => r = bool (goodP p)) := by
  refine PureC.of Tryd.func47 rfl Tryd.ntmps47 (by simp) fun Q hQ => ?_
  refine Runs.seqE Ty_ok (by decide) fun k' hk' => ?_
  simp [encP]   -- R0
  refine hk' _ _ _ ?_
  refine Runs.seq ?_
  refine Runs.seqE Ty_ok (by decide) fun k' hk' => ?_
  simp   -- R1
  refine hk' _ _ _ ?_
  refine Runs.block (Runs.loopUp p.length (fun k ρ H n => ρ 1 = .ptr (0, 1) 1 0 0 ∧ H (0, 1) = some ⟨1, [[.list false (p.map AmbNode.cells)]]⟩ ∧ ρ 3 = int k ∧ ∀ i, i < k → okNode p i = true) ?_ ?_)
  · simp
  · rintro k ρ H n hk ⟨h1, hH, h3, hall⟩ IH
    refine Runs.seq ?_
    refine Runs.seqE Ty_ok (by decide) fun k' hk' => ?_
    simp [h1, hH, h3]   -- R2
    refine hk' _ _ _ ?_
    refine Runs.ite rfl (fun hc1 => ?_) (fun hc1 => ?_)   -- t9
    · simp at hc1
      refine Runs.skip ?_
      refine Runs.seq ?_
      refine Runs.block ?_
      refine Runs.seqE Ty_ok (by decide) fun k' hk' => ?_
      simp [h1, hH, h3, hc1, AmbNode.cells]   -- R3
      refine hk' _ _ _ ?_
      refine Runs.seqE Ty_ok (by decide) fun k' hk' => ?_
      simp   -- R4
      have hx : p.getD k default = p[k] := by simp [hc1]
      have hok : okNode p k = (within p[k].kind 0 3 && isNm p[k].name && within p[k].parent (-1) ((k : Int) - 1)) := by rw [okNode, hx]
      have hnm := hn k hc1
      rw [hx] at hnm
      refine RunK.callA Ty_ok (l1In_ok p[k].kind 0 3) e70 (.cons (.v _ _ _) (.cons (.v _ _ _) (.cons (.v _ _ _) .nil))) (by decide) (by decide) rfl (by simp) ?_
      rintro _ rfl
      cases hw : within p[k].kind 0 3
      · simp [hw]
        refine hk' _ _ _ ?_
        refine Runs.ite rfl (fun _ => ?_) (fun h => by simp at h)
        refine Runs.seqE Ty_ok (by decide) fun k' hk' => ?_
        simp   -- R5
        refine hk' _ _ _ ?_
        refine Runs.ret Tryd.func47 (RetOk.one Tryd.results47) (hQ _ _ _ _ (.v _ _ _) ?_)
        rw [goodP_bad hc1 (by rw [hok]; simp [hw])]
      · simp [hw]
        refine RunK.callA Ty_ok (l2Name_ok p[k].name hnm) e71 (.cons (.v _ _ _) .nil) (by decide) (by decide) rfl (by simp) ?_
        rintro _ rfl
        cases hs : isNm p[k].name
        · simp [hs]
          refine hk' _ _ _ ?_
          refine Runs.ite rfl (fun _ => ?_) (fun h => by simp at h)
          refine Runs.seqE Ty_ok (by decide) fun k' hk' => ?_
          simp   -- R5
          refine hk' _ _ _ ?_
          refine Runs.ret Tryd.func47 (RetOk.one Tryd.results47) (hQ _ _ _ _ (.v _ _ _) ?_)
          rw [goodP_bad hc1 (by rw [hok]; simp [hw, hs])]
        · simp [hs, h3, show -9223372036854775808 ≤ (k : Int) - 1 by omega, show (k : Int) - 1 ≤ 9223372036854775807 by omega]
          refine RunK.callA Ty_ok (l1In_ok p[k].parent (-1) ((k : Int) - 1)) e70 (.cons (.v _ _ _) (.cons (.v _ _ _) (.cons (.v _ _ _) .nil))) (by decide) (by decide) rfl (by simp) ?_
          rintro _ rfl
          cases hu : within p[k].parent (-1) ((k : Int) - 1)
          · simp [hu]
            refine hk' _ _ _ ?_
            refine Runs.ite rfl (fun _ => ?_) (fun h => by simp at h)
            refine Runs.seqE Ty_ok (by decide) fun k' hk' => ?_
            simp   -- R5
            refine hk' _ _ _ ?_
            refine Runs.ret Tryd.func47 (RetOk.one Tryd.results47) (hQ _ _ _ _ (.v _ _ _) ?_)
            rw [goodP_bad hc1 (by rw [hok]; simp [hw, hs, hu])]
          · simp [hu]
            refine hk' _ _ _ ?_
            refine Runs.ite rfl (fun h => by simp at h) (fun _ => ?_)
            refine Runs.skip ?_
            refine Runs.inBlock ?_
            refine Runs.evalE Ty_ok (by decide) fun k' hk' => ?_
            simp [h3, wrap_succ (show k < 4611686018427387904 by omega)]   -- R6
            refine hk' _ _ _ ?_
            refine IH hc1 _ _ _ ?_
            simp [h1, hH]
            intro i hi
            by_cases hik : i = k
            · subst hik
              rw [hok]; simp [hw, hs, hu]
            · exact hall i (by omega)
    · simp at hc1
      refine Runs.exit rfl ?_
      refine Runs.seqE Ty_ok (by decide) fun k' hk' => ?_
      simp [h1, hH]   -- R7
      refine hk' _ _ _ ?_
      refine Runs.ret Tryd.func47 (RetOk.one Tryd.results47) (hQ _ _ _ _ (.v _ _ _) ?_)
      rw [goodP_end (by rwa [show k = p.length by omega] at hall)]
      simp
      omega
end Go.Ab

/- Contracts of impl.isLink, impl.isParent, impl.isNode and of their like in the reference. -/
namespace Go.Ab
open Go.Proofs
set_option linter.unusedSimpArgs false
theorem e96 : Ent Tryd.prog 96 := Ent.of Tryd.func96 (by kernel_rfl) rfl
theorem e89 : Ent Tryd.prog 89 := Ent.of Tryd.func89 (by kernel_rfl) rfl
theorem e93 : Ent Tryd.prog 93 := Ent.of Tryd.func93 (by kernel_rfl) rfl
theorem e88 : Ent Tryd.prog 88 := Ent.of Tryd.func88 (by kernel_rfl) rfl
theorem isLink_ok (b : Big) (l : Int) (he : 0 ≤ b.edges ∧ b.edges ≤ 8) (ho : b.outer.length ≤ 1048576) : PureC Tryd.prog 96 [encB false b, int l] (fun r => r = bool (okLink b l)) := by
  have hw1 : IntKind.i64.wrap (b.edges + b.outer.length) = b.edges + b.outer.length := by rw [wrap64] <;> omega
  have hw2 : IntKind.i64.wrap (b.edges + b.outer.length - 1) = b.edges + b.outer.length - 1 := by rw [wrap64] <;> omega
  refine PureC.of Tryd.func96 rfl Tryd.ntmps96 (by simp) fun Q hQ => ?_
  refine Runs.seqE Ty_ok (by decide) fun k' hk' => ?_
  simp [encB, Big.cells]   -- R0
  refine hk' _ _ _ ?_
  refine Runs.seqE Ty_ok (by decide) fun k' hk' => ?_
  simp [encS, hw1, hw2]   -- R1
  refine RunK.callA Ty_ok (within_ok l 0 (b.edges + b.outer.length - 1)) e74 (.cons (.v _ _ _) (.cons (.v _ _ _) (.cons (.v _ _ _) .nil))) (by decide) (by decide) rfl (by simp) ?_
  rintro _ rfl
  simp
  refine hk' _ _ _ ?_
  exact Runs.ret Tryd.func96 (RetOk.one Tryd.results96) (hQ _ _ _ _ (.v _ _ _) rfl)

theorem l2Link_ok (b : Big) (l : Int) (he : 0 ≤ b.edges ∧ b.edges ≤ 8) (ho : b.outer.length ≤ 1048576) : PureC Tryd.prog 89 [encB false b, int l] (fun r => r = bool (okLink b l)) := by
  have hw1 : IntKind.i64.wrap (b.edges + b.outer.length) = b.edges + b.outer.length := by rw [wrap64] <;> omega
  have hw2 : IntKind.i64.wrap (b.edges + b.outer.length - 1) = b.edges + b.outer.length - 1 := by rw [wrap64] <;> omega
  refine PureC.of Tryd.func89 rfl Tryd.ntmps89 (by simp) fun Q hQ => ?_
  refine Runs.seqE Ty_ok (by decide) fun k' hk' => ?_
  simp [encB, Big.cells]   -- R0
  refine hk' _ _ _ ?_
  refine Runs.seqE Ty_ok (by decide) fun k' hk' => ?_
  simp [encS, hw1, hw2]   -- R1
  refine RunK.callA Ty_ok (l1In_ok l 0 (b.edges + b.outer.length - 1)) e70 (.cons (.v _ _ _) (.cons (.v _ _ _) (.cons (.v _ _ _) .nil))) (by decide) (by decide) rfl (by simp) ?_
  rintro _ rfl
  simp
  refine hk' _ _ _ ?_
  exact Runs.ret Tryd.func89 (RetOk.one Tryd.results89) (hQ _ _ _ _ (.v _ _ _) rfl)

def isNodeB (b : Big) (x : Int) : Bool := within x 0 ((b.nodes.length : Int) - 1)

/-- The nodes below a number have controls. -/
def CtlOk (sig : Sig) (b : Big) (below : Nat) : Prop := ∀ i, i < below → 0 ≤ (b.nodes.getD i default).control ∧ (b.nodes.getD i default).control < sig.length

theorem isParent_ok (sig : Sig) (b : Big) (parent : Int) (below : Nat) (hr : 0 ≤ b.roots ∧ b.roots ≤ 4) (hb : below ≤ b.nodes.length) (hc : CtlOk sig b below) :
    PureC Tryd.prog 93 [encB false b, encSig false sig, int parent, int below] (fun r => r = bool (okParent sig b parent below)) := by
  refine PureC.of Tryd.func93 rfl Tryd.ntmps93 (by simp) fun Q hQ => ?_
  refine Runs.seqE Ty_ok (by decide) fun k' hk' => ?_
  simp [encB, Big.cells]   -- R0
  refine hk' _ _ _ ?_
  refine Runs.seq ?_
  refine Runs.seqE Ty_ok (by decide) fun k' hk' => ?_
  simp   -- R1
  refine hk' _ _ _ ?_
  refine Runs.ite rfl (fun hc1 => ?_) (fun hc1 => ?_)   -- t10
  · have hc1 : parent < 0 := by simpa using hc1
    have hw : IntKind.i64.wrap (0 - b.roots) = -b.roots := by rw [wrap64] <;> omega
    refine Runs.seqE Ty_ok (by decide) fun k' hk' => ?_
    have hw' : IntKind.i64.wrap (-b.roots) = -b.roots := by rw [wrap64] <;> omega
    simp [hw, hw']   -- R2
    refine hk' _ _ _ ?_
    exact Runs.ret Tryd.func93 (RetOk.one Tryd.results93) (hQ _ _ _ _ (.v _ _ _) (by simp [okParent, hc1]))
  · have hc1 : ¬ parent < 0 := by simpa using hc1
    refine Runs.skip ?_
    refine Runs.seqE Ty_ok (by decide) fun k' hk' => ?_
    by_cases hlt : parent < (below : Int)
    · obtain ⟨q, rfl⟩ : ∃ q : Nat, parent = q := ⟨parent.toNat, by omega⟩
      have hq : q < b.nodes.length := by omega
      have hcq := hc q (by omega)
      have hg : b.nodes.getD q default = b.nodes[q] := by simp [hq]
      rw [hg] at hcq
      obtain ⟨c, hcc⟩ : ∃ c : Nat, b.nodes[q].control = c := ⟨b.nodes[q].control.toNat, by omega⟩
      have hcl : c < sig.length := by omega
      simp [hlt, encN, encSig, hq, GNode.cells, hcc, hcl, Control.cells, guardOf]   -- R3
      refine hk' _ _ _ ?_
      refine Runs.ret Tryd.func93 (RetOk.one Tryd.results93) (hQ _ _ _ _ (.v _ _ _) ?_)
      have hlt' : q < below := by omega
      simp [okParent, hlt', hq, hcc, hcl]
      rfl
    · simp [hlt, guardOf]   -- R3
      refine hk' _ _ _ ?_
      exact Runs.ret Tryd.func93 (RetOk.one Tryd.results93) (hQ _ _ _ _ (.v _ _ _) (by simp [okParent, hc1, hlt]))

theorem l2Under_ok (sig : Sig) (b : Big) (parent : Int) (below : Nat) (hp : I64 parent) (hr : 0 ≤ b.roots ∧ b.roots ≤ 4) (hb : below ≤ b.nodes.length) (hc : CtlOk sig b below) :
    PureC Tryd.prog 88 [encSig false sig, encB false b, int parent, int below] (fun r => r = bool (okParent sig b parent below)) := by
  obtain ⟨hp1, hp2⟩ := hp
  refine PureC.of Tryd.func88 rfl Tryd.ntmps88 (by simp) fun Q hQ => ?_
  refine Runs.seqE Ty_ok (by decide) fun k' hk' => ?_
  simp [encB, Big.cells]   -- R0
  refine hk' _ _ _ ?_
  refine Runs.seq ?_
  refine Runs.seqE Ty_ok (by decide) fun k' hk' => ?_
  simp   -- R1
  refine hk' _ _ _ ?_
  refine Runs.ite rfl (fun hc1 => ?_) (fun hc1 => ?_)   -- t10
  · have hc1 : parent < 0 := by simpa using hc1
    have hw : IntKind.i64.wrap (-1 - parent) = -1 - parent := by rw [wrap64] <;> omega
    have hw2 : IntKind.i64.wrap (b.roots - 1) = b.roots - 1 := by rw [wrap64] <;> omega
    refine Runs.seqE Ty_ok (by decide) fun k' hk' => ?_
    simp [hw, hw2]   -- R2
    refine RunK.callA Ty_ok (l1In_ok (-1 - parent) 0 (b.roots - 1)) e70 (.cons (.v _ _ _) (.cons (.v _ _ _) (.cons (.v _ _ _) .nil))) (by decide) (by decide) rfl (by simp) ?_
    rintro _ rfl
    simp
    refine hk' _ _ _ ?_
    refine Runs.ret Tryd.func88 (RetOk.one Tryd.results88) (hQ _ _ _ _ (.v _ _ _) ?_)
    have : within (-1 - parent) 0 (b.roots - 1) = decide (-b.roots ≤ parent) := by
      simp only [within]
      by_cases h : -b.roots ≤ parent
      · simp [h]; omega
      · simp [h]; omega
    simp [okParent, hc1, this]
  · have hc1 : ¬ parent < 0 := by simpa using hc1
    refine Runs.skip ?_
    refine Runs.seqE Ty_ok (by decide) fun k' hk' => ?_
    by_cases hlt : parent < (below : Int)
    · obtain ⟨q, rfl⟩ : ∃ q : Nat, parent = q := ⟨parent.toNat, by omega⟩
      have hq : q < b.nodes.length := by omega
      have hcq := hc q (by omega)
      have hg : b.nodes.getD q default = b.nodes[q] := by simp [hq]
      rw [hg] at hcq
      obtain ⟨c, hcc⟩ : ∃ c : Nat, b.nodes[q].control = c := ⟨b.nodes[q].control.toNat, by omega⟩
      have hcl : c < sig.length := by omega
      simp [hlt, encN, encSig, hq, GNode.cells, hcc, hcl, Control.cells, guardOf]   -- R3
      refine hk' _ _ _ ?_
      refine Runs.ret Tryd.func88 (RetOk.one Tryd.results88) (hQ _ _ _ _ (.v _ _ _) ?_)
      have hlt' : q < below := by omega
      simp [okParent, hlt', hq, hcc, hcl]
      rfl
    · simp [hlt, guardOf]   -- R3
      refine hk' _ _ _ ?_
      exact Runs.ret Tryd.func88 (RetOk.one Tryd.results88) (hQ _ _ _ _ (.v _ _ _) (by simp [okParent, hc1, hlt]))
end Go.Ab

/- Contracts of impl.areNames and spec.l2Names. -/
namespace Go.Ab
open Go.Proofs
set_option linter.unusedSimpArgs false
theorem e91 : Ent Tryd.prog 91 := Ent.of Tryd.func91 (by kernel_rfl) rfl
theorem e85 : Ent Tryd.prog 85 := Ent.of Tryd.func85 (by kernel_rfl) rfl

theorem less_not : ∀ (s p : Str), (Op.bytesLess s p || s == p) = !Op.bytesLess p s
  | [], [] => by simp [Op.bytesLess]
  | [], _ :: _ => by simp [Op.bytesLess]
  | _ :: _, [] => by simp [Op.bytesLess]
  | a :: x, b :: y => by
    have ih := less_not x y
    simp only [Op.bytesLess]
    rcases Nat.lt_trichotomy a.toNat b.toNat with h | h | h
    · have h1 : a < b := h
      have h2 : ¬ b < a := fun h' => by have h' : b.toNat < a.toNat := h'; omega
      have h3 : (b == a) = false := by
        rw [beq_eq_false_iff_ne]
        rintro rfl
        omega
      simp [h1, h2, h3]
    · have h0 : a = b := UInt8.toNat_inj.1 h
      subst h0
      have h2 : ¬ a < a := fun h' => by have h' : a.toNat < a.toNat := h'; omega
      simp [h2]
      rw [← ih]
      try (cases Op.bytesLess x y <;> simp)
      try (by_cases hxy : x = y <;> simp [hxy])
    · have h1 : b < a := h
      have h2 : ¬ a < b := fun h' => by have h' : a.toNat < b.toNat := h'; omega
      have h3 : (a == b) = false := by
        rw [beq_eq_false_iff_ne]
        rintro rfl
        omega
      have h4 : ¬ a = b := by simpa using h3
      simp [h1, h2, h4]

theorem all_range_bad {n k : Nat} {q : Nat → Bool} (hk : k < n) (h : q k = false) : (List.range n).all q = false := by
  rw [List.all_eq_false]
  exact ⟨k, by simpa using hk, by simp [h]⟩
theorem all_range_end {n : Nat} {q : Nat → Bool} (h : ∀ i, i < n → q i = true) : (List.range n).all q = true := by
  simpa [List.all_eq_true] using h

def okName (l : List Str) (i : Nat) : Bool := isNm (l.getD i []) && ascends l i
theorem goodNames_eq (l : List Str) : goodNames l = (decide (l.length ≤ 16) && (List.range l.length).all (okName l)) := rfl

theorem areNames_ok (l : List Str) (hl : l.length ≤ 1048576) (hs : ∀ s ∈ l, s.length ≤ 1048576) : PureC Tryd.prog 91 [encS false l] (fun r => r = bool (goodNames l)) := by
  refine PureC.of Tryd.func91 rfl Tryd.ntmps91 (by simp) fun Q hQ => ?_
  refine Runs.seqE Ty_ok (by decide) fun k' hk' => ?_
  simp [encS]   -- R0
  refine hk' _ _ _ ?_
  refine Runs.seq ?_
  refine Runs.seqE Ty_ok (by decide) fun k' hk' => ?_
  simp   -- R1
  refine hk' _ _ _ ?_
  refine Runs.block (Runs.loopUp l.length (fun k ρ H n => ρ 0 = .list false (l.map strC) ∧ ρ 5 = .list false (l.map strC) ∧ ρ 6 = int l.length ∧ ρ 7 = int k ∧ ∀ i, i < k → okName l i = true) ?_ ?_)
  · simp
  · rintro k ρ H n hk ⟨h0, h5, h6, h7, hall⟩ IH
    refine Runs.seqE Ty_ok (by decide) fun k' hk' => ?_
    simp [h6, h7]   -- R2
    refine hk' _ _ _ ?_
    refine Runs.seq ?_
    refine Runs.ite rfl (fun hc1 => ?_) (fun hc1 => ?_)   -- t8
    · have hc1 : k < l.length := by simpa using hc1
      refine Runs.skip ?_
      refine Runs.seq ?_
      refine Runs.block ?_
      refine Runs.seqE Ty_ok (by decide) fun k' hk' => ?_
      simp [h5, h7, hc1, strC]   -- R3
      refine hk' _ _ _ ?_
      refine Runs.seqE Ty_ok (by decide) fun k' hk' => ?_
      have fin : ∀ ρ : Env, ρ 0 = .list false (l.map strC) → ρ 5 = .list false (l.map strC) → ρ 6 = int l.length → ρ 7 = int k → ρ 27 = bool (!okName l k) → Runs Tryd.prog 91 32 k' ρ H n Q := by
        intro ρ h0 h5 h6 h7 h27
        refine hk' _ _ _ ?_
        refine Runs.ite h27 (fun hc2 => ?_) (fun hc2 => ?_)   -- t27
        · have hb : okName l k = false := by simpa using hc2
          refine Runs.seqE Ty_ok (by decide) fun k' hk' => ?_
          simp   -- R5
          refine hk' _ _ _ ?_
          exact Runs.ret Tryd.func91 (RetOk.one Tryd.results91) (hQ _ _ _ _ (.v _ _ _) (by rw [goodNames_eq, all_range_bad hc1 hb, Bool.and_false]))
        · have hb : okName l k = true := by simpa using hc2
          refine Runs.skip ?_
          refine Runs.inBlock ?_
          refine Runs.evalE Ty_ok (by decide) fun k' hk' => ?_
          simp [h7, wrap_succ (show k < 4611686018427387904 by omega)]   -- R6
          refine hk' _ _ _ ?_
          refine IH hc1 _ _ _ ⟨by simp [h0], by simp [h5], by simp [h6], by simp, fun i hi => ?_⟩
          rcases Nat.lt_or_ge i k with h | h
          · exact hall i h
          · rw [show i = k by omega]; exact hb
      have hgk : l.getD k [] = l[k] := by simp [hc1]
      simp   -- R4
      refine RunK.callA Ty_ok (isName_ok l[k] (hs _ (List.getElem_mem hc1))) e75 (.cons (.v _ _ _) .nil) (by decide) (by decide) rfl (by simp) ?_
      rintro _ rfl
      cases hnm : isNm l[k]
      · simp [guardOf]
        exact fin _ (by simp [h0]) (by simp [h5]) (by simp [h6]) (by simp [h7]) (by simp [okName, hc1, hnm])
      · by_cases hk0 : k = 0
        · subst hk0
          simp [guardOf]
          exact fin _ (by simp [h0]) (by simp [h5]) (by simp [h6]) (by simp [h7]) (by simp [okName, hc1, hnm, ascends])
        · have hk1 : 0 < k := by omega
          have hw : IntKind.i64.wrap ((k : Int) - 1) = ((k - 1 : Nat) : Int) := by rw [wrap64] <;> omega
          have hkl : k - 1 < l.length := by omega
          have hgk1 : l.getD (k - 1) [] = l[k - 1] := by simp [hkl]
          have hp := less_not l[k] l[k - 1]
          simp [guardOf, hk1, h0, hw, hkl, strC]
          refine fin _ (by simp [h0]) (by simp [h5]) (by simp [h6]) (by simp [h7]) ?_
          simp only [okName, hgk, hnm, ascends, hgk1, hk0, decide_false, Bool.false_or, Bool.true_and]
          rw [← hp]
          simp
    · have hc1 : ¬ k < l.length := by simpa using hc1
      have hke : k = l.length := by omega
      subst hke
      refine Runs.exit rfl ?_
      refine Runs.seqE Ty_ok (by decide) fun k' hk' => ?_
      simp [h0]   -- R7
      refine hk' _ _ _ ?_
      refine Runs.ret Tryd.func91 (RetOk.one Tryd.results91) (hQ _ _ _ _ (.v _ _ _) ?_)
      rw [goodNames_eq, all_range_end hall]
      simp
      omega
end Go.Ab

/- Contracts of spec.l2Names, impl.innerNames and spec.l2Inner. -/
namespace Go.Ab
open Go.Proofs
set_option linter.unusedSimpArgs false
theorem e92 : Ent Tryd.prog 92 := Ent.of Tryd.func92 (by kernel_rfl) rfl
theorem e86 : Ent Tryd.prog 86 := Ent.of Tryd.func86 (by kernel_rfl) rfl

theorem l2Names_ok (l : List Str) (hl : l.length ≤ 1048576) (hs : ∀ s ∈ l, s.length ≤ 1048576) : PureC Tryd.prog 85 [encS false l] (fun r => r = bool (goodNames l)) := by
  refine PureC.of Tryd.func85 rfl Tryd.ntmps85 (by simp) fun Q hQ => ?_
  refine Runs.seqE Ty_ok (by decide) fun k' hk' => ?_
  simp [encS]   -- R0
  refine hk' _ _ _ ?_
  refine Runs.seq ?_
  refine Runs.seqE Ty_ok (by decide) fun k' hk' => ?_
  simp   -- R1
  refine hk' _ _ _ ?_
  refine Runs.block (Runs.loopUp l.length (fun k ρ H n => ρ 0 = .list false (l.map strC) ∧ ρ 3 = int k ∧ ∀ i, i < k → okName l i = true) ?_ ?_)
  · simp
  · rintro k ρ H n hk ⟨h0, h3, hall⟩ IH
    refine Runs.seq ?_
    refine Runs.seqE Ty_ok (by decide) fun k' hk' => ?_
    simp [h0, h3]   -- R2
    refine hk' _ _ _ ?_
    refine Runs.ite rfl (fun hc1 => ?_) (fun hc1 => ?_)   -- t7
    · have hc1 : k < l.length := by simpa using hc1
      refine Runs.skip ?_
      refine Runs.seq ?_
      refine Runs.block ?_
      refine Runs.seqD Ty_ok kindOp_ok draws (by decide) (by kernel_rfl) fun k' hk' => ?_
      have fin : ∀ ρ : Env, ρ 0 = .list false (l.map strC) → ρ 3 = int k → ρ 31 = bool (!okName l k) → Runs Tryd.prog 85 35 k' ρ H n Q := by
        intro ρ h0 h3 h31
        refine hk' _ _ _ ?_
        refine Runs.ite h31 (fun hc2 => ?_) (fun hc2 => ?_)
        · have hb : okName l k = false := by simpa using hc2
          refine Runs.seqE Ty_ok (by decide) fun k' hk' => ?_
          simp   -- R5
          refine hk' _ _ _ ?_
          exact Runs.ret Tryd.func85 (RetOk.one Tryd.results85) (hQ _ _ _ _ (.v _ _ _) (by rw [goodNames_eq, all_range_bad hc1 hb, Bool.and_false]))
        · have hb : okName l k = true := by simpa using hc2
          refine Runs.skip ?_
          refine Runs.inBlock ?_
          refine Runs.evalE Ty_ok (by decide) fun k' hk' => ?_
          simp [h3, wrap_succ (show k < 4611686018427387904 by omega)]   -- R3
          refine hk' _ _ _ ?_
          refine IH hc1 _ _ _ ⟨by simp [h0], by simp, fun i hi => ?_⟩
          rcases Nat.lt_or_ge i k with h | h
          · exact hall i h
          · rw [show i = k by omega]; exact hb
      have hgk : l.getD k [] = l[k] := by simp [hc1]
      simp [h0, h3, hc1, strC]   -- R4
      refine RunDK.callA Ty_ok kindOp_ok (l2Name_ok l[k] (hs _ (List.getElem_mem hc1))) e71 (.cons (.v _ _ _) .nil) (by decide) rfl (by simp) ?_
      cases hnm : isNm l[k]
      · simp [guardOf]
        exact fin _ (by simp [h0, strC]) (by simp [h3]) (by simp [okName, hc1, hnm])
      · by_cases hk0 : k = 0
        · subst hk0
          simp [h3, guardOf]
          exact fin _ (by simp [h0, strC]) (by simp [h3]) (by simp [okName, hc1, hnm, ascends])
        · have hk1 : 0 < k := by omega
          have hw : IntKind.i64.wrap ((k : Int) - 1) = ((k - 1 : Nat) : Int) := by rw [wrap64] <;> omega
          have hkl : k - 1 < l.length := by omega
          have hgk1 : l.getD (k - 1) [] = l[k - 1] := by simp [hkl]
          simp [guardOf, hk1, h0, h3, hw, hkl, hc1, strC]
          refine fin _ (by simp [h0, strC]) (by simp [h3]) ?_
          simp only [okName, hgk, hnm, ascends, hgk1, hk0, decide_false, Bool.false_or, Bool.true_and]
          simp
    · have hc1 : ¬ k < l.length := by simpa using hc1
      have hke : k = l.length := by omega
      subst hke
      refine Runs.exit rfl ?_
      refine Runs.seqE Ty_ok (by decide) fun k' hk' => ?_
      simp [h0]   -- R6
      refine hk' _ _ _ ?_
      refine Runs.ret Tryd.func85 (RetOk.one Tryd.results85) (hQ _ _ _ _ (.v _ _ _) ?_)
      rw [goodNames_eq, all_range_end hall]
      simp
      omega

def names (b : Big) : List Str := b.inner.map (·.name)

theorem innerNames_ok (b : Big) (hl : b.inner.length ≤ 1048576) : PureC Tryd.prog 92 [encB false b] (fun r => r = encS true (names b)) := by
  refine PureC.of Tryd.func92 rfl Tryd.ntmps92 (by simp) fun Q hQ => ?_
  refine Runs.seqE Ty_ok (by decide) fun k' hk' => ?_
  simp [encB, Big.cells]   -- R0
  refine hk' _ _ _ ?_
  refine Runs.seqE Ty_ok (by decide) fun k' hk' => ?_
  simp   -- R1
  refine hk' _ _ _ ?_
  refine Runs.seq ?_
  refine Runs.seqE Ty_ok (by decide) fun k' hk' => ?_
  simp [encW]   -- R2
  refine hk' _ _ _ ?_
  refine Runs.block (Runs.loopUp b.inner.length (fun k ρ H n => ρ 8 = .list false (b.inner.map Wire.cells) ∧ ρ 9 = int b.inner.length ∧ ρ 10 = int k ∧ ρ 3 = .arr (1, 6) k 0 k ∧ H (1, 6) = some ⟨1, ((names b).take k).map strC⟩) ?_ ?_)
  · simp
  · rintro k ρ H n hk ⟨h8, h9, h10, h3, hH⟩ IH
    refine Runs.seqE Ty_ok (by decide) fun k' hk' => ?_
    simp [h9, h10]   -- R3
    refine hk' _ _ _ ?_
    refine Runs.seq ?_
    refine Runs.ite rfl (fun hc1 => ?_) (fun hc1 => ?_)   -- t11
    · have hc1 : k < b.inner.length := by simpa using hc1
      have htk : (((names b).take k).map strC).length = k := by simp [names]; omega
      have hts : (names b).take (k + 1) = (names b).take k ++ [b.inner[k].name] := by
        rw [List.take_succ_eq_append_getElem (by simpa [names] using hc1)]
        simp [names]
      refine Runs.skip ?_
      refine Runs.seq ?_
      refine Runs.block ?_
      refine Runs.seqE Ty_ok (by decide) fun k' hk' => ?_
      simp [h8, h10, hc1, Wire.cells]   -- R4
      refine hk' _ _ _ ?_
      refine Runs.evalE Ty_ok (by decide) fun k' hk' => ?_
      generalize hels : ((names b).take k).map strC = els at hH htk
      simp [h3, hH, htk, live, show k ≤ 1073741823 by omega]   -- R5
      refine hk' _ _ _ ?_
      refine Runs.inBlock ?_
      refine Runs.evalE Ty_ok (by decide) fun k' hk' => ?_
      simp [h10, wrap_succ (show k < 4611686018427387904 by omega)]   -- R6
      refine hk' _ _ _ ?_
      refine IH hc1 _ _ _ ⟨by simp [h8], by simp [h9], by simp, by simp, ?_⟩
      simp [hts, ← hels, strC]
    · have hc1 : ¬ k < b.inner.length := by simpa using hc1
      have hke : k = b.inner.length := by omega
      subst hke
      refine Runs.exit rfl ?_
      refine Runs.seqE Ty_ok (by decide) fun k' hk' => ?_
      simp [h3]   -- R7
      refine hk' _ _ _ ?_
      have he : (names b).take b.inner.length = names b := List.take_of_length_le (by simp [names])
      rw [he] at hH
      exact Runs.ret Tryd.func92 (RetOk.one Tryd.results92) (hQ _ _ _ _ (.of (Ret.arrF (by simp [live, hH, names]; rfl) (by simp [strC]))) rfl)

theorem l2Inner_ok (b : Big) (hl : b.inner.length ≤ 1048576) : PureC Tryd.prog 86 [encB false b] (fun r => r = encS true (names b)) := by
  refine PureC.of Tryd.func86 rfl Tryd.ntmps86 (by simp) fun Q hQ => ?_
  refine Runs.seqE Ty_ok (by decide) fun k' hk' => ?_
  simp [encB, Big.cells]   -- R0
  refine hk' _ _ _ ?_
  refine Runs.seqE Ty_ok (by decide) fun k' hk' => ?_
  simp   -- R1
  refine hk' _ _ _ ?_
  refine Runs.seq ?_
  refine Runs.seqE Ty_ok (by decide) fun k' hk' => ?_
  simp [encW]   -- R2
  refine hk' _ _ _ ?_
  refine Runs.block (Runs.loopUp b.inner.length (fun k ρ H n => ρ 1 = .ptr (0, 1) 1 0 0 ∧ H (0, 1) = some ⟨6, [b.cells false]⟩ ∧ ρ 4 = int k ∧ ρ 3 = .arr (1, 5) k 0 k ∧ H (1, 5) = some ⟨1, ((names b).take k).map strC⟩) ?_ ?_)
  · simp [Big.cells, encW]
  · rintro k ρ H n hk ⟨h1, hb, h4, h3, hH⟩ IH
    refine Runs.seq ?_
    refine Runs.seqE Ty_ok (by decide) fun k' hk' => ?_
    simp [h1, hb, h4, Big.cells, encW]   -- R3
    refine hk' _ _ _ ?_
    refine Runs.ite rfl (fun hc1 => ?_) (fun hc1 => ?_)   -- t10
    · have hc1 : k < b.inner.length := by simpa using hc1
      have htk : (((names b).take k).map strC).length = k := by simp [names]; omega
      have hts : (names b).take (k + 1) = (names b).take k ++ [b.inner[k].name] := by
        rw [List.take_succ_eq_append_getElem (by simpa [names] using hc1)]
        simp [names]
      refine Runs.skip ?_
      refine Runs.seq ?_
      refine Runs.block ?_
      refine Runs.evalE Ty_ok (by decide) fun k' hk' => ?_
      generalize hels : ((names b).take k).map strC = els at hH htk
      simp [h1, hb, h3, h4, hH, htk, hc1, live, Big.cells, encW, Wire.cells, show k ≤ 1073741823 by omega]   -- R5
      refine hk' _ _ _ ?_
      refine Runs.inBlock ?_
      refine Runs.evalE Ty_ok (by decide) fun k' hk' => ?_
      simp [h4, wrap_succ (show k < 4611686018427387904 by omega)]   -- R4
      refine hk' _ _ _ ?_
      refine IH hc1 _ _ _ ⟨by simp [h1], by simp [hb, Big.cells, encW], by simp, by simp, ?_⟩
      simp [hts, ← hels, strC]
    · have hc1 : ¬ k < b.inner.length := by simpa using hc1
      have hke : k = b.inner.length := by omega
      subst hke
      refine Runs.exit rfl ?_
      refine Runs.seqE Ty_ok (by decide) fun k' hk' => ?_
      simp [h3]   -- R6
      refine hk' _ _ _ ?_
      have he : (names b).take b.inner.length = names b := List.take_of_length_le (by simp [names])
      rw [he] at hH
      exact Runs.ret Tryd.func86 (RetOk.one Tryd.results86) (hQ _ _ _ _ (.of (Ret.arrF (by simp [live, hH, names]; rfl) (by simp [strC]))) rfl)
end Go.Ab

/- Contracts of slices.IndexFunc and slices.ContainsFunc at three types. By program. -/
namespace Go.Ab
open Go.Proofs
set_option linter.unusedSimpArgs false

def idxF {α : Type} (l : List α) (p : α → Bool) : Int := if l.findIdx p < l.length then (l.findIdx p : Int) else -1
theorem idxF_at {α : Type} {l : List α} {p : α → Bool} {k : Nat} (hk : k < l.length) (h : p l[k] = true) (hno : ∀ i (h : i < l.length), i < k → p l[i] = false) : idxF l p = k := by
  have : l.findIdx p = k := (List.findIdx_eq hk).2 ⟨h, fun j hj => hno j (by omega) hj⟩
  rw [idxF, this, if_pos hk]
theorem idxF_no {α : Type} {l : List α} {p : α → Bool} (hno : ∀ i (h : i < l.length), p l[i] = false) : idxF l p = -1 := by
  have : l.findIdx p = l.length := List.findIdx_eq_length.2 fun x hx => by
    obtain ⟨i, hi, rfl⟩ := List.getElem_of_mem hx
    exact hno i hi
  rw [idxF, this, if_neg (Nat.lt_irrefl _)]
theorem idxF_any {α : Type} (l : List α) (p : α → Bool) : decide (0 ≤ idxF l p) = l.any p := by
  unfold idxF
  cases h : l.any p
  · have : l.findIdx p = l.length := List.findIdx_eq_length.2 fun x hx => by
      rw [List.any_eq_false] at h
      simpa using h x hx
    rw [if_neg (by omega)]
    simp
  · have : l.findIdx p < l.length := by
      rw [List.findIdx_lt_length]
      simpa [List.any_eq_true] using h
    rw [if_pos this]
    simp

theorem e111 : Ent Tryd.prog 111 := Ent.of Tryd.func111 (by kernel_rfl) rfl
theorem e94 : Ent Tryd.prog 94 := Ent.of Tryd.func94 (by kernel_rfl) rfl

theorem indexFuncI_ok {H : Heap} {n : Nat} {cl : AVal} (t : Bool) (l : List (Int)) (p : Int → Bool) (hl : l.length ≤ 1048576) (hcl : ∀ x ∈ l, ClosC Tryd.prog H n cl [int x] (fun r => r = bool (p x))) :
    StillC Tryd.prog 111 [.list t (l.map intC), cl] H n (fun r => r = int (idxF l p)) := by
  refine StillC.of Tryd.func111 rfl Tryd.ntmps111 (by simp) fun Q _ hQ => ?_
  refine Runs.seqE Ty_ok (by decide) fun k' hk' => ?_
  simp   -- R0
  refine hk' _ _ _ ?_
  refine Runs.seq ?_
  refine Runs.seqE Ty_ok (by decide) fun k' hk' => ?_
  simp   -- R1
  refine hk' _ _ _ ?_
  refine Runs.block (Runs.loopUp l.length (fun k ρ H' n' => ρ 0 = .list t (l.map intC) ∧ ρ 1 = cl ∧ ρ 7 = int l.length ∧ ρ 8 = int k ∧ H' = H ∧ n' = n ∧ ∀ i (h : i < l.length), i < k → p l[i] = false) ?_ ?_)
  · simp
  · rintro k ρ H' n' hk ⟨h0, h1, h7, h8, rfl, rfl, hno⟩ IH
    refine Runs.seqE Ty_ok (by decide) fun k' hk' => ?_
    simp [h7, h8]   -- R2
    refine hk' _ _ _ ?_
    refine Runs.seq ?_
    refine Runs.ite rfl (fun hc1 => ?_) (fun hc1 => ?_)   -- t9
    · have hc1 : k < l.length := by simpa using hc1
      refine Runs.skip ?_
      refine Runs.seq ?_
      refine Runs.block ?_
      refine Runs.seqE Ty_ok (by decide) fun k' hk' => ?_
      simp [h8]   -- R3
      refine hk' _ _ _ ?_
      refine Runs.seqE Ty_ok (by decide) fun k' hk' => ?_
      simp [h0, h1, hc1, intC]   -- R4
      refine RunK.callF Ty_ok (hcl l[k] (List.getElem_mem hc1)) (by decide) (by decide) (by simp [h1]) (by simp) ?_
      rintro _ rfl
      simp
      refine hk' _ _ _ ?_
      refine Runs.ite rfl (fun hc2 => ?_) (fun hc2 => ?_)   -- t16
      · have hc2 : p l[k] = true := by simpa using hc2
        refine Runs.seqE Ty_ok (by decide) fun k' hk' => ?_
        simp   -- R5
        refine hk' _ _ _ ?_
        refine Runs.ret Tryd.func111 (RetOk.one Tryd.results111) (hQ _ _ _ _ (.bnd (.v _)) (Frame.refl _ _) ?_)
        simp [idxF_at hc1 hc2 hno]
      · have hc2 : p l[k] = false := by simpa using hc2
        refine Runs.skip ?_
        refine Runs.inBlock ?_
        refine Runs.evalE Ty_ok (by decide) fun k' hk' => ?_
        simp [h8, wrap_succ (show k < 4611686018427387904 by omega)]   -- R6
        refine hk' _ _ _ ?_
        refine IH hc1 _ _ _ ⟨by simp [h0, intC], by simp [h1], by simp [h7], by simp, rfl, rfl, fun i h hi => ?_⟩
        rcases Nat.lt_or_ge i k with hik | hik
        · exact hno i h hik
        · have : i = k := by omega
          subst this
          exact hc2
    · have hc1 : ¬ k < l.length := by simpa using hc1
      have hke : k = l.length := by omega
      subst hke
      refine Runs.exit rfl ?_
      refine Runs.seqE Ty_ok (by decide) fun k' hk' => ?_
      simp   -- R7
      refine hk' _ _ _ ?_
      refine Runs.ret Tryd.func111 (RetOk.one Tryd.results111) (hQ _ _ _ _ (.bnd (.v _)) (Frame.refl _ _) ?_)
      simp [idxF_no fun i h => hno i h h]

theorem containsFuncI_ok {H : Heap} {n : Nat} {cl : AVal} (t : Bool) (l : List (Int)) (p : Int → Bool) (hl : l.length ≤ 1048576) (hcl : ∀ x ∈ l, ClosC Tryd.prog H n cl [int x] (fun r => r = bool (p x))) :
    StillC Tryd.prog 94 [.list t (l.map intC), cl] H n (fun r => r = bool (l.any p)) := by
  refine StillC.of Tryd.func94 rfl Tryd.ntmps94 (by simp) fun Q _ hQ => ?_
  refine Runs.seqE Ty_ok (by decide) fun k' hk' => ?_
  simp   -- R0
  refine hk' _ _ _ ?_
  refine Runs.seqE Ty_ok (by decide) fun k' hk' => ?_
  simp   -- R1
  refine RunK.callT Ty_ok (indexFuncI_ok t l p hl hcl) e111 (by decide) (by decide) rfl (by simp) ?_
  rintro _ rfl
  simp
  refine hk' _ _ _ ?_
  refine Runs.ret Tryd.func94 (RetOk.one Tryd.results94) (hQ _ _ _ _ (.bnd (.v _)) (Frame.refl _ _) ?_)
  simp [idxF_any]

theorem e112 : Ent Tryd.prog 112 := Ent.of Tryd.func112 (by kernel_rfl) rfl
theorem e98 : Ent Tryd.prog 98 := Ent.of Tryd.func98 (by kernel_rfl) rfl

theorem indexFuncW_ok {H : Heap} {n : Nat} {cl : AVal} (t : Bool) (l : List (Wire)) (p : Wire → Bool) (hl : l.length ≤ 1048576) (hcl : ∀ x ∈ l, ClosC Tryd.prog H n cl [.agg x.cells] (fun r => r = bool (p x))) :
    StillC Tryd.prog 112 [.list t (l.map Wire.cells), cl] H n (fun r => r = int (idxF l p)) := by
  refine StillC.of Tryd.func112 rfl Tryd.ntmps112 (by simp) fun Q _ hQ => ?_
  refine Runs.seqE Ty_ok (by decide) fun k' hk' => ?_
  simp   -- R0
  refine hk' _ _ _ ?_
  refine Runs.seq ?_
  refine Runs.seqE Ty_ok (by decide) fun k' hk' => ?_
  simp   -- R1
  refine hk' _ _ _ ?_
  refine Runs.block (Runs.loopUp l.length (fun k ρ H' n' => ρ 0 = .list t (l.map Wire.cells) ∧ ρ 1 = cl ∧ ρ 7 = int l.length ∧ ρ 8 = int k ∧ H' = H ∧ n' = n ∧ ∀ i (h : i < l.length), i < k → p l[i] = false) ?_ ?_)
  · simp
  · rintro k ρ H' n' hk ⟨h0, h1, h7, h8, rfl, rfl, hno⟩ IH
    refine Runs.seqE Ty_ok (by decide) fun k' hk' => ?_
    simp [h7, h8]   -- R2
    refine hk' _ _ _ ?_
    refine Runs.seq ?_
    refine Runs.ite rfl (fun hc1 => ?_) (fun hc1 => ?_)   -- t9
    · have hc1 : k < l.length := by simpa using hc1
      refine Runs.skip ?_
      refine Runs.seq ?_
      refine Runs.block ?_
      refine Runs.seqE Ty_ok (by decide) fun k' hk' => ?_
      simp [h8]   -- R3
      refine hk' _ _ _ ?_
      refine Runs.seqE Ty_ok (by decide) fun k' hk' => ?_
      simp [h0, h1, hc1, Wire.cells]   -- R4
      refine RunK.callF Ty_ok (hcl l[k] (List.getElem_mem hc1)) (by decide) (by decide) (by simp [h1]) (by simp [Wire.cells]) ?_
      rintro _ rfl
      simp
      refine hk' _ _ _ ?_
      refine Runs.ite rfl (fun hc2 => ?_) (fun hc2 => ?_)   -- t16
      · have hc2 : p l[k] = true := by simpa using hc2
        refine Runs.seqE Ty_ok (by decide) fun k' hk' => ?_
        simp   -- R5
        refine hk' _ _ _ ?_
        refine Runs.ret Tryd.func112 (RetOk.one Tryd.results112) (hQ _ _ _ _ (.bnd (.v _)) (Frame.refl _ _) ?_)
        simp [idxF_at hc1 hc2 hno]
      · have hc2 : p l[k] = false := by simpa using hc2
        refine Runs.skip ?_
        refine Runs.inBlock ?_
        refine Runs.evalE Ty_ok (by decide) fun k' hk' => ?_
        simp [h8, wrap_succ (show k < 4611686018427387904 by omega)]   -- R6
        refine hk' _ _ _ ?_
        refine IH hc1 _ _ _ ⟨by simp [h0, Wire.cells], by simp [h1], by simp [h7], by simp, rfl, rfl, fun i h hi => ?_⟩
        rcases Nat.lt_or_ge i k with hik | hik
        · exact hno i h hik
        · have : i = k := by omega
          subst this
          exact hc2
    · have hc1 : ¬ k < l.length := by simpa using hc1
      have hke : k = l.length := by omega
      subst hke
      refine Runs.exit rfl ?_
      refine Runs.seqE Ty_ok (by decide) fun k' hk' => ?_
      simp   -- R7
      refine hk' _ _ _ ?_
      refine Runs.ret Tryd.func112 (RetOk.one Tryd.results112) (hQ _ _ _ _ (.bnd (.v _)) (Frame.refl _ _) ?_)
      simp [idxF_no fun i h => hno i h h]

theorem containsFuncW_ok {H : Heap} {n : Nat} {cl : AVal} (t : Bool) (l : List (Wire)) (p : Wire → Bool) (hl : l.length ≤ 1048576) (hcl : ∀ x ∈ l, ClosC Tryd.prog H n cl [.agg x.cells] (fun r => r = bool (p x))) :
    StillC Tryd.prog 98 [.list t (l.map Wire.cells), cl] H n (fun r => r = bool (l.any p)) := by
  refine StillC.of Tryd.func98 rfl Tryd.ntmps98 (by simp) fun Q _ hQ => ?_
  refine Runs.seqE Ty_ok (by decide) fun k' hk' => ?_
  simp   -- R0
  refine hk' _ _ _ ?_
  refine Runs.seqE Ty_ok (by decide) fun k' hk' => ?_
  simp   -- R1
  refine RunK.callT Ty_ok (indexFuncW_ok t l p hl hcl) e112 (by decide) (by decide) rfl (by simp) ?_
  rintro _ rfl
  simp
  refine hk' _ _ _ ?_
  refine Runs.ret Tryd.func98 (RetOk.one Tryd.results98) (hQ _ _ _ _ (.bnd (.v _)) (Frame.refl _ _) ?_)
  simp [idxF_any]

theorem e135 : Ent Tryd.prog 135 := Ent.of Tryd.func135 (by kernel_rfl) rfl
theorem e109 : Ent Tryd.prog 109 := Ent.of Tryd.func109 (by kernel_rfl) rfl

theorem indexFuncC_ok {H : Heap} {n : Nat} {cl : AVal} (t : Bool) (l : List (Control)) (p : Control → Bool) (hl : l.length ≤ 1048576) (hcl : ∀ x ∈ l, ClosC Tryd.prog H n cl [.agg x.cells] (fun r => r = bool (p x))) :
    StillC Tryd.prog 135 [.list t (l.map Control.cells), cl] H n (fun r => r = int (idxF l p)) := by
  refine StillC.of Tryd.func135 rfl Tryd.ntmps135 (by simp) fun Q _ hQ => ?_
  refine Runs.seqE Ty_ok (by decide) fun k' hk' => ?_
  simp   -- R0
  refine hk' _ _ _ ?_
  refine Runs.seq ?_
  refine Runs.seqE Ty_ok (by decide) fun k' hk' => ?_
  simp   -- R1
  refine hk' _ _ _ ?_
  refine Runs.block (Runs.loopUp l.length (fun k ρ H' n' => ρ 0 = .list t (l.map Control.cells) ∧ ρ 1 = cl ∧ ρ 7 = int l.length ∧ ρ 8 = int k ∧ H' = H ∧ n' = n ∧ ∀ i (h : i < l.length), i < k → p l[i] = false) ?_ ?_)
  · simp
  · rintro k ρ H' n' hk ⟨h0, h1, h7, h8, rfl, rfl, hno⟩ IH
    refine Runs.seqE Ty_ok (by decide) fun k' hk' => ?_
    simp [h7, h8]   -- R2
    refine hk' _ _ _ ?_
    refine Runs.seq ?_
    refine Runs.ite rfl (fun hc1 => ?_) (fun hc1 => ?_)   -- t9
    · have hc1 : k < l.length := by simpa using hc1
      refine Runs.skip ?_
      refine Runs.seq ?_
      refine Runs.block ?_
      refine Runs.seqE Ty_ok (by decide) fun k' hk' => ?_
      simp [h8]   -- R3
      refine hk' _ _ _ ?_
      refine Runs.seqE Ty_ok (by decide) fun k' hk' => ?_
      simp [h0, h1, hc1, Control.cells]   -- R4
      refine RunK.callF Ty_ok (hcl l[k] (List.getElem_mem hc1)) (by decide) (by decide) (by simp [h1]) (by simp [Control.cells]) ?_
      rintro _ rfl
      simp
      refine hk' _ _ _ ?_
      refine Runs.ite rfl (fun hc2 => ?_) (fun hc2 => ?_)   -- t16
      · have hc2 : p l[k] = true := by simpa using hc2
        refine Runs.seqE Ty_ok (by decide) fun k' hk' => ?_
        simp   -- R5
        refine hk' _ _ _ ?_
        refine Runs.ret Tryd.func135 (RetOk.one Tryd.results135) (hQ _ _ _ _ (.bnd (.v _)) (Frame.refl _ _) ?_)
        simp [idxF_at hc1 hc2 hno]
      · have hc2 : p l[k] = false := by simpa using hc2
        refine Runs.skip ?_
        refine Runs.inBlock ?_
        refine Runs.evalE Ty_ok (by decide) fun k' hk' => ?_
        simp [h8, wrap_succ (show k < 4611686018427387904 by omega)]   -- R6
        refine hk' _ _ _ ?_
        refine IH hc1 _ _ _ ⟨by simp [h0, Control.cells], by simp [h1], by simp [h7], by simp, rfl, rfl, fun i h hi => ?_⟩
        rcases Nat.lt_or_ge i k with hik | hik
        · exact hno i h hik
        · have : i = k := by omega
          subst this
          exact hc2
    · have hc1 : ¬ k < l.length := by simpa using hc1
      have hke : k = l.length := by omega
      subst hke
      refine Runs.exit rfl ?_
      refine Runs.seqE Ty_ok (by decide) fun k' hk' => ?_
      simp   -- R7
      refine hk' _ _ _ ?_
      refine Runs.ret Tryd.func135 (RetOk.one Tryd.results135) (hQ _ _ _ _ (.bnd (.v _)) (Frame.refl _ _) ?_)
      simp [idxF_no fun i h => hno i h h]

theorem containsFuncC_ok {H : Heap} {n : Nat} {cl : AVal} (t : Bool) (l : List (Control)) (p : Control → Bool) (hl : l.length ≤ 1048576) (hcl : ∀ x ∈ l, ClosC Tryd.prog H n cl [.agg x.cells] (fun r => r = bool (p x))) :
    StillC Tryd.prog 109 [.list t (l.map Control.cells), cl] H n (fun r => r = bool (l.any p)) := by
  refine StillC.of Tryd.func109 rfl Tryd.ntmps109 (by simp) fun Q _ hQ => ?_
  refine Runs.seqE Ty_ok (by decide) fun k' hk' => ?_
  simp   -- R0
  refine hk' _ _ _ ?_
  refine Runs.seqE Ty_ok (by decide) fun k' hk' => ?_
  simp   -- R1
  refine RunK.callT Ty_ok (indexFuncC_ok t l p hl hcl) e135 (by decide) (by decide) rfl (by simp) ?_
  rintro _ rfl
  simp
  refine hk' _ _ _ ?_
  refine Runs.ret Tryd.func109 (RetOk.one Tryd.results109) (hQ _ _ _ _ (.bnd (.v _)) (Frame.refl _ _) ?_)
  simp [idxF_any]

end Go.Ab

/- Contracts of impl.IsSignature and spec.l2Sig. -/
namespace Go.Ab
open Go.Proofs
set_option linter.unusedSimpArgs false
theorem e90 : Ent Tryd.prog 90 := Ent.of Tryd.func90 (by kernel_rfl) rfl
theorem e84 : Ent Tryd.prog 84 := Ent.of Tryd.func84 (by kernel_rfl) rfl
theorem e110 : Ent Tryd.prog 110 := Ent.of Tryd.func110 (by kernel_rfl) rfl

theorem clos135 {H : Heap} {n : Nat} {X : Id} (c : Control) (hX : H X = some ⟨3, [c.cells]⟩) (d : Control) : ClosC Tryd.prog H n (.fn (.func 110) [] [.ptr X 1 0 0]) [.agg d.cells] (fun r => r = bool (d.name == c.name)) := by
  refine ⟨110, [], [.ptr X 1 0 0], rfl, e110, ?_⟩
  refine StillC.of Tryd.func110 rfl Tryd.ntmps110 (by simp) fun Q hB hQ => ?_
  have hXn := (hB X _ hX).1
  have hX2 : ¬ X = (n, 2) := by rintro rfl; simp at hXn
  refine Runs.seqE Ty_ok (by decide) fun k' hk' => ?_
  simp [Control.cells]   -- R0
  refine hk' _ _ _ ?_
  refine Runs.seqE Ty_ok (by decide) fun k' hk' => ?_
  simp [hX2, hX, Control.cells]   -- R1
  refine hk' _ _ _ ?_
  exact Runs.ret Tryd.func110 (RetOk.one Tryd.results110) (hQ _ _ _ _ (.bnd (.v _)) (Frame.set (by simp) (Frame.refl _ _)) (by simp))

def okCtl (sig : Sig) (i : Nat) : Bool := okControl (sig.getD i default) && newName sig i
theorem goodSig_eq (sig : Sig) : goodSig sig = (within sig.length 1 6 && (List.range sig.length).all (okCtl sig)) := rfl

theorem IsSignature_ok (sig : Sig) (hl : sig.length ≤ 1048576) (hs : ∀ c ∈ sig, c.name.length ≤ 1048576) : PureC Tryd.prog 90 [encSig false sig] (fun r => r = bool (goodSig sig)) := by
  refine PureC.of Tryd.func90 rfl Tryd.ntmps90 (by simp) fun Q hQ => ?_
  refine Runs.seqE Ty_ok (by decide) fun k' hk' => ?_
  simp [encSig]   -- R0
  refine hk' _ _ _ ?_
  refine Runs.seq ?_
  refine Runs.seqE Ty_ok (by decide) fun k' hk' => ?_
  simp   -- R1
  refine RunK.callA Ty_ok (within_ok sig.length 1 6) e74 (.cons (.v _ _ _) (.cons (.v _ _ _) (.cons (.v _ _ _) .nil))) (by decide) (by decide) rfl (by simp) ?_
  rintro _ rfl
  simp
  refine hk' _ _ _ ?_
  refine Runs.ite rfl (fun hc1 => ?_) (fun hc1 => ?_)   -- t8
  · have hw : within sig.length 1 6 = false := by simpa using hc1
    refine Runs.seqE Ty_ok (by decide) fun k' hk' => ?_
    simp   -- R2
    refine hk' _ _ _ ?_
    exact Runs.ret Tryd.func90 (RetOk.one Tryd.results90) (hQ _ _ _ _ (.v _ _ _) (by rw [goodSig_eq, hw, Bool.false_and]))
  · have hw : within sig.length 1 6 = true := by simpa using hc1
    refine Runs.skip ?_
    refine Runs.seq ?_
    refine Runs.seqE Ty_ok (by decide) fun k' hk' => ?_
    simp   -- R3
    refine hk' _ _ _ ?_
    refine Runs.block (Runs.loopUp sig.length (fun k ρ H n => ρ 0 = .list false (sig.map Control.cells) ∧ ρ 9 = .list false (sig.map Control.cells) ∧ ρ 10 = int sig.length ∧ ρ 11 = int k ∧ ∀ i, i < k → okCtl sig i = true) ?_ ?_)
    · simp
    · rintro k ρ H n hk ⟨h0, h9, h10, h11, hall⟩ IH
      refine Runs.seqE Ty_ok (by decide) fun k' hk' => ?_
      simp [h10, h11]   -- R4
      refine hk' _ _ _ ?_
      refine Runs.seq ?_
      refine Runs.ite rfl (fun hc1 => ?_) (fun hc1 => ?_)   -- t12
      · have hc1 : k < sig.length := by simpa using hc1
        have hgk : sig.getD k default = sig[k] := by simp [hc1]
        refine Runs.skip ?_
        refine Runs.seq ?_
        refine Runs.block ?_
        refine Runs.seqE Ty_ok (by decide) fun k' hk' => ?_
        simp [h9, h11, hc1, Control.cells]   -- R5
        refine hk' _ _ _ ?_
        refine Runs.cut (fun ρ H n => ρ 0 = .list false (sig.map Control.cells) ∧ ρ 9 = .list false (sig.map Control.cells) ∧ ρ 10 = int sig.length ∧ ρ 11 = int k ∧ ρ 3 = int k ∧ ∃ m, ρ 4 = .ptr (m, 4) 1 0 0 ∧ H (m, 4) = some ⟨3, [sig[k].cells]⟩) ?_ ?_
        · exact ⟨by simp [h0], by simp [h9], by simp [h10], by simp [h11], by simp, n, by simp, by simp [Control.cells]⟩
        clear hk' h0 h9 h10 h11
        rintro ρ H n ⟨h0, h9, h10, h11, h3, m, h4, hm⟩
        refine Runs.seqE Ty_ok (by decide) fun k' hk' => ?_
        have fin : ∀ ρ : Env, ρ 0 = .list false (sig.map Control.cells) → ρ 9 = .list false (sig.map Control.cells) → ρ 10 = int sig.length → ρ 11 = int k → ρ 38 = bool (!okCtl sig k) → Runs Tryd.prog 90 40 k' ρ H n Q := by
          intro ρ h0 h9 h10 h11 h38
          refine hk' _ _ _ ?_
          refine Runs.ite h38 (fun hc2 => ?_) (fun hc2 => ?_)   -- t38
          · have hb : okCtl sig k = false := by simpa using hc2
            refine Runs.seqE Ty_ok (by decide) fun k' hk' => ?_
            simp   -- R7
            refine hk' _ _ _ ?_
            exact Runs.ret Tryd.func90 (RetOk.one Tryd.results90) (hQ _ _ _ _ (.v _ _ _) (by rw [goodSig_eq, all_range_bad hc1 hb, Bool.and_false]))
          · have hb : okCtl sig k = true := by simpa using hc2
            refine Runs.skip ?_
            refine Runs.inBlock ?_
            refine Runs.evalE Ty_ok (by decide) fun k' hk' => ?_
            simp [h11, wrap_succ (show k < 4611686018427387904 by omega)]   -- R8
            refine hk' _ _ _ ?_
            refine IH hc1 _ _ _ ⟨by simp [h0], by simp [h9], by simp [h10], by simp, fun i hi => ?_⟩
            rcases Nat.lt_or_ge i k with h | h
            · exact hall i h
            · rw [show i = k by omega]; exact hb
        have hm' := hm
        simp only [Control.cells] at hm'
        simp [h4, hm']   -- R6
        refine RunK.callA Ty_ok (isName_ok sig[k].name (hs _ (List.getElem_mem hc1))) e75 (.cons (.v _ _ _) .nil) (by decide) (by decide) rfl (by simp) ?_
        rintro _ rfl
        cases hnm : isNm sig[k].name
        · simp [guardOf]
          exact fin _ (by simp [h0]) (by simp [h9]) (by simp [h10]) (by simp [h11]) (by simp only [okCtl, hgk, okControl, hnm]; simp)
        · simp [h4, hm', guardOf]
          refine RunK.callA Ty_ok (within_ok sig[k].ports 0 3) e74 (.cons (.v _ _ _) (.cons (.v _ _ _) (.cons (.v _ _ _) .nil))) (by decide) (by decide) rfl (by simp) ?_
          rintro _ rfl
          cases hpo : within sig[k].ports 0 3
          · simp [guardOf]
            exact fin _ (by simp [h0]) (by simp [h9]) (by simp [h10]) (by simp [h11]) (by simp only [okCtl, hgk, okControl, hnm, hpo]; simp)
          · simp [h4, hm', guardOf]
            refine RunK.callA Ty_ok (within_ok sig[k].kind 0 2) e74 (.cons (.v _ _ _) (.cons (.v _ _ _) (.cons (.v _ _ _) .nil))) (by decide) (by decide) rfl (by simp) ?_
            rintro _ rfl
            cases hki : within sig[k].kind 0 2
            · simp [guardOf]
              exact fin _ (by simp [h0]) (by simp [h9]) (by simp [h10]) (by simp [h11]) (by simp only [okCtl, hgk, okControl, hnm, hpo, hki]; simp)
            · have hkl : (k : Int) ≤ sig.length := by omega
              simp [h0, h3, h4, hkl, guardOf, Control.cells]
              refine RunK.callT Ty_ok (containsFuncC_ok false (sig.take k) (fun d => d.name == sig[k].name) (by simp; omega) (fun d _ => clos135 sig[k] hm d)) e109 (by decide) (by decide) rfl (by simp [Control.cells]) ?_
              rintro _ rfl
              simp [guardOf]
              refine fin _ (by simp [h0, Control.cells]) (by simp [h9, Control.cells]) (by simp [h10]) (by simp [h11]) ?_
              simp only [okCtl, hgk, okControl, hnm, hpo, hki, newName]
              simp
      · have hc1 : ¬ k < sig.length := by simpa using hc1
        have hke : k = sig.length := by omega
        subst hke
        refine Runs.exit rfl ?_
        refine Runs.seqE Ty_ok (by decide) fun k' hk' => ?_
        simp   -- R9
        refine hk' _ _ _ ?_
        exact Runs.ret Tryd.func90 (RetOk.one Tryd.results90) (hQ _ _ _ _ (.v _ _ _) (by rw [goodSig_eq, hw, all_range_end hall]; rfl))
end Go.Ab

/- Contract of spec.l2Sig. -/
namespace Go.Ab
open Go.Proofs
set_option linter.unusedSimpArgs false

theorem newName_at {sig : Sig} {i j : Nat} (hi : i < sig.length) (hj : j < i) (h : sig[j].name = sig[i].name) : newName sig i = false := by
  have hg : sig.getD i default = sig[i] := by simp [hi]
  have : (sig.take i).any (fun d => d.name == sig[i].name) = true := by
    rw [List.any_eq_true]
    refine ⟨sig[j], ?_, by simpa using h⟩
    rw [List.mem_take_iff_getElem]
    exact ⟨j, by omega, rfl⟩
  rw [newName, hg, this]
  rfl
theorem newName_end {sig : Sig} {i : Nat} (hi : i < sig.length) (h : ∀ j (hj : j < sig.length), j < i → ¬ sig[j].name = sig[i].name) : newName sig i = true := by
  have hg : sig.getD i default = sig[i] := by simp [hi]
  have : (sig.take i).any (fun d => d.name == sig[i].name) = false := by
    rw [List.any_eq_false]
    intro d hd
    rw [List.mem_take_iff_getElem] at hd
    obtain ⟨j, hj, rfl⟩ := hd
    have := h j (by omega) (by omega)
    simpa using this
  rw [newName, hg, this]
  rfl

theorem l2Sig_ok (sig : Sig) (hl : sig.length ≤ 1048576) (hs : ∀ c ∈ sig, c.name.length ≤ 1048576) : PureC Tryd.prog 84 [encSig false sig] (fun r => r = bool (goodSig sig)) := by
  refine PureC.of Tryd.func84 rfl Tryd.ntmps84 (by simp) fun Q hQ => ?_
  refine Runs.seqE Ty_ok (by decide) fun k' hk' => ?_
  simp [encSig]   -- R0
  refine hk' _ _ _ ?_
  refine Runs.seq ?_
  refine Runs.seqE Ty_ok (by decide) fun k' hk' => ?_
  simp   -- R1
  refine hk' _ _ _ ?_
  have bad : ∀ k, k < sig.length → okCtl sig k = false → ∀ H n, Q (bool false) H n := fun k hk hb H n => hQ _ _ _ _ (.v _ _ _) (by rw [goodSig_eq, all_range_bad hk hb, Bool.and_false])
  refine Runs.block (Runs.loopUp sig.length (fun k ρ H n => ρ 0 = .list false (sig.map Control.cells) ∧ ρ 3 = int k ∧ ∀ i, i < k → okCtl sig i = true) ?_ ?_)
  · simp
  · rintro k ρ H n hk ⟨h0, h3, hall⟩ IH
    refine Runs.seq ?_
    refine Runs.seqE Ty_ok (by decide) fun k' hk' => ?_
    simp [h0, h3]   -- R2
    refine hk' _ _ _ ?_
    refine Runs.ite rfl (fun hc1 => ?_) (fun hc1 => ?_)   -- t8
    · have hc1 : k < sig.length := by simpa using hc1
      have hgk : sig.getD k default = sig[k] := by simp [hc1]
      refine Runs.skip ?_
      refine Runs.seq ?_
      refine Runs.block ?_
      refine Runs.seq ?_
      refine Runs.seqE Ty_ok (by decide) fun k' hk' => ?_
      have fin : ∀ ρ : Env, ρ 0 = .list false (sig.map Control.cells) → ρ 3 = int k → ρ 35 = bool (!okControl sig[k]) → Runs Tryd.prog 84 55 k' ρ H n Q := by
        intro ρ h0 h3 h35
        refine hk' _ _ _ ?_
        refine Runs.ite h35 (fun hc2 => ?_) (fun hc2 => ?_)   -- t35
        · have hb : okControl sig[k] = false := by simpa using hc2
          refine Runs.seqE Ty_ok (by decide) fun k' hk' => ?_
          simp   -- R5
          refine hk' _ _ _ ?_
          exact Runs.ret Tryd.func84 (RetOk.one Tryd.results84) (bad k hc1 (by rw [okCtl, hgk, hb, Bool.false_and]) _ _)
        · have hb : okControl sig[k] = true := by simpa using hc2
          refine Runs.skip ?_
          refine Runs.seqE Ty_ok (by decide) fun k' hk' => ?_
          simp   -- R6
          refine hk' _ _ _ ?_
          refine Runs.block (Runs.loopUp k (fun j ρ H n => ρ 0 = .list false (sig.map Control.cells) ∧ ρ 3 = int k ∧ ρ 4 = int j ∧ ∀ q (hq : q < sig.length), q < j → ¬ sig[q].name = sig[k].name) ?_ ?_)
          · simp [h0, h3]
          · rintro j ρ H n hj ⟨h0, h3, h4, hno⟩ IH2
            refine Runs.seq ?_
            refine Runs.seqE Ty_ok (by decide) fun k' hk' => ?_
            simp [h3, h4]   -- R7
            refine hk' _ _ _ ?_
            refine Runs.ite rfl (fun hc3 => ?_) (fun hc3 => ?_)   -- t38
            · have hc3 : j < k := by simpa using hc3
              have hjl : j < sig.length := by omega
              refine Runs.skip ?_
              refine Runs.seq ?_
              refine Runs.block ?_
              refine Runs.seqD Ty_ok kindOp_ok draws (by decide) (by kernel_rfl) fun k' hk' => ?_
              simp [h0, h3, h4, hc1, hjl, Control.cells]   -- R9
              refine hk' _ _ _ ?_
              refine Runs.ite rfl (fun hc4 => ?_) (fun hc4 => ?_)   -- t51
              · have hc4 : sig[j].name = sig[k].name := by simpa using hc4
                refine Runs.seqE Ty_ok (by decide) fun k' hk' => ?_
                simp   -- R10
                refine hk' _ _ _ ?_
                exact Runs.ret Tryd.func84 (RetOk.one Tryd.results84) (bad k hc1 (by rw [okCtl, newName_at hc1 hc3 hc4, Bool.and_false]) _ _)
              · have hc4 : ¬ sig[j].name = sig[k].name := by simpa using hc4
                refine Runs.skip ?_
                refine Runs.inBlock ?_
                refine Runs.evalE Ty_ok (by decide) fun k' hk' => ?_
                simp [h4, wrap_succ (show j < 4611686018427387904 by omega)]   -- R8
                refine hk' _ _ _ ?_
                refine IH2 hc3 _ _ _ ⟨by simp [h0, Control.cells], by simp [h3], by simp, fun q hq hqj => ?_⟩
                rcases Nat.lt_or_ge q j with h | h
                · exact hno q hq h
                · have : q = j := by omega
                  subst this
                  exact hc4
            · have hc3 : ¬ j < k := by simpa using hc3
              have hje : j = k := by omega
              subst hje
              refine Runs.exit rfl ?_
              refine Runs.inBlock ?_
              refine Runs.evalE Ty_ok (by decide) fun k' hk' => ?_
              simp [h3, wrap_succ (show j < 4611686018427387904 by omega)]   -- R3
              refine hk' _ _ _ ?_
              refine IH hc1 _ _ _ ⟨by simp [h0], by simp, fun i hi => ?_⟩
              rcases Nat.lt_or_ge i j with h | h
              · exact hall i h
              · rw [show i = j by omega, okCtl, hgk, hb, newName_end hc1 hno]
                rfl
      simp [h0, h3, hc1, Control.cells]   -- R4
      refine RunK.callA Ty_ok (l2Name_ok sig[k].name (hs _ (List.getElem_mem hc1))) e71 (.cons (.v _ _ _) .nil) (by decide) (by decide) rfl (by simp) ?_
      rintro _ rfl
      cases hnm : isNm sig[k].name
      · simp [guardOf]
        exact fin _ (by simp [h0, Control.cells]) (by simp [h3]) (by simp only [okControl, hnm]; simp)
      · simp [h0, h3, hc1, Control.cells, guardOf]
        refine RunK.callA Ty_ok (l1In_ok sig[k].ports 0 3) e70 (.cons (.v _ _ _) (.cons (.v _ _ _) (.cons (.v _ _ _) .nil))) (by decide) (by decide) rfl (by simp) ?_
        rintro _ rfl
        cases hpo : within sig[k].ports 0 3
        · simp [guardOf]
          exact fin _ (by simp [h0, Control.cells]) (by simp [h3]) (by simp only [okControl, hnm, hpo]; simp)
        · simp [h0, h3, hc1, Control.cells, guardOf]
          refine RunK.callA Ty_ok (l1In_ok sig[k].kind 0 2) e70 (.cons (.v _ _ _) (.cons (.v _ _ _) (.cons (.v _ _ _) .nil))) (by decide) (by decide) rfl (by simp) ?_
          rintro _ rfl
          simp [guardOf]
          exact fin _ (by simp [h0, Control.cells]) (by simp [h3]) (by simp only [okControl, hnm, hpo]; simp)
    · have hc1 : ¬ k < sig.length := by simpa using hc1
      have hke : k = sig.length := by omega
      subst hke
      refine Runs.exit rfl ?_
      refine Runs.seqE Ty_ok (by decide) fun k' hk' => ?_
      simp [h0]   -- R11
      refine RunK.callA Ty_ok (l1In_ok sig.length 1 6) e70 (.cons (.v _ _ _) (.cons (.v _ _ _) (.cons (.v _ _ _) .nil))) (by decide) (by decide) rfl (by simp) ?_
      rintro _ rfl
      simp
      refine hk' _ _ _ ?_
      exact Runs.ret Tryd.func84 (RetOk.one Tryd.results84) (hQ _ _ _ _ (.v _ _ _) (by rw [goodSig_eq, all_range_end hall, Bool.and_true]))
end Go.Ab

/- Contract of impl.IsBigraph. -/
namespace Go.Ab
open Go.Proofs
set_option linter.unusedSimpArgs false
theorem e63 : Ent Tryd.prog 63 := Ent.of Tryd.func63 (by kernel_rfl) rfl
theorem e95 : Ent Tryd.prog 95 := Ent.of Tryd.func95 (by kernel_rfl) rfl
theorem e97 : Ent Tryd.prog 97 := Ent.of Tryd.func97 (by kernel_rfl) rfl
theorem e99 : Ent Tryd.prog 99 := Ent.of Tryd.func99 (by kernel_rfl) rfl

/-- Bounds that the laws' own sizes give. -/
structure SmallB (sig : Sig) (b : Big) : Prop where
  sigLen : sig.length ≤ 1048576
  sigNames : ∀ c ∈ sig, c.name.length ≤ 1048576
  nodesLen : b.nodes.length ≤ 1048576
  sitesLen : b.sites.length ≤ 1048576
  outerLen : b.outer.length ≤ 1048576
  innerLen : b.inner.length ≤ 1048576
  outerNames : ∀ s ∈ b.outer, s.length ≤ 1048576
  innerNames : ∀ w ∈ b.inner, w.name.length ≤ 1048576
  linksLen : ∀ x ∈ b.nodes, x.links.length ≤ 1048576
  parents : ∀ x ∈ b.nodes, I64 x.parent
  sites64 : ∀ p ∈ b.sites, I64 p

theorem clos76 {H : Heap} {n : Nat} {X : Id} (b : Big) (he : 0 ≤ b.edges ∧ b.edges ≤ 8) (ho : b.outer.length ≤ 1048576) (hX : H X = some ⟨6, [b.cells false]⟩) (l : Int) : ClosC Tryd.prog H n (.fn (.func 95) [] [.ptr X 1 0 0]) [int l] (fun r => r = bool (!okLink b l)) := by
  refine ⟨95, [], [.ptr X 1 0 0], rfl, e95, ?_⟩
  have hX' := hX
  simp only [Big.cells] at hX'
  refine StillC.of Tryd.func95 rfl Tryd.ntmps95 (by simp) fun Q hB hQ => ?_
  refine Runs.seqE Ty_ok (by decide) fun k' hk' => ?_
  simp   -- R0
  refine hk' _ _ _ ?_
  refine Runs.seqE Ty_ok (by decide) fun k' hk' => ?_
  simp [hX']   -- R1
  refine RunK.callA Ty_ok (isLink_ok b l he ho) e96 (.cons (ArgOk.encB false b) (.cons (.v _ _ _) .nil)) (by decide) (by decide) rfl (by simp [encB, Big.cells]) ?_
  rintro _ rfl
  simp
  refine hk' _ _ _ ?_
  exact Runs.ret Tryd.func95 (RetOk.one Tryd.results95) (hQ _ _ _ _ (.bnd (.v _)) (Frame.refl _ _) (by simp))

theorem clos80 {H : Heap} {n : Nat} {X : Id} (b : Big) (he : 0 ≤ b.edges ∧ b.edges ≤ 8) (ho : b.outer.length ≤ 1048576) (hX : H X = some ⟨6, [b.cells false]⟩) (w : Wire) : ClosC Tryd.prog H n (.fn (.func 99) [] [.ptr X 1 0 0]) [.agg w.cells] (fun r => r = bool (!okLink b w.link)) := by
  refine ⟨99, [], [.ptr X 1 0 0], rfl, e99, ?_⟩
  have hX' := hX
  simp only [Big.cells] at hX'
  refine StillC.of Tryd.func99 rfl Tryd.ntmps99 (by simp) fun Q hB hQ => ?_
  have hXn := (hB X _ hX).1
  have hX2 : ¬ X = (n, 2) := by rintro rfl; simp at hXn
  refine Runs.seqE Ty_ok (by decide) fun k' hk' => ?_
  simp [Wire.cells]   -- R0
  refine hk' _ _ _ ?_
  refine Runs.seqE Ty_ok (by decide) fun k' hk' => ?_
  simp [hX2, hX']   -- R1
  refine RunK.callA Ty_ok (isLink_ok b w.link he ho) e96 (.cons (ArgOk.encB false b) (.cons (.v _ _ _) .nil)) (by decide) (by decide) rfl (by simp [encB, Big.cells]) ?_
  rintro _ rfl
  simp
  refine hk' _ _ _ ?_
  exact Runs.ret Tryd.func99 (RetOk.one Tryd.results99) (hQ _ _ _ _ (.bnd (.v _)) (Frame.set (by simp) (Frame.refl _ _)) (by simp))

theorem clos78 {H : Heap} {n : Nat} {X Y : Id} (sig : Sig) (b : Big) (hr : 0 ≤ b.roots ∧ b.roots ≤ 4) (hc : CtlOk sig b b.nodes.length) (hX : H X = some ⟨6, [b.cells false]⟩) (hY : H Y = some ⟨1, [[encSig false sig]]⟩) (p : Int) :
    ClosC Tryd.prog H n (.fn (.func 97) [] [.ptr X 1 0 0, .ptr Y 1 0 0]) [int p] (fun r => r = bool (!okParent sig b p b.nodes.length)) := by
  refine ⟨97, [], [.ptr X 1 0 0, .ptr Y 1 0 0], rfl, e97, ?_⟩
  have hX' := hX
  simp only [Big.cells, encN] at hX'
  have hY' := hY
  simp only [encSig] at hY'
  refine StillC.of Tryd.func97 rfl Tryd.ntmps97 (by simp) fun Q hB hQ => ?_
  refine Runs.seqE Ty_ok (by decide) fun k' hk' => ?_
  simp   -- R0
  refine hk' _ _ _ ?_
  refine Runs.seqE Ty_ok (by decide) fun k' hk' => ?_
  simp [hX', hY']   -- R1
  refine RunK.callA Ty_ok (isParent_ok sig b p b.nodes.length hr (Nat.le_refl _) hc) e93 (.cons (ArgOk.encB false b) (.cons (ArgOk.encSig false sig) (.cons (.v _ _ _) (.cons (.v _ _ _) .nil)))) (by decide) (by decide) rfl (by simp [encB, Big.cells, encN, encSig]) ?_
  rintro _ rfl
  simp
  refine hk' _ _ _ ?_
  exact Runs.ret Tryd.func97 (RetOk.one Tryd.results97) (hQ _ _ _ _ (.bnd (.v _)) (Frame.refl _ _) (by simp))

theorem ctl_step {sig : Sig} {b : Big} {k : Nat} (h : okNodeB sig b k = true) (hk : CtlOk sig b k) : CtlOk sig b (k + 1) := by
  intro i hi
  rcases Nat.lt_or_ge i k with h1 | h1
  · exact hk i h1
  · have : i = k := by omega
    subst this
    simp only [okNodeB, within, Bool.and_eq_true, decide_eq_true_eq] at h
    omega

/-- What stands ahead of the nodes. -/
def goodPre (sig : Sig) (b : Big) : Bool :=
  goodSig sig && within b.roots 0 4 && decide (b.nodes.length ≤ 8) && decide (b.sites.length ≤ 4) && within b.edges 0 8 && goodNames b.outer && goodNames (names b)
theorem goodB_eq (sig : Sig) (b : Big) : goodB sig b = (goodPre sig b && (List.range b.nodes.length).all (okNodeB sig b) && b.sites.all (fun p => okParent sig b p b.nodes.length) && b.inner.all (fun w => okLink b w.link)) := rfl

theorem any_not {α : Type} (l : List α) (p : α → Bool) : (l.any fun x => !p x) = !l.all p := by
  induction l with
  | nil => rfl
  | cons a l ih => simp [ih]

theorem IsBigraph_ok (sig : Sig) (b : Big) (hs : SmallB sig b) : PureC Tryd.prog 63 [encSig false sig, encB false b] (fun r => r = bool (goodB sig b)) := by
  obtain ⟨s1, s2, s3, s4, s5, s6, s7, s8, s9, _, _⟩ := hs
  have hnl : (names b).length ≤ 1048576 := by simpa [names] using s6
  have hnn : ∀ s ∈ names b, s.length ≤ 1048576 := by
    intro s hs
    obtain ⟨w, hw, rfl⟩ := List.mem_map.1 hs
    exact s8 w hw
  refine PureC.of Tryd.func63 rfl Tryd.ntmps63 (by simp) fun Q hQ => ?_
  refine Runs.seqE Ty_ok (by decide) fun k' hk' => ?_
  simp [encSig, encB, Big.cells]   -- R0
  refine hk' _ _ _ ?_
  refine Runs.cut (fun ρ H n => ρ 2 = .ptr (0, 2) 1 0 0 ∧ ρ 3 = .ptr (1, 3) 1 0 0 ∧ H (0, 2) = some ⟨1, [[encSig false sig]]⟩ ∧ H (1, 3) = some ⟨6, [b.cells false]⟩) ⟨by simp, by simp, by simp [encSig], by simp [Big.cells]⟩ ?_
  clear hk'
  rintro ρ H n ⟨h2, h3, hm2, hm3⟩
  have hm2' := hm2
  simp only [encSig] at hm2'
  have hm3' := hm3
  simp only [Big.cells, encN, encI, encS, encW] at hm3'
  refine Runs.seq ?_
  refine Runs.seqE Ty_ok (by decide) fun k' hk' => ?_
  have fin : ∀ ρ : Env, ρ 2 = .ptr (0, 2) 1 0 0 → ρ 3 = .ptr (1, 3) 1 0 0 → ρ 45 = bool (!goodPre sig b) → Runs Tryd.prog 63 101 k' ρ H n Q := by
    intro ρ h2 h3 h45
    refine hk' _ _ _ ?_
    refine Runs.ite h45 (fun hc1 => ?_) (fun hc1 => ?_)   -- t45
    · have hb : goodPre sig b = false := by simpa using hc1
      refine Runs.seqE Ty_ok (by decide) fun k' hk' => ?_
      simp   -- R2
      refine hk' _ _ _ ?_
      exact Runs.ret Tryd.func63 (RetOk.one Tryd.results63) (hQ _ _ _ _ (.v _ _ _) (by rw [goodB_eq, hb]; rfl))
    · have hb : goodPre sig b = true := by simpa using hc1
      have hb' := hb
      simp only [goodPre, within, Bool.and_eq_true, decide_eq_true_eq] at hb'
      obtain ⟨⟨⟨⟨⟨⟨_, hr⟩, hn8⟩, _⟩, hed⟩, _⟩, _⟩ := hb'
      refine Runs.skip ?_
      refine Runs.seq ?_
      refine Runs.seqE Ty_ok (by decide) fun k' hk' => ?_
      simp [h3, hm3']   -- R3
      refine hk' _ _ _ ?_
      refine Runs.block (Runs.loopUp b.nodes.length (fun k ρ H n => ρ 2 = .ptr (0, 2) 1 0 0 ∧ ρ 3 = .ptr (1, 3) 1 0 0 ∧ ρ 47 = .list false (b.nodes.map (GNode.cells false)) ∧ ρ 48 = int b.nodes.length ∧ ρ 49 = int k ∧
        H (0, 2) = some ⟨1, [[encSig false sig]]⟩ ∧ H (1, 3) = some ⟨6, [b.cells false]⟩ ∧ CtlOk sig b k ∧ (∀ i, i < k → okNodeB sig b i = true)) ?_ ?_)
      · exact ⟨by simp [h2], by simp [h3], by simp, by simp, by simp, hm2, hm3, fun i hi => by omega, fun i hi => by omega⟩
      · clear h2 h3 hm2' hm3'
        rintro k ρ H n hk ⟨h2, h3, h47, h48, h49, hm2, hm3, hctl, hall⟩ IH
        have hm2' := hm2
        simp only [encSig] at hm2'
        have hm3' := hm3
        simp only [Big.cells, encN, encI, encS, encW] at hm3'
        refine Runs.seqE Ty_ok (by decide) fun k' hk' => ?_
        simp [h48, h49]   -- R4
        refine hk' _ _ _ ?_
        refine Runs.seq ?_
        refine Runs.ite rfl (fun hc2 => ?_) (fun hc2 => ?_)   -- t50
        · have hc2 : k < b.nodes.length := by simpa using hc2
          have hgk : b.nodes.getD k default = b.nodes[k] := by simp [hc2]
          refine Runs.skip ?_
          refine Runs.seq ?_
          refine Runs.block ?_
          refine Runs.seqE Ty_ok (by decide) fun k' hk' => ?_
          simp [h47, h49, hc2, GNode.cells]   -- R5
          refine hk' _ _ _ ?_
          refine Runs.cut (fun ρ H m => ρ 2 = .ptr (0, 2) 1 0 0 ∧ ρ 3 = .ptr (1, 3) 1 0 0 ∧ ρ 47 = .list false (b.nodes.map (GNode.cells false)) ∧ ρ 48 = int b.nodes.length ∧ ρ 49 = int k ∧ ρ 5 = int k ∧ ρ 6 = .ptr (n, 6) 1 0 0 ∧
            H (0, 2) = some ⟨1, [[encSig false sig]]⟩ ∧ H (1, 3) = some ⟨6, [b.cells false]⟩ ∧ H (n, 6) = some ⟨3, [b.nodes[k].cells false]⟩ ∧ m = n + 1) ?_ ?_
          · exact ⟨by simp [h2], by simp [h3], by simp [h47], by simp [h48], by simp [h49], by simp, by simp, by simp [hm2], by simp [hm3], by simp [GNode.cells], rfl⟩
          clear hk' h2 h3 h47 h48 h49 hm2 hm3 hm2' hm3'
          rintro ρ H m ⟨h2, h3, h47, h48, h49, h5, h6, hm2, hm3, hm6, rfl⟩
          have hm2' := hm2
          simp only [encSig] at hm2'
          have hm3' := hm3
          simp only [Big.cells, encN, encI, encS, encW] at hm3'
          have hm6' := hm6
          simp only [GNode.cells] at hm6'
          refine Runs.seqD Ty_ok kindOp_ok draws (by decide) (by kernel_rfl) fun k' hk' => ?_
          have fin : ∀ ρ : Env, ρ 2 = .ptr (0, 2) 1 0 0 → ρ 3 = .ptr (1, 3) 1 0 0 → ρ 47 = .list false (b.nodes.map (GNode.cells false)) → ρ 48 = int b.nodes.length → ρ 49 = int k → ρ 87 = bool (!okNodeB sig b k) → Runs Tryd.prog 63 101 k' ρ H (n + 1) Q := by
            intro ρ h2 h3 h47 h48 h49 h87
            refine hk' _ _ _ ?_
            refine Runs.ite h87 (fun hc3 => ?_) (fun hc3 => ?_)   -- t87
            · have hb : okNodeB sig b k = false := by simpa using hc3
              refine Runs.seqE Ty_ok (by decide) fun k' hk' => ?_
              simp   -- R7
              refine hk' _ _ _ ?_
              exact Runs.ret Tryd.func63 (RetOk.one Tryd.results63) (hQ _ _ _ _ (.v _ _ _) (by rw [goodB_eq, all_range_bad hc2 hb, Bool.and_false]; rfl))
            · have hb : okNodeB sig b k = true := by simpa using hc3
              refine Runs.skip ?_
              refine Runs.inBlock ?_
              refine Runs.evalE Ty_ok (by decide) fun k' hk' => ?_
              simp [h49, wrap_succ (show k < 4611686018427387904 by omega)]   -- R8
              refine hk' _ _ _ ?_
              refine IH hc2 _ _ _ ⟨by simp [h2], by simp [h3], by simp [h47], by simp [h48], by simp, hm2, hm3, ctl_step hb hctl, fun i hi => ?_⟩
              rcases Nat.lt_or_ge i k with h | h
              · exact hall i h
              · rw [show i = k by omega]; exact hb
          have hw : IntKind.i64.wrap ((sig.length : Int) - 1) = (sig.length : Int) - 1 := by rw [wrap64] <;> omega
          simp [h2, h6, hm2', hm6', hw]   -- R6
          refine RunDK.callA Ty_ok kindOp_ok (within_ok b.nodes[k].control 0 ((sig.length : Int) - 1)) e74 (.cons (.v _ _ _) (.cons (.v _ _ _) (.cons (.v _ _ _) .nil))) (by decide) rfl (by simp) ?_
          cases q1 : within b.nodes[k].control 0 ((sig.length : Int) - 1)
          · simp [guardOf]
            exact fin _ (by simp [h2]) (by simp [h3]) (by simp [h47]) (by simp [h48]) (by simp [h49]) (by simp only [okNodeB, hgk, q1]; simp)
          simp [h2, h3, h5, h6, hm2', hm3', hm6', guardOf]
          refine RunDK.callA Ty_ok kindOp_ok (isParent_ok sig b b.nodes[k].parent k hr (by omega) hctl) e93 (.cons (ArgOk.encB false b) (.cons (ArgOk.encSig false sig) (.cons (.v _ _ _) (.cons (.v _ _ _) .nil)))) (by decide) rfl (by simp [encB, Big.cells, encN, encI, encS, encW, encSig]) ?_
          cases q2 : okParent sig b b.nodes[k].parent k
          · simp [guardOf]
            exact fin _ (by simp [h2]) (by simp [h3]) (by simp [h47]) (by simp [h48]) (by simp [h49]) (by simp only [okNodeB, hgk, q2]; simp)
          have q1' := q1
          simp only [within, Bool.and_eq_true, decide_eq_true_eq] at q1'
          obtain ⟨c, hc⟩ : ∃ c : Nat, b.nodes[k].control = c := ⟨b.nodes[k].control.toNat, by omega⟩
          have hcl : c < sig.length := by omega
          have q1c := q1
          rw [hc] at q1c
          have hgc : sig.getD c default = sig[c] := by simp [hcl]
          by_cases q3 : (b.nodes[k].links.length : Int) = sig[c].ports
          · have q3' : ((b.nodes[k].links.length : Int) != sig[c].ports) = false := by simpa using q3
            simp [h2, h3, h6, hm2', hm6', hc, hcl, q3', Control.cells, guardOf]
            refine RunDK.callT Ty_ok kindOp_ok (containsFuncI_ok false b.nodes[k].links (fun l => !okLink b l) (s9 _ (List.getElem_mem hc2)) (fun l _ => clos76 b hed s5 hm3 l)) e94 (by decide) rfl (by simp) ?_
            simp
            refine fin _ (by simp [h2]) (by simp [h3]) (by simp [h47]) (by simp [h48]) (by simp [h49]) ?_
            simp only [okNodeB, hgk, q1c, q2, hc, Int.toNat_natCast, hgc, q3, any_not]
            simp
          · have q3' : ((b.nodes[k].links.length : Int) != sig[c].ports) = true := by simpa using q3
            simp [h2, h3, h6, hm2', hm6', hc, hcl, q3', Control.cells, guardOf]
            exact fin _ (by simp [h2]) (by simp [h3]) (by simp [h47]) (by simp [h48]) (by simp [h49]) (by simp only [okNodeB, hgk, q1c, q2, hc, Int.toNat_natCast, hgc, q3]; simp)
        · have hc2 : ¬ k < b.nodes.length := by simpa using hc2
          have hke : k = b.nodes.length := by omega
          subst hke
          have hnodes := all_range_end hall
          refine Runs.exit rfl ?_
          refine Runs.seqE Ty_ok (by decide) fun k' hk' => ?_
          simp [h2, h3, hm3']   -- R9
          refine RunK.callT Ty_ok (containsFuncI_ok false b.sites (fun p => !okParent sig b p b.nodes.length) s4 (fun p _ => clos78 sig b hr hctl hm3 hm2 p)) e94 (by decide) (by decide) rfl (by simp) ?_
          rintro _ rfl
          rw [any_not]
          cases r1 : b.sites.all (fun p => okParent sig b p b.nodes.length)
          · simp [guardOf]
            refine hk' _ _ _ ?_
            exact Runs.ret Tryd.func63 (RetOk.one Tryd.results63) (hQ _ _ _ _ (.v _ _ _) (by rw [goodB_eq, r1]; simp))
          · simp [h3, hm3', guardOf]
            refine RunK.callT Ty_ok (containsFuncW_ok false b.inner (fun w => !okLink b w.link) s6 (fun w _ => clos80 b hed s5 hm3 w)) e98 (by decide) (by decide) rfl (by simp) ?_
            rintro _ rfl
            rw [any_not]
            simp
            refine hk' _ _ _ ?_
            exact Runs.ret Tryd.func63 (RetOk.one Tryd.results63) (hQ _ _ _ _ (.v _ _ _) (by rw [goodB_eq, hb, hnodes, r1]; simp))
  simp [h2, hm2']   -- R1
  refine RunK.callA Ty_ok (IsSignature_ok sig s1 s2) e90 (.cons (ArgOk.encSig false sig) .nil) (by decide) (by decide) rfl (by simp [encSig]) ?_
  rintro _ rfl
  cases p1 : goodSig sig
  · simp [guardOf]
    exact fin _ (by simp [h2]) (by simp [h3]) (by simp only [goodPre, p1]; simp)
  simp [h3, hm3', guardOf]
  refine RunK.callA Ty_ok (within_ok b.roots 0 4) e74 (.cons (.v _ _ _) (.cons (.v _ _ _) (.cons (.v _ _ _) .nil))) (by decide) (by decide) rfl (by simp) ?_
  rintro _ rfl
  cases p2 : within b.roots 0 4
  · simp [guardOf]
    exact fin _ (by simp [h2]) (by simp [h3]) (by simp only [goodPre, p2]; simp)
  by_cases p3 : (8 : Int) < b.nodes.length
  · simp [h3, hm3', p3, guardOf]
    exact fin _ (by simp [h2]) (by simp [h3]) (by simp only [goodPre, show ¬ b.nodes.length ≤ 8 by omega]; simp)
  by_cases p4 : (4 : Int) < b.sites.length
  · simp [h3, hm3', p3, p4, guardOf]
    exact fin _ (by simp [h2]) (by simp [h3]) (by simp only [goodPre, show ¬ b.sites.length ≤ 4 by omega]; simp)
  simp [h3, hm3', p3, p4, guardOf]
  refine RunK.callA Ty_ok (within_ok b.edges 0 8) e74 (.cons (.v _ _ _) (.cons (.v _ _ _) (.cons (.v _ _ _) .nil))) (by decide) (by decide) rfl (by simp) ?_
  rintro _ rfl
  cases p5 : within b.edges 0 8
  · simp [guardOf]
    exact fin _ (by simp [h2]) (by simp [h3]) (by simp only [goodPre, p5]; simp)
  simp [h3, hm3', guardOf]
  refine RunK.callA Ty_ok (areNames_ok b.outer s5 s7) e91 (.cons (ArgOk.encS false b.outer) .nil) (by decide) (by decide) rfl (by simp [encS]) ?_
  rintro _ rfl
  cases p6 : goodNames b.outer
  · simp [guardOf]
    exact fin _ (by simp [h2]) (by simp [h3]) (by simp only [goodPre, p6]; simp)
  simp [h3, hm3', guardOf]
  refine RunK.callA Ty_ok (innerNames_ok b s6) e92 (.cons (ArgOk.encB false b) .nil) (by decide) (by decide) rfl (by simp [encB, Big.cells, encN, encI, encS, encW]) ?_
  rintro _ rfl
  simp
  refine RunK.callA Ty_ok (areNames_ok (names b) hnl hnn) e91 (.cons (ArgOk.encS true (names b)) .nil) (by decide) (by decide) rfl (by simp [encS]) ?_
  rintro _ rfl
  simp
  exact fin _ (by simp [h2]) (by simp [h3]) (by simp only [goodPre, p1, p2, p5, p6, show b.nodes.length ≤ 8 by omega, show b.sites.length ≤ 4 by omega]; simp)
end Go.Ab

/- Contracts of spec.l2Node and spec.l2Good. -/
namespace Go.Ab
open Go.Proofs
set_option linter.unusedSimpArgs false
theorem e60 : Ent Tryd.prog 60 := Ent.of Tryd.func60 (by kernel_rfl) rfl
theorem e87 : Ent Tryd.prog 87 := Ent.of Tryd.func87 (by kernel_rfl) rfl

theorem all_bad {α : Type} {l : List α} {p : α → Bool} {k : Nat} (hk : k < l.length) (h : p l[k] = false) : l.all p = false := by
  rw [List.all_eq_false]
  exact ⟨l[k], List.getElem_mem hk, by simp [h]⟩
theorem all_end {α : Type} {l : List α} {p : α → Bool} (h : ∀ i (hi : i < l.length), p l[i] = true) : l.all p = true := by
  rw [List.all_eq_true]
  intro x hx
  obtain ⟨i, hi, rfl⟩ := List.getElem_of_mem hx
  exact h i hi

theorem l2Node_ok (sig : Sig) (b : Big) (hs : SmallB sig b) (k : Nat) (hk : k < b.nodes.length) (hr : 0 ≤ b.roots ∧ b.roots ≤ 4) (he : 0 ≤ b.edges ∧ b.edges ≤ 8) (hctl : CtlOk sig b k) :
    PureC Tryd.prog 87 [encSig false sig, encB false b, int k] (fun r => r = bool (okNodeB sig b k)) := by
  have hgk : b.nodes.getD k default = b.nodes[k] := by simp [hk]
  have hll := hs.linksLen _ (List.getElem_mem hk)
  have hpar := hs.parents _ (List.getElem_mem hk)
  have hol := hs.outerLen
  have hsl := hs.sigLen
  refine PureC.of Tryd.func87 rfl Tryd.ntmps87 (by simp) fun Q hQ => ?_
  refine Runs.seqE Ty_ok (by decide) fun k' hk' => ?_
  simp [encSig, encB, Big.cells]   -- R0
  refine hk' _ _ _ ?_
  refine Runs.seqE Ty_ok (by decide) fun k' hk' => ?_
  simp [encN, hk, GNode.cells]   -- R1
  refine hk' _ _ _ ?_
  refine Runs.cut (fun ρ H n => ρ 0 = .list false (sig.map Control.cells) ∧ ρ 2 = int k ∧ ρ 4 = .ptr (0, 4) 1 0 0 ∧ ρ 7 = .ptr (1, 7) 1 0 0 ∧ H (0, 4) = some ⟨6, [b.cells false]⟩ ∧ H (1, 7) = some ⟨3, [b.nodes[k].cells false]⟩) ⟨by simp, by simp, by simp, by simp, by simp [Big.cells, encN, GNode.cells], by simp [GNode.cells]⟩ ?_
  clear hk'
  rintro ρ H n ⟨h0, h2, h4, h7, hm4, hm7⟩
  have hm4' := hm4
  simp only [Big.cells, encN, encI, encS, encW] at hm4'
  have hm7' := hm7
  simp only [GNode.cells] at hm7'
  refine Runs.seq ?_
  refine Runs.seqD Ty_ok kindOp_ok draws (by decide) (by kernel_rfl) fun k' hk' => ?_
  have fin : ∀ (ρ : Env) (pre : Bool), ρ 4 = .ptr (0, 4) 1 0 0 → ρ 7 = .ptr (1, 7) 1 0 0 → ρ 41 = bool (!pre) → okNodeB sig b k = (pre && b.nodes[k].links.all (okLink b)) → Runs Tryd.prog 87 57 k' ρ H n Q := by
    intro ρ pre h4 h7 h41 hpre
    refine hk' _ _ _ ?_
    refine Runs.ite h41 (fun hc1 => ?_) (fun hc1 => ?_)   -- t41
    · have hb : pre = false := by simpa using hc1
      refine Runs.seqE Ty_ok (by decide) fun k' hk' => ?_
      simp   -- R3
      refine hk' _ _ _ ?_
      exact Runs.ret Tryd.func87 (RetOk.one Tryd.results87) (hQ _ _ _ _ (.v _ _ _) (by rw [hpre, hb]; rfl))
    · have hb : pre = true := by simpa using hc1
      rw [hb, Bool.true_and] at hpre
      refine Runs.skip ?_
      refine Runs.seq ?_
      refine Runs.seqE Ty_ok (by decide) fun k' hk' => ?_
      simp   -- R4
      refine hk' _ _ _ ?_
      refine Runs.block (Runs.loopUp b.nodes[k].links.length (fun j ρ' H' n' => ρ' 4 = .ptr (0, 4) 1 0 0 ∧ ρ' 7 = .ptr (1, 7) 1 0 0 ∧ ρ' 8 = int j ∧ H' = H ∧ n' = n ∧ ∀ i (hi : i < b.nodes[k].links.length), i < j → okLink b b.nodes[k].links[i] = true) ?_ ?_)
      · exact ⟨by simp [h4], by simp [h7], by simp, rfl, rfl, fun i hi h => by omega⟩
      · clear h4 h7
        rintro j ρ H' n' hj ⟨h4, h7, h8, rfl, rfl, hall⟩ IH
        refine Runs.seq ?_
        refine Runs.seqE Ty_ok (by decide) fun k' hk' => ?_
        simp [h7, h8, hm7']   -- R5
        refine hk' _ _ _ ?_
        refine Runs.ite rfl (fun hc2 => ?_) (fun hc2 => ?_)   -- t46
        · have hc2 : j < b.nodes[k].links.length := by simpa using hc2
          refine Runs.skip ?_
          refine Runs.seq ?_
          refine Runs.block ?_
          refine Runs.seqD Ty_ok kindOp_ok draws (by decide) (by kernel_rfl) fun k' hk' => ?_
          simp [h4, h7, h8, hm4', hm7', hc2, intC]   -- R7
          refine RunDK.callA Ty_ok kindOp_ok (l2Link_ok b b.nodes[k].links[j] he hol) e89 (.cons (ArgOk.encB false b) (.cons (.v _ _ _) .nil)) (by decide) rfl (by simp [encB, Big.cells, encN, encI, encS, encW, intC]) ?_
          simp
          refine hk' _ _ _ ?_
          refine Runs.ite rfl (fun hc3 => ?_) (fun hc3 => ?_)   -- t56
          · have hb3 : okLink b b.nodes[k].links[j] = false := by simpa using hc3
            refine Runs.seqE Ty_ok (by decide) fun k' hk' => ?_
            simp   -- R8
            refine hk' _ _ _ ?_
            exact Runs.ret Tryd.func87 (RetOk.one Tryd.results87) (hQ _ _ _ _ (.v _ _ _) (by rw [hpre, all_bad hc2 hb3]))
          · have hb3 : okLink b b.nodes[k].links[j] = true := by simpa using hc3
            refine Runs.skip ?_
            refine Runs.inBlock ?_
            refine Runs.evalE Ty_ok (by decide) fun k' hk' => ?_
            simp [h8, wrap_succ (show j < 4611686018427387904 by omega)]   -- R6
            refine hk' _ _ _ ?_
            refine IH hc2 _ _ _ ⟨by simp [h4], by simp [h7], by simp, rfl, rfl, fun i hi hij => ?_⟩
            rcases Nat.lt_or_ge i j with h | h
            · exact hall i hi h
            · have : i = j := by omega
              subst this
              exact hb3
        · have hc2 : ¬ j < b.nodes[k].links.length := by simpa using hc2
          have hje : j = b.nodes[k].links.length := by omega
          subst hje
          refine Runs.exit rfl ?_
          refine Runs.seqE Ty_ok (by decide) fun k' hk' => ?_
          simp   -- R9
          refine hk' _ _ _ ?_
          exact Runs.ret Tryd.func87 (RetOk.one Tryd.results87) (hQ _ _ _ _ (.v _ _ _) (by rw [hpre, all_end fun i hi => hall i hi hi]))
  have hw : IntKind.i64.wrap ((sig.length : Int) - 1) = (sig.length : Int) - 1 := by rw [wrap64] <;> omega
  simp [h0, h7, hm7', hw]   -- R2
  refine RunDK.callA Ty_ok kindOp_ok (l1In_ok b.nodes[k].control 0 ((sig.length : Int) - 1)) e70 (.cons (.v _ _ _) (.cons (.v _ _ _) (.cons (.v _ _ _) .nil))) (by decide) rfl (by simp) ?_
  cases q1 : within b.nodes[k].control 0 ((sig.length : Int) - 1)
  · simp [guardOf]
    exact fin _ false (by simp [h4]) (by simp [h7]) (by simp) (by simp only [okNodeB, hgk, q1]; simp)
  simp [h0, h2, h4, h7, hm4', hm7', guardOf]
  refine RunDK.callA Ty_ok kindOp_ok (l2Under_ok sig b b.nodes[k].parent k hpar hr (by omega) hctl) e88 (.cons (ArgOk.encSig false sig) (.cons (ArgOk.encB false b) (.cons (.v _ _ _) (.cons (.v _ _ _) .nil)))) (by decide) rfl (by simp [encB, Big.cells, encN, encI, encS, encW, encSig]) ?_
  cases q2 : okParent sig b b.nodes[k].parent k
  · simp [guardOf]
    exact fin _ false (by simp [h4]) (by simp [h7]) (by simp) (by simp only [okNodeB, hgk, q2]; simp)
  have q1' := q1
  simp only [within, Bool.and_eq_true, decide_eq_true_eq] at q1'
  obtain ⟨c, hc⟩ : ∃ c : Nat, b.nodes[k].control = c := ⟨b.nodes[k].control.toNat, by omega⟩
  have hcl : c < sig.length := by omega
  have q1c := q1
  rw [hc] at q1c
  have hgc : sig.getD c default = sig[c] := by simp [hcl]
  by_cases q3 : (b.nodes[k].links.length : Int) = sig[c].ports
  · have q3' : ((b.nodes[k].links.length : Int) != sig[c].ports) = false := by simpa using q3
    simp [h0, h7, hm7', hc, hcl, q3', Control.cells, guardOf]
    exact fin _ true (by simp [h4]) (by simp [h7]) (by simp) (by simp only [okNodeB, hgk, q1c, q2, hc, Int.toNat_natCast, hgc, q3]; simp)
  · have q3' : ((b.nodes[k].links.length : Int) != sig[c].ports) = true := by simpa using q3
    simp [h0, h7, hm7', hc, hcl, q3', Control.cells, guardOf]
    exact fin _ false (by simp [h4]) (by simp [h7]) (by simp) (by simp only [okNodeB, hgk, q1c, q2, hc, Int.toNat_natCast, hgc, q3]; simp)
end Go.Ab

/- Contract of spec.l2Good. -/
namespace Go.Ab
open Go.Proofs
set_option linter.unusedSimpArgs false

theorem ctl_all {sig : Sig} {b : Big} {k : Nat} (h : ∀ i, i < k → okNodeB sig b i = true) : CtlOk sig b k := by
  induction k with
  | zero => intro i hi; omega
  | succ k ih => exact ctl_step (h k (by omega)) (ih fun i hi => h i (by omega))

def pre1 (sig : Sig) (b : Big) : Bool := goodSig sig && within b.roots 0 4 && decide (b.nodes.length ≤ 8) && decide (b.sites.length ≤ 4) && within b.edges 0 8
def pre2 (b : Big) : Bool := goodNames b.outer && goodNames (names b)
theorem goodPre_eq (sig : Sig) (b : Big) : goodPre sig b = (pre1 sig b && pre2 b) := by
  simp only [goodPre, pre1, pre2, Bool.and_assoc]

theorem l2Good_ok (sig : Sig) (b : Big) (hs : SmallB sig b) : PureC Tryd.prog 60 [encSig false sig, encB false b] (fun r => r = bool (goodB sig b)) := by
  obtain ⟨s1, s2, s3, s4, s5, s6, s7, s8, s9, s10, s11⟩ := id hs
  have hnl : (names b).length ≤ 1048576 := by simpa [names] using s6
  have hnn : ∀ s ∈ names b, s.length ≤ 1048576 := by
    intro s hs
    obtain ⟨w, hw, rfl⟩ := List.mem_map.1 hs
    exact s8 w hw
  refine PureC.of Tryd.func60 rfl Tryd.ntmps60 (by simp) fun Q hQ => ?_
  have no : goodB sig b = false → ∀ H n, Q (bool false) H n := fun h H n => hQ _ _ _ _ (.v _ _ _) (by rw [h])
  refine Runs.seqE Ty_ok (by decide) fun k' hk' => ?_
  simp [encSig, encB, Big.cells]   -- R0
  refine hk' _ _ _ ?_
  refine Runs.cut (fun ρ H n => ρ 0 = .list false (sig.map Control.cells) ∧ ρ 3 = .ptr (0, 3) 1 0 0 ∧ H (0, 3) = some ⟨6, [b.cells false]⟩) ⟨by simp, by simp, by simp [Big.cells]⟩ ?_
  clear hk'
  rintro ρ H n ⟨h0, h3, hm3⟩
  have hm3' := hm3
  simp only [Big.cells, encN, encI, encS, encW] at hm3'
  refine Runs.seq ?_
  refine Runs.seqE Ty_ok (by decide) fun k' hk' => ?_
  have fin : ∀ ρ : Env, ρ 0 = .list false (sig.map Control.cells) → ρ 3 = .ptr (0, 3) 1 0 0 → ρ 34 = bool (!pre1 sig b) → Runs Tryd.prog 60 98 k' ρ H n Q := by
    clear h0 h3
    intro ρ h0 h3 h34
    refine hk' _ _ _ ?_
    refine Runs.ite h34 (fun hc1 => ?_) (fun hc1 => ?_)   -- t34
    · have hb : pre1 sig b = false := by simpa using hc1
      refine Runs.seqE Ty_ok (by decide) fun k' hk' => ?_
      simp   -- R2
      refine hk' _ _ _ ?_
      exact Runs.ret Tryd.func60 (RetOk.one Tryd.results60) (no (by rw [goodB_eq, goodPre_eq, hb]; rfl) _ _)
    · have hb1 : pre1 sig b = true := by simpa using hc1
      have hb' := hb1
      simp only [pre1, within, Bool.and_eq_true, decide_eq_true_eq] at hb'
      obtain ⟨⟨⟨⟨_, hr⟩, hn8⟩, _⟩, hed⟩ := hb'
      refine Runs.skip ?_
      refine Runs.seq ?_
      refine Runs.seqE Ty_ok (by decide) fun k' hk' => ?_
      have fin2 : ∀ ρ : Env, ρ 0 = .list false (sig.map Control.cells) → ρ 3 = .ptr (0, 3) 1 0 0 → ρ 50 = bool (!pre2 b) → Runs Tryd.prog 60 98 k' ρ H n Q := by
        clear h0 h3
        intro ρ h0 h3 h50
        refine hk' _ _ _ ?_
        refine Runs.ite h50 (fun hc1 => ?_) (fun hc1 => ?_)   -- t50
        · have hb : pre2 b = false := by simpa using hc1
          refine Runs.seqE Ty_ok (by decide) fun k' hk' => ?_
          simp   -- R4
          refine hk' _ _ _ ?_
          exact Runs.ret Tryd.func60 (RetOk.one Tryd.results60) (no (by rw [goodB_eq, goodPre_eq, hb, Bool.and_false]; rfl) _ _)
        · have hb2 : pre2 b = true := by simpa using hc1
          have hpre : goodPre sig b = true := by rw [goodPre_eq, hb1, hb2]; rfl
          refine Runs.skip ?_
          refine Runs.seq ?_
          refine Runs.seqE Ty_ok (by decide) fun k' hk' => ?_
          simp   -- R5
          refine hk' _ _ _ ?_
          refine Runs.block (Runs.loopUp b.nodes.length (fun k ρ' H' n' => ρ' 0 = .list false (sig.map Control.cells) ∧ ρ' 3 = .ptr (0, 3) 1 0 0 ∧ ρ' 5 = int k ∧ H' = H ∧ n' = n ∧ ∀ i, i < k → okNodeB sig b i = true) ?_ ?_)
          · exact ⟨by simp [h0], by simp [h3], by simp, rfl, rfl, fun i hi => by omega⟩
          · clear h0 h3
            rintro k ρ H' n' hk ⟨h0, h3, h5, rfl, rfl, hall⟩ IH
            refine Runs.seq ?_
            refine Runs.seqE Ty_ok (by decide) fun k' hk' => ?_
            simp [h3, h5, hm3']   -- R6
            refine hk' _ _ _ ?_
            refine Runs.ite rfl (fun hc2 => ?_) (fun hc2 => ?_)   -- t55
            · have hc2 : k < b.nodes.length := by simpa using hc2
              refine Runs.skip ?_
              refine Runs.seq ?_
              refine Runs.block ?_
              refine Runs.seqE Ty_ok (by decide) fun k' hk' => ?_
              simp [h0, h3, h5, hm3']   -- R8
              refine RunK.callA Ty_ok (l2Node_ok sig b hs k hc2 hr hed (ctl_all hall)) e87 (.cons (ArgOk.encSig false sig) (.cons (ArgOk.encB false b) (.cons (.v _ _ _) .nil))) (by decide) (by decide) rfl (by simp [h0, h5, encSig, encB, Big.cells, encN, encI, encS, encW]) ?_
              rintro _ rfl
              simp
              refine hk' _ _ _ ?_
              refine Runs.ite rfl (fun hc3 => ?_) (fun hc3 => ?_)   -- t62
              · have hb3 : okNodeB sig b k = false := by simpa using hc3
                refine Runs.seqE Ty_ok (by decide) fun k' hk' => ?_
                simp   -- R9
                refine hk' _ _ _ ?_
                exact Runs.ret Tryd.func60 (RetOk.one Tryd.results60) (no (by rw [goodB_eq, all_range_bad hc2 hb3, Bool.and_false]; rfl) _ _)
              · have hb3 : okNodeB sig b k = true := by simpa using hc3
                refine Runs.skip ?_
                refine Runs.inBlock ?_
                refine Runs.evalE Ty_ok (by decide) fun k' hk' => ?_
                simp [h5, wrap_succ (show k < 4611686018427387904 by omega)]   -- R7
                refine hk' _ _ _ ?_
                refine IH hc2 _ _ _ ⟨by simp [h0], by simp [h3], by simp, rfl, rfl, fun i hi => ?_⟩
                rcases Nat.lt_or_ge i k with h | h
                · exact hall i h
                · rw [show i = k by omega]; exact hb3
            · have hc2 : ¬ k < b.nodes.length := by simpa using hc2
              have hke : k = b.nodes.length := by omega
              subst hke
              have hnodes := all_range_end hall
              have hctl := ctl_all hall
              refine Runs.exit rfl ?_
              refine Runs.seq ?_
              refine Runs.seqE Ty_ok (by decide) fun k' hk' => ?_
              simp   -- R10
              refine hk' _ _ _ ?_
              clear IH hall h5
              refine Runs.block (Runs.loopUp b.sites.length (fun k ρ' H2 n2 => ρ' 0 = .list false (sig.map Control.cells) ∧ ρ' 3 = .ptr (0, 3) 1 0 0 ∧ ρ' 6 = int k ∧ H2 = H' ∧ n2 = n' ∧ ∀ i (hi : i < b.sites.length), i < k → okParent sig b b.sites[i] b.nodes.length = true) ?_ ?_)
              · exact ⟨by simp [h0], by simp [h3], by simp, rfl, rfl, fun i hi h => by omega⟩
              · clear h0 h3
                rintro k ρ H2 n2 hk2 ⟨h0, h3, h6, rfl, rfl, hall⟩ IH
                refine Runs.seq ?_
                refine Runs.seqE Ty_ok (by decide) fun k' hk' => ?_
                simp [h3, h6, hm3']   -- R11
                refine hk' _ _ _ ?_
                refine Runs.ite rfl (fun hc4 => ?_) (fun hc4 => ?_)   -- t67
                · have hc4 : k < b.sites.length := by simpa using hc4
                  refine Runs.skip ?_
                  refine Runs.seq ?_
                  refine Runs.block ?_
                  refine Runs.seqD Ty_ok kindOp_ok draws (by decide) (by kernel_rfl) fun k' hk' => ?_
                  simp [h0, h3, h6, hm3', hc4, intC]   -- R13
                  refine RunDK.callA Ty_ok kindOp_ok (l2Under_ok sig b b.sites[k] b.nodes.length (s11 _ (List.getElem_mem hc4)) hr (Nat.le_refl _) hctl) e88 (.cons (ArgOk.encSig false sig) (.cons (ArgOk.encB false b) (.cons (.v _ _ _) (.cons (.v _ _ _) .nil)))) (by decide) rfl (by simp [h0, encSig, encB, Big.cells, encN, encI, encS, encW, intC]) ?_
                  simp
                  refine hk' _ _ _ ?_
                  refine Runs.ite rfl (fun hc5 => ?_) (fun hc5 => ?_)   -- t81
                  · have hb3 : okParent sig b b.sites[k] b.nodes.length = false := by simpa using hc5
                    refine Runs.seqE Ty_ok (by decide) fun k' hk' => ?_
                    simp   -- R14
                    refine hk' _ _ _ ?_
                    exact Runs.ret Tryd.func60 (RetOk.one Tryd.results60) (no (by rw [goodB_eq, all_bad hc4 hb3, Bool.and_false]; rfl) _ _)
                  · have hb3 : okParent sig b b.sites[k] b.nodes.length = true := by simpa using hc5
                    refine Runs.skip ?_
                    refine Runs.inBlock ?_
                    refine Runs.evalE Ty_ok (by decide) fun k' hk' => ?_
                    simp [h6, wrap_succ (show k < 4611686018427387904 by omega)]   -- R12
                    refine hk' _ _ _ ?_
                    refine IH hc4 _ _ _ ⟨by simp [h0], by simp [h3], by simp, rfl, rfl, fun i hi hij => ?_⟩
                    rcases Nat.lt_or_ge i k with h | h
                    · exact hall i hi h
                    · have : i = k := by omega
                      subst this
                      exact hb3
                · have hc4 : ¬ k < b.sites.length := by simpa using hc4
                  have hke : k = b.sites.length := by omega
                  subst hke
                  have hsites := all_end (l := b.sites) (p := fun p => okParent sig b p b.nodes.length) fun i hi => hall i hi hi
                  refine Runs.exit rfl ?_
                  refine Runs.seq ?_
                  refine Runs.seqE Ty_ok (by decide) fun k' hk' => ?_
                  simp   -- R15
                  refine hk' _ _ _ ?_
                  clear IH hall h6
                  refine Runs.block (Runs.loopUp b.inner.length (fun k ρ' H3 n3 => ρ' 3 = .ptr (0, 3) 1 0 0 ∧ ρ' 7 = int k ∧ H3 = H2 ∧ n3 = n2 ∧ ∀ i (hi : i < b.inner.length), i < k → okLink b b.inner[i].link = true) ?_ ?_)
                  · exact ⟨by simp [h3], by simp, rfl, rfl, fun i hi h => by omega⟩
                  · clear h0 h3
                    rintro k ρ H3 n3 hk3 ⟨h3, h7, rfl, rfl, hall⟩ IH
                    refine Runs.seq ?_
                    refine Runs.seqE Ty_ok (by decide) fun k' hk' => ?_
                    simp [h3, h7, hm3']   -- R16
                    refine hk' _ _ _ ?_
                    refine Runs.ite rfl (fun hc6 => ?_) (fun hc6 => ?_)   -- t86
                    · have hc6 : k < b.inner.length := by simpa using hc6
                      refine Runs.skip ?_
                      refine Runs.seq ?_
                      refine Runs.block ?_
                      refine Runs.seqD Ty_ok kindOp_ok draws (by decide) (by kernel_rfl) fun k' hk' => ?_
                      simp [h3, h7, hm3', hc6, Wire.cells]   -- R18
                      refine RunDK.callA Ty_ok kindOp_ok (l2Link_ok b b.inner[k].link hed s5) e89 (.cons (ArgOk.encB false b) (.cons (.v _ _ _) .nil)) (by decide) rfl (by simp [encB, Big.cells, encN, encI, encS, encW, Wire.cells]) ?_
                      simp
                      refine hk' _ _ _ ?_
                      refine Runs.ite rfl (fun hc7 => ?_) (fun hc7 => ?_)   -- t97
                      · have hb3 : okLink b b.inner[k].link = false := by simpa using hc7
                        refine Runs.seqE Ty_ok (by decide) fun k' hk' => ?_
                        simp   -- R19
                        refine hk' _ _ _ ?_
                        exact Runs.ret Tryd.func60 (RetOk.one Tryd.results60) (no (by rw [goodB_eq, all_bad (l := b.inner) (p := fun w => okLink b w.link) hc6 hb3, Bool.and_false]) _ _)
                      · have hb3 : okLink b b.inner[k].link = true := by simpa using hc7
                        refine Runs.skip ?_
                        refine Runs.inBlock ?_
                        refine Runs.evalE Ty_ok (by decide) fun k' hk' => ?_
                        simp [h7, wrap_succ (show k < 4611686018427387904 by omega)]   -- R17
                        refine hk' _ _ _ ?_
                        refine IH hc6 _ _ _ ⟨by simp [h3], by simp, rfl, rfl, fun i hi hij => ?_⟩
                        rcases Nat.lt_or_ge i k with h | h
                        · exact hall i hi h
                        · have : i = k := by omega
                          subst this
                          exact hb3
                    · have hc6 : ¬ k < b.inner.length := by simpa using hc6
                      have hke : k = b.inner.length := by omega
                      subst hke
                      have hinner := all_end (l := b.inner) (p := fun w => okLink b w.link) fun i hi => hall i hi hi
                      refine Runs.exit rfl ?_
                      refine Runs.seqE Ty_ok (by decide) fun k' hk' => ?_
                      simp   -- R20
                      refine hk' _ _ _ ?_
                      exact Runs.ret Tryd.func60 (RetOk.one Tryd.results60) (hQ _ _ _ _ (.v _ _ _) (by rw [goodB_eq, hpre, hnodes, hsites, hinner]; rfl))
      simp [h3, hm3']   -- R3
      refine RunK.callA Ty_ok (l2Names_ok b.outer s5 s7) e85 (.cons (ArgOk.encS false b.outer) .nil) (by decide) (by decide) rfl (by simp [encS]) ?_
      rintro _ rfl
      cases p6 : goodNames b.outer
      · simp [guardOf]
        exact fin2 _ (by simp [h0]) (by simp [h3]) (by simp only [pre2, p6]; simp)
      by_cases p7 : (16 : Int) < b.inner.length
      · simp [h3, hm3', p7, guardOf]
        refine fin2 _ (by simp [h0]) (by simp [h3]) ?_
        have : goodNames (names b) = false := by
          rw [goodNames_eq, show decide ((names b).length ≤ 16) = false by simp [names]; omega, Bool.false_and]
        simp only [pre2, this]
        simp
      simp [h3, hm3', p7, guardOf]
      refine RunK.callA Ty_ok (l2Inner_ok b s6) e86 (.cons (ArgOk.encB false b) .nil) (by decide) (by decide) rfl (by simp [encB, Big.cells, encN, encI, encS, encW]) ?_
      rintro _ rfl
      simp
      refine RunK.callA Ty_ok (l2Names_ok (names b) hnl hnn) e85 (.cons (ArgOk.encS true (names b)) .nil) (by decide) (by decide) rfl (by simp [encS]) ?_
      rintro _ rfl
      simp
      exact fin2 _ (by simp [h0]) (by simp [h3]) (by simp only [pre2, p6]; simp)
  simp [h0]   -- R1
  refine RunK.callA Ty_ok (l2Sig_ok sig s1 s2) e84 (.cons (ArgOk.encSig false sig) .nil) (by decide) (by decide) rfl (by simp [encSig, h0]) ?_
  rintro _ rfl
  cases p1 : goodSig sig
  · simp [guardOf]
    exact fin _ (by simp [h0]) (by simp [h3]) (by simp only [pre1, p1]; simp)
  simp [h3, hm3', guardOf]
  refine RunK.callA Ty_ok (l1In_ok b.roots 0 4) e70 (.cons (.v _ _ _) (.cons (.v _ _ _) (.cons (.v _ _ _) .nil))) (by decide) (by decide) rfl (by simp) ?_
  rintro _ rfl
  cases p2 : within b.roots 0 4
  · simp [guardOf]
    exact fin _ (by simp [h0]) (by simp [h3]) (by simp only [pre1, p2]; simp)
  by_cases p3 : (8 : Int) < b.nodes.length
  · simp [h3, hm3', p3, guardOf]
    exact fin _ (by simp [h0]) (by simp [h3]) (by simp only [pre1, show ¬ b.nodes.length ≤ 8 by omega]; simp)
  by_cases p4 : (4 : Int) < b.sites.length
  · simp [h3, hm3', p3, p4, guardOf]
    exact fin _ (by simp [h0]) (by simp [h3]) (by simp only [pre1, show ¬ b.sites.length ≤ 4 by omega]; simp)
  simp [h3, hm3', p3, p4, guardOf]
  refine RunK.callA Ty_ok (l1In_ok b.edges 0 8) e70 (.cons (.v _ _ _) (.cons (.v _ _ _) (.cons (.v _ _ _) .nil))) (by decide) (by decide) rfl (by simp) ?_
  rintro _ rfl
  simp
  exact fin _ (by simp [h0]) (by simp [h3]) (by simp only [pre1, p1, p2, show b.nodes.length ≤ 8 by omega, show b.sites.length ≤ 4 by omega]; simp)
end Go.Ab

/- Contracts of impl.ancestorsOf, spec.l2Above, slices.Index, slices.Contains and spec.l1Has. -/
namespace Go.Ab
open Go.Proofs
set_option linter.unusedSimpArgs false
def parentB (b : Big) (i : Nat) : Int := (b.nodes.getD i default).parent
def aboveF (b : Big) : Nat → Int → List Int
  | 0, _ => []
  | d + 1, node => if node < 0 then [] else parentB b node.toNat :: aboveF b d (parentB b node.toNat)
def above (b : Big) (node : Int) : List Int := aboveF b (b.nodes.length + 1) node
/-- Parents come first. -/
def Down (b : Big) : Prop := b.nodes.length ≤ 8 ∧ ∀ i, i < b.nodes.length → parentB b i < i

theorem goodB_down {sig : Sig} {b : Big} (h : goodB sig b = true) : Down b := by
  rw [goodB_eq] at h
  simp only [goodPre, Bool.and_eq_true, List.all_eq_true, List.mem_range, decide_eq_true_eq] at h
  obtain ⟨⟨⟨hp, hn⟩, _⟩, _⟩ := h
  refine ⟨by have := hp.1.1.1.1.2; exact this, fun i hi => ?_⟩
  have := hn i hi
  simp only [okNodeB, okParent, Bool.and_eq_true] at this
  have h2 := this.1.1.2
  unfold parentB
  split at h2
  · omega
  · simp only [Bool.and_eq_true, decide_eq_true_eq] at h2
    exact h2.1

theorem aboveF_len (b : Big) : ∀ d node, (aboveF b d node).length ≤ d
  | 0, _ => by simp [aboveF]
  | d + 1, node => by
    rw [aboveF]
    split
    · simp
    · have := aboveF_len b d (parentB b node.toNat)
      simp
      omega

end Go.Ab

/- Contracts of impl.CommonPlace and spec.CommonPlace. -/
namespace Go.Ab
open Go.Proofs
set_option linter.unusedSimpArgs false
def meets (b : Big) (y : Int) (p : Int) : Bool := (above b y).any fun q => p == q
def common (b : Big) (x y : Int) : Int × Bool := match (above b x).find? (meets b y) with
  | some p => (p, true)
  | none => (0, false)
def commonPlace (sig : Sig) (b : Big) (x y : Int) : Int × Bool := if goodB sig b && isNodeB b x && isNodeB b y then common b x y else (0, false)

theorem find_at {α : Type} {p : α → Bool} : ∀ {l : List α} {k : Nat} (hk : k < l.length), p l[k] = true → (∀ i (h : i < l.length), i < k → p l[i] = false) → l.find? p = some l[k]
  | [], _, hk, _, _ => by simp at hk
  | a :: l, 0, _, h, _ => by
    have h : p a = true := h
    simp [List.find?_cons, h]
  | a :: l, k + 1, hk, h, hno => by
    have h0 : p a = false := hno 0 (by simp) (by omega)
    have := find_at (l := l) (k := k) (by simpa using hk) (by simpa using h) fun i hi hik => hno (i + 1) (by simp; omega) (by omega)
    simp [List.find?_cons, h0, this]
theorem find_no {α : Type} {p : α → Bool} {l : List α} (hno : ∀ i (h : i < l.length), p l[i] = false) : l.find? p = none := by
  rw [List.find?_eq_none]
  intro x hx
  obtain ⟨i, hi, rfl⟩ := List.getElem_of_mem hx
  simp [hno i hi]

theorem above_len (b : Big) (x : Int) (h : b.nodes.length ≤ 8) : (above b x).length ≤ 1048576 := by
  have := aboveF_len b (b.nodes.length + 1) x
  unfold above
  omega

end Go.Ab

/- Contracts of the laws' eq.. functions of bigraphs. By program. -/
namespace Go.Ab
open Go.Proofs
set_option linter.unusedSimpArgs false
theorem ArgOk.nodeB {H : Heap} {n : Nat} (t : Bool) (x : GNode) : ArgOk H n (.agg (x.cells t)) (.agg (x.cells false)) := ArgOk.imm' (.agg _ (imm_node t x)) (by rw [old_agg, old_node])
theorem ArgOk.wireB {H : Heap} {n : Nat} (x : Wire) : ArgOk H n (.agg x.cells) (.agg x.cells) := ArgOk.aggF (by simp [Wire.cells])
theorem ArgOk.ctlB {H : Heap} {n : Nat} (x : Control) : ArgOk H n (.agg x.cells) (.agg x.cells) := ArgOk.aggF (by simp [Control.cells])

theorem e37 : Ent Tryd.prog 37 := Ent.of Tryd.func37 (by kernel_rfl) rfl
theorem eqIntS_ok (p q : List (Int)) (hp : p.length ≤ 1048576) : PureC Tryd.prog 37 [.list false (p.map intC), .list false (q.map intC)] (fun r => r = bool (decide (p = q))) := by
  refine PureC.of Tryd.func37 rfl Tryd.ntmps37 (by simp) fun Q hQ => ?_
  refine Runs.seqE Ty_ok (by decide) fun k' hk' => ?_
  simp   -- R0
  refine hk' _ _ _ ?_
  refine Runs.seq ?_
  refine Runs.seqE Ty_ok (by decide) fun k' hk' => ?_
  simp   -- R1
  refine hk' _ _ _ ?_
  refine Runs.ite rfl (fun hc1 => ?_) (fun hc1 => ?_)
  · simp at hc1
    refine Runs.seqE Ty_ok (by decide) fun k' hk' => ?_
    simp   -- R2
    refine hk' _ _ _ ?_
    refine Runs.ret Tryd.func37 (RetOk.one Tryd.results37) (hQ _ _ _ _ (.v _ _ _) ?_)
    have : p ≠ q := by intro h; subst h; omega
    simp [this]
  · simp at hc1
    have hlen : p.length = q.length := by omega
    refine Runs.skip ?_
    refine Runs.seq ?_
    refine Runs.seqE Ty_ok (by decide) fun k' hk' => ?_
    simp   -- R3
    refine hk' _ _ _ ?_
    refine Runs.block (Runs.loopUp p.length (fun k ρ H n => ρ 0 = .list false (p.map intC) ∧ ρ 1 = .list false (q.map intC) ∧ ρ 5 = int k ∧ p.take k = q.take k) ?_ ?_)
    · simp
    · rintro k ρ H n hk ⟨h0, h1, h5, heq⟩ IH
      refine Runs.seq ?_
      refine Runs.seqE Ty_ok (by decide) fun k' hk' => ?_
      simp [h0, h5]   -- R4
      refine hk' _ _ _ ?_
      refine Runs.ite rfl (fun hc2 => ?_) (fun hc2 => ?_)
      · simp at hc2
        have hq2 : k < q.length := by omega
        refine Runs.skip ?_
        refine Runs.seq ?_
        refine Runs.block ?_
        refine Runs.seqD Ty_ok kindOp_ok draws (by decide) (by kernel_rfl) fun k' hk' => ?_
        simp [h0, h1, h5, hc2, hq2, intC]   -- R6
        refine hk' _ _ _ ?_
        refine Runs.ite rfl (fun hc3 => ?_) (fun hc3 => ?_)
        · simp at hc3
          refine Runs.seqE Ty_ok (by decide) fun k' hk' => ?_
          simp   -- R7
          refine hk' _ _ _ ?_
          refine Runs.ret Tryd.func37 (RetOk.one Tryd.results37) (hQ _ _ _ _ (.v _ _ _) ?_)
          have : p ≠ q := by intro h; subst h; exact hc3 rfl
          simp [this]
        · simp at hc3
          refine Runs.skip ?_
          refine Runs.inBlock ?_
          refine Runs.evalE Ty_ok (by decide) fun k' hk' => ?_
          simp [h5, wrap_succ (show k < 4611686018427387904 by omega)]   -- R5
          refine hk' _ _ _ ?_
          refine IH hc2 _ _ _ ?_
          refine ⟨by simp [h0, intC], by simp [h1, intC], by simp, ?_⟩
          rw [List.take_succ_eq_append_getElem hc2, List.take_succ_eq_append_getElem hq2, heq, hc3]
      · simp at hc2
        refine Runs.exit rfl ?_
        refine Runs.seqE Ty_ok (by decide) fun k' hk' => ?_
        simp   -- R8
        refine hk' _ _ _ ?_
        refine Runs.ret Tryd.func37 (RetOk.one Tryd.results37) (hQ _ _ _ _ (.v _ _ _) ?_)
        rw [List.take_of_length_le hc2, List.take_of_length_le (by omega)] at heq
        simp [heq]

theorem e38 : Ent Tryd.prog 38 := Ent.of Tryd.func38 (by kernel_rfl) rfl
theorem eqStringS_ok (p q : List (Str)) (hp : p.length ≤ 1048576) : PureC Tryd.prog 38 [.list false (p.map strC), .list false (q.map strC)] (fun r => r = bool (decide (p = q))) := by
  refine PureC.of Tryd.func38 rfl Tryd.ntmps38 (by simp) fun Q hQ => ?_
  refine Runs.seqE Ty_ok (by decide) fun k' hk' => ?_
  simp   -- R0
  refine hk' _ _ _ ?_
  refine Runs.seq ?_
  refine Runs.seqE Ty_ok (by decide) fun k' hk' => ?_
  simp   -- R1
  refine hk' _ _ _ ?_
  refine Runs.ite rfl (fun hc1 => ?_) (fun hc1 => ?_)
  · simp at hc1
    refine Runs.seqE Ty_ok (by decide) fun k' hk' => ?_
    simp   -- R2
    refine hk' _ _ _ ?_
    refine Runs.ret Tryd.func38 (RetOk.one Tryd.results38) (hQ _ _ _ _ (.v _ _ _) ?_)
    have : p ≠ q := by intro h; subst h; omega
    simp [this]
  · simp at hc1
    have hlen : p.length = q.length := by omega
    refine Runs.skip ?_
    refine Runs.seq ?_
    refine Runs.seqE Ty_ok (by decide) fun k' hk' => ?_
    simp   -- R3
    refine hk' _ _ _ ?_
    refine Runs.block (Runs.loopUp p.length (fun k ρ H n => ρ 0 = .list false (p.map strC) ∧ ρ 1 = .list false (q.map strC) ∧ ρ 5 = int k ∧ p.take k = q.take k) ?_ ?_)
    · simp
    · rintro k ρ H n hk ⟨h0, h1, h5, heq⟩ IH
      refine Runs.seq ?_
      refine Runs.seqE Ty_ok (by decide) fun k' hk' => ?_
      simp [h0, h5]   -- R4
      refine hk' _ _ _ ?_
      refine Runs.ite rfl (fun hc2 => ?_) (fun hc2 => ?_)
      · simp at hc2
        have hq2 : k < q.length := by omega
        refine Runs.skip ?_
        refine Runs.seq ?_
        refine Runs.block ?_
        refine Runs.seqD Ty_ok kindOp_ok draws (by decide) (by kernel_rfl) fun k' hk' => ?_
        simp [h0, h1, h5, hc2, hq2, strC]   -- R6
        refine hk' _ _ _ ?_
        refine Runs.ite rfl (fun hc3 => ?_) (fun hc3 => ?_)
        · simp at hc3
          refine Runs.seqE Ty_ok (by decide) fun k' hk' => ?_
          simp   -- R7
          refine hk' _ _ _ ?_
          refine Runs.ret Tryd.func38 (RetOk.one Tryd.results38) (hQ _ _ _ _ (.v _ _ _) ?_)
          have : p ≠ q := by intro h; subst h; exact hc3 rfl
          simp [this]
        · simp at hc3
          refine Runs.skip ?_
          refine Runs.inBlock ?_
          refine Runs.evalE Ty_ok (by decide) fun k' hk' => ?_
          simp [h5, wrap_succ (show k < 4611686018427387904 by omega)]   -- R5
          refine hk' _ _ _ ?_
          refine IH hc2 _ _ _ ?_
          refine ⟨by simp [h0, strC], by simp [h1, strC], by simp, ?_⟩
          rw [List.take_succ_eq_append_getElem hc2, List.take_succ_eq_append_getElem hq2, heq, hc3]
      · simp at hc2
        refine Runs.exit rfl ?_
        refine Runs.seqE Ty_ok (by decide) fun k' hk' => ?_
        simp   -- R8
        refine hk' _ _ _ ?_
        refine Runs.ret Tryd.func38 (RetOk.one Tryd.results38) (hQ _ _ _ _ (.v _ _ _) ?_)
        rw [List.take_of_length_le hc2, List.take_of_length_le (by omega)] at heq
        simp [heq]

theorem e67 : Ent Tryd.prog 67 := Ent.of Tryd.func67 (by kernel_rfl) rfl
theorem eqWire_ok (x y : Wire) : PureC Tryd.prog 67 [.agg (Wire.cells x), .agg (Wire.cells y)] (fun r => r = bool (decide (x = y))) := by
  obtain ⟨x0, x1⟩ := x
  obtain ⟨y0, y1⟩ := y
  refine PureC.of Tryd.func67 rfl Tryd.ntmps67 (by simp) fun Q hQ => ?_
  refine Runs.seqE Ty_ok (by decide) fun k' hk' => ?_
  simp [Wire.cells, encN, encI, encS, encW]   -- R0
  refine hk' _ _ _ ?_
  refine Runs.seq ?_
  refine Runs.seqE Ty_ok (by decide) fun k' hk' => ?_
  simp
  refine hk' _ _ _ ?_
  refine Runs.ite rfl (fun hc => ?_) (fun hd0 => ?_)
  · simp at hc
    refine Runs.seqE Ty_ok (by decide) fun k' hk' => ?_
    simp
    refine hk' _ _ _ ?_
    exact Runs.ret Tryd.func67 (RetOk.one Tryd.results67) (hQ _ _ _ _ (.v _ _ _) (by simp [hc]))
  simp at hd0
  refine Runs.skip ?_
  refine Runs.seq ?_
  refine Runs.seqE Ty_ok (by decide) fun k' hk' => ?_
  simp
  refine hk' _ _ _ ?_
  refine Runs.ite rfl (fun hc => ?_) (fun hd1 => ?_)
  · simp at hc
    refine Runs.seqE Ty_ok (by decide) fun k' hk' => ?_
    simp
    refine hk' _ _ _ ?_
    exact Runs.ret Tryd.func67 (RetOk.one Tryd.results67) (hQ _ _ _ _ (.v _ _ _) (by simp [hc]))
  simp at hd1
  refine Runs.skip ?_
  refine Runs.seqE Ty_ok (by decide) fun k' hk' => ?_
  simp
  refine hk' _ _ _ ?_
  exact Runs.ret Tryd.func67 (RetOk.one Tryd.results67) (hQ _ _ _ _ (.v _ _ _) (by simp [hd0, hd1]))

theorem e39 : Ent Tryd.prog 39 := Ent.of Tryd.func39 (by kernel_rfl) rfl
theorem eqWireS_ok (p q : List (Wire)) (hp : p.length ≤ 1048576) : PureC Tryd.prog 39 [.list false (p.map Wire.cells), .list false (q.map Wire.cells)] (fun r => r = bool (decide (p = q))) := by
  refine PureC.of Tryd.func39 rfl Tryd.ntmps39 (by simp) fun Q hQ => ?_
  refine Runs.seqE Ty_ok (by decide) fun k' hk' => ?_
  simp   -- R0
  refine hk' _ _ _ ?_
  refine Runs.seq ?_
  refine Runs.seqE Ty_ok (by decide) fun k' hk' => ?_
  simp   -- R1
  refine hk' _ _ _ ?_
  refine Runs.ite rfl (fun hc1 => ?_) (fun hc1 => ?_)
  · simp at hc1
    refine Runs.seqE Ty_ok (by decide) fun k' hk' => ?_
    simp   -- R2
    refine hk' _ _ _ ?_
    refine Runs.ret Tryd.func39 (RetOk.one Tryd.results39) (hQ _ _ _ _ (.v _ _ _) ?_)
    have : p ≠ q := by intro h; subst h; omega
    simp [this]
  · simp at hc1
    have hlen : p.length = q.length := by omega
    refine Runs.skip ?_
    refine Runs.seq ?_
    refine Runs.seqE Ty_ok (by decide) fun k' hk' => ?_
    simp   -- R3
    refine hk' _ _ _ ?_
    refine Runs.block (Runs.loopUp p.length (fun k ρ H n => ρ 0 = .list false (p.map Wire.cells) ∧ ρ 1 = .list false (q.map Wire.cells) ∧ ρ 5 = int k ∧ p.take k = q.take k) ?_ ?_)
    · simp
    · rintro k ρ H n hk ⟨h0, h1, h5, heq⟩ IH
      refine Runs.seq ?_
      refine Runs.seqE Ty_ok (by decide) fun k' hk' => ?_
      simp [h0, h5]   -- R4
      refine hk' _ _ _ ?_
      refine Runs.ite rfl (fun hc2 => ?_) (fun hc2 => ?_)
      · simp at hc2
        have hq2 : k < q.length := by omega
        refine Runs.skip ?_
        refine Runs.seq ?_
        refine Runs.block ?_
        refine Runs.seqD Ty_ok kindOp_ok draws (by decide) (by kernel_rfl) fun k' hk' => ?_
        simp [h0, h1, h5, hc2, hq2, Wire.cells]   -- R6
        refine RunDK.callA Ty_ok kindOp_ok (eqWire_ok p[k] q[k]) e67 (.cons (ArgOk.wireB p[k]) (.cons (ArgOk.wireB q[k]) .nil)) (by decide) rfl (by simp [Wire.cells]) ?_
        simp
        refine hk' _ _ _ ?_
        refine Runs.ite rfl (fun hc3 => ?_) (fun hc3 => ?_)
        · simp at hc3
          refine Runs.seqE Ty_ok (by decide) fun k' hk' => ?_
          simp   -- R7
          refine hk' _ _ _ ?_
          refine Runs.ret Tryd.func39 (RetOk.one Tryd.results39) (hQ _ _ _ _ (.v _ _ _) ?_)
          have : p ≠ q := by intro h; subst h; exact hc3 rfl
          simp [this]
        · simp at hc3
          refine Runs.skip ?_
          refine Runs.inBlock ?_
          refine Runs.evalE Ty_ok (by decide) fun k' hk' => ?_
          simp [h5, wrap_succ (show k < 4611686018427387904 by omega)]   -- R5
          refine hk' _ _ _ ?_
          refine IH hc2 _ _ _ ?_
          refine ⟨by simp [h0, Wire.cells], by simp [h1, Wire.cells], by simp, ?_⟩
          rw [List.take_succ_eq_append_getElem hc2, List.take_succ_eq_append_getElem hq2, heq, hc3]
      · simp at hc2
        refine Runs.exit rfl ?_
        refine Runs.seqE Ty_ok (by decide) fun k' hk' => ?_
        simp   -- R8
        refine hk' _ _ _ ?_
        refine Runs.ret Tryd.func39 (RetOk.one Tryd.results39) (hQ _ _ _ _ (.v _ _ _) ?_)
        rw [List.take_of_length_le hc2, List.take_of_length_le (by omega)] at heq
        simp [heq]

theorem e66 : Ent Tryd.prog 66 := Ent.of Tryd.func66 (by kernel_rfl) rfl
theorem eqNode_ok (x y : GNode) (hl : x.links.length ≤ 1048576) : PureC Tryd.prog 66 [.agg (GNode.cells false x), .agg (GNode.cells false y)] (fun r => r = bool (decide (x = y))) := by
  obtain ⟨x0, x1, x2⟩ := x
  obtain ⟨y0, y1, y2⟩ := y
  refine PureC.of Tryd.func66 rfl Tryd.ntmps66 (by simp) fun Q hQ => ?_
  refine Runs.seqE Ty_ok (by decide) fun k' hk' => ?_
  simp [GNode.cells, encN, encI, encS, encW]   -- R0
  refine hk' _ _ _ ?_
  refine Runs.seq ?_
  refine Runs.seqE Ty_ok (by decide) fun k' hk' => ?_
  simp
  refine hk' _ _ _ ?_
  refine Runs.ite rfl (fun hc => ?_) (fun hd0 => ?_)
  · simp at hc
    refine Runs.seqE Ty_ok (by decide) fun k' hk' => ?_
    simp
    refine hk' _ _ _ ?_
    exact Runs.ret Tryd.func66 (RetOk.one Tryd.results66) (hQ _ _ _ _ (.v _ _ _) (by simp [hc]))
  simp at hd0
  refine Runs.skip ?_
  refine Runs.seq ?_
  refine Runs.seqE Ty_ok (by decide) fun k' hk' => ?_
  simp
  refine hk' _ _ _ ?_
  refine Runs.ite rfl (fun hc => ?_) (fun hd1 => ?_)
  · simp at hc
    refine Runs.seqE Ty_ok (by decide) fun k' hk' => ?_
    simp
    refine hk' _ _ _ ?_
    exact Runs.ret Tryd.func66 (RetOk.one Tryd.results66) (hQ _ _ _ _ (.v _ _ _) (by simp [hc]))
  simp at hd1
  refine Runs.skip ?_
  refine Runs.seq ?_
  refine Runs.seqE Ty_ok (by decide) fun k' hk' => ?_
  simp
  refine RunK.callA Ty_ok (eqIntS_ok x2 y2 hl) e37 (.cons (ArgOk.encI false x2) (.cons (ArgOk.encI false y2) .nil)) (by decide) (by decide) rfl (by simp [encN, encI, encS, encW]) ?_
  rintro _ rfl
  simp
  refine hk' _ _ _ ?_
  refine Runs.ite rfl (fun hc => ?_) (fun hd2 => ?_)
  · simp at hc
    refine Runs.seqE Ty_ok (by decide) fun k' hk' => ?_
    simp
    refine hk' _ _ _ ?_
    exact Runs.ret Tryd.func66 (RetOk.one Tryd.results66) (hQ _ _ _ _ (.v _ _ _) (by simp [hc]))
  simp at hd2
  refine Runs.skip ?_
  refine Runs.seqE Ty_ok (by decide) fun k' hk' => ?_
  simp
  refine hk' _ _ _ ?_
  exact Runs.ret Tryd.func66 (RetOk.one Tryd.results66) (hQ _ _ _ _ (.v _ _ _) (by simp [hd0, hd1, hd2]))

theorem e36 : Ent Tryd.prog 36 := Ent.of Tryd.func36 (by kernel_rfl) rfl
theorem eqNodeS_ok (p q : List (GNode)) (hp : p.length ≤ 1048576) (hl : ∀ x ∈ p, x.links.length ≤ 1048576) : PureC Tryd.prog 36 [.list false (p.map (GNode.cells false)), .list false (q.map (GNode.cells false))] (fun r => r = bool (decide (p = q))) := by
  refine PureC.of Tryd.func36 rfl Tryd.ntmps36 (by simp) fun Q hQ => ?_
  refine Runs.seqE Ty_ok (by decide) fun k' hk' => ?_
  simp   -- R0
  refine hk' _ _ _ ?_
  refine Runs.seq ?_
  refine Runs.seqE Ty_ok (by decide) fun k' hk' => ?_
  simp   -- R1
  refine hk' _ _ _ ?_
  refine Runs.ite rfl (fun hc1 => ?_) (fun hc1 => ?_)
  · simp at hc1
    refine Runs.seqE Ty_ok (by decide) fun k' hk' => ?_
    simp   -- R2
    refine hk' _ _ _ ?_
    refine Runs.ret Tryd.func36 (RetOk.one Tryd.results36) (hQ _ _ _ _ (.v _ _ _) ?_)
    have : p ≠ q := by intro h; subst h; omega
    simp [this]
  · simp at hc1
    have hlen : p.length = q.length := by omega
    refine Runs.skip ?_
    refine Runs.seq ?_
    refine Runs.seqE Ty_ok (by decide) fun k' hk' => ?_
    simp   -- R3
    refine hk' _ _ _ ?_
    refine Runs.block (Runs.loopUp p.length (fun k ρ H n => ρ 0 = .list false (p.map (GNode.cells false)) ∧ ρ 1 = .list false (q.map (GNode.cells false)) ∧ ρ 5 = int k ∧ p.take k = q.take k) ?_ ?_)
    · simp
    · rintro k ρ H n hk ⟨h0, h1, h5, heq⟩ IH
      refine Runs.seq ?_
      refine Runs.seqE Ty_ok (by decide) fun k' hk' => ?_
      simp [h0, h5]   -- R4
      refine hk' _ _ _ ?_
      refine Runs.ite rfl (fun hc2 => ?_) (fun hc2 => ?_)
      · simp at hc2
        have hq2 : k < q.length := by omega
        refine Runs.skip ?_
        refine Runs.seq ?_
        refine Runs.block ?_
        refine Runs.seqD Ty_ok kindOp_ok draws (by decide) (by kernel_rfl) fun k' hk' => ?_
        simp [h0, h1, h5, hc2, hq2, GNode.cells]   -- R6
        refine RunDK.callA Ty_ok kindOp_ok (eqNode_ok p[k] q[k] (hl _ (List.getElem_mem hc2))) e66 (.cons (ArgOk.nodeB false p[k]) (.cons (ArgOk.nodeB false q[k]) .nil)) (by decide) rfl (by simp [GNode.cells]) ?_
        simp
        refine hk' _ _ _ ?_
        refine Runs.ite rfl (fun hc3 => ?_) (fun hc3 => ?_)
        · simp at hc3
          refine Runs.seqE Ty_ok (by decide) fun k' hk' => ?_
          simp   -- R7
          refine hk' _ _ _ ?_
          refine Runs.ret Tryd.func36 (RetOk.one Tryd.results36) (hQ _ _ _ _ (.v _ _ _) ?_)
          have : p ≠ q := by intro h; subst h; exact hc3 rfl
          simp [this]
        · simp at hc3
          refine Runs.skip ?_
          refine Runs.inBlock ?_
          refine Runs.evalE Ty_ok (by decide) fun k' hk' => ?_
          simp [h5, wrap_succ (show k < 4611686018427387904 by omega)]   -- R5
          refine hk' _ _ _ ?_
          refine IH hc2 _ _ _ ?_
          refine ⟨by simp [h0, GNode.cells], by simp [h1, GNode.cells], by simp, ?_⟩
          rw [List.take_succ_eq_append_getElem hc2, List.take_succ_eq_append_getElem hq2, heq, hc3]
      · simp at hc2
        refine Runs.exit rfl ?_
        refine Runs.seqE Ty_ok (by decide) fun k' hk' => ?_
        simp   -- R8
        refine hk' _ _ _ ?_
        refine Runs.ret Tryd.func36 (RetOk.one Tryd.results36) (hQ _ _ _ _ (.v _ _ _) ?_)
        rw [List.take_of_length_le hc2, List.take_of_length_le (by omega)] at heq
        simp [heq]

theorem e11 : Ent Tryd.prog 11 := Ent.of Tryd.func11 (by kernel_rfl) rfl
theorem eqBigraph_ok (x y : Big) (hb : x.nodes.length ≤ 1048576 ∧ (∀ z ∈ x.nodes, z.links.length ≤ 1048576) ∧ x.sites.length ≤ 1048576 ∧ x.outer.length ≤ 1048576 ∧ x.inner.length ≤ 1048576) : PureC Tryd.prog 11 [.agg (Big.cells false x), .agg (Big.cells false y)] (fun r => r = bool (decide (x = y))) := by
  obtain ⟨x0, x1, x2, x3, x4, x5⟩ := x
  obtain ⟨y0, y1, y2, y3, y4, y5⟩ := y
  refine PureC.of Tryd.func11 rfl Tryd.ntmps11 (by simp) fun Q hQ => ?_
  refine Runs.seqE Ty_ok (by decide) fun k' hk' => ?_
  simp [Big.cells, encN, encI, encS, encW]   -- R0
  refine hk' _ _ _ ?_
  refine Runs.seq ?_
  refine Runs.seqE Ty_ok (by decide) fun k' hk' => ?_
  simp
  refine hk' _ _ _ ?_
  refine Runs.ite rfl (fun hc => ?_) (fun hd0 => ?_)
  · simp at hc
    refine Runs.seqE Ty_ok (by decide) fun k' hk' => ?_
    simp
    refine hk' _ _ _ ?_
    exact Runs.ret Tryd.func11 (RetOk.one Tryd.results11) (hQ _ _ _ _ (.v _ _ _) (by simp [hc]))
  simp at hd0
  refine Runs.skip ?_
  refine Runs.seq ?_
  refine Runs.seqE Ty_ok (by decide) fun k' hk' => ?_
  simp
  refine RunK.callA Ty_ok (eqNodeS_ok x1 y1 hb.1 hb.2.1) e36 (.cons (ArgOk.encN false x1) (.cons (ArgOk.encN false y1) .nil)) (by decide) (by decide) rfl (by simp [encN, encI, encS, encW]) ?_
  rintro _ rfl
  simp
  refine hk' _ _ _ ?_
  refine Runs.ite rfl (fun hc => ?_) (fun hd1 => ?_)
  · simp at hc
    refine Runs.seqE Ty_ok (by decide) fun k' hk' => ?_
    simp
    refine hk' _ _ _ ?_
    exact Runs.ret Tryd.func11 (RetOk.one Tryd.results11) (hQ _ _ _ _ (.v _ _ _) (by simp [hc]))
  simp at hd1
  refine Runs.skip ?_
  refine Runs.seq ?_
  refine Runs.seqE Ty_ok (by decide) fun k' hk' => ?_
  simp
  refine RunK.callA Ty_ok (eqIntS_ok x2 y2 hb.2.2.1) e37 (.cons (ArgOk.encI false x2) (.cons (ArgOk.encI false y2) .nil)) (by decide) (by decide) rfl (by simp [encN, encI, encS, encW]) ?_
  rintro _ rfl
  simp
  refine hk' _ _ _ ?_
  refine Runs.ite rfl (fun hc => ?_) (fun hd2 => ?_)
  · simp at hc
    refine Runs.seqE Ty_ok (by decide) fun k' hk' => ?_
    simp
    refine hk' _ _ _ ?_
    exact Runs.ret Tryd.func11 (RetOk.one Tryd.results11) (hQ _ _ _ _ (.v _ _ _) (by simp [hc]))
  simp at hd2
  refine Runs.skip ?_
  refine Runs.seq ?_
  refine Runs.seqE Ty_ok (by decide) fun k' hk' => ?_
  simp
  refine hk' _ _ _ ?_
  refine Runs.ite rfl (fun hc => ?_) (fun hd3 => ?_)
  · simp at hc
    refine Runs.seqE Ty_ok (by decide) fun k' hk' => ?_
    simp
    refine hk' _ _ _ ?_
    exact Runs.ret Tryd.func11 (RetOk.one Tryd.results11) (hQ _ _ _ _ (.v _ _ _) (by simp [hc]))
  simp at hd3
  refine Runs.skip ?_
  refine Runs.seq ?_
  refine Runs.seqE Ty_ok (by decide) fun k' hk' => ?_
  simp
  refine RunK.callA Ty_ok (eqStringS_ok x4 y4 hb.2.2.2.1) e38 (.cons (ArgOk.encS false x4) (.cons (ArgOk.encS false y4) .nil)) (by decide) (by decide) rfl (by simp [encN, encI, encS, encW]) ?_
  rintro _ rfl
  simp
  refine hk' _ _ _ ?_
  refine Runs.ite rfl (fun hc => ?_) (fun hd4 => ?_)
  · simp at hc
    refine Runs.seqE Ty_ok (by decide) fun k' hk' => ?_
    simp
    refine hk' _ _ _ ?_
    exact Runs.ret Tryd.func11 (RetOk.one Tryd.results11) (hQ _ _ _ _ (.v _ _ _) (by simp [hc]))
  simp at hd4
  refine Runs.skip ?_
  refine Runs.seq ?_
  refine Runs.seqE Ty_ok (by decide) fun k' hk' => ?_
  simp
  refine RunK.callA Ty_ok (eqWireS_ok x5 y5 hb.2.2.2.2) e39 (.cons (ArgOk.encW false x5) (.cons (ArgOk.encW false y5) .nil)) (by decide) (by decide) rfl (by simp [encN, encI, encS, encW]) ?_
  rintro _ rfl
  simp
  refine hk' _ _ _ ?_
  refine Runs.ite rfl (fun hc => ?_) (fun hd5 => ?_)
  · simp at hc
    refine Runs.seqE Ty_ok (by decide) fun k' hk' => ?_
    simp
    refine hk' _ _ _ ?_
    exact Runs.ret Tryd.func11 (RetOk.one Tryd.results11) (hQ _ _ _ _ (.v _ _ _) (by simp [hc]))
  simp at hd5
  refine Runs.skip ?_
  refine Runs.seqE Ty_ok (by decide) fun k' hk' => ?_
  simp
  refine hk' _ _ _ ?_
  exact Runs.ret Tryd.func11 (RetOk.one Tryd.results11) (hQ _ _ _ _ (.v _ _ _) (by simp [hd0, hd1, hd2, hd3, hd4, hd5]))

end Go.Ab

/- Contracts of the laws' to.. functions of bigraphs' slices. By program. -/
namespace Go.Ab
open Go.Proofs
set_option linter.unusedSimpArgs false
theorem e30 : Ent Tryd.prog 30 := Ent.of Tryd.func30 (by kernel_rfl) rfl
theorem toIntS_ok (p : List (Int)) (hp : p.length ≤ 1048576) : PureC Tryd.prog 30 [.list false (p.map intC)] (fun r => r = .list true (p.map intC)) := by
  refine PureC.of Tryd.func30 rfl Tryd.ntmps30 (by simp) fun Q hQ => ?_
  refine Runs.seqE Ty_ok (by decide) fun k' hk' => ?_
  simp   -- R0
  refine hk' _ _ _ ?_
  refine Runs.seqE Ty_ok (by decide) fun k' hk' => ?_
  simp [show (p.length : Int) ≤ 1073741824 by omega]   -- R1
  refine hk' _ _ _ ?_
  refine Runs.seq ?_
  refine Runs.seqE Ty_ok (by decide) fun k' hk' => ?_
  simp   -- R2
  refine hk' _ _ _ ?_
  refine Runs.block (Runs.loopUp p.length (fun k ρ H n => ρ 0 = .list false (p.map intC) ∧ ρ 4 = int k ∧ ρ 3 = .arr (0, 7) p.length 0 p.length ∧ H (0, 7) = some ⟨1, part intC [int 0] p k⟩) ?_ ?_)
  · simp [intC, part_zero]
  · rintro k ρ H n hk ⟨h0, h4, h3, hH⟩ IH
    refine Runs.seq ?_
    refine Runs.seqE Ty_ok (by decide) fun k' hk' => ?_
    simp [h0, h4]   -- R3
    refine hk' _ _ _ ?_
    refine Runs.ite rfl (fun hc1 => ?_) (fun hc1 => ?_)
    · simp at hc1
      refine Runs.skip ?_
      refine Runs.seq ?_
      refine Runs.block ?_
      refine Runs.evalE Ty_ok (by decide) fun k' hk' => ?_
      simp [h0, h3, h4, hH, hc1, part_len hk, part_get hc1, intC]   -- R5
      refine hk' _ _ _ ?_
      refine Runs.inBlock ?_
      refine Runs.evalE Ty_ok (by decide) fun k' hk' => ?_
      simp [h4, wrap_succ (show k < 4611686018427387904 by omega)]   -- R4
      refine hk' _ _ _ ?_
      refine IH hc1 _ _ _ ?_
      rw [← part_set hc1]
      simp [h0, h3, intC, part_get' hc1]
    · simp at hc1
      have hke : k = p.length := by omega
      subst hke
      rw [part_end] at hH
      refine Runs.exit rfl ?_
      refine Runs.seqE Ty_ok (by decide) fun k' hk' => ?_
      simp [h3]   -- R6
      refine hk' _ _ _ ?_
      exact Runs.ret Tryd.func30 (RetOk.one Tryd.results30) (hQ _ _ _ _ (.of (Ret.arrF (by simp [hH]; rfl) (by simp [intC, intC]))) rfl)

theorem e31 : Ent Tryd.prog 31 := Ent.of Tryd.func31 (by kernel_rfl) rfl
theorem toStringS_ok (p : List (Str)) (hp : p.length ≤ 1048576) : PureC Tryd.prog 31 [.list false (p.map strC)] (fun r => r = .list true (p.map strC)) := by
  refine PureC.of Tryd.func31 rfl Tryd.ntmps31 (by simp) fun Q hQ => ?_
  refine Runs.seqE Ty_ok (by decide) fun k' hk' => ?_
  simp   -- R0
  refine hk' _ _ _ ?_
  refine Runs.seqE Ty_ok (by decide) fun k' hk' => ?_
  simp [show (p.length : Int) ≤ 1073741824 by omega]   -- R1
  refine hk' _ _ _ ?_
  refine Runs.seq ?_
  refine Runs.seqE Ty_ok (by decide) fun k' hk' => ?_
  simp   -- R2
  refine hk' _ _ _ ?_
  refine Runs.block (Runs.loopUp p.length (fun k ρ H n => ρ 0 = .list false (p.map strC) ∧ ρ 4 = int k ∧ ρ 3 = .arr (0, 7) p.length 0 p.length ∧ H (0, 7) = some ⟨1, part strC [str []] p k⟩) ?_ ?_)
  · simp [strC, part_zero]
  · rintro k ρ H n hk ⟨h0, h4, h3, hH⟩ IH
    refine Runs.seq ?_
    refine Runs.seqE Ty_ok (by decide) fun k' hk' => ?_
    simp [h0, h4]   -- R3
    refine hk' _ _ _ ?_
    refine Runs.ite rfl (fun hc1 => ?_) (fun hc1 => ?_)
    · simp at hc1
      refine Runs.skip ?_
      refine Runs.seq ?_
      refine Runs.block ?_
      refine Runs.evalE Ty_ok (by decide) fun k' hk' => ?_
      simp [h0, h3, h4, hH, hc1, part_len hk, part_get hc1, strC]   -- R5
      refine hk' _ _ _ ?_
      refine Runs.inBlock ?_
      refine Runs.evalE Ty_ok (by decide) fun k' hk' => ?_
      simp [h4, wrap_succ (show k < 4611686018427387904 by omega)]   -- R4
      refine hk' _ _ _ ?_
      refine IH hc1 _ _ _ ?_
      rw [← part_set hc1]
      simp [h0, h3, strC, part_get' hc1]
    · simp at hc1
      have hke : k = p.length := by omega
      subst hke
      rw [part_end] at hH
      refine Runs.exit rfl ?_
      refine Runs.seqE Ty_ok (by decide) fun k' hk' => ?_
      simp [h3]   -- R6
      refine hk' _ _ _ ?_
      exact Runs.ret Tryd.func31 (RetOk.one Tryd.results31) (hQ _ _ _ _ (.of (Ret.arrF (by simp [hH]; rfl) (by simp [strC, intC]))) rfl)

end Go.Ab

/- Contracts of the laws' to.. functions of bigraphs. By program. -/
namespace Go.Ab
open Go.Proofs
set_option linter.unusedSimpArgs false
theorem e62 : Ent Tryd.prog 62 := Ent.of Tryd.func62 (by kernel_rfl) rfl
theorem toWire_ok (x : Wire) : PureC Tryd.prog 62 [.agg (Wire.cells x)] (fun r => r = .agg (Wire.cells x)) := by
  refine PureC.of Tryd.func62 rfl Tryd.ntmps62 (by simp) fun Q hQ => ?_
  refine Runs.seqE Ty_ok (by decide) fun k' hk' => ?_
  simp [Wire.cells, encN, encI, encS, encW]   -- R0
  refine hk' _ _ _ ?_
  refine Runs.seqE Ty_ok (by decide) fun k' hk' => ?_
  simp   -- R1
  refine hk' _ _ _ ?_
  refine Runs.seqE Ty_ok (by decide) fun k' hk' => ?_
  simp   -- R2
  refine hk' _ _ _ ?_
  refine Runs.seqE Ty_ok (by decide) fun k' hk' => ?_
  simp   -- R3
  refine hk' _ _ _ ?_
  refine Runs.seqE Ty_ok (by decide) fun k' hk' => ?_
  simp   -- R4
  refine hk' _ _ _ ?_
  exact Runs.ret Tryd.func62 (RetOk.cell (cs := Wire.cells x) (v := .agg (Wire.cells x)) Ty_ok Tryd.results62 Ty_93 (by simp [Wire.cells, encN, encI, encS, encW]) (by simp [loadA, Wire.cells])) (hQ _ _ _ _ (.of (Ret.fresh (by simp [Wire.cells, encN, encI, encS, encW, GNode.cells, intC, strC, Wire.cells]))) rfl)

theorem e61 : Ent Tryd.prog 61 := Ent.of Tryd.func61 (by kernel_rfl) rfl
theorem toNode_ok (x : GNode) (hl : x.links.length ≤ 1048576) : PureC Tryd.prog 61 [.agg (GNode.cells false x)] (fun r => r = .agg (GNode.cells true x)) := by
  refine PureC.of Tryd.func61 rfl Tryd.ntmps61 (by simp) fun Q hQ => ?_
  refine Runs.seqE Ty_ok (by decide) fun k' hk' => ?_
  simp [GNode.cells, encN, encI, encS, encW]   -- R0
  refine hk' _ _ _ ?_
  refine Runs.seqE Ty_ok (by decide) fun k' hk' => ?_
  simp   -- R1
  refine hk' _ _ _ ?_
  refine Runs.seqE Ty_ok (by decide) fun k' hk' => ?_
  simp   -- R2
  refine hk' _ _ _ ?_
  refine Runs.seqE Ty_ok (by decide) fun k' hk' => ?_
  simp   -- R3
  refine hk' _ _ _ ?_
  refine Runs.seqE Ty_ok (by decide) fun k' hk' => ?_
  simp   -- R4
  refine RunK.callA Ty_ok (toIntS_ok x.links hl) e30 (.cons (ArgOk.encI false x.links) .nil) (by decide) (by decide) rfl (by simp [encN, encI, encS, encW]) ?_
  rintro _ rfl
  simp
  refine hk' _ _ _ ?_
  refine Runs.seqE Ty_ok (by decide) fun k' hk' => ?_
  simp   -- R5
  refine hk' _ _ _ ?_
  exact Runs.ret Tryd.func61 (RetOk.cell (cs := GNode.cells true x) (v := .agg (GNode.cells true x)) Ty_ok Tryd.results61 Ty_68 (by simp [GNode.cells, encN, encI, encS, encW]) (by simp [loadA, GNode.cells])) (hQ _ _ _ _ (.of (Ret.fresh (by simp [GNode.cells, encN, encI, encS, encW, GNode.cells, intC, strC, Wire.cells]))) rfl)

theorem e32 : Ent Tryd.prog 32 := Ent.of Tryd.func32 (by kernel_rfl) rfl
theorem toWireS_ok (p : List (Wire)) (hp : p.length ≤ 1048576) : PureC Tryd.prog 32 [.list false (p.map Wire.cells)] (fun r => r = .list true (p.map Wire.cells)) := by
  refine PureC.of Tryd.func32 rfl Tryd.ntmps32 (by simp) fun Q hQ => ?_
  refine Runs.seqE Ty_ok (by decide) fun k' hk' => ?_
  simp   -- R0
  refine hk' _ _ _ ?_
  refine Runs.seqE Ty_ok (by decide) fun k' hk' => ?_
  simp [show (p.length : Int) ≤ 1073741824 by omega]   -- R1
  refine hk' _ _ _ ?_
  refine Runs.seq ?_
  refine Runs.seqE Ty_ok (by decide) fun k' hk' => ?_
  simp   -- R2
  refine hk' _ _ _ ?_
  refine Runs.block (Runs.loopUp p.length (fun k ρ H n => ρ 0 = .list false (p.map Wire.cells) ∧ ρ 4 = int k ∧ ρ 3 = .arr (0, 7) p.length 0 p.length ∧ H (0, 7) = some ⟨2, part Wire.cells [str [], int 0] p k⟩) ?_ ?_)
  · simp [Wire.cells, part_zero]
  · rintro k ρ H n hk ⟨h0, h4, h3, hH⟩ IH
    refine Runs.seq ?_
    refine Runs.seqE Ty_ok (by decide) fun k' hk' => ?_
    simp [h0, h4]   -- R3
    refine hk' _ _ _ ?_
    refine Runs.ite rfl (fun hc1 => ?_) (fun hc1 => ?_)
    · simp at hc1
      refine Runs.skip ?_
      refine Runs.seq ?_
      refine Runs.block ?_
      refine Runs.evalE Ty_ok (by decide) fun k' hk' => ?_
      simp [h0, h3, h4, hH, hc1, part_len hk, part_get hc1, Wire.cells]   -- R5
      refine RunK.callA Ty_ok (toWire_ok p[k]) e62 (.cons (ArgOk.wireB _) .nil) (by decide) (by decide) rfl (by simp [Wire.cells]) ?_
      rintro _ rfl
      simp [h3, h4, hH, hc1, part_len hk, part_get hc1, Wire.cells]
      refine hk' _ _ _ ?_
      refine Runs.inBlock ?_
      refine Runs.evalE Ty_ok (by decide) fun k' hk' => ?_
      simp [h4, wrap_succ (show k < 4611686018427387904 by omega)]   -- R4
      refine hk' _ _ _ ?_
      refine IH hc1 _ _ _ ?_
      rw [← part_set hc1]
      simp [h0, h3, Wire.cells, part_get' hc1]
    · simp at hc1
      have hke : k = p.length := by omega
      subst hke
      rw [part_end] at hH
      refine Runs.exit rfl ?_
      refine Runs.seqE Ty_ok (by decide) fun k' hk' => ?_
      simp [h3]   -- R6
      refine hk' _ _ _ ?_
      exact Runs.ret Tryd.func32 (RetOk.one Tryd.results32) (hQ _ _ _ _ (.of (Ret.arrF (by simp [hH]; rfl) (by simp [Wire.cells, intC]))) rfl)

theorem e29 : Ent Tryd.prog 29 := Ent.of Tryd.func29 (by kernel_rfl) rfl
theorem toNodeS_ok (p : List (GNode)) (hp : p.length ≤ 1048576) (hl : ∀ x ∈ p, x.links.length ≤ 1048576) : PureC Tryd.prog 29 [.list false (p.map (GNode.cells false))] (fun r => r = .list true (p.map (GNode.cells true))) := by
  refine PureC.of Tryd.func29 rfl Tryd.ntmps29 (by simp) fun Q hQ => ?_
  refine Runs.seqE Ty_ok (by decide) fun k' hk' => ?_
  simp   -- R0
  refine hk' _ _ _ ?_
  refine Runs.seqE Ty_ok (by decide) fun k' hk' => ?_
  simp [show (p.length : Int) ≤ 1073741824 by omega]   -- R1
  refine hk' _ _ _ ?_
  refine Runs.seq ?_
  refine Runs.seqE Ty_ok (by decide) fun k' hk' => ?_
  simp   -- R2
  refine hk' _ _ _ ?_
  refine Runs.block (Runs.loopUp p.length (fun k ρ H n => ρ 0 = .list false (p.map (GNode.cells false)) ∧ ρ 4 = int k ∧ ρ 3 = .arr (0, 7) p.length 0 p.length ∧ H (0, 7) = some ⟨3, part (GNode.cells true) [int 0, int 0, .v (.slice none 0 0)] p k⟩) ?_ ?_)
  · simp [GNode.cells, part_zero]
  · rintro k ρ H n hk ⟨h0, h4, h3, hH⟩ IH
    refine Runs.seq ?_
    refine Runs.seqE Ty_ok (by decide) fun k' hk' => ?_
    simp [h0, h4]   -- R3
    refine hk' _ _ _ ?_
    refine Runs.ite rfl (fun hc1 => ?_) (fun hc1 => ?_)
    · simp at hc1
      refine Runs.skip ?_
      refine Runs.seq ?_
      refine Runs.block ?_
      refine Runs.evalE Ty_ok (by decide) fun k' hk' => ?_
      simp [h0, h3, h4, hH, hc1, part_len hk, part_get hc1, GNode.cells]   -- R5
      refine RunK.callA Ty_ok (toNode_ok p[k] (hl _ (List.getElem_mem hc1))) e61 (.cons (ArgOk.nodeB false _) .nil) (by decide) (by decide) rfl (by simp [GNode.cells]) ?_
      rintro _ rfl
      simp [h3, h4, hH, hc1, part_len hk, part_get hc1, GNode.cells]
      refine hk' _ _ _ ?_
      refine Runs.inBlock ?_
      refine Runs.evalE Ty_ok (by decide) fun k' hk' => ?_
      simp [h4, wrap_succ (show k < 4611686018427387904 by omega)]   -- R4
      refine hk' _ _ _ ?_
      refine IH hc1 _ _ _ ?_
      rw [← part_set hc1]
      simp [h0, h3, GNode.cells, part_get' hc1]
    · simp at hc1
      have hke : k = p.length := by omega
      subst hke
      rw [part_end] at hH
      refine Runs.exit rfl ?_
      refine Runs.seqE Ty_ok (by decide) fun k' hk' => ?_
      simp [h3]   -- R6
      refine hk' _ _ _ ?_
      exact Runs.ret Tryd.func29 (RetOk.one Tryd.results29) (hQ _ _ _ _ (.of (Ret.arrF (by simp [hH]; rfl) (by simp [GNode.cells, intC]))) rfl)

theorem e8 : Ent Tryd.prog 8 := Ent.of Tryd.func8 (by kernel_rfl) rfl
theorem toBigraph_ok (x : Big) (hb : x.nodes.length ≤ 1048576 ∧ (∀ z ∈ x.nodes, z.links.length ≤ 1048576) ∧ x.sites.length ≤ 1048576 ∧ x.outer.length ≤ 1048576 ∧ x.inner.length ≤ 1048576) : PureC Tryd.prog 8 [.agg (Big.cells false x)] (fun r => r = .agg (Big.cells true x)) := by
  refine PureC.of Tryd.func8 rfl Tryd.ntmps8 (by simp) fun Q hQ => ?_
  refine Runs.seqE Ty_ok (by decide) fun k' hk' => ?_
  simp [Big.cells, encN, encI, encS, encW]   -- R0
  refine hk' _ _ _ ?_
  refine Runs.seqE Ty_ok (by decide) fun k' hk' => ?_
  simp   -- R1
  refine hk' _ _ _ ?_
  refine Runs.seqE Ty_ok (by decide) fun k' hk' => ?_
  simp   -- R2
  refine hk' _ _ _ ?_
  refine Runs.seqE Ty_ok (by decide) fun k' hk' => ?_
  simp   -- R3
  refine RunK.callA Ty_ok (toNodeS_ok x.nodes hb.1 hb.2.1) e29 (.cons (ArgOk.encN false x.nodes) .nil) (by decide) (by decide) rfl (by simp [encN, encI, encS, encW]) ?_
  rintro _ rfl
  simp
  refine hk' _ _ _ ?_
  refine Runs.seqE Ty_ok (by decide) fun k' hk' => ?_
  simp   -- R4
  refine RunK.callA Ty_ok (toIntS_ok x.sites hb.2.2.1) e30 (.cons (ArgOk.encI false x.sites) .nil) (by decide) (by decide) rfl (by simp [encN, encI, encS, encW]) ?_
  rintro _ rfl
  simp
  refine hk' _ _ _ ?_
  refine Runs.seqE Ty_ok (by decide) fun k' hk' => ?_
  simp   -- R5
  refine hk' _ _ _ ?_
  refine Runs.seqE Ty_ok (by decide) fun k' hk' => ?_
  simp   -- R6
  refine RunK.callA Ty_ok (toStringS_ok x.outer hb.2.2.2.1) e31 (.cons (ArgOk.encS false x.outer) .nil) (by decide) (by decide) rfl (by simp [encN, encI, encS, encW]) ?_
  rintro _ rfl
  simp
  refine hk' _ _ _ ?_
  refine Runs.seqE Ty_ok (by decide) fun k' hk' => ?_
  simp   -- R7
  refine RunK.callA Ty_ok (toWireS_ok x.inner hb.2.2.2.2) e32 (.cons (ArgOk.encW false x.inner) .nil) (by decide) (by decide) rfl (by simp [encN, encI, encS, encW]) ?_
  rintro _ rfl
  simp
  refine hk' _ _ _ ?_
  refine Runs.seqE Ty_ok (by decide) fun k' hk' => ?_
  simp   -- R8
  refine hk' _ _ _ ?_
  exact Runs.ret Tryd.func8 (RetOk.cell (cs := Big.cells true x) (v := .agg (Big.cells true x)) Ty_ok Tryd.results8 Ty_37 (by simp [Big.cells, encN, encI, encS, encW]) (by simp [loadA, Big.cells])) (hQ _ _ _ _ (.of (Ret.fresh (by simp [Big.cells, encN, encI, encS, encW, GNode.cells, intC, strC, Wire.cells]))) rfl)

end Go.Ab
