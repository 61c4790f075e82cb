/- The abstract machine, part A: abstract values, what they stand for in a world, and what keeps that. -/
import Derived.Calls
import Derived.Tactics
namespace Go.Ab

abbrev Id := Nat × Nat

/-- An abstract value: what is known of a value. 'list': a slice whose cells are never written again; 'arr': a slice of an array of the call's own; 'ptr': into a variable or an array of the call's own; 'iptr': into cells that are never written again. -/
inductive AVal where
  | undef
  | v (x : Value)
  | agg (cs : List AVal)
  | tup (vs : List AVal)
  | list (fr : Bool) (els : List (List AVal))
  | arr (id : Id) (gen off len : Nat)
  | ptr (id : Id) (gen idx off : Nat)
  | iptr (fr : Bool) (cs : List AVal)
  | fn (f : Fn) (first captured : List AVal)
  | iface (t : TypeId) (x : AVal)
  deriving Inhabited

/-- A variable (one element) or an array of the call's own: 'size' cells an element. -/
structure Ob where
  size : Nat
  els : List (List AVal)

abbrev Heap := Id → Option Ob

def Heap.set (H : Heap) (i : Id) (o : Ob) : Heap := fun j => if j = i then some o else H j

theorem Heap.get_set (H : Heap) (i j : Id) (o : Ob) : H.set i o j = if j = i then some o else H j := rfl
theorem Heap.get_set_self (H : Heap) (i : Id) (o : Ob) : H.set i o i = some o := by simp [Heap.set]
theorem Heap.get_set_ne (H : Heap) {i j : Id} (o : Ob) (h : j ≠ i) : H.set i o j = H j := by simp [Heap.set, h]
theorem Heap.set_set (H : Heap) (i : Id) (o p : Ob) : (H.set i o).set i p = H.set i p := by
  funext j; simp only [Heap.set]; split <;> rfl

/-- A value of one cell. -/
def one : Value → Bool
  | .agg _ | .tuple _ => false
  | _ => true

structure Ctx where
  B : Nat
  β : Id → Nat
  H : Heap
  n : Nat
  w : World

/-- Block k is one of the call's own variables or arrays. -/
def Ctx.mu (c : Ctx) (k : Nat) : Prop := ∃ id o, c.H id = some o ∧ c.β id = k

def SliceOk (c : Ctx) (o : Ob) (id : Id) (gen off len : Nat) (x : Value) : Prop :=
  off + len ≤ gen ∧ ∃ a cap, x = .slice (some a) len cap ∧ a.block = c.β id ∧ a.spot = none ∧ len ≤ cap ∧ (a.off = off * o.size ∨ cap = 0) ∧
    ∀ cl el fz, c.w.heap[c.β id]? = some (.cells cl el fz) → (off + cap) * o.size ≤ cl.size

inductive Rep (c : Ctx) : AVal → Value → Prop
  | undef (x : Value) : Rep c .undef x
  | v (x : Value) : Rep c (.v x) x
  | agg (cs : List AVal) (vs : List Value) (hl : cs.length = vs.length) (h : ∀ (i : Nat) (a : AVal) (x : Value), cs[i]? = some a → vs[i]? = some x → Rep c a x) : Rep c (.agg cs) (.agg vs.toArray)
  | tup (cs : List AVal) (vs : List Value) (hl : cs.length = vs.length) (h : ∀ (i : Nat) (a : AVal) (x : Value), cs[i]? = some a → vs[i]? = some x → Rep c a x) : Rep c (.tup cs) (.tuple vs.toArray)
  | lnil (fr : Bool) : Rep c (.list fr []) (.slice none 0 0)
  | list (fr : Bool) (els : List (List AVal)) (a : Addr) (cap sz : Nat) (cell : Nat → Nat → Value) (hs : els ≠ [] → a.spot = none) (hcap : els.length ≤ cap)
      (hm : els ≠ [] → ¬ c.mu a.block ∧ a.block < c.w.heap.size ∧ (fr = true → c.B ≤ a.block)) (hsz : ∀ (i : Nat) (e : List AVal), els[i]? = some e → e.length = sz)
      (hc : ∀ (i : Nat) (e : List AVal) (j : Nat) (x : AVal), els[i]? = some e → e[j]? = some x → c.w.cell? ⟨a.block, a.off + (i * sz + j), none⟩ = some (cell i j))
      (h : ∀ (i : Nat) (e : List AVal) (j : Nat) (x : AVal), els[i]? = some e → e[j]? = some x → Rep c x (cell i j)) : Rep c (.list fr els) (.slice (some a) els.length cap)
  | arr (id : Id) (gen off len : Nat) (x : Value) (h1 : one x = true) (hn : id.1 < c.n) (hg : ∀ o, c.H id = some o → gen ≤ o.els.length)
      (h : ∀ o, c.H id = some o → o.els.length = gen → SliceOk c o id gen off len x) : Rep c (.arr id gen off len) x
  | ptr (id : Id) (gen idx off : Nat) (x : Value) (h1 : one x = true) (hn : id.1 < c.n) (hg : ∀ o, c.H id = some o → gen ≤ o.els.length)
      (h : ∀ o, c.H id = some o → o.els.length = gen → idx < gen ∧ x = .pointer (some ⟨c.β id, idx * o.size + off, none⟩)) : Rep c (.ptr id gen idx off) x
  | iptr (fr : Bool) (cs : List AVal) (a : Addr) (cell : Nat → Value) (hs : a.spot = none) (hm : ¬ c.mu a.block) (hb : a.block < c.w.heap.size) (hf : fr = true → c.B ≤ a.block)
      (hc : ∀ (j : Nat) (x : AVal), cs[j]? = some x → c.w.cell? ⟨a.block, a.off + j, none⟩ = some (cell j))
      (h : ∀ (j : Nat) (x : AVal), cs[j]? = some x → Rep c x (cell j)) : Rep c (.iptr fr cs) (.pointer (some a))
  | fn (f : Fn) (first captured : List AVal) (vs us : List Value) (hl : first.length = vs.length) (hl' : captured.length = us.length)
      (h : ∀ (i : Nat) (a : AVal) (x : Value), first[i]? = some a → vs[i]? = some x → Rep c a x) (h' : ∀ (i : Nat) (a : AVal) (x : Value), captured[i]? = some a → us[i]? = some x → Rep c a x) : Rep c (.fn f first captured) (.func f vs.toArray us.toArray)
  | iface (t : TypeId) (a : AVal) (x : Value) (h : Rep c a x) : Rep c (.iface t a) (.iface t x)

/-- From c to c' nothing of c's has turned but its own variables and arrays, and of those what is still told is told truly. -/
structure Keeps (c c' : Ctx) : Prop where
  n : c.n ≤ c'.n
  B : c'.B = c.B
  size : c.w.heap.size ≤ c'.w.heap.size
  os : c'.w.os = c.w.os
  tape : c'.w.tape = c.w.tape
  output : c'.w.output = c.w.output
  imm : ∀ k, k < c.w.heap.size → ¬ c.mu k → c'.w.heap[k]? = c.w.heap[k]? ∧ ¬ c'.mu k
  obj : ∀ id o', c'.H id = some o' → id.1 < c.n → ∃ o, c.H id = some o ∧ o.size = o'.size ∧ o.els.length ≤ o'.els.length ∧
    (o.els.length = o'.els.length → c'.β id = c.β id ∧ ∀ cl' el' fz', c'.w.heap[c.β id]? = some (.cells cl' el' fz') → ∃ cl el fz, c.w.heap[c.β id]? = some (.cells cl el fz) ∧ cl.size ≤ cl'.size)

theorem Keeps.refl (c : Ctx) : Keeps c c :=
  ⟨Nat.le_refl _, rfl, Nat.le_refl _, rfl, rfl, rfl, fun _ _ h => ⟨rfl, h⟩, fun _ o' h _ => ⟨o', h, rfl, Nat.le_refl _, fun _ => ⟨rfl, fun cl el fz h => ⟨cl, el, fz, h, Nat.le_refl _⟩⟩⟩⟩

theorem Keeps.trans {a b c : Ctx} (h : Keeps a b) (k : Keeps b c) : Keeps a c where
  n := Nat.le_trans h.n k.n
  B := k.B.trans h.B
  size := Nat.le_trans h.size k.size
  os := k.os.trans h.os
  tape := k.tape.trans h.tape
  output := k.output.trans h.output
  imm := fun i hi hm => by
    obtain ⟨h1, h2⟩ := h.imm i hi hm
    obtain ⟨k1, k2⟩ := k.imm i (Nat.lt_of_lt_of_le hi h.size) h2
    exact ⟨k1.trans h1, k2⟩
  obj := fun id o'' ho hn => by
    obtain ⟨o', ho', hs', hl', k'⟩ := k.obj id o'' ho (Nat.lt_of_lt_of_le hn h.n)
    obtain ⟨o, ho1, hs1, hl1, k1⟩ := h.obj id o' ho' hn
    refine ⟨o, ho1, hs1.trans hs', Nat.le_trans hl1 hl', fun he => ?_⟩
    have e1 : o.els.length = o'.els.length := by omega
    have e2 : o'.els.length = o''.els.length := by omega
    obtain ⟨b1, c1⟩ := k1 e1
    obtain ⟨b2, c2⟩ := k' e2
    refine ⟨b2.trans b1, fun cl el fz hcl => ?_⟩
    rw [← b1] at hcl
    obtain ⟨cl1, el1, fz1, h1, g1⟩ := c2 cl el fz hcl
    rw [b1] at h1
    obtain ⟨cl2, el2, fz2, h2, g2⟩ := c1 cl1 el1 fz1 h1
    exact ⟨cl2, el2, fz2, h2, Nat.le_trans g2 g1⟩

theorem cell_of_block {w w' : World} {k : Nat} (h : w'.heap[k]? = w.heap[k]?) (j : Nat) : w'.cell? ⟨k, j, none⟩ = w.cell? ⟨k, j, none⟩ := by
  simp only [World.cell?, h]

theorem Rep.keeps {c c' : Ctx} (k : Keeps c c') {a : AVal} {x : Value} (h : Rep c a x) : Rep c' a x := by
  induction h with
  | undef x => exact .undef x
  | v x => exact .v x
  | agg cs vs hl _ ih => exact .agg cs vs hl ih
  | tup cs vs hl _ ih => exact .tup cs vs hl ih
  | lnil fr => exact .lnil fr
  | list fr els a cap sz cell hs hcap hm hsz hc _ ih =>
    refine .list fr els a cap sz cell hs hcap ?_ hsz ?_ ih
    · intro hne
      obtain ⟨h1, h2, h3⟩ := hm hne
      exact ⟨(k.imm _ h2 h1).2, Nat.lt_of_lt_of_le h2 k.size, fun hf => by rw [k.B]; exact h3 hf⟩
    · intro i e j x he hx
      have hne : els ≠ [] := by intro h0; simp [h0] at he
      obtain ⟨h1, h2, _⟩ := hm hne
      rw [cell_of_block (k.imm _ h2 h1).1]
      exact hc i e j x he hx
  | arr id gen off len x ho1 hn hg h =>
    refine .arr id gen off len x ho1 (Nat.lt_of_lt_of_le hn k.n) ?_ ?_
    · intro o' ho'
      obtain ⟨o, ho, _, hl, _⟩ := k.obj id o' ho' hn
      exact Nat.le_trans (hg o ho) hl
    · intro o' ho' hgen
      obtain ⟨o, ho, hs, hl, hk⟩ := k.obj id o' ho' hn
      have hgo := hg o ho
      have he : o.els.length = o'.els.length := by omega
      obtain ⟨hb, hc⟩ := hk he
      obtain ⟨h1, a, cap, hx, hab, hsp, hlc, hoff, hcl⟩ := h o ho (by omega)
      refine ⟨h1, a, cap, hx, by rw [hb]; exact hab, hsp, hlc, by rw [← hs]; exact hoff, ?_⟩
      intro cl el fz hh
      rw [hb] at hh
      obtain ⟨cl0, el0, fz0, h0, hle⟩ := hc cl el fz hh
      rw [← hs]
      exact Nat.le_trans (hcl cl0 el0 fz0 h0) hle
  | ptr id gen idx off x ho1 hn hg h =>
    refine .ptr id gen idx off x ho1 (Nat.lt_of_lt_of_le hn k.n) ?_ ?_
    · intro o' ho'
      obtain ⟨o, ho, _, hl, _⟩ := k.obj id o' ho' hn
      exact Nat.le_trans (hg o ho) hl
    · intro o' ho' hgen
      obtain ⟨o, ho, hs, hl, hk⟩ := k.obj id o' ho' hn
      have hgo := hg o ho
      have he : o.els.length = o'.els.length := by omega
      obtain ⟨hb, _⟩ := hk he
      obtain ⟨h1, h2⟩ := h o ho (by omega)
      exact ⟨h1, by rw [hb, ← hs]; exact h2⟩
  | iptr fr cs a cell hs hm hb hf hc _ ih =>
    refine .iptr fr cs a cell hs (k.imm _ hb hm).2 (Nat.lt_of_lt_of_le hb k.size) (fun h => by rw [k.B]; exact hf h) ?_ ih
    intro j x hx
    rw [cell_of_block (k.imm _ hb hm).1]
    exact hc j x hx
  | fn f first captured vs us hl hl' _ _ ih ih' => exact .fn f first captured vs us hl hl' ih ih'
  | iface t a x _ ih => exact .iface t a x ih

structure Good (c : Ctx) : Prop where
  stamp : ∀ id o, c.H id = some o → id.1 < c.n
  inj : ∀ id id' o o', c.H id = some o → c.H id' = some o' → c.β id = c.β id' → id = id'
  Bsize : c.B ≤ c.w.heap.size
  obj : ∀ id o, c.H id = some o → c.B ≤ c.β id ∧ ∃ cl el, c.w.heap[c.β id]? = some (.cells cl el (0, 0)) ∧ o.els.length * o.size ≤ cl.size ∧
    ∀ (i : Nat) (e : List AVal), o.els[i]? = some e → e.length = o.size ∧ ∀ (j : Nat) (a : AVal), e[j]? = some a → ∃ x, cl[i * o.size + j]? = some x ∧ Rep c a x

theorem Good.lt {c : Ctx} (g : Good c) {id : Id} {o : Ob} (h : c.H id = some o) : c.β id < c.w.heap.size := by
  obtain ⟨_, cl, el, hh, _⟩ := g.obj id o h
  rcases Nat.lt_or_ge (c.β id) c.w.heap.size with h' | h'
  · exact h'
  · rw [Array.getElem?_eq_none h'] at hh; cases hh

/-- A cell of an object. -/
theorem Good.cell {c : Ctx} (g : Good c) {id : Id} {o : Ob} (h : c.H id = some o) {i j : Nat} {e : List AVal} {a : AVal} (he : o.els[i]? = some e) (ha : e[j]? = some a) :
    ∃ x, c.w.cell? ⟨c.β id, i * o.size + j, none⟩ = some x ∧ Rep c a x := by
  obtain ⟨_, cl, el, hh, _, hi⟩ := g.obj id o h
  obtain ⟨x, hx, hr⟩ := (hi i e he).2 j a ha
  exact ⟨x, by simp [World.cell?, hh, hx], hr⟩

theorem Good.frozen {c : Ctx} (g : Good c) {id : Id} {o : Ob} (h : c.H id = some o) (off : Nat) : c.w.frozen? ⟨c.β id, off, none⟩ = false := by
  obtain ⟨_, cl, el, hh, _⟩ := g.obj id o h
  simp [World.frozen?, hh]

end Go.Ab
