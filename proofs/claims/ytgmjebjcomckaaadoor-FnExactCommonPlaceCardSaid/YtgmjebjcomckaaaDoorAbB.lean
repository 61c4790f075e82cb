/- The abstract machine, part B: how a world turns (a new block, a store, an append) and what that keeps. -/
import Derived.Test.YtgmjebjcomckaaaDoorAbA
namespace Go.Ab

/-- The two worlds part in the heap alone (and in how much has been drawn). -/
def SameOut (w w' : World) : Prop := w'.os = w.os ∧ w'.tape = w.tape ∧ w'.output = w.output

theorem SameOut.refl (w : World) : SameOut w w := ⟨rfl, rfl, rfl⟩

/-- Blocks pushed behind: objects and their readings stay. -/
theorem more_blocks {c : Ctx} (g : Good c) (w' : World) (so : SameOut c.w w') (hsz : c.w.heap.size ≤ w'.heap.size) (hb : ∀ k, k < c.w.heap.size → w'.heap[k]? = c.w.heap[k]?) :
    Keeps c { c with w := w' } ∧ Good { c with w := w' } := by
  have hk : Keeps c { c with w := w' } := by
    refine ⟨Nat.le_refl _, rfl, hsz, so.1, so.2.1, so.2.2, fun k hk hm => ⟨hb k hk, hm⟩, fun id o' ho _ => ⟨o', ho, rfl, Nat.le_refl _, fun _ => ⟨rfl, fun cl el fz hcl => ?_⟩⟩⟩
    simp only at hcl
    rw [hb _ (g.lt ho)] at hcl
    exact ⟨cl, el, fz, hcl, Nat.le_refl _⟩
  refine ⟨hk, ⟨g.stamp, g.inj, Nat.le_trans g.Bsize hsz, fun id o ho => ?_⟩⟩
  obtain ⟨h1, cl, el, hh, hl, hi⟩ := g.obj id o ho
  refine ⟨h1, cl, el, ?_, hl, fun i e he => ⟨(hi i e he).1, fun j a ha => ?_⟩⟩
  · exact (hb _ (g.lt ho)).trans hh
  · obtain ⟨x, hx, hr⟩ := (hi i e he).2 j a ha
    exact ⟨x, hx, hr.keeps hk⟩

/-- A draw. -/
theorem draw_keeps {c : Ctx} (g : Good c) : Keeps c { c with w := { c.w with drawn := c.w.drawn + 1 } } ∧ Good { c with w := { c.w with drawn := c.w.drawn + 1 } } :=
  more_blocks g _ ⟨rfl, rfl, rfl⟩ (Nat.le_refl _) fun _ _ => rfl

/-- A new block that no object names. -/
theorem push_keeps {c : Ctx} (g : Good c) (o : Obj) : Keeps c { c with w := { c.w with heap := c.w.heap.push o } } ∧ Good { c with w := { c.w with heap := c.w.heap.push o } } :=
  more_blocks g _ ⟨rfl, rfl, rfl⟩ (by simp) fun k hk => by
    show (c.w.heap.push o)[k]? = _
    rw [Array.getElem?_push, if_neg (by omega)]

/-- What a block holds for an object. -/
def Holds (c : Ctx) (cl : Array Value) (o : Ob) : Prop :=
  o.els.length * o.size ≤ cl.size ∧ ∀ (i : Nat) (e : List AVal), o.els[i]? = some e → e.length = o.size ∧ ∀ (j : Nat) (a : AVal), e[j]? = some a → ∃ x, cl[i * o.size + j]? = some x ∧ Rep c a x

theorem Holds.keeps {c c' : Ctx} (k : Keeps c c') {cl : Array Value} {o : Ob} (h : Holds c cl o) : Holds c' cl o :=
  ⟨h.1, fun i e he => ⟨(h.2 i e he).1, fun j a ha => let ⟨x, hx, hr⟩ := (h.2 i e he).2 j a ha; ⟨x, hx, hr.keeps k⟩⟩⟩

/-- An object in a block that is new (a new object; or one whose array grew out of its block). -/
theorem upd_new {c : Ctx} (g : Good c) (id : Id) (o' : Ob) (w' : World) (cl : Array Value) (el : TypeId) (n' : Nat) (so : SameOut c.w w') (hsz : w'.heap.size = c.w.heap.size + 1)
    (hb : ∀ k, k < c.w.heap.size → w'.heap[k]? = c.w.heap[k]?) (hnew : w'.heap[c.w.heap.size]? = some (.cells cl el (0, 0)))
    (hn : c.n ≤ n') (hid : id.1 < n') (hold : id.1 < c.n → ∃ o, c.H id = some o ∧ o.size = o'.size ∧ o.els.length < o'.els.length)
    (hh : Holds c cl o') :
    let c' : Ctx := { B := c.B, β := fun j => if j = id then c.w.heap.size else c.β j, H := c.H.set id o', n := n', w := w' }
    Keeps c c' ∧ Good c' := by
  intro c'
  have hk : Keeps c c' := by
    refine ⟨hn, rfl, by show c.w.heap.size ≤ w'.heap.size; omega, so.1, so.2.1, so.2.2, ?_, ?_⟩
    · intro k hk hm
      refine ⟨hb k hk, ?_⟩
      rintro ⟨id', o1, h1, h2⟩
      simp only [c', Heap.set] at h1 h2
      split at h1
      · rename_i he
        rw [if_pos he] at h2
        omega
      · rename_i he
        rw [if_neg he] at h2
        exact hm ⟨id', o1, h1, h2⟩
    · intro id' o1 h1 hlt
      simp only [c', Heap.set] at h1
      split at h1
      · rename_i he
        subst he
        obtain ⟨o, ho, hs, hl⟩ := hold hlt
        cases h1
        exact ⟨o, ho, hs, Nat.le_of_lt hl, fun h => by omega⟩
      · rename_i he
        refine ⟨o1, h1, rfl, Nat.le_refl _, fun _ => ⟨by simp [c', he], fun cl0 el0 fz0 h0 => ?_⟩⟩
        simp only [c'] at h0
        rw [hb _ (g.lt h1)] at h0
        exact ⟨cl0, el0, fz0, h0, Nat.le_refl _⟩
  refine ⟨hk, ⟨?_, ?_, ?_, ?_⟩⟩
  · intro id' o1 h1
    simp only [c', Heap.set] at h1
    split at h1
    · rename_i he; subst he; exact hid
    · exact Nat.lt_of_lt_of_le (g.stamp _ _ h1) hn
  · intro a b oa ob ha hb' hab
    simp only [c', Heap.set] at ha hb' hab
    by_cases h1 : a = id <;> by_cases h2 : b = id
    · rw [h1, h2]
    · simp only [h1, h2, if_true, if_false] at hab hb'
      have := g.lt hb'
      omega
    · simp only [h1, h2, if_true, if_false] at hab ha
      have := g.lt ha
      omega
    · simp only [h1, h2, if_false] at hab ha hb'
      exact g.inj _ _ _ _ ha hb' hab
  · have := g.Bsize
    show c.B ≤ w'.heap.size
    omega
  · intro id' o1 h1
    simp only [c', Heap.set] at h1
    split at h1
    · rename_i he
      subst he
      cases h1
      have hh' := hh.keeps hk
      refine ⟨by simp only [c', if_true]; exact g.Bsize, cl, el, by simpa only [c', if_true] using hnew, hh'.1, hh'.2⟩
    · rename_i he
      obtain ⟨b1, cl1, el1, hc1, hr1⟩ := g.obj id' o1 h1
      refine ⟨by simpa only [c', he, if_false] using b1, cl1, el1, ?_, (Holds.keeps hk (cl := cl1) (o := o1) hr1)⟩
      simp only [c', he, if_false]
      rw [hb _ (g.lt h1)]
      exact hc1

/-- An object whose block has been written: it tells other cells, and at least as many elements. -/
theorem upd_same {c : Ctx} (g : Good c) {id : Id} {o : Ob} (ho : c.H id = some o) (o' : Ob) (w' : World) (cl cl' : Array Value) (el el' : TypeId) (so : SameOut c.w w') (hsz : w'.heap.size = c.w.heap.size)
    (hcl : c.w.heap[c.β id]? = some (.cells cl el (0, 0)))
    (hb : ∀ k, k ≠ c.β id → w'.heap[k]? = c.w.heap[k]?) (hnew : w'.heap[c.β id]? = some (.cells cl' el' (0, 0))) (hle : cl.size ≤ cl'.size)
    (hs : o.size = o'.size) (hl : o.els.length ≤ o'.els.length) (hh : Holds c cl' o') :
    let c' : Ctx := { c with H := c.H.set id o', w := w' }
    Keeps c c' ∧ Good c' := by
  intro c'
  have hk : Keeps c c' := by
    refine ⟨Nat.le_refl _, rfl, by show c.w.heap.size ≤ w'.heap.size; omega, so.1, so.2.1, so.2.2, ?_, ?_⟩
    · intro k hk hm
      refine ⟨hb k (fun h => hm ⟨id, o, ho, h.symm⟩), ?_⟩
      rintro ⟨id', o1, h1, h2⟩
      simp only [c', Heap.set] at h1 h2
      split at h1
      · rename_i he
        subst he
        exact hm ⟨id', o, ho, h2⟩
      · exact hm ⟨id', o1, h1, h2⟩
    · intro id' o1 h1 hlt
      simp only [c', Heap.set] at h1
      split at h1
      · rename_i he
        subst he
        cases h1
        refine ⟨o, ho, hs, hl, fun _ => ⟨rfl, fun cl0 el0 fz0 h0 => ?_⟩⟩
        simp only [c'] at h0
        rw [hnew] at h0
        simp only [Option.some.injEq, Obj.cells.injEq] at h0
        obtain ⟨rfl, _, _⟩ := h0
        exact ⟨cl, el, _, hcl, hle⟩
      · rename_i he
        refine ⟨o1, h1, rfl, Nat.le_refl _, fun _ => ⟨rfl, fun cl0 el0 fz0 h0 => ?_⟩⟩
        simp only [c'] at h0
        rw [hb _ (fun h => he (g.inj _ _ _ _ h1 ho h))] at h0
        exact ⟨cl0, el0, fz0, h0, Nat.le_refl _⟩
  refine ⟨hk, ⟨?_, ?_, ?_, ?_⟩⟩
  · intro id' o1 h1
    simp only [c', Heap.set] at h1
    split at h1
    · rename_i he; subst he; exact g.stamp _ _ ho
    · exact g.stamp _ _ h1
  · intro a b oa ob ha hb' hab
    have key : ∀ i oi, (c.H.set id o') i = some oi → ∃ p, c.H i = some p := by
      intro i oi hi
      simp only [Heap.set] at hi
      split at hi
      · rename_i he; subst he; exact ⟨_, ho⟩
      · exact ⟨_, hi⟩
    obtain ⟨pa, ha⟩ := key _ _ ha
    obtain ⟨pb, hb'⟩ := key _ _ hb'
    exact g.inj _ _ _ _ ha hb' hab
  · have := g.Bsize
    show c.B ≤ w'.heap.size
    omega
  · intro id' o1 h1
    simp only [c', Heap.set] at h1
    split at h1
    · rename_i he
      subst he
      cases h1
      have hh' := hh.keeps hk
      exact ⟨(g.obj _ _ ho).1, cl', el', hnew, hh'.1, hh'.2⟩
    · rename_i he
      obtain ⟨b1, cl1, el1, hc1, hr1⟩ := g.obj id' o1 h1
      refine ⟨b1, cl1, el1, ?_, (Holds.keeps hk (cl := cl1) (o := o1) hr1)⟩
      show w'.heap[c.β id']? = _
      rw [hb _ (fun h => he (g.inj _ _ _ _ h1 ho h))]
      exact hc1

end Go.Ab
