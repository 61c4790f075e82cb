/- The abstract machine, part D: memory seen through a pointer; reading it and writing it. -/
import Derived.Test.YtgmjebjcomckaaaDoorAbC
import Derived.Laws.AppendOwn
namespace Go.Ab

/-- Memory at block b from offset off on shows the cells cs. -/
def View (c : Ctx) (b off : Nat) (cs : List AVal) : Prop := ∀ (j : Nat) (x : AVal), cs[j]? = some x → ∃ v, c.w.cell? ⟨b, off + j, none⟩ = some v ∧ Rep c x v

theorem View.vals {c : Ctx} {b : Nat} : ∀ {cs : List AVal} {off : Nat}, View c b off cs → ∃ vs : List Value, RepL c cs vs ∧ ∀ (j : Nat) (v : Value), vs[j]? = some v → c.w.cell? ⟨b, off + j, none⟩ = some v
  | [], off, _ => ⟨[], ⟨rfl, by simp⟩, by simp⟩
  | x :: cs, off, h => by
    obtain ⟨v, hv, hr⟩ := h 0 x rfl
    have ht : View c b (off + 1) cs := fun j y hy => by
      obtain ⟨u, hu, hru⟩ := h (j + 1) y (by simpa using hy)
      exact ⟨u, by rw [show off + 1 + j = off + (j + 1) by omega]; exact hu, hru⟩
    obtain ⟨vs, hl, hc⟩ := View.vals ht
    refine ⟨v :: vs, ⟨by simp [hl.1], ?_⟩, ?_⟩
    · intro i a y ha hy
      cases i with
      | zero => simp at ha hy; rw [← ha, ← hy]; exact hr
      | succ i => exact hl.2 i a y (by simpa using ha) (by simpa using hy)
    · intro j y hy
      cases j with
      | zero => simp at hy; rw [← hy]; simpa using hv
      | succ j =>
        have := hc j y (by simpa using hy)
        rwa [show off + 1 + j = off + (j + 1) by omega] at this

theorem View.drop {c : Ctx} {b off : Nat} {cs : List AVal} (h : View c b off cs) (k : Nat) : View c b (off + k) (cs.drop k) := fun j x hx => by
  rw [List.getElem?_drop] at hx
  obtain ⟨v, hv, hr⟩ := h (k + j) x hx
  exact ⟨v, by rw [Nat.add_assoc]; exact hv, hr⟩

theorem View.take {c : Ctx} {b off : Nat} {cs : List AVal} (h : View c b off cs) (k : Nat) : View c b off (cs.take k) := fun j x hx => by
  rw [List.getElem?_take] at hx
  split at hx
  · exact h j x hx
  · cases hx

/-- The cells that a pointer leads to. -/
def viewOf (H : Heap) : AVal → Option (List AVal)
  | .ptr id gen idx off =>
    match H id with
    | some o => if o.els.length = gen then (o.els[idx]?).map (·.drop off) else none
    | none => none
  | .iptr _ cs => some cs
  | _ => none

theorem viewOf_ok {c : Ctx} (g : Good c) {p : AVal} {x : Value} (r : Rep c p x) {cs : List AVal} (h : viewOf c.H p = some cs) : ∃ b off, x = .pointer (some ⟨b, off, none⟩) ∧ View c b off cs := by
  cases r with
  | ptr id gen idx off x ho hn hg hp =>
    simp only [viewOf] at h
    split at h
    · rename_i o ho
      split at h
      · rename_i hl
        obtain ⟨_, hx⟩ := hp o ho hl
        cases he : o.els[idx]? with
        | none => simp [he] at h
        | some e =>
          simp only [he, Option.map_some, Option.some.injEq] at h
          subst h
          refine ⟨c.β id, idx * o.size + off, hx, fun j y hy => ?_⟩
          rw [List.getElem?_drop] at hy
          obtain ⟨v, hv, hr⟩ := g.cell ho he hy
          exact ⟨v, by rw [Nat.add_assoc]; exact hv, hr⟩
      · cases h
    · cases h
  | iptr fr cs a cell hs hm hb hf hc hr =>
    simp only [viewOf, Option.some.injEq] at h
    subst h
    obtain ⟨b, off, sp⟩ := a
    simp only at hs
    subst hs
    exact ⟨b, off, rfl, fun j y hy => ⟨cell j, hc j y hy, hr j y hy⟩⟩
  | _ => simp [viewOf] at h

theorem RepL.agg {c : Ctx} {cs : List AVal} {vs : List Value} (h : RepL c cs vs) : Rep c (.agg cs) (.agg vs.toArray) := .agg cs vs h.1 h.2

/-- What is told of a type: its form, its cells, its bytes, its zero's cells. -/
structure TI where
  desc : TypeDesc
  size : Nat
  bytes : Nat
  zero : List Value

def TI.isAgg (i : TI) : Bool := match i.desc with | .struct _ | .array _ _ => true | _ => false

def TyOk (P : Program) (t : TypeId) (i : TI) : Prop := P.underlying t = some i.desc ∧ ∃ info zv, P.info? t = some info ∧ info.size = i.size ∧ info.bytes = i.bytes ∧ info.zero = some zv ∧ zv.cells = i.zero.toArray

abbrev Types := TypeId → Option TI

def TypesOk (P : Program) (Ty : Types) : Prop := ∀ t i, Ty t = some i → TyOk P t i

section
variable {P : Program} {t : TypeId} {i : TI} (h : TyOk P t i) (w : World)
include h
theorem TyOk.run_size : (sizeOf t).run P w = .ok i.size w := by
  obtain ⟨_, info, zv, hi, hs, _⟩ := h
  simp [sizeOf, typeInfo, hi, hs]
theorem TyOk.run_desc : (underlying t).run P w = .ok i.desc w := run_underlying h.1 w
theorem TyOk.run_isAgg : (isAgg t).run P w = .ok i.isAgg w := by
  simp only [isAgg, Sem.run_bind, h.run_desc, Result.andThen_ok, TI.isAgg]
  split <;> split <;> simp_all
theorem TyOk.run_zero : ∃ zv : Value, (zeroValue t).run P w = .ok zv w ∧ zv.cells = i.zero.toArray := by
  obtain ⟨_, info, zv, hi, _, _, hz, hc⟩ := h
  exact ⟨zv, by simp [zeroValue, typeInfo, hi, hz], hc⟩
end

def loadA (i : TI) (cs : List AVal) : Option AVal := if i.isAgg then (if i.size ≤ cs.length then some (.agg (cs.take i.size)) else none) else cs[0]?

theorem run_loadVar {P : Program} {t : TypeId} {i : TI} (ht : TyOk P t i) {c : Ctx} {b off : Nat} {cs : List AVal} (hv : View c b off cs) {a : AVal} (h : loadA i cs = some a) :
    ∃ x, (loadVar t ⟨b, off, none⟩).run P c.w = .ok x c.w ∧ Rep c a x := by
  unfold loadA at h
  split at h
  · rename_i hagg
    split at h
    · rename_i hsz
      simp only [Option.some.injEq] at h
      subst h
      obtain ⟨vs, hl, hc⟩ := (hv.take i.size).vals
      have hlen : vs.length = i.size := by rw [← hl.1, List.length_take]; omega
      refine ⟨.agg vs.toArray, ?_, hl.agg⟩
      have hr := run_loadCells_list (P := P) c.w ⟨b, off, none⟩ vs (fun j v hj => by rw [Addr.add_lit]; exact hc j v hj)
      rw [hlen] at hr
      simp [loadVar, ht.run_isAgg, hagg, ht.run_size, hr]
    · cases h
  · rename_i hagg
    obtain ⟨v, hcell, hr⟩ := hv 0 a h
    have hcell' : c.w.cell? ⟨b, off, none⟩ = some v := by simpa using hcell
    exact ⟨v, by simp [loadVar, ht.run_isAgg, hagg, hcell'], hr⟩

/-- The cells of a value. -/
def cellsA : AVal → Option (List AVal)
  | .agg cs => some cs
  | .v (.agg cs) => some (cs.toList.map .v)
  | .v (.tuple _) | .tup _ | .undef => none
  | x => some [x]

def one1 : AVal → Bool
  | .undef | .agg _ | .tup _ => false
  | .v x => one x
  | _ => true

theorem one_of {c : Ctx} {a : AVal} {x : Value} (r : Rep c a x) (h : one1 a = true) : one x = true := by
  cases r <;> first | (simp [one1] at h; done) | assumption | rfl | (simp [one1] at h; exact h)

theorem one_oneCell {x : Value} (h : one x = true) : x.oneCell' = true := by cases x <;> simp_all [one, Value.oneCell']

theorem one_cells {x : Value} (h : one x = true) : x.cells = #[x] := by cases x <;> simp_all [one, Value.cells]

theorem cellsA_ok {c : Ctx} {a : AVal} {x : Value} (r : Rep c a x) {cs : List AVal} (h : cellsA a = some cs) : ∃ vs : List Value, x.cells = vs.toArray ∧ RepL c cs vs := by
  cases r with
  | agg cs' vs hl hr => simp only [cellsA, Option.some.injEq] at h; subst h; exact ⟨vs, rfl, hl, hr⟩
  | v x =>
    cases x with
    | agg l => simp only [cellsA, Option.some.injEq] at h; subst h; exact ⟨l.toList, by simp [Value.cells], by simp, Rep.vs c _⟩
    | tuple l => simp [cellsA] at h
    | _ =>
      simp only [cellsA, Option.some.injEq] at h
      subst h
      refine ⟨[_], rfl, rfl, fun i a y ha hy => ?_⟩
      cases i with
      | zero => simp at ha hy; rw [← ha, ← hy]; exact .v _
      | succ i => simp at ha
  | undef => simp [cellsA] at h
  | tup => simp [cellsA] at h
  | _ =>
    simp only [cellsA, Option.some.injEq] at h
    subst h
    refine ⟨[_], one_cells (by first | assumption | rfl), rfl, fun i a y ha hy => ?_⟩
    cases i with
    | zero => simp at ha hy; rw [← ha, ← hy]; constructor <;> assumption
    | succ i => simp at ha

theorem RepL.one {c : Ctx} {cs : List AVal} {vs : List Value} (h : RepL c cs vs) (h1 : cs.all one1 = true) : ∀ v ∈ vs, v.oneCell' = true := by
  intro v hv
  obtain ⟨i, hi, hiv⟩ := List.getElem_of_mem hv
  have hl := h.1
  have ha : cs[i]? = some (cs[i]'(by omega)) := List.getElem?_eq_getElem (by omega)
  refine one_oneCell (one_of (h.2 i _ v ha (by rw [← hiv]; exact List.getElem?_eq_getElem hi)) ?_)
  exact List.all_eq_true.1 h1 _ (List.getElem_mem _)

theorem RepL.keeps {c c' : Ctx} (k : Keeps c c') {cs : List AVal} {vs : List Value} (h : RepL c cs vs) : RepL c' cs vs := ⟨h.1, fun i a x ha hx => (h.2 i a x ha hx).keeps k⟩

/-- An element with some cells put over. -/
def splice (e : List AVal) (off : Nat) (new : List AVal) : List AVal := e.take off ++ new ++ e.drop (off + new.length)

def Ob.write (o : Ob) (idx off : Nat) (new : List AVal) : Ob := { o with els := o.els.set idx (splice (o.els.getD idx []) off new) }

theorem splice_length {e new : List AVal} {off : Nat} (h : off + new.length ≤ e.length) : (splice e off new).length = e.length := by
  simp [splice]; omega

/-- A list laid over a row from k on. -/
def over (cl : Array Value) (k : Nat) (vs : List Value) : Array Value := (cl.toList.take k ++ vs ++ cl.toList.drop (k + vs.length)).toArray

theorem over_size {cl : Array Value} {k : Nat} {vs : List Value} (h : k + vs.length ≤ cl.size) : (over cl k vs).size = cl.size := by
  simp [over]; omega

theorem over_get {cl : Array Value} {k : Nat} {vs : List Value} (h : k + vs.length ≤ cl.size) (j : Nat) : (over cl k vs)[j]? = if k ≤ j ∧ j < k + vs.length then vs[j - k]? else cl[j]? := by
  simp only [over, List.getElem?_toArray]
  have hk : (cl.toList.take k).length = k := by simp; omega
  by_cases h1 : j < k
  · rw [List.append_assoc, List.getElem?_append_left (by omega), if_neg (by omega)]
    simp [h1]
  · by_cases h2 : j < k + vs.length
    · rw [if_pos ⟨by omega, h2⟩, List.append_assoc, List.getElem?_append_right (by omega), List.getElem?_append_left (by omega), hk]
    · rw [if_neg (by omega), List.getElem?_append_right (by simp; omega)]
      simp only [List.length_append, hk, List.getElem?_drop, Array.getElem?_toList]
      congr 1
      omega

/-- A store into an object: some cells of one element. -/
theorem store_ob {c : Ctx} (g : Good c) {id : Id} {o : Ob} (ho : c.H id = some o) {idx off : Nat} {new : List AVal} {vs : List Value} (hi : idx < o.els.length) (hoff : off + new.length ≤ o.size) (hr : RepL c new vs) (h1 : new.all one1 = true) (P : Program) :
    ∃ w', (storeCells ⟨c.β id, idx * o.size + off, none⟩ vs).run P c.w = .ok () w' ∧ Keeps c { c with H := c.H.set id (o.write idx off new), w := w' } ∧ Good { c with H := c.H.set id (o.write idx off new), w := w' } := by
  obtain ⟨hB, cl, el, hh, hsz, hel⟩ := g.obj id o ho
  have hlen := hr.1
  have hmul : idx * o.size + o.size ≤ o.els.length * o.size := by
    have := Nat.mul_le_mul_right o.size (show idx + 1 ≤ o.els.length by omega)
    rwa [Nat.add_mul, Nat.one_mul] at this
  have hfit : idx * o.size + off + vs.length ≤ cl.size := by omega
  have hrun := run_storeCells_at P (c.β id) (idx * o.size + off) el vs 0 cl c.w hh (by simpa using hfit) (hr.one h1)
  simp only [Nat.add_zero] at hrun
  have he : o.els[idx]? = some o.els[idx] := List.getElem?_eq_getElem hi
  have hgetD : o.els.getD idx [] = o.els[idx] := by simp [List.getD, he]
  have helen := (hel idx _ he).1
  refine ⟨_, hrun, upd_same g ho (o.write idx off new) _ cl (over cl (idx * o.size + off) vs) el el ⟨rfl, rfl, rfl⟩ (by simp [World.setRow]) hh (fun k hk => setRow_other c.w _ k _ hk) (setRow_heap c.w _ cl _ el _ hh) (by rw [over_size hfit]; exact Nat.le_refl _) rfl (by simp [Ob.write]) ⟨?_, ?_⟩⟩
  · rw [over_size hfit]; simpa [Ob.write] using hsz
  · intro i e hie
    simp only [Ob.write, List.getElem?_set, hgetD] at hie
    show e.length = o.size ∧ _
    by_cases hix : idx = i
    · subst hix
      rw [if_pos rfl, if_pos hi] at hie
      simp only [Option.some.injEq] at hie
      subst hie
      refine ⟨by rw [splice_length (by omega), helen], fun j a ha => ?_⟩
      have hj : j < o.size := by
        have := (List.getElem?_eq_some_iff.1 ha).1
        rwa [splice_length (by omega), helen] at this
      show ∃ x, (over cl (idx * o.size + off) vs)[idx * o.size + j]? = some x ∧ _
      rw [over_get hfit]
      simp only [splice] at ha
      by_cases c1 : j < off
      · rw [List.append_assoc, List.getElem?_append_left (by simp; omega), List.getElem?_take, if_pos c1] at ha
        rw [if_neg (by omega)]
        exact (hel idx _ he).2 j a ha
      · by_cases c2 : j < off + new.length
        · rw [List.append_assoc, List.getElem?_append_right (by simp; omega), List.getElem?_append_left (by simp; omega)] at ha
          rw [if_pos (by omega)]
          have hm : min off o.els[idx].length = off := by omega
          simp only [List.length_take, hm] at ha
          have hv : vs[j - off]? = some (vs[j - off]'(by omega)) := List.getElem?_eq_getElem (by omega)
          exact ⟨_, by rw [show idx * o.size + j - (idx * o.size + off) = j - off by omega]; exact hv, hr.2 _ _ _ ha hv⟩
        · rw [List.getElem?_append_right (by simp; omega)] at ha
          have hm : min off o.els[idx].length = off := by omega
          simp only [List.length_append, List.length_take, hm, List.getElem?_drop] at ha
          rw [show off + new.length + (j - (off + new.length)) = j by omega] at ha
          rw [if_neg (by omega)]
          exact (hel idx _ he).2 j a ha
    · rw [if_neg hix] at hie
      refine ⟨(hel i e hie).1, fun j a ha => ?_⟩
      have hj : j < o.size := by
        have := (List.getElem?_eq_some_iff.1 ha).1
        rwa [(hel i e hie).1] at this
      show ∃ x, (over cl (idx * o.size + off) vs)[i * o.size + j]? = some x ∧ _
      rw [over_get hfit, if_neg]
      · exact (hel i e hie).2 j a ha
      · rcases Nat.lt_or_gt_of_ne hix with hlt | hlt
        · have := Nat.mul_le_mul_right o.size (show idx + 1 ≤ i by omega)
          rw [Nat.add_mul, Nat.one_mul] at this
          omega
        · have := Nat.mul_le_mul_right o.size (show i + 1 ≤ idx by omega)
          rw [Nat.add_mul, Nat.one_mul] at this
          omega

/-- A new object: a variable or an array. -/
theorem new_ob {c : Ctx} (g : Good c) (d : Nat) (o : Ob) (cl : Array Value) (el : TypeId) (hh : Holds c cl o) :
    let c' : Ctx := { B := c.B, β := fun j => if j = (c.n, d) then c.w.heap.size else c.β j, H := c.H.set (c.n, d) o, n := c.n + 1, w := { c.w with heap := c.w.heap.push (.cells cl el (0, 0)) } }
    Keeps c c' ∧ Good c' :=
  upd_new g (c.n, d) o { c.w with heap := c.w.heap.push (.cells cl el (0, 0)) } cl el (c.n + 1) ⟨rfl, rfl, rfl⟩ (by simp)
    (fun k hk => by show (c.w.heap.push _)[k]? = _; rw [Array.getElem?_push, if_neg (by omega)]) (by simp) (by omega) (by simp) (fun h => absurd h (Nat.lt_irrefl _)) hh

end Go.Ab
