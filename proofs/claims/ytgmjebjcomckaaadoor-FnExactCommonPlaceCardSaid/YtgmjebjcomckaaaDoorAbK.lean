/- The abstract machine, part K: values handed over and handed back; loops; names for plain values. -/
import Derived.Test.YtgmjebjcomckaaaDoorAbI
namespace Go.Ab

abbrev Str := List UInt8
abbrev int (n : Int) : AVal := .v (.int .i64 n)
abbrev bool (b : Bool) : AVal := .v (.bool b)
abbrev str (s : Str) : AVal := .v (.string ⟨s.toArray⟩)
abbrev nilS : AVal := .v (.slice none 0 0)

/-- A value of old cells: what an argument is to the callee. -/
def old : AVal → AVal
  | .agg cs => .agg (oldL cs)
  | .tup cs => .tup (oldL cs)
  | .list _ els => .list false (oldLL els)
  | .iface t x => .iface t (old x)
  | x => x
  where
  oldL : List AVal → List AVal
    | [] => []
    | a :: l => old a :: oldL l
  oldLL : List (List AVal) → List (List AVal)
    | [] => []
    | e :: l => oldL e :: oldLL l

theorem oldL_eq (l : List AVal) : old.oldL l = l.map old := by
  induction l with
  | nil => rfl
  | cons a l ih => simp [old.oldL, ih]
theorem oldLL_eq (l : List (List AVal)) : old.oldLL l = l.map (fun e => e.map old) := by
  induction l with
  | nil => rfl
  | cons a l ih => simp [old.oldLL, ih, oldL_eq]

theorem old_v (x : Value) : old (.v x) = .v x := rfl
theorem old_agg (cs : List AVal) : old (.agg cs) = .agg (cs.map old) := by simp [old, oldL_eq]
theorem old_list (fr : Bool) (els : List (List AVal)) : old (.list fr els) = .list false (els.map (fun e => e.map old)) := by simp [old, oldLL_eq]

/-- Nothing of the call's own is in it. -/
inductive Imm : AVal → Prop
  | v (x : Value) : Imm (.v x)
  | agg (cs : List AVal) (h : ∀ a ∈ cs, Imm a) : Imm (.agg cs)
  | tup (cs : List AVal) (h : ∀ a ∈ cs, Imm a) : Imm (.tup cs)
  | list (fr : Bool) (els : List (List AVal)) (h : ∀ e ∈ els, ∀ a ∈ e, Imm a) : Imm (.list fr els)
  | iface (t : TypeId) (a : AVal) (h : Imm a) : Imm (.iface t a)

theorem map_get {α β : Type} {f : α → β} {l : List α} {i : Nat} {b : β} (h : (l.map f)[i]? = some b) : ∃ a, l[i]? = some a ∧ b = f a := by
  rw [List.getElem?_map] at h
  cases ha : l[i]? with
  | none => simp [ha] at h
  | some a => simp only [ha, Option.map_some, Option.some.injEq] at h; exact ⟨a, rfl, h.symm⟩

theorem no_mu {c : Ctx} (h : ∀ id, c.H id = none) (k : Nat) : ¬ c.mu k := by
  rintro ⟨id, o, ho, _⟩
  rw [h] at ho
  cases ho

theorem Rep.old {c c' : Ctx} (hw : c'.w = c.w) (hH : ∀ id, c'.H id = none) {a : AVal} {x : Value} (r : Rep c a x) (hi : Imm a) : Rep c' (old a) x := by
  induction r with
  | undef => cases hi
  | v x => exact .v x
  | agg cs vs hl _ ih =>
    cases hi with
    | agg _ hi =>
    rw [old_agg]
    refine .agg _ vs (by simpa using hl) fun i a x ha hx => ?_
    obtain ⟨b, hb, rfl⟩ := map_get ha
    exact ih i b x hb hx (hi b (List.mem_of_getElem? hb))
  | tup cs vs hl _ ih =>
    cases hi with
    | tup _ hi =>
    simp only [Ab.old, oldL_eq]
    refine .tup _ vs (by simpa using hl) fun i a x ha hx => ?_
    obtain ⟨b, hb, rfl⟩ := map_get ha
    exact ih i b x hb hx (hi b (List.mem_of_getElem? hb))
  | lnil fr => exact .lnil false
  | list fr els a cap sz cell hs hcap hm hsz hc _ ih =>
    cases hi with
    | list _ _ hi =>
    rw [old_list]
    have := Rep.list (c := c') false (els.map fun e => e.map Ab.old) a cap sz cell (fun hne => hs (by intro h0; subst h0; simp at hne)) (by simpa using hcap) (fun hne => ?_) (fun i e he => ?_) (fun i e j x he hx => ?_) (fun i e j x he hx => ?_)
    · simpa using this
    · obtain ⟨_, h2, _⟩ := hm (by intro h0; simp [h0] at hne)
      exact ⟨no_mu hH _, by rw [hw]; exact h2, fun h => by cases h⟩
    · obtain ⟨b, hb, rfl⟩ := map_get he
      rw [List.length_map]; exact hsz i b hb
    · obtain ⟨b, hb, rfl⟩ := map_get he
      obtain ⟨y, hy, rfl⟩ := map_get hx
      rw [hw]
      exact hc i b j y hb hy
    · obtain ⟨b, hb, rfl⟩ := map_get he
      obtain ⟨y, hy, rfl⟩ := map_get hx
      exact ih i b j y hb hy (hi b (List.mem_of_getElem? hb) y (List.mem_of_getElem? hy))
  | arr => cases hi
  | ptr => cases hi
  | iptr => cases hi
  | fn => cases hi
  | iface t a x _ ih =>
    cases hi with
    | iface _ _ hi => exact .iface t _ x (ih hi)

theorem ArgOk.imm {H : Heap} {n : Nat} {a : AVal} (hi : Imm a) : ArgOk H n a (old a) := fun _ _ _ _ _ r _ hw hH => r.old hw hH hi

theorem ArgOk.v (H : Heap) (n : Nat) (x : Value) : ArgOk H n (.v x) (.v x) := fun _ y _ _ _ r _ _ _ => by rw [r.v_inv]; exact .v x

theorem ArgOk.imm' {H : Heap} {n : Nat} {a b : AVal} (hi : Imm a) (h : old a = b) : ArgOk H n a b := h ▸ ArgOk.imm hi

/-- A function's own array as an argument. -/
theorem ArgOk.arr {H : Heap} {n : Nat} {id : Id} {g off len : Nat} {o : Ob} (hl : live H id g = some o) (hi : ∀ e ∈ o.els, ∀ a ∈ e, Imm a) : ArgOk H n (.arr id g off len) (.list false (((o.els.drop off).take len).map fun e => e.map old)) := by
  intro c x hH hn gd r c' hw hc'
  subst hH
  obtain ⟨l1, l2⟩ := live_some hl
  cases r with
  | arr _ _ _ _ _ hone hn hg hp =>
  obtain ⟨p1, ⟨b, aoff, sp⟩, cap, rfl, hab, hsp, hlc, hoff, hcl⟩ := hp o l1 l2
  simp only at hab hsp hoff
  subst hab hsp
  obtain ⟨hB, cl, el, hcell, hfit, hel⟩ := gd.obj id o l1
  have hlen : (((o.els.drop off).take len).map fun e => e.map old).length = len := by simp; omega
  have hget : ∀ (i : Nat) (e : List AVal), (((o.els.drop off).take len).map fun e => e.map old)[i]? = some e → i < len ∧ ∃ e0, o.els[off + i]? = some e0 ∧ e = e0.map old := by
    intro i e he
    obtain ⟨e0, he0, rfl⟩ := map_get he
    rw [List.getElem?_take] at he0
    split at he0
    · rename_i hi
      rw [List.getElem?_drop] at he0
      exact ⟨hi, e0, he0, rfl⟩
    · cases he0
  have := Rep.list (c := c') false (((o.els.drop off).take len).map fun e => e.map old) ⟨c.β id, aoff, none⟩ cap o.size (fun i j => cl.getD ((off + i) * o.size + j) Go.undef) (fun _ => rfl) (by omega) (fun _ => ⟨no_mu hc' _, by rw [hw]; exact gd.lt l1, fun h => by cases h⟩)
    (fun i e he => by obtain ⟨_, e0, he0, rfl⟩ := hget i e he; rw [List.length_map]; exact (hel _ _ he0).1) (fun i e j y he hy => ?_) (fun i e j y he hy => ?_)
  · rw [hlen] at this; exact this
  · obtain ⟨hi, e0, he0, rfl⟩ := hget i e he
    obtain ⟨y0, hy0, rfl⟩ := map_get hy
    obtain ⟨u, hu, hr⟩ := (hel _ _ he0).2 j y0 hy0
    have hao : aoff = off * o.size := by
      rcases hoff with h | h
      · exact h
      · omega
    rw [hw, hao, ← Nat.add_assoc, ← Nat.add_mul]
    simp [World.cell?, hcell, hu, Array.getD_eq_getD_getElem?]
  · obtain ⟨hi2, e0, he0, rfl⟩ := hget i e he
    obtain ⟨y0, hy0, rfl⟩ := map_get hy
    obtain ⟨u, hu, hr⟩ := (hel _ _ he0).2 j y0 hy0
    rw [Array.getD_eq_getD_getElem?, hu]
    exact hr.old hw hc' (hi _ (List.mem_of_getElem? he0) _ (List.mem_of_getElem? hy0))

/-- A result: its own arrays as lists; of lists those alone whose cells are new. -/
inductive Ret (H : Heap) : AVal → AVal → Prop
  | v (x : Value) : Ret H (.v x) (.v x)
  | agg {cs ds : List AVal} (hl : cs.length = ds.length) (h : ∀ (i : Nat) (a b : AVal), cs[i]? = some a → ds[i]? = some b → Ret H a b) : Ret H (.agg cs) (.agg ds)
  | tup {cs ds : List AVal} (hl : cs.length = ds.length) (h : ∀ (i : Nat) (a b : AVal), cs[i]? = some a → ds[i]? = some b → Ret H a b) : Ret H (.tup cs) (.tup ds)
  | list {els fls : List (List AVal)} (hl : els.length = fls.length) (hl' : ∀ (i : Nat) (e f : List AVal), els[i]? = some e → fls[i]? = some f → e.length = f.length)
      (h : ∀ (i : Nat) (e f : List AVal) (j : Nat) (a b : AVal), els[i]? = some e → fls[i]? = some f → e[j]? = some a → f[j]? = some b → Ret H a b) : Ret H (.list true els) (.list true fls)
  | nil (fr : Bool) : Ret H (.v (.slice none 0 0)) (.list fr [])
  | arr {id : Id} {g off len : Nat} {o : Ob} {fls : List (List AVal)} (hlv : live H id g = some o) (hl : ((o.els.drop off).take len).length = fls.length)
      (hl' : ∀ (i : Nat) (e f : List AVal), ((o.els.drop off).take len)[i]? = some e → fls[i]? = some f → e.length = f.length)
      (h : ∀ (i : Nat) (e f : List AVal) (j : Nat) (a b : AVal), ((o.els.drop off).take len)[i]? = some e → fls[i]? = some f → e[j]? = some a → f[j]? = some b → Ret H a b) : Ret H (.arr id g off len) (.list true fls)

theorem get_of_len {α : Type} {l : List α} {i : Nat} (h : i < l.length) : ∃ a, l[i]? = some a := ⟨l[i], List.getElem?_eq_getElem h⟩

theorem Rep.ret {c c' : Ctx} (g : Good c) (hw : c'.w = c.w) (hmu : ∀ k, c'.mu k → k < c.B) (hB : c'.B ≤ c.B) {a b : AVal} (r : Ret c.H a b) : ∀ {x : Value}, Rep c a x → Rep c' b x := by
  induction r with
  | v x => intro y h; rw [h.v_inv]; exact .v x
  | agg hl _ ih =>
    intro x hx
    cases hx with
    | agg _ vs hl' hr =>
    refine .agg _ vs (by omega) fun i b x hb hx => ?_
    have hi := (List.getElem?_eq_some_iff.1 hb).1
    obtain ⟨a, ha⟩ := get_of_len (l := _) (i := i) (by rw [hl]; exact hi)
    exact ih i a b ha hb (hr i a x ha hx)
  | tup hl _ ih =>
    intro x hx
    cases hx with
    | tup _ vs hl' hr =>
    refine .tup _ vs (by omega) fun i b x hb hx => ?_
    have hi := (List.getElem?_eq_some_iff.1 hb).1
    obtain ⟨a, ha⟩ := get_of_len (l := _) (i := i) (by rw [hl]; exact hi)
    exact ih i a b ha hb (hr i a x ha hx)
  | nil fr => intro x hx; rw [hx.v_inv]; exact .lnil fr
  | @list els fls hl hl' _ ih =>
    intro x hx
    cases hx with
    | lnil =>
      have : fls = [] := List.eq_nil_of_length_eq_zero (by simpa using hl.symm)
      subst this
      exact .lnil true
    | list _ _ a cap sz cell hs hcap hm hsz hc hr =>
      have := Rep.list (c := c') true fls a cap sz cell (fun hne => hs (by intro h0; subst h0; exact hne (List.eq_nil_of_length_eq_zero (by simpa using hl.symm)))) (by omega) (fun hne => ?_) (fun i f hf => ?_) (fun i f j y hf hy => ?_) (fun i f j y hf hy => ?_)
      · rw [← hl] at this; exact this
      · have hne' : els ≠ [] := by intro h0; subst h0; exact hne (List.eq_nil_of_length_eq_zero (by simpa using hl.symm))
        obtain ⟨h1, h2, h3⟩ := hm hne'
        refine ⟨fun hmk => ?_, by rw [hw]; exact h2, fun _ => Nat.le_trans hB (h3 rfl)⟩
        have := hmu _ hmk
        have := h3 rfl
        omega
      · have hi := (List.getElem?_eq_some_iff.1 hf).1
        obtain ⟨e, he⟩ := get_of_len (l := els) (i := i) (by omega)
        rw [← hl' i e f he hf]
        exact hsz i e he
      · have hi := (List.getElem?_eq_some_iff.1 hf).1
        obtain ⟨e, he⟩ := get_of_len (l := els) (i := i) (by omega)
        have hj := (List.getElem?_eq_some_iff.1 hy).1
        obtain ⟨z, hz⟩ := get_of_len (l := e) (i := j) (by rw [hl' i e f he hf]; exact hj)
        rw [hw]
        exact hc i e j z he hz
      · have hi := (List.getElem?_eq_some_iff.1 hf).1
        obtain ⟨e, he⟩ := get_of_len (l := els) (i := i) (by omega)
        have hj := (List.getElem?_eq_some_iff.1 hy).1
        obtain ⟨z, hz⟩ := get_of_len (l := e) (i := j) (by rw [hl' i e f he hf]; exact hj)
        exact ih i e f j z y he hf hz hy (hr i e j z he hz)
  | @arr id gg off len o fls hlv hl hl' _ ih =>
    intro x hx
    obtain ⟨l1, l2⟩ := live_some hlv
    cases hx with
    | arr _ _ _ _ _ hone hn hg hp =>
    obtain ⟨p1, ⟨b, aoff, sp⟩, cap, rfl, hab, hsp, hlc, hoff, hcl⟩ := hp o l1 l2
    simp only at hab hsp hoff
    subst hab hsp
    obtain ⟨hBo, cl, el, hcell, hfit, hel⟩ := g.obj id o l1
    have hlen : ((o.els.drop off).take len).length = len := by simp; omega
    have hget : ∀ (i : Nat) (e : List AVal), ((o.els.drop off).take len)[i]? = some e → i < len ∧ o.els[off + i]? = some e := by
      intro i e he
      rw [List.getElem?_take] at he
      split at he
      · rename_i hi
        rw [List.getElem?_drop] at he
        exact ⟨hi, he⟩
      · cases he
    have key : ∀ (i : Nat) (f : List AVal) (j : Nat) (y : AVal), fls[i]? = some f → f[j]? = some y → ∃ e z u, ((o.els.drop off).take len)[i]? = some e ∧ e[j]? = some z ∧ cl[(off + i) * o.size + j]? = some u ∧ Rep c z u ∧ aoff = off * o.size := by
      intro i f j y hf hy
      have hi := (List.getElem?_eq_some_iff.1 hf).1
      obtain ⟨e, he⟩ := get_of_len (l := (o.els.drop off).take len) (i := i) (by omega)
      have hj := (List.getElem?_eq_some_iff.1 hy).1
      obtain ⟨z, hz⟩ := get_of_len (l := e) (i := j) (by rw [hl' i e f he hf]; exact hj)
      obtain ⟨hi2, he0⟩ := hget i e he
      obtain ⟨u, hu, hr⟩ := (hel _ _ he0).2 j z hz
      refine ⟨e, z, u, he, hz, hu, hr, ?_⟩
      rcases hoff with h | h
      · exact h
      · omega
    have := Rep.list (c := c') true fls ⟨c.β id, aoff, none⟩ cap o.size (fun i j => cl.getD ((off + i) * o.size + j) Go.undef) (fun _ => rfl) (by omega) (fun hne => ?_) (fun i f hf => ?_) (fun i f j y hf hy => ?_) (fun i f j y hf hy => ?_)
    · rw [← hl, hlen] at this; exact this
    · refine ⟨fun hmk => ?_, by rw [hw]; exact g.lt l1, fun _ => Nat.le_trans hB hBo⟩
      have := hmu _ hmk
      simp only at this
      omega
    · have hi := (List.getElem?_eq_some_iff.1 hf).1
      obtain ⟨e, he⟩ := get_of_len (l := (o.els.drop off).take len) (i := i) (by omega)
      rw [← hl' i e f he hf]
      exact (hel _ _ (hget i e he).2).1
    · obtain ⟨e, z, u, he, hz, hu, hr, hao⟩ := key i f j y hf hy
      rw [hw, hao, ← Nat.add_assoc, ← Nat.add_mul]
      simp [World.cell?, hcell, hu, Array.getD_eq_getD_getElem?]
    · obtain ⟨e, z, u, he, hz, hu, hr, hao⟩ := key i f j y hf hy
      rw [Array.getD_eq_getD_getElem?, hu]
      exact ih i e f j z y he hf hz hy hr

theorem ResOk.of {H : Heap} {n : Nat} {a b : AVal} (r : Ret H a b) : ResOk H n a b := by
  intro c x hH _ g hx c' hw hmu hB
  subst hH
  exact Rep.ret g hw hmu hB r hx

theorem ResOk.v (H : Heap) (n : Nat) (x : Value) : ResOk H n (.v x) (.v x) := .of (.v x)

/-- All cells of it are new, and none is the call's own. -/
inductive Fresh : AVal → Prop
  | v (x : Value) : Fresh (.v x)
  | agg (cs : List AVal) (h : ∀ a ∈ cs, Fresh a) : Fresh (.agg cs)
  | tup (cs : List AVal) (h : ∀ a ∈ cs, Fresh a) : Fresh (.tup cs)
  | list (els : List (List AVal)) (h : ∀ e ∈ els, ∀ a ∈ e, Fresh a) : Fresh (.list true els)

theorem Ret.fresh {H : Heap} {a : AVal} (h : Fresh a) : Ret H a a := by
  induction h with
  | v x => exact .v x
  | agg cs _ ih => exact .agg rfl fun i a b ha hb => by rw [ha] at hb; cases hb; exact ih a (List.mem_of_getElem? ha)
  | tup cs _ ih => exact .tup rfl fun i a b ha hb => by rw [ha] at hb; cases hb; exact ih a (List.mem_of_getElem? ha)
  | list els _ ih => exact .list rfl (fun i e f he hf => by rw [he] at hf; cases hf; rfl) fun i e f j a b he hf ha hb => by rw [he] at hf; cases hf; rw [ha] at hb; cases hb; exact ih e (List.mem_of_getElem? he) a (List.mem_of_getElem? ha)

/-- An array of the call's own that is handed back. -/
theorem Ret.arrF {H : Heap} {id : Id} {g sz : Nat} {els : List (List AVal)} (hl : live H id g = some ⟨sz, els⟩) (h : ∀ e ∈ els, ∀ a ∈ e, Fresh a) : Ret H (.arr id g 0 g) (.list true els) := by
  obtain ⟨l1, l2⟩ := live_some hl
  simp only at l2
  have e1 : ((Ob.mk sz els).els.drop 0).take g = els := by simp [← l2]
  refine .arr hl (by rw [e1]) (fun i e f he hf => ?_) fun i e f j a b he hf ha hb => ?_
  · rw [e1, hf] at he; cases he; rfl
  · rw [e1, hf] at he; cases he; rw [ha] at hb; cases hb; exact Ret.fresh (h e (List.mem_of_getElem? hf) a (List.mem_of_getElem? ha))

def flat : AVal → Bool
  | .v _ => true
  | _ => false

theorem Fresh.flat {a : AVal} (h : Ab.flat a = true) : Fresh a := by
  cases a <;> simp [Ab.flat] at h
  exact .v _

theorem Imm.flat {a : AVal} (h : Ab.flat a = true) : Imm a := by
  cases a <;> simp [Ab.flat] at h
  exact .v _

section
variable {P : Program} {N : Nat} {fn : Func} {ρ : Env} {H : Heap} {n : Nat}
theorem RetOk.zero (h : fn.results = #[]) : RetOk P N fn ρ H n (.tup []) := fun c a _ _ _ r => ⟨.tuple #[], by simp [results, h], .tup [] [] rfl (by simp)⟩
theorem RetOk.one {t : Tmp} (h : fn.results = #[.tmp t]) : RetOk P N fn ρ H n (ρ t) := fun c a _ _ _ r => ⟨a.tmps.getD t undef, results_tmp h a.tmps P c.w, r.rep t⟩
theorem RetOk.two {t u : Tmp} (h : fn.results = #[.tmp t, .tmp u]) : RetOk P N fn ρ H n (.tup [ρ t, ρ u]) := fun c a _ _ _ r =>
  ⟨.tuple [a.tmps.getD t undef, a.tmps.getD u undef].toArray, by simp [results, h], .tup _ _ rfl fun i b x hb hx => by
    match i with
    | 0 => simp at hb hx; rw [← hb, ← hx]; simpa using r.rep t
    | 1 => simp at hb hx; rw [← hb, ← hx]; simpa using r.rep u
    | i + 2 => simp at hb⟩
theorem RetOk.three {t u v : Tmp} (h : fn.results = #[.tmp t, .tmp u, .tmp v]) : RetOk P N fn ρ H n (.tup [ρ t, ρ u, ρ v]) := fun c a _ _ _ r =>
  ⟨.tuple [a.tmps.getD t undef, a.tmps.getD u undef, a.tmps.getD v undef].toArray, by simp [results, h], .tup _ _ rfl fun i b x hb hx => by
    match i with
    | 0 => simp at hb hx; rw [← hb, ← hx]; simpa using r.rep t
    | 1 => simp at hb hx; rw [← hb, ← hx]; simpa using r.rep u
    | 2 => simp at hb hx; rw [← hb, ← hx]; simpa using r.rep v
    | i + 3 => simp at hb⟩
theorem RetOk.four {t u v q : Tmp} (h : fn.results = #[.tmp t, .tmp u, .tmp v, .tmp q]) : RetOk P N fn ρ H n (.tup [ρ t, ρ u, ρ v, ρ q]) := fun c a _ _ _ r =>
  ⟨.tuple [a.tmps.getD t undef, a.tmps.getD u undef, a.tmps.getD v undef, a.tmps.getD q undef].toArray, by simp [results, h], .tup _ _ rfl fun i b x hb hx => by
    match i with
    | 0 => simp at hb hx; rw [← hb, ← hx]; simpa using r.rep t
    | 1 => simp at hb hx; rw [← hb, ← hx]; simpa using r.rep u
    | 2 => simp at hb hx; rw [← hb, ← hx]; simpa using r.rep v
    | 3 => simp at hb hx; rw [← hb, ← hx]; simpa using r.rep q
    | i + 4 => simp at hb⟩
end

section
variable {P : Program} {f : FuncId} {N : Nat} {k : List Item} {ρ : Env} {H : Heap} {n : Nat} {Q : AVal → Heap → Nat → Prop}

/-- A loop that counts up. -/
theorem Runs.loopUp {x : Code} (len : Nat) (I : Nat → Env → Heap → Nat → Prop) (h0 : I 0 ρ H n)
    (step : ∀ i ρ H n, i ≤ len → I i ρ H n → (i < len → ∀ ρ' H' n', I (i + 1) ρ' H' n' → Runs P f N (.inLoop x :: k) ρ' H' n' Q) → Runs P f N (.code x :: .inLoop x :: k) ρ H n Q) :
    Runs P f N (.code (.loop x) :: k) ρ H n Q := by
  have key : ∀ m i ρ H n, i + m = len → I i ρ H n → Runs P f N (.code x :: .inLoop x :: k) ρ H n Q := by
    intro m
    induction m with
    | zero => intro i ρ H n hi hI; exact step i ρ H n (by omega) hI (fun h => by omega)
    | succ m ih => intro i ρ H n hi hI; exact step i ρ H n (by omega) hI (fun _ ρ' H' n' hI' => Runs.inLoop (ih (i + 1) ρ' H' n' (by omega) hI'))
  exact Runs.loop (key len 0 ρ H n (by omega) h0)

/-- A loop with a measure. -/
theorem Runs.loopM {x : Code} (I : Nat → Env → Heap → Nat → Prop) (m : Nat) (h0 : I m ρ H n)
    (step : ∀ m ρ H n, I m ρ H n → (∀ m' ρ' H' n', m' < m → I m' ρ' H' n' → Runs P f N (.inLoop x :: k) ρ' H' n' Q) → Runs P f N (.code x :: .inLoop x :: k) ρ H n Q) :
    Runs P f N (.code (.loop x) :: k) ρ H n Q := by
  have key : ∀ m ρ H n, I m ρ H n → Runs P f N (.code x :: .inLoop x :: k) ρ H n Q := by
    intro m
    induction m using Nat.strongRecOn with
    | _ m ih => intro ρ H n hI; exact step m ρ H n hI (fun m' ρ' H' n' hm hI' => Runs.inLoop (ih m' hm ρ' H' n' hI'))
  exact Runs.loop (key m ρ H n h0)

/-- A test. -/
theorem Runs.ite {t : Operand} {x y : Code} {b : Bool} (hb : ρ.ev t = .v (.bool b)) (hy : b = true → Runs P f N (.code x :: k) ρ H n Q) (hn : b = false → Runs P f N (.code y :: k) ρ H n Q) : Runs P f N (.code (.cond t x y) :: k) ρ H n Q := by
  cases b with
  | true => exact Runs.cond hb (hy rfl)
  | false => exact Runs.cond hb (hn rfl)

/-- What is told may be told less of. -/
theorem Runs.seq_cut {x y : Code} (R : Env → Heap → Nat → Prop) (hx : (∀ ρ H n, R ρ H n → Runs P f N (.code y :: k) ρ H n Q) → Runs P f N (.code x :: .code y :: k) ρ H n Q) (hy : ∀ ρ H n, R ρ H n → Runs P f N (.code y :: k) ρ H n Q) : Runs P f N (.code (.seq x y) :: k) ρ H n Q := Runs.seq (hx hy)
end

theorem wrap64 {x : Int} (h1 : -9223372036854775808 ≤ x) (h2 : x ≤ 9223372036854775807) : IntKind.i64.wrap x = x := by
  simp only [IntKind.wrap, IntKind.bits, IntKind.signed]
  simp only [Bool.true_and]
  split <;> rename_i h <;> simp at h <;> omega

theorem wrap_succ {k : Nat} (h : k < 4611686018427387904) : IntKind.i64.wrap ((k : Int) + 1) = ((k + 1 : Nat) : Int) := by
  rw [wrap64 (by omega) (by omega)]; omega

section
variable {P : Program} {f : FuncId} {N : Nat} {k : List Item} {ρ : Env} {H : Heap} {n : Nat} {Q : AVal → Heap → Nat → Prop} {Ty : Types}

/-- A region and then the rest, which is out of sight while the region is evaluated. -/
theorem Runs.seqE (hT : TypesOk P Ty) {id : Nat} {ops : List Oper} {y : Code} (hN : ops.all (fun o => dok N o.dst) = true)
    (h : ∀ k' : List Item, (∀ ρ H n, Runs P f N (.code y :: k) ρ H n Q → Runs P f N k' ρ H n Q) → evalK P f N k' Q Ty ops.toArray ops ρ H n) : Runs P f N (.code (.seq (.region id ops.toArray false) y) :: k) ρ H n Q :=
  Runs.seq (Runs.eval hT hN (h (.code y :: k) fun _ _ _ h => h))

/-- A region, and then the rest, likewise. -/
theorem Runs.evalE (hT : TypesOk P Ty) {id : Nat} {ops : List Oper} (hN : ops.all (fun o => dok N o.dst) = true)
    (h : ∀ k' : List Item, (∀ ρ H n, Runs P f N k ρ H n Q → Runs P f N k' ρ H n Q) → evalK P f N k' Q Ty ops.toArray ops ρ H n) : Runs P f N (.code (.region id ops.toArray false) :: k) ρ H n Q :=
  Runs.eval hT hN (h k fun _ _ _ h => h)
end

theorem getD_map {α : Type} [Inhabited α] {f : α → List AVal} {l : List α} {i : Nat} (h : i < l.length) : (l.map f).getD i [] = f (l.getD i default) := by
  simp [List.getD, List.getElem?_eq_getElem h]

/-- What a body that only reads and makes owes at its returns. -/
def Post (R : AVal → Prop) (Q : AVal → Heap → Nat → Prop) : Prop := ∀ v H n r, ResOk H n v r → R r → Q v H n

theorem PureC.of {P : Program} {f : FuncId} {fn : Func} {body : Code} {args : List AVal} {R : AVal → Prop} {N : Nat} (hfn : P.funcs[f]? = some fn) (hb : fn.body = some body) (hn : fn.ntmps = N) (hN : args.length ≤ N)
    (h : ∀ Q, Post R Q → Runs P f N [.code body] (argEnv args) noHeap 0 Q) : PureC P f args R := by
  subst hn
  exact PureC.of_runs hfn hb hN (h _ fun v H n r h1 h2 => ⟨r, h1, h2⟩)

attribute [simp] Heap.set_set evalK_guard stepF guardOf Env.put_get Env.put_none Env.ev constA argEnv Heap.get_set viewOf live loadA partA fillA splice cellsA one1 one buildF chunks intBin strBin binF boolBin unF convF lenF indexAddrF indexF boundOf sliceF storeF ptrAdd Ob.write srcOf appendF makeF

end Go.Ab
