/- The abstract machine, part R: what a row's reading tells, as abstract values; and back. -/
import Derived.Test.YtgmjebjcomckaaaDoorAbN
import Derived.ProofKit
import Derived.LaidMore
import Derived.OpenShut
import Derived.Lay
import Derived.Stop.Joined
namespace Go.Ab
open Go.RowKit Go.ChangeAt Go.WideShapes Go.ChangeShapes

def RepC (w : World) (as : List AVal) (cs : List Value) : Prop :=
  as.length = cs.length ∧ ∀ (c : Ctx), c.w = w → (∀ id, c.H id = none) → ∀ (j : Nat) (a : AVal) (x : Value), as[j]? = some a → cs[j]? = some x → Rep c a x

/-- All data of a type, as values of a Lean type. -/
def Reader (P : Program) (t : TypeId) {α : Type} (e : α → List AVal) (ok : α → Prop) : Prop :=
  ∀ (H : Type) (enc : TypeId × Value → H) (w : World) (base : Nat) (spare : Nat → Bool) (held : Bool) (fuel : Nat) (cs : List Value) (x : DataW H × List MemPlace), DataW.trod enc P w base spare held fuel t cs = some x → ∃ a, ok a ∧ RepC w (e a) cs

section
variable {P : Program} {t : TypeId}
theorem RepC.v (w : World) (x : Value) : RepC w [.v x] [x] := ⟨rfl, fun _ _ _ j a y ha hy => by
  match j with
  | 0 => simp at ha hy; subst ha hy; exact .v _
  | j + 1 => simp at ha⟩

theorem Reader.int (hu : P.underlying t = some (.int .i64)) : Reader P t (fun n : Int => [int n]) (fun n => -9223372036854775808 ≤ n ∧ n ≤ 9223372036854775807) := by
  intro H enc w base spare held fuel cs x h
  obtain ⟨n, rfl, _, hw⟩ := DataW.trod_int hu h
  refine ⟨n, ?_, RepC.v w _⟩
  simp [Lit.wf] at hw
  have h1 : IntKind.i64.min = -9223372036854775808 := by decide
  have h2 : IntKind.i64.max = 9223372036854775807 := by decide
  omega

theorem Reader.bool (hu : P.underlying t = some .bool) : Reader P t (fun b : Bool => [Ab.bool b]) (fun _ => True) := by
  intro H enc w base spare held fuel cs x h
  obtain ⟨b, rfl, _⟩ := DataW.trod_bool hu h
  exact ⟨b, trivial, RepC.v w _⟩

theorem Reader.str (hu : P.underlying t = some .string) : Reader P t (fun s : Str => [Ab.str s]) (fun s => s.length ≤ 9223372036854775807) := by
  intro H enc w base spare held fuel cs x h
  obtain ⟨s, rfl, _, hs⟩ := DataW.trod_string hu h
  have hm : maxLen = 9223372036854775807 := by decide
  refine ⟨s.data.toList, ?_, ?_⟩
  · have : s.data.toList.length = s.size := rfl
    omega
  exact RepC.v w (.string s)

theorem Reader.map {α β : Type} {e : α → List AVal} {ok : α → Prop} {e' : β → List AVal} {ok' : β → Prop} (h : Reader P t e ok) (f : α → β) (he : ∀ a, e' (f a) = e a) (hok : ∀ a, ok a → ok' (f a)) : Reader P t e' ok' := by
  intro H enc w base spare held fuel cs x hx
  obtain ⟨a, h1, h2⟩ := h H enc w base spare held fuel cs x hx
  exact ⟨f a, hok a h1, by rw [he]; exact h2⟩

/-- The fields of a struct. -/
def FReader (P : Program) (fs : List Field) (off total : Nat) {α : Type} (e : α → List AVal) (ok : α → Prop) : Prop :=
  ∀ (H : Type) (enc : TypeId × Value → H) (w : World) (base : Nat) (spare : Nat → Bool) (held : Bool) (fuel : Nat) (cs : List Value), cs.length = total → (∀ f ∈ fs, ∃ x, DataW.trod enc P w base spare held fuel f.type ((cs.drop f.offset).take (P.cellsOf f.type)) = some x) → ∃ a, ok a ∧ RepC w (e a) (cs.drop off)

theorem FReader.nil (n : Nat) : FReader P [] n n (fun _ : Unit => []) (fun _ => True) := by
  intro H enc w base spare held fuel cs hl _
  refine ⟨(), trivial, ?_⟩
  rw [List.drop_of_length_le (by omega)]
  exact ⟨rfl, fun _ _ _ j a x ha => by simp at ha⟩

theorem RepC.append {w : World} {as bs : List AVal} {cs ds : List Value} (h : RepC w as cs) (k : RepC w bs ds) : RepC w (as ++ bs) (cs ++ ds) := by
  refine ⟨by simp [h.1, k.1], fun c hw hH j a x ha hx => ?_⟩
  rcases Nat.lt_or_ge j as.length with hj | hj
  · rw [List.getElem?_append_left hj] at ha
    rw [List.getElem?_append_left (by rw [← h.1]; exact hj)] at hx
    exact h.2 c hw hH j a x ha hx
  · rw [List.getElem?_append_right hj] at ha
    rw [List.getElem?_append_right (by rw [← h.1]; exact hj), ← h.1] at hx
    exact k.2 c hw hH _ a x ha hx

theorem FReader.cons {f : Field} {fs : List Field} {off n total : Nat} {α β : Type} {e : α → List AVal} {ok : α → Prop} {e' : β → List AVal} {ok' : β → Prop} (ho : f.offset = off) (hn : P.cellsOf f.type = n) (h : Reader P f.type e ok) (k : FReader P fs (off + n) total e' ok') :
    FReader P (f :: fs) off total (fun p : α × β => e p.1 ++ e' p.2) (fun p => ok p.1 ∧ ok' p.2) := by
  intro H enc w base spare held fuel cs hl hx
  obtain ⟨x, h1⟩ := hx f (by simp)
  obtain ⟨a, ha, hra⟩ := h H enc w base spare held fuel _ x h1
  obtain ⟨b, hb, hrb⟩ := k H enc w base spare held fuel cs hl (fun g hg => hx g (by simp [hg]))
  refine ⟨(a, b), ⟨ha, hb⟩, ?_⟩
  have := RepC.append hra hrb
  rw [ho, hn, ← List.drop_drop, List.take_append_drop] at this
  exact this

theorem Reader.struct {fs : Array Field} {α : Type} {e : α → List AVal} {ok : α → Prop} {n : Nat} (hu : P.underlying t = some (.struct fs)) (hn : P.cellsOf t = n) (h : FReader P fs.toList 0 n e ok) : Reader P t e ok := by
  intro H enc w base spare held fuel cs x hx
  obtain ⟨xs, m, _, _, hl, hxl, hf⟩ := DataW.trod_struct hu hx
  obtain ⟨a, ha, hr⟩ := h H enc w base spare held m cs (hl.trans hn) (fun f hm => by
    obtain ⟨i, hi⟩ := List.getElem?_of_mem hm
    have hlt : i < xs.length := by rw [hxl]; simpa using (List.getElem?_eq_some_iff.1 hi).1
    exact ⟨xs[i], by rw [hf i f (by simpa using hi)]; exact List.getElem?_eq_getElem hlt⟩)
  exact ⟨a, ha, hr⟩

theorem exists_list {α : Type} {Q : Nat → α → Prop} : ∀ n, (∀ i, i < n → ∃ a, Q i a) → ∃ l : List α, l.length = n ∧ ∀ i a, l[i]? = some a → Q i a
  | 0, _ => ⟨[], rfl, by simp⟩
  | n + 1, h => by
    obtain ⟨l, hl, hq⟩ := exists_list n fun i hi => h i (by omega)
    obtain ⟨a, ha⟩ := h n (by omega)
    refine ⟨l ++ [a], by simp [hl], fun i b hb => ?_⟩
    rcases Nat.lt_or_ge i n with hi | hi
    · rw [List.getElem?_append_left (by omega)] at hb; exact hq i b hb
    · rw [List.getElem?_append_right (by omega)] at hb
      have : i - l.length = 0 := by
        rcases Nat.eq_zero_or_pos (i - l.length) with h | h
        · exact h
        · rw [List.getElem?_eq_none (by simp; omega)] at hb; cases hb
      rw [this] at hb
      simp at hb
      subst hb
      rw [show i = n by omega]
      exact ha

theorem cells_get {w : World} {base n : Nat} {a : Addr} {cs : List Value} (h : w.cells? base a n = some cs) : cs.length = n ∧ ∀ (j : Nat) x, cs[j]? = some x → w.cell? (a.add j) = some x := by
  unfold World.cells? at h
  split at h
  · have hl := mapM_some_length h
    simp at hl
    refine ⟨hl, fun j x hx => ?_⟩
    have hj : j < n := by rw [← hl]; exact (List.getElem?_eq_some_iff.1 hx).1
    rw [mapM_some_get h j j (by simp [hj]), hx]
  · cases h

theorem Reader.slice {t' : TypeId} {α : Type} {e : α → List AVal} {ok : α → Prop} (hu : P.underlying t = some (.slice t')) (hpos : 0 < P.cellsOf t') (h : Reader P t' e ok) :
    Reader P t (fun l : List α => [.list false (l.map e)]) (fun l => l.length ≤ 9223372036854775807 ∧ ∀ a ∈ l, ok a) := by
  intro H enc w base spare held fuel cs x hx
  rcases DataW.trod_slice hu hx with ⟨rfl, _⟩ | ⟨a, len, cap, elems, rest, n, _, rfl, _, _, hlc, hcm, hel, hat, _, _⟩
  · refine ⟨[], ⟨by simp, by simp⟩, rfl, fun c hw hH j y z hy hz => ?_⟩
    match j with
    | 0 => simp at hy hz; subst hy hz; exact .lnil false
    | j + 1 => simp at hy
  · have hall : ∀ i, i < len → ∃ b, ok b ∧ ∃ ci, w.cells? base (a.add (i * P.cellsOf t')) (P.cellsOf t') = some ci ∧ RepC w (e b) ci := by
      intro i hi
      have := hat i hi
      rw [List.getElem?_eq_getElem (by omega)] at this
      cases hc : w.cells? base (a.add (i * P.cellsOf t')) (P.cellsOf t') with
      | none => rw [hc] at this; cases this
      | some ci =>
        rw [hc] at this
        obtain ⟨b, hb, hr⟩ := h H enc w base spare held n ci _ this
        exact ⟨b, hb, ci, rfl, hr⟩
    obtain ⟨l, hl, hq⟩ := exists_list len hall
    have hm : maxLen = 9223372036854775807 := by decide
    have hl9 : l.length ≤ 9223372036854775807 := by omega
    refine ⟨l, ⟨hl9, fun b hb => ?_⟩, rfl, fun c hw hH j y z hy hz => ?_⟩
    · obtain ⟨i, hi⟩ := List.getElem?_of_mem hb
      exact (hq i b hi).1
    match j with
    | j + 1 => simp at hy
    | 0 =>
    simp at hy hz
    subst hy hz
    have hcell : ∀ (i : Nat) b, l[i]? = some b → ∃ ci, RepC w (e b) ci ∧ ci.length = P.cellsOf t' ∧ ∀ (q : Nat) x, ci[q]? = some x → w.cell? ((a.add (i * P.cellsOf t')).add q) = some x := by
      intro i b hb
      obtain ⟨_, ci, h1, h2⟩ := hq i b hb
      obtain ⟨h3, h4⟩ := cells_get h1
      exact ⟨ci, h2, h3, h4⟩
    have hfirst : l ≠ [] → a.spot = none ∧ a.block < w.heap.size := by
      intro hne
      obtain ⟨b, hb⟩ : ∃ b, l[0]? = some b := get_of_len (List.length_pos_iff.2 hne)
      obtain ⟨ci, _, h3, h4⟩ := hcell 0 b hb
      obtain ⟨x, hx⟩ : ∃ x, ci[0]? = some x := get_of_len (by omega)
      have := h4 0 x hx
      constructor
      · simpa [Addr.add] using World.cell?_spot this
      · have h5 := this
        unfold World.cell? at h5
        rcases Nat.lt_or_ge a.block w.heap.size with hlt | hge
        · exact hlt
        · have : w.heap[a.block]? = none := Array.getElem?_eq_none hge
          simp [Addr.add, this] at h5
    have key : ∀ (i : Nat) (b : α) (q : Nat) (y : AVal), l[i]? = some b → (e b)[q]? = some y → ∃ x, w.cell? ⟨a.block, a.off + (i * P.cellsOf t' + q), none⟩ = some x ∧ Rep c y x := by
      intro i b q y hb hy
      obtain ⟨ci, hr, h3, h4⟩ := hcell i b hb
      have hql : q < ci.length := by rw [← hr.1]; exact (List.getElem?_eq_some_iff.1 hy).1
      obtain ⟨x, hx⟩ := get_of_len hql
      refine ⟨x, ?_, hr.2 c hw hH q y x hy hx⟩
      have h5 := h4 q x hx
      have hsp := (hfirst (by intro h0; subst h0; simp at hb)).1
      obtain ⟨b0, o0, s0⟩ := a
      simp only at hsp
      subst hsp
      simp only [Addr.add_lit] at h5
      rw [← Nat.add_assoc]
      exact h5
    have := Rep.list (c := c) false (l.map e) a cap (P.cellsOf t') (fun i q => (w.cell? ⟨a.block, a.off + (i * P.cellsOf t' + q), none⟩).getD Go.undef) (fun hne => (hfirst (by intro h0; subst h0; simp at hne)).1) (by simp; omega)
      (fun hne => ⟨no_mu hH _, by rw [hw]; exact (hfirst (by intro h0; subst h0; simp at hne)).2, fun h => by cases h⟩)
      (fun i el he => by
        obtain ⟨b, hb, rfl⟩ := map_get he
        obtain ⟨ci, hr, h3, _⟩ := hcell i b hb
        rw [hr.1, h3])
      (fun i el q y he hy => by
        obtain ⟨b, hb, rfl⟩ := map_get he
        obtain ⟨x, hx, _⟩ := key i b q y hb hy
        rw [hw, hx]
        rfl)
      (fun i el q y he hy => by
        obtain ⟨b, hb, rfl⟩ := map_get he
        obtain ⟨x, hx, hr⟩ := key i b q y hb hy
        rw [hx]
        exact hr)
    rw [List.length_map, hl] at this
    exact this

/-- The same of an argument. -/
def ArgR (P : Program) (t : TypeId) {α : Type} (e : α → AVal) (ok : α → Prop) : Prop :=
  ∀ (H : Type) (enc : TypeId × Value → H) (W : World) (base : Nat) (v : Value) (d : DataW H) (p : List MemPlace), Value.okWide P W .any base t v → DataW.Trod enc P W 0 (fun _ => true) true t v d p →
    ∃ a, ok a ∧ ∀ c : Ctx, c.w = W → (∀ id, c.H id = none) → Rep c (e a) v

theorem ArgR.struct {fs : Array Field} {α : Type} {e : α → List AVal} {ok : α → Prop} (hu : P.underlying t = some (.struct fs)) (h : Reader P t e ok) : ArgR P t (fun a => .agg (e a)) ok := by
  intro H enc W base v d p hv ⟨fuel, hd⟩
  obtain ⟨a, ha, hl, hr⟩ := h H enc W 0 _ true fuel _ _ hd
  refine ⟨a, ha, fun c hw hH => ?_⟩
  simp only [Value.okWide, hu] at hv
  obtain ⟨cs, rfl, _, _⟩ := hv
  have := Rep.agg (c := c) (e a) cs.toList (by simpa [Value.cells] using hl) (fun i b x hb hx => hr c hw hH i b x hb (by simpa [Value.cells] using hx))
  simpa using this

theorem ArgR.cell {α : Type} {x : α → AVal} {ok : α → Prop} (hc : ∀ (W : World) (base : Nat) (v : Value), Value.okWide P W .any base t v → v.cells = #[v]) (h : Reader P t (fun a => [x a]) ok) : ArgR P t x ok := by
  intro H enc W base v d p hv ⟨fuel, hd⟩
  obtain ⟨a, ha, hl, hr⟩ := h H enc W 0 _ true fuel _ _ hd
  refine ⟨a, ha, fun c hw hH => ?_⟩
  exact hr c hw hH 0 _ v rfl (by rw [hc W base v hv]; rfl)

theorem cell_int {k : IntKind} (hu : P.underlying t = some (.int k)) (W : World) (base : Nat) (v : Value) (h : Value.okWide P W .any base t v) : v.cells = #[v] := by
  simp only [Value.okWide, hu, Cell.okWide] at h
  cases v <;> first | rfl | (simp [Cell.ok, hu] at h)
theorem cell_bool (hu : P.underlying t = some .bool) (W : World) (base : Nat) (v : Value) (h : Value.okWide P W .any base t v) : v.cells = #[v] := by
  simp only [Value.okWide, hu, Cell.okWide] at h
  cases v <;> first | rfl | (simp [Cell.ok, hu] at h)
theorem cell_string (hu : P.underlying t = some .string) (W : World) (base : Nat) (v : Value) (h : Value.okWide P W .any base t v) : v.cells = #[v] := by
  simp only [Value.okWide, hu, Cell.okWide] at h
  cases v <;> first | rfl | (simp [Cell.ok, hu] at h)
theorem cell_slice {e : TypeId} (hu : P.underlying t = some (.slice e)) (W : World) (base : Nat) (v : Value) (h : Value.okWide P W .any base t v) : v.cells = #[v] := by
  simp only [Value.okWide, hu, Cell.okWide] at h
  cases v <;> first | rfl | (simp [Cell.ok, hu] at h)

/-- The same of all arguments. -/
def ArgsR (P : Program) (ts : List TypeId) {α : Type} (e : α → List AVal) (ok : α → Prop) : Prop :=
  ∀ (H : Type) (enc : TypeId × Value → H) (W : World) (base : Nat) (vs : List Value) (ds : List (DataW H)) (p : List MemPlace), (∀ (j : Nat) t v, ts[j]? = some t → vs[j]? = some v → Value.okWide P W .any base t v) →
    DataW.TrodAll enc P W 0 (fun _ => true) true ts vs ds p → ∃ a, ok a ∧ ∀ c : Ctx, c.w = W → (∀ id, c.H id = none) → RepL c (e a) vs

theorem ArgsR.nil : ArgsR P [] (fun _ : Unit => []) (fun _ => True) := by
  intro H enc W base vs ds p _ h
  obtain ⟨rfl, _, _⟩ := ChangeShapes.trodAll_nil h
  exact ⟨(), trivial, fun c _ _ => ⟨rfl, fun i a x ha => by simp at ha⟩⟩

theorem ArgsR.cons {ts : List TypeId} {α β : Type} {e : α → AVal} {ok : α → Prop} {e' : β → List AVal} {ok' : β → Prop} (h : ArgR P t e ok) (k : ArgsR P ts e' ok') : ArgsR P (t :: ts) (fun p : α × β => e p.1 :: e' p.2) (fun p => ok p.1 ∧ ok' p.2) := by
  intro H enc W base vs ds p hv hA
  obtain ⟨v, vs', d, ds', q1, q2, rfl, rfl, rfl, h1, h2⟩ := ChangeShapes.trodAll_cons hA
  obtain ⟨a, ha, hr⟩ := h H enc W base v d q1 (hv 0 t v rfl rfl) h1
  obtain ⟨b, hb, hs⟩ := k H enc W base vs' ds' q2 (fun j u x hu hx => hv (j + 1) u x (by simpa using hu) (by simpa using hx)) h2
  refine ⟨(a, b), ⟨ha, hb⟩, fun c hw hH => ?_⟩
  have r1 := hr c hw hH
  obtain ⟨r2, r3⟩ := hs c hw hH
  refine ⟨by simp [r2], fun i y x hy hx => ?_⟩
  match i with
  | 0 => simp at hy hx; subst hy hx; exact r1
  | i + 1 => exact r3 i y x (by simpa using hy) (by simpa using hx)

/-- A contract, as what the model's call does. -/
theorem PureC.calls {f : FuncId} {args : List AVal} {x : Value} (h : PureC P f args (fun r => r = .v x)) (W : World) (xs : List Value) (hr : ∀ c : Ctx, c.w = W → (∀ id, c.H id = none) → RepL c args xs) :
    Calls P f xs.toArray W fun e W' => e = .returned x ∧ Below W.heap.size W W' := by
  refine (h ⟨W.heap.size, fun _ => 0, noHeap, 0, W⟩ xs rfl rfl (good_bare W) (hr _ rfl (fun _ => rfl))).mono ?_
  rintro e w' ⟨y, v, c', he, hw, ⟨r, hres, hR⟩, hv, hg, hk⟩
  subst hw hR
  have hy := (hres c' y rfl rfl hg hv ⟨0, fun _ => 0, noHeap, 0, c'.w⟩ rfl (fun k hk => by obtain ⟨id, o, ho, _⟩ := hk; cases ho) (Nat.zero_le _)).v_inv
  subst hy
  exact ⟨he, hk.os, hk.tape, hk.output, hk.size, fun k hk' => (hk.imm k hk' (by rintro ⟨id, o, ho, _⟩; cases ho)).1⟩

theorem Below.trodAll {H : Type} {enc : TypeId × Value → H} (hl : laidOutB P = true) {W W' : World} (hb : Below W.heap.size W W') : ∀ {ts : List TypeId} {vs : List Value} {ds : List (DataW H)} {ps : List MemPlace},
    ts.all (fun t => P.readableRec t && decide (t < P.types.size)) = true → DataW.TrodAll enc P W 0 (fun _ => true) true ts vs ds ps → (∀ x ∈ ps, x.block < W.heap.size) → DataW.TrodAll enc P W' 0 (fun b => decide (b < W.heap.size)) true ts vs ds ps
  | [], vs, ds, ps, _, h, _ => by
    obtain ⟨rfl, rfl, rfl⟩ := ChangeShapes.trodAll_nil h
    exact rfl
  | t :: ts, vs, ds, ps, hr, h, hp => by
    obtain ⟨v, vs', d, ds', q1, q2, rfl, rfl, rfl, h1, h2⟩ := ChangeShapes.trodAll_cons h
    simp only [List.all_cons, Bool.and_eq_true, decide_eq_true_eq] at hr
    exact ⟨q1, q2, Go.RowKit.Below.trod hl hr.1.1 hr.1.2 h1 hb (fun x hx => hp x (by simp [hx])), Below.trodAll hl hb (by simpa using hr.2) h2 (fun x hx => hp x (by simp [hx])), rfl⟩

/-- WHAT A ROW OWES BEHIND A CALL THAT ANSWERS 'true' AND LEAVES OLD MEMORY ALONE. -/
theorem post_true {H : Type} {enc : TypeId × Value → H} {fn : Func} {s : ChangeSpec} {fresh handsOn : Bool} {W W' : World} {args : Array Value} {ds gs : List (DataW H)} {before : List MemPlace} {tb : TypeId}
    (hl : laidOutB P = true) (hvars : s.vars = []) (hrt : fn.resultTypes = #[tb]) (htb : P.underlying tb = some .bool) (hread : fn.params.toList.all (fun t => P.readableRec t && decide (t < P.types.size)) = true)
    (hres : (s.fn H ds).results = [.lit (.bool true)]) (hargs : (s.fn H ds).args = ds) (hvs : (s.fn H ds).vars = []) (hW : DataW.Whole enc P fn.params.toList s.vars false W args.toList ds gs before) (hb : Below W.heap.size W W') :
    s.post enc P fn false fresh handsOn false W args (.bool true) W' := by
  have hlt : ∀ x ∈ before, x.block < W.heap.size := fun x hx => by simpa using hW.lt x hx
  have hW0 := hW
  obtain ⟨p, q, hA, hV, rfl, _, _⟩ := hW0
  rw [hvars] at hV
  obtain ⟨hgs, hq⟩ := ChangeShapes.trodVars_none hV
  subst hgs hq
  refine ⟨ds, [], p ++ [], [], p, [], hW, ?_, ?_, ?_, hb.frame _, fun h => by cases h⟩
  · rw [List.append_nil, hres, hrt]
    exact ChangeShapes.trodAll_mk1 (shut_bool htb true)
  · rw [List.append_nil, hargs]
    exact Below.trodAll hl hb hread hA (fun x hx => hlt x (by simp [hx]))
  · rw [List.append_nil, hvs, hvars]
    exact rfl

theorem trodAll_len {H : Type} {enc : TypeId × Value → H} {w : World} {base : Nat} {sp : Nat → Bool} {hd : Bool} : ∀ {ts : List TypeId} {vs : List Value} {ds : List (DataW H)} {ps : List MemPlace}, DataW.TrodAll enc P w base sp hd ts vs ds ps → ds.length = ts.length
  | [], vs, ds, ps, h => by obtain ⟨_, rfl, _⟩ := ChangeShapes.trodAll_nil h; rfl
  | t :: ts, vs, ds, ps, h => by
    obtain ⟨v, vs', d, ds', q1, q2, rfl, rfl, rfl, h1, h2⟩ := ChangeShapes.trodAll_cons h
    simp [trodAll_len h2]
end

/-- A LAW WHOSE CONTRACT IS PROVED, AS ITS ROW's MAIN PROOF. -/
theorem lift_law {C : Checked} {os : Os} {f : FuncId} {fn : Func} {s : ChangeSpec} {laid : List (String × DataW Unit)} {α : Type} {e : α → List AVal} {ok : α → Prop} {tb : TypeId} {H : Type} {enc : TypeId × Value → H}
    (own : ownKnob C.prog.godebug = none) (started : os.Started) (hinit : C.prog.inits.idxOf? f = none) (hfn : C.prog.funcs[f]? = some fn) (hl : laidOutB C.prog = true)
    (wit : ∃ (w : World) (tape : Tape) (i : Input), w.os = os ∧ (w.forCall tape i).Shaped C.prog ∧ i.vars = [] ∧ Input.okWide C.prog (w.forCall tape i) .any w.heap.size f i ∧
      ((s.pre enc C.prog fn [] false (w.forCall tape i).memory i.args ∧ laidMetH C.prog laid (w.forCall tape i).memory) ∧ sizedMet enc C.prog fn (OpenSpec.ofChange s) false (w.forCall tape i).memory i.args) ∧ ({} : Assume).holds C.prog (lone (Frame.enter C.prog f i.args .normal) [] (w.forCall tape i)))
    (hR : ArgsR C.prog fn.params.toList e ok) (hlaw : ∀ a, ok a → PureC C.prog f (e a) (fun r => r = .v (.bool true)))
    (hvars : s.vars = []) (hrt : fn.resultTypes = #[tb]) (htb : C.prog.underlying tb = some .bool) (hread : fn.params.toList.all (fun t => C.prog.readableRec t && decide (t < C.prog.types.size)) = true)
    (hs : ∀ ds : List (DataW H), ds.length = fn.params.toList.length → (s.fn H ds).results = [.lit (.bool true)] ∧ (s.fn H ds).args = ds ∧ (s.fn H ds).vars = []) :
    ReturnsInHanded {} C os f .any (fun w args => (s.pre enc C.prog fn [] false w args ∧ laidMetH C.prog laid w) ∧ sizedMet enc C.prog fn (OpenSpec.ofChange s) false w args)
      (s.post enc C.prog fn false true false false) := by
  refine returnsInHanded_of_change_and (C := C) (X := fun w _ => laidMetH C.prog laid w) (fun _ _ _ hh h => h.of_heap hh) own started hinit hfn wit ?_
  intro W base args ds gs before hval hW _ _ _ _
  have hW0 := hW
  obtain ⟨p, q, hA, _, _, _, _⟩ := hW0
  have hlen := trodAll_len hA
  obtain ⟨a, ha, hr⟩ := hR H enc W base args.toList ds p (fun j t v ht hv => hval j t v (by simpa using ht) (by simpa using hv)) hA
  obtain ⟨h1, h2, h3⟩ := hs ds hlen
  have hc := PureC.calls (hlaw a ha) W args.toList hr
  rw [Array.toArray_toList] at hc
  refine hc.mono ?_
  rintro e W' ⟨he, hb⟩
  exact ⟨_, he, post_true hl hvars hrt htb hread h1 h2 h3 hW hb⟩
end Go.Ab
