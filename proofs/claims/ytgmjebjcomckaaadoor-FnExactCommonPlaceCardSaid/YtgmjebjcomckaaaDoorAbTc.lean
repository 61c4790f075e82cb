/- The abstract machine, part Tc: functions that turn a caller's own arrays; arrays that are turned from the left. -/
import Derived.Test.YtgmjebjcomckaaaDoorAbTb
namespace Go.Ab

theorem OwnL.flatInv {H : Heap} : ∀ {as bs : List AVal} {S : List Id}, OwnL (Own H 0) as bs S → as = bs ∧ S = []
  | [], [], _, h => ⟨rfl, h⟩
  | _ :: _, _ :: _, _, ⟨_, _, ⟨⟨x, h1, h2⟩, h3⟩, h4, h5, _⟩ => by
    obtain ⟨h6, h7⟩ := OwnL.flatInv h4
    subst h1 h2 h3 h5 h6 h7
    exact ⟨rfl, rfl⟩
  | [], _ :: _, _, h => h.elim
  | _ :: _, [], _, h => h.elim

theorem OwnLL.flatInv {H : Heap} : ∀ {as bs : List (List AVal)} {S : List Id}, OwnLL (Own H 0) as bs S → as = bs ∧ S = []
  | [], [], _, h => ⟨rfl, h⟩
  | _ :: _, _ :: _, _, ⟨_, _, h1, h4, h5, _⟩ => by
    obtain ⟨h6, h7⟩ := OwnLL.flatInv h4
    obtain ⟨h8, h9⟩ := OwnL.flatInv h1
    subst h5 h6 h7 h8 h9
    exact ⟨rfl, rfl⟩
  | [], _ :: _, _, h => h.elim
  | _ :: _, [], _, h => h.elim

/-- A slice of plain cells: nil, or an array. -/
theorem Own.flatS {H : Heap} {v : AVal} {els : List (List AVal)} {S : List Id} (h : Own H 1 v (.list true els) S) :
    (v = .v (.slice none 0 0) ∧ els = [] ∧ S = []) ∨ ∃ id sz, v = .arr id els.length 0 els.length ∧ H id = some ⟨sz, els⟩ ∧ S = [id] := by
  rcases h with ⟨⟨x, _, hx⟩, _⟩ | ⟨cs, ds, _, hx, _⟩ | ⟨cs, ds, _, hx, _⟩ | ⟨rfl, h2, rfl⟩ | ⟨id, o, els', T, rfl, hx, ho, h, hn, rfl⟩
  · cases hx
  · cases hx
  · cases hx
  · cases h2; exact .inl ⟨rfl, rfl, rfl⟩
  · cases hx
    obtain ⟨h1, h2⟩ := h.flatInv
    subst h2
    obtain ⟨sz, els'⟩ := o
    subst h1
    exact .inr ⟨id, sz, rfl, ho, rfl⟩

/-- A slice: nil, or an array. -/
theorem Own.formS {H : Heap} {d : Nat} {v : AVal} {els : List (List AVal)} {S : List Id} (h : Own H (d + 1) v (.list true els) S) : v = .v (.slice none 0 0) ∨ ∃ id g, v = .arr id g 0 g := by
  rcases h with ⟨⟨x, _, hx⟩, _⟩ | ⟨cs, ds, _, hx, _⟩ | ⟨cs, ds, _, hx, _⟩ | ⟨rfl, _, _⟩ | ⟨id, o, els, T, rfl, _, _⟩
  · cases hx
  · cases hx
  · cases hx
  · exact .inl rfl
  · exact .inr ⟨id, _, rfl⟩

theorem Own.one1 {H : Heap} {d : Nat} {v : AVal} {els : List (List AVal)} {S : List Id} (h : Own H (d + 1) v (.list true els) S) : Ab.one1 v = true := by
  rcases h.formS with rfl | ⟨id, g, rfl⟩ <;> rfl

/-- What is known is told anew. -/
theorem Runs.cut {P : Program} {f : FuncId} {N : Nat} {k : List Item} {ρ : Env} {H : Heap} {n : Nat} {Q : AVal → Heap → Nat → Prop} (I : Env → Heap → Nat → Prop) (h0 : I ρ H n) (h : ∀ ρ H n, I ρ H n → Runs P f N k ρ H n Q) : Runs P f N k ρ H n Q := h _ _ _ h0

/-- A tuple of one such value and a plain one. -/
theorem Own.tup2Inv {H : Heap} {d : Nat} {v a : AVal} {x : Value} {S : List Id} (h : Own H (d + 1) v (.tup [a, .v x]) S) : ∃ g, v = .tup [g, .v x] ∧ Own H d g a S := by
  rcases h with ⟨⟨y, _, hy⟩, _⟩ | ⟨cs, ds, _, hy, _⟩ | ⟨cs, ds, rfl, hy, h⟩ | ⟨_, hy, _⟩ | ⟨id, o, els', T, rfl, hy, _⟩
  · cases hy
  · cases hy
  · cases hy
    match cs, h with
    | [g, y], ⟨S1, S2, h1, ⟨S3, S4, h2, h3, h4, _⟩, h5, _⟩ =>
      have h3' : S4 = [] := h3
      have h6 : y = .v x ∧ S3 = [] := by
        cases d with
        | zero => obtain ⟨⟨z, h7, h8⟩, h9⟩ := h2; cases h8; exact ⟨h7, h9⟩
        | succ d =>
          rcases h2 with ⟨⟨z, h7, h8⟩, h9⟩ | ⟨cs, ds, _, h8, _⟩ | ⟨cs, ds, _, h8, _⟩ | ⟨_, h8, _⟩ | ⟨id, o, els', T, _, h8, _⟩
          · cases h8; exact ⟨h7, h9⟩
          all_goals cases h8
      obtain ⟨h6, h7⟩ := h6
      subst h3' h6 h7 h4 h5
      exact ⟨g, rfl, by simpa using h1⟩
  · cases hy
  · cases hy

/-- A struct of one such value. -/
theorem Own.agg1Inv {H : Heap} {d : Nat} {v a : AVal} {S : List Id} (h : Own H (d + 1) v (.agg [a]) S) : ∃ g, v = .agg [g] ∧ Own H d g a S := by
  rcases h with ⟨⟨y, _, hy⟩, _⟩ | ⟨cs, ds, rfl, hy, h⟩ | ⟨cs, ds, rfl, hy, h⟩ | ⟨_, hy, _⟩ | ⟨id, o, els', T, rfl, hy, _⟩
  · cases hy
  · cases hy
    match cs, h with
    | [g], ⟨S1, S2, h1, h2, h5, _⟩ =>
      have h3' : S2 = [] := h2
      subst h3' h5
      exact ⟨g, rfl, by simpa using h1⟩
  · cases hy
  · cases hy
  · cases hy

theorem ArgOk.own' {H : Heap} {n d : Nat} {a b b' : AVal} {S : List Id} (h : Own H d a b S) (e : old b = b') : ArgOk H n a b' := e ▸ ArgOk.own h

theorem old_listF {fr : Bool} {els : List (List AVal)} (h : ∀ e ∈ els, ∀ a ∈ e, flat a = true) : old (.list fr els) = .list false els := by rw [old_list, maps_old_flat h]

/-- The size that an object tells is that of its elements. -/
theorem CallsA.sized {P : Program} {f : FuncId} {args : List AVal} {H : Heap} {n : Nat} {Q : AVal → Heap → Nat → Prop} (h : (∀ id o, H id = some o → id.1 < n ∧ ∀ e ∈ o.els, e.length = o.size) → CallsA P f args H n Q) : CallsA P f args H n Q := by
  intro c xs hH hn g r
  refine h (fun id o ho => ?_) c xs hH hn g r
  subst hH hn
  refine ⟨g.stamp id o ho, fun e he => ?_⟩
  obtain ⟨i, hi⟩ := List.getElem?_of_mem he
  obtain ⟨_, cl, el, _, _, h4⟩ := g.obj id o ho
  exact (h4 i e hi).1

theorem CallsA.of {P : Program} {f : FuncId} {fn : Func} {body : Code} {args : List AVal} {H : Heap} {n N : Nat} {Q0 : AVal → Heap → Nat → Prop} (hfn : P.funcs[f]? = some fn) (hb : fn.body = some body) (hn : fn.ntmps = N) (hN : args.length ≤ N)
    (h : ∀ Q : AVal → Heap → Nat → Prop, (∀ v H1 n1, Q0 v H1 n1 → Q v H1 n1) → Runs P f N [.code body] (argEnv args) H n Q) : CallsA P f args H n Q0 := by
  subst hn
  exact CallsA.of_runs hfn hb hN (h Q0 fun _ _ _ h => h)

theorem Heap.set_same {H : Heap} {id : Id} {o : Ob} (h : H id = some o) : H.set id o = H := by
  funext i
  simp only [Heap.set]
  split
  · rename_i e; rw [e, h]
  · rfl

theorem wrap_one {a b : Nat} (h : b = a + 1) (h2 : a < 4611686018427387904) : IntKind.i64.wrap ((a : Int) + 1) = (b : Int) := by
  rw [wrap64] <;> omega

/-- An array that is turned from the left. -/
def partm (row : Nat → List AVal) (els : List (List AVal)) (k : Nat) : List (List AVal) := (List.range k).map row ++ els.drop k
section
variable {row : Nat → List AVal} {els : List (List AVal)} {k : Nat}
theorem partm_zero : partm row els 0 = els := by simp [partm]
theorem partm_len (hk : k ≤ els.length) : (partm row els k).length = els.length := by simp [partm]; omega
theorem partm_get (hk : k < els.length) : (partm row els k)[k]? = els[k]? := by
  unfold partm
  rw [List.getElem?_append_right (by simp)]
  simp
theorem partm_get' (hk : k < els.length) (h : k < (partm row els k).length) : (partm row els k)[k] = els[k] := by
  have := partm_get (row := row) hk
  rw [List.getElem?_eq_getElem h, List.getElem?_eq_getElem hk] at this
  exact Option.some.inj this
theorem partm_set (hk : k < els.length) : (partm row els k).set k (row k) = partm row els (k + 1) := by
  unfold partm
  rw [List.set_append_right _ _ (by simp), List.range_succ, List.map_append, List.append_assoc]
  congr 1
  simp only [List.length_map, List.length_range, Nat.sub_self]
  rw [List.drop_eq_getElem_cons hk]
  rfl
theorem partm_step (hk : k < els.length) : ∃ l, partm row els k = l ∧ l.length = els.length ∧ (∀ h : k < l.length, l[k] = els[k]) ∧ l.set k (row k) = partm row els (k + 1) :=
  ⟨_, rfl, partm_len (by omega), fun h => partm_get' hk h, partm_set hk⟩
theorem partm_end : partm row els els.length = (List.range els.length).map row := by simp [partm]
theorem partm_ne {j : Nat} (hj : j < k) : (partm row els k)[j]? = some (row j) := by
  unfold partm
  rw [List.getElem?_append_left (by simpa using hj)]
  simp [hj]
end
end Go.Ab
