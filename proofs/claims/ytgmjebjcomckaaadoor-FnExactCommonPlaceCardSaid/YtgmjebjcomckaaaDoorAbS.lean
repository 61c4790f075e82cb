/- The abstract machine, part S: the library's functions, by the shelf's contracts. -/
import Derived.Test.YtgmjebjcomckaaaDoorAbN
import Derived.Test.YtgmjebjcomckaaaDoorAbShelf
import Derived.Shelf.Strings.SlTrimAscii
namespace Go.Ab
open Go.Proofs Go.RowKit

/-- A contract of the shelf's as one of the machine's. -/
theorem PureC.of_below {P : Program} {f : FuncId} {args : List AVal} {R : AVal → Prop}
    (h : ∀ (c : Ctx) (xs : List Value), (∀ id, c.H id = none) → RepL c args xs → Calls P f xs.toArray c.w fun e w' => ∃ x v, e = .returned x ∧ R v ∧ Fresh v ∧ (∀ c' : Ctx, Rep c' v x) ∧ Below c.w.heap.size c.w w') : PureC P f args R := by
  intro c xs hH hn g r
  refine (h c xs (by intro id; rw [hH]; rfl) r).mono ?_
  rintro e w' ⟨x, v, he, hR, hf, hv, hb⟩
  obtain ⟨hk, hg⟩ := more_blocks g w' ⟨hb.os, hb.tape, hb.output⟩ hb.size hb.block
  exact ⟨x, v, { c with w := w' }, he, rfl, ⟨v, .of (Ret.fresh hf), hR⟩, hv _, hg, hk⟩

theorem RepL.one1 {c : Ctx} {a : AVal} {xs : List Value} (r : RepL c [a] xs) : ∃ x, xs = [x] ∧ Rep c a x := by
  obtain ⟨hl, hr⟩ := r
  match xs, hl with
  | [x], _ => exact ⟨x, rfl, hr 0 a x rfl rfl⟩

theorem RepL.two2 {c : Ctx} {a b : AVal} {xs : List Value} (r : RepL c [a, b] xs) : ∃ x y, xs = [x, y] ∧ Rep c a x ∧ Rep c b y := by
  obtain ⟨hl, hr⟩ := r
  match xs, hl with
  | [x, y], _ => exact ⟨x, y, rfl, hr 0 a x rfl rfl, hr 1 b y rfl rfl⟩

theorem trim_ok (s cut : Str) (hs : s.length ≤ 4611686018427387904) (hc : cut.length ≤ 1000) (ha : cut.all (fun b => decide (b.toNat < 128)) = true) : PureC Tryd.prog 145 [str s, str cut] (fun r => r = str (Lib.trimS s cut)) := by
  refine PureC.of_below fun c xs _ r => ?_
  obtain ⟨x, y, rfl, hx, hy⟩ := r.two2
  rw [hx.v_inv, hy.v_inv]
  refine (Any.strings_Trim_laid Tryd.lays160 (by kernel_rfl) ⟨s.toArray⟩ ⟨cut.toArray⟩ c.w (by simp; omega) (by simp; omega) (ascii_of_all (by simpa using ha))).mono ?_
  rintro e w' ⟨he, hb⟩
  exact ⟨_, _, he, rfl, .v _, fun _ => .v _, by simpa using hb⟩

theorem trimLeft_ok (s cut : Str) (hc : cut.length ≤ 1000) (ha : cut.all (fun b => decide (b.toNat < 128)) = true) : PureC Tryd.prog 166 [str s, str cut] (fun r => r = str (Lib.trimLeftS s cut)) := by
  refine PureC.of_below fun c xs _ r => ?_
  obtain ⟨x, y, rfl, hx, hy⟩ := r.two2
  rw [hx.v_inv, hy.v_inv]
  refine (Any.strings_TrimLeft_laid Tryd.lays161 (by kernel_rfl) ⟨s.toArray⟩ ⟨cut.toArray⟩ c.w (by simp; omega) (ascii_of_all (by simpa using ha))).mono ?_
  rintro e w' ⟨he, hb⟩
  exact ⟨_, _, he, rfl, .v _, fun _ => .v _, by simpa using hb⟩

theorem cell_of_none {w : World} {a : Addr} {x : Value} (h : w.cell? a = some x) : a.block < w.heap.size := by
  unfold World.cell? at h
  rcases Nat.lt_or_ge a.block w.heap.size with hl | hl
  · exact hl
  · have : w.heap[a.block]? = none := Array.getElem?_eq_none hl
    rw [this] at h
    simp at h

theorem map_get1 {α β : Type} {f : α → β} {l : List α} {i : Nat} {b : β} (h : (l.map f)[i]? = some b) : ∃ a, l[i]? = some a ∧ b = f a := by
  rw [List.getElem?_map] at h
  cases ha : l[i]? with
  | none => simp [ha] at h
  | some a => simp only [ha, Option.map_some, Option.some.injEq] at h; exact ⟨a, rfl, h.symm⟩

theorem join_ok (l : List Str) (sep : Str) (hl : l.length ≤ 140737488355328) (hj : (Lib.join l sep).length ≤ 140737488355328) : PureC Tryd.prog 147 [.list false (l.map fun s => [str s]), str sep] (fun r => r = str (Lib.join l sep)) := by
  refine PureC.of_below fun c xs _ r => ?_
  obtain ⟨x, y, rfl, hx, hy⟩ := r.two2
  rw [hy.v_inv]
  generalize he : l.map (fun s => [str s]) = els at hx
  cases hx with
  | lnil =>
    have : l = [] := by simpa using he
    subst this
    refine (Tryd.strings_Join_none none 0 ⟨sep.toArray⟩ c.w).mono ?_
    rintro e w' ⟨he, hb⟩
    exact ⟨_, _, he, rfl, .v _, fun _ => .v _, hb ▸ Below.refl _ _⟩
  | list _ _ a cap sz cell hsp hcap hm hsz hc hr =>
    subst he
    by_cases hne : l = []
    · subst hne
      refine (Tryd.strings_Join_none (some a) cap ⟨sep.toArray⟩ c.w).mono ?_
      rintro e w' ⟨he, hb⟩
      exact ⟨_, _, he, rfl, .v _, fun _ => .v _, hb ▸ Below.refl _ _⟩
    have hsp := hsp (by simpa using hne)
    obtain ⟨bk, o, sp⟩ := a
    simp only at hsp
    subst hsp
    have hone : ∀ (j : Nat) s, l[j]? = some s → sz = 1 ∧ c.w.cell? ⟨bk, o + j, none⟩ = some (.string ⟨s.toArray⟩) := by
      intro j s hj
      have hg : (l.map fun s => [str s])[j]? = some [str s] := by rw [List.getElem?_map, hj]; rfl
      have h1 := hsz j _ hg
      simp at h1
      have h2 := hc j _ 0 _ hg rfl
      have h3 := (hr j _ 0 _ hg rfl).v_inv
      subst h1
      simp at h2
      rw [h3] at h2
      exact ⟨rfl, h2⟩
    have hlen : (l.map fun s => [str s]).length = (l.map fun s => ByteArray.mk s.toArray).length := by simp
    · rw [hlen]
      have hbk : bk < c.w.heap.size := (hm (by simpa using hne)).2.1
      have hmm : (l.map fun s => ByteArray.mk s.toArray).map (fun b => b.data.toList) = l := by simp [Function.comp_def]
      have H := Tryd.strings_Join bk o cap (l.map fun s => ByteArray.mk s.toArray) ⟨sep.toArray⟩ c.w (fun j x hx => by
        obtain ⟨s, hs, rfl⟩ := map_get1 hx
        exact (hone j s hs).2) hbk (by rw [List.length_map]; exact hl) (by rw [← hlen]; exact hcap) (by rw [hmm]; exact hj)
      rw [hmm] at H
      refine H.mono ?_
      rintro e w' ⟨he, hb⟩
      exact ⟨_, _, he, rfl, .v _, fun _ => .v _, hb⟩
end Go.Ab
