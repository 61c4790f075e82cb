/- Merged texts (5 of 13) of the proof that ends in Lfy: Sz Sm Sl Su R Shelf S Q V Ga Sn Vp. -/
import Derived.Test.YtpakecdmnomalaaGreatDoorAbQlf4
import Derived.Lib.SlicesCompact
import Derived.ProofKit
import Derived.LaidMore
import Derived.OpenShut
import Derived.Lay
import Derived.Stop.Joined
import Derived.Shelf.Strings.Trim
import Derived.Shelf.Small.Utf8
import Derived.Shelf.Small.Strs
import Derived.Shelf.Small.Wraps
import Derived.Shelf.Strings.Search1
import Derived.Shelf.Sort.Plain
import Derived.Shelf.Strings.Runes
import Derived.Shelf.Strings.AsciiSet
import Derived.Shelf.Bits.Mul64
import Derived.Shelf.Unicode.DecodeSlow
import Derived.Shelf.Slices.Turned
import Derived.Ground.Names2Prog
import Derived.Shelf.Slices.Clone
import Derived.Shelf.Slices.In.SortNone
import Derived.Test.YtpakecdmnomalaaGreatDoorProg
import Derived.Shelf.Strings.SlTrimAscii
import Derived.Lib.Join
/- The abstract machine, part Sz: one row of an own array taken apart: its slices lent to functions that turn them, its plain cells written. -/
namespace Go.Ab
set_option linter.unusedSectionVars false
set_option linter.unusedSimpArgs false
theorem rowsP.focus {R : List AVal → List AVal → List Id → Prop} : ∀ {as1 bs : List (List AVal)} {S : List Id} {k : Nat}, rowsP R as1 bs S → k < as1.length →
  ∃ A e B A' f B' S1 T S2, as1 = A ++ e :: B ∧ bs = A' ++ f :: B' ∧ A.length = k ∧ A'.length = k ∧ rowsP R A A' S1 ∧ R e f T ∧ rowsP R B B' S2 ∧ S = S1 ++ (T ++ S2) ∧ (∀ i ∈ S1, i ∉ T ++ S2) ∧ ∀ i ∈ T, i ∉ S2
 | [], _, _, _, _, hk => by simp at hk
 | _ :: _, [], _, _, h, _ => h.elim
 | a :: as1, b :: bs, S, 0, h, _ => by
  obtain ⟨T1, T2, h1, h2, h3, h4⟩ := h
  exact ⟨[], a, as1, [], b, bs, [], T1, T2, rfl, rfl, rfl, rfl, rfl, h1, h2, h3, by simp, h4⟩
 | a :: as1, b :: bs, S, k + 1, h, hk => by
  obtain ⟨T1, T2, h1, h2, rfl, h4⟩ := h
  obtain ⟨A, e, B, A', f, B', S1, T, S2, rfl, rfl, l1, l2, r1, r2, r3, rfl, d1, d2⟩ := rowsP.focus h2 (by simpa using hk)
  refine ⟨a :: A, e, B, b :: A', f, B', T1 ++ S1, T, S2, rfl, rfl, by simp [l1], by simp [l2], ⟨T1, S1, h1, r1, rfl, fun i hi hm => h4 i hi (by simp [hm])⟩, r2, r3, by simp, fun i hi hm => ?_, d2⟩
  rcases List.mem_append.1 hi with hi | hi
  ·exact h4 i hi (by simp only [List.mem_append] at hm ⊢; exact .inr hm)
  ·exact d1 i hi hm
section
variable {H : Heap} {n : Nat} {K K1 K2 : List OwnE} {ids : List Id} {l : List Sh} {v : AVal} {es : List (List AVal)} {q : Nat}
theorem Sep.unfront {x : OwnE} (h : Sep H n (x :: (K1 ++ K2)) ids) : Sep H n (K1 ++ x :: K2) ids := by
 have h1 : Sep H n (K1 ++ (K2 ++ [x])) ids := by
  have := Sep.swap (K1 := [x]) (K2 := K1 ++ K2) h
  simpa using this
 have h2 : Sep H n (K2 ++ x :: K1) ids := by
  have := Sep.swap h1
  simpa using this
 have h3 : Sep H n ((x :: K2) ++ K1) ids := by
  have := Sep.front h2
  simpa using this
 exact Sep.swap h3
theorem zip3_append : ∀ {l1 l2 : List Sh} {r1 r2 b1 b2 : List AVal}, r1.length = l1.length → b1.length = l1.length → zip3 (l1 ++ l2) (r1 ++ r2) (b1 ++ b2) = zip3 l1 r1 b1 ++ zip3 l2 r2 b2
 | [], _, [], _, [], _, _, _ => rfl
 | t :: l1, l2, a :: r1, r2, b :: b1, b2, h1, h2 => by simp only [List.cons_append, zip3, zip3_append (l1 := l1) (by simpa using h1) (by simpa using h2)]
 | [], _, _ :: _, _, _, _, h, _ => by simp at h
 | [], _, _, _, _ :: _, _, _, h => by simp at h
 | _ :: _, _, [], _, _, _, h, _ => by simp at h
 | _ :: _, _, _, _, [], _, _, h => by simp at h
theorem Sep.row {bs : List AVal} (h : Sep H n ((.s l, v, .list true es) :: K) ids) (he : es[q]? = some bs) :
  ∃ id els row W, v = .arr id es.length 0 es.length ∧ H id = some ⟨l.length, els⟩ ∧ els.length = es.length ∧ els[q]? = some row ∧ row.length = l.length ∧ bs.length = l.length ∧ id ∈ W ∧ (∀ i ∈ ids, i ∈ W) ∧ id ∉ ids ∧ Sep H n (zip3 l row bs) W ∧
   ∀ H1 n1 row' bs', Sep H1 n1 (zip3 l row' bs') W → row'.length = l.length → bs'.length = l.length → (∀ i ∈ W, i ≠ id → H1 i = H i) → H1 id = some ⟨l.length, els.set q row'⟩ → n ≤ n1 → Sep H1 n1 ((.s l, v, .list true (es.set q bs')) :: K) ids := by
 obtain ⟨h0, S, h1, h2⟩ := h
 simp only [List.map_cons, Go.Ab.Row, Go.Ab.Tr] at h1
 obtain ⟨S1, S2, h3, h4, rfl, h5⟩ := h1
 have hq : q < es.length := (List.getElem?_eq_some_iff.1 he).1
 rcases h3 with ⟨rfl, hh, rfl⟩ | ⟨id, els, es', T, rfl, hh, q3, q4, q5, rfl⟩
 ·injection hh with _ hh
  subst hh
  simp at hq
 ·injection hh with _ hh
  subst hh
  have hel := q4.len
  obtain ⟨A, row, B, A', f, B', SA, SR, SB, rfl, rfl, lA, lA', rA, rR, rB, rfl, d1, d2⟩ := rowsP.focus (k := q) q4 (by omega)
  have hf : f = bs := by
   rw [List.getElem?_append_right (by omega), lA', Nat.sub_self] at he
   simpa using he
  subst hf
  have hrl := rR.len
  obtain ⟨z1, z2, z3⟩ := zip3_maps hrl.1 hrl.2
  simp only [List.mem_append, List.mem_cons, not_or] at h2 h5 q5 d1 d2
  refine ⟨id, A ++ row :: B, row, ids ++ (id :: (SA ++ (SB ++ S2))), by simp only [hel], q3, hel, by rw [List.getElem?_append_right (by omega), lA, Nat.sub_self]; rfl, hrl.1, hrl.2, by simp, fun i hi => by simp [hi], (h2 id (.inl (.inl rfl))).2, ?_, ?_⟩
  ·refine ⟨fun i hi => ?_, SR, by rw [z1, z2, z3]; exact rR, fun i hi => ⟨(h2 i (.inl (.inr (.inr (.inl hi))))).1, ?_⟩⟩
   ·simp only [List.mem_append, List.mem_cons] at hi
    rcases hi with hi | hi | hi | hi | hi
    ·exact h0 i hi
    ·exact (h2 i (.inl (.inl hi))).1
    ·exact (h2 i (.inl (.inr (.inl hi)))).1
    ·exact (h2 i (.inl (.inr (.inr (.inr hi))))).1
    ·exact (h2 i (.inr hi)).1
   ·simp only [List.mem_append, List.mem_cons, not_or]
    refine ⟨(h2 i (.inl (.inr (.inr (.inl hi))))).2, ?_, fun hm => (d1 i hm).1 hi, fun hm => d2 i hi hm, fun hm => h5 i (.inr (.inr (.inl hi))) hm⟩
    rintro rfl
    exact q5.2.1 hi
  ·intro H1 n1 row' bs' hs lr lb hfr hid hn
   obtain ⟨y1, y2, y3⟩ := zip3_maps lr lb
   obtain ⟨k0, X, k1, k2⟩ := hs
   rw [y1, y2, y3] at k1
   simp only [List.mem_append, List.mem_cons, not_or] at k2 hfr
   have nid : ∀ i, i ∈ SA ∨ i ∈ SB ∨ i ∈ S2 → i ≠ id := by
    rintro i (hi | hi | hi) rfl
    ·exact q5.1 hi
    ·exact q5.2.2 hi
    ·exact h5 i (.inl rfl) hi
   have fr : ∀ i, i ∈ SA ∨ i ∈ SB ∨ i ∈ S2 → H1 i = H i := fun i hi => hfr i (.inr (.inr hi)) (nid i hi)
   have hrows : rowsP (Row H1 l) (A ++ row' :: B) (A' ++ bs' :: B') (SA ++ (X ++ SB)) := by
    refine rowsP.append (rA.mono fun e f T hr hs => hr.frame fun i hi => fr i (.inl (hs i hi))) ⟨X, SB, k1, rB.mono fun e f T hr hs => hr.frame fun i hi => fr i (.inr (.inl (hs i hi))), rfl, fun i hi hm => (k2 i hi).2.2.2.2.1 hm⟩ (fun i hi hm => ?_)
    rcases List.mem_append.1 hm with hm | hm
    ·exact (k2 i hm).2.2.2.1 hi
    ·exact (d1 i hi).2 hm
   have hset : (A ++ row :: B).set q row' = A ++ row' :: B := by
    rw [List.set_append_right _ _ (by omega), lA, Nat.sub_self]; rfl
   have hset' : (A' ++ f :: B').set q bs' = A' ++ bs' :: B' := by
    rw [List.set_append_right _ _ (by omega), lA', Nat.sub_self]; rfl
   rw [hset] at hid
   refine ⟨fun i hi => by have := h0 i hi; omega, (id :: (SA ++ (X ++ SB))) ++ S2, ?_, fun i hi => ?_⟩
   ·simp only [List.map_cons, Go.Ab.Row, Go.Ab.Tr]
    refine ⟨id :: (SA ++ (X ++ SB)), S2, .inr ⟨id, A ++ row' :: B, A' ++ bs' :: B', SA ++ (X ++ SB), by simp, by rw [hset'], hid, hrows, ?_, rfl⟩, h4.frame fun i hi => fr i (.inr (.inr hi)), rfl, fun i hi hm => ?_⟩
    ·simp only [List.mem_append, not_or]
     exact ⟨q5.1, fun hm => (k2 id hm).2.2.1 rfl, q5.2.2⟩
    ·simp only [List.mem_cons, List.mem_append] at hi
     rcases hi with rfl | hi | hi | hi
     ·exact h5 _ (.inl rfl) hm
     ·exact h5 i (.inr (.inl hi)) hm
     ·exact (k2 i hi).2.2.2.2.2 hm
     ·exact h5 i (.inr (.inr (.inr hi))) hm
   ·simp only [List.mem_cons, List.mem_append] at hi
    rcases hi with (rfl | hi | hi | hi) | hi
    ·have := h2 _ (.inl (.inl rfl)); exact ⟨by omega, this.2⟩
    ·have := h2 i (.inl (.inr (.inl hi))); exact ⟨by omega, this.2⟩
    ·exact ⟨(k2 i hi).1, (k2 i hi).2.1⟩
    ·have := h2 i (.inl (.inr (.inr (.inr hi)))); exact ⟨by omega, this.2⟩
    ·have := h2 i (.inr hi); exact ⟨by omega, this.2⟩
theorem Sep.setCell {i : TI} {lpre lpost : List Sh} {pre post : List AVal} {a : AVal} {b : Value} (h : Sep H n ((.s (lpre ++ .c :: lpost), v, .list true es) :: K) ids) (he : es[q]? = some (pre ++ a :: post)) (hp : pre.length = lpre.length) (hi : i.size = 1) (hb : Ab.one1 (.v b) = true) :
  ∃ id H', v = .arr id es.length 0 es.length ∧ storeF (some i) (.ptr id es.length q lpre.length) (some [.v b]) H = some H' ∧ Sep H' n ((.s (lpre ++ .c :: lpost), v, .list true (es.set q (pre ++ .v b :: post))) :: K) ids ∧ ∀ i ∈ ids, H' i = H i := by
 obtain ⟨id, els, row, W, h1, h2, h3, h4, h5, h6, h7, h8, h9, h10, h11⟩ := h.row he
 have hq : q < es.length := (List.getElem?_eq_some_iff.1 he).1
 have hoff : lpre.length < row.length := by rw [h5]; simp
 have hw : Ob.write ⟨(lpre ++ .c :: lpost).length, els⟩ q lpre.length [.v b] = ⟨(lpre ++ .c :: lpost).length, els.set q (row.take lpre.length ++ .v b :: row.drop (lpre.length + 1))⟩ := by
  simp [Ob.write, List.getD, h4, splice]
 have hrow : row = row.take lpre.length ++ row[lpre.length] :: row.drop (lpre.length + 1) := by
  rw [List.getElem_cons_drop, List.take_append_drop]
 have hl' : (row.take lpre.length ++ .v b :: row.drop (lpre.length + 1)).length = (lpre ++ .c :: lpost).length := by
  rw [← h5]; simp; omega
 refine ⟨id, H.set id (Ob.write ⟨(lpre ++ .c :: lpost).length, els⟩ q lpre.length [.v b]), h1, ?_, ?_, fun j hj => Heap.get_set_ne _ _ (by rintro rfl; exact h9 hj)⟩
 ·simp only [storeF, live, h2, h3, ↓reduceIte]
  rw [if_pos ⟨by simp [hi], by omega, by simp, by simp only [List.all_cons, List.all_nil, hb, Bool.and_true]⟩]
 ·refine h11 _ n _ _ ?_ hl' (by simpa using h6) (fun j _ hj => Heap.get_set_ne _ _ hj) (by rw [hw, Heap.get_set_self]) (Nat.le_refl n)
  refine Sep.setVar ?_ h7
  rw [hrow] at h10
  rw [zip3_append (by simp; omega) hp] at h10 ⊢
  simp only [zip3] at h10 ⊢
  have := Sep.front h10
  exact Sep.unfront (Sep.addScalar b (Sep.right (K1 := [_]) this))
theorem Sep.cAt {a : AVal} {b : Value} (h : Sep H n (K1 ++ (.c, a, .v b) :: K2) ids) : a = .v b := (Sep.scalar (Sep.front h)).1
theorem set_same {α : Type} {l : List α} {k : Nat} {x : α} (h : l[k]? = some x) : l.set k x = l := by
 obtain ⟨hk, rfl⟩ := List.getElem?_eq_some_iff.1 h
 exact List.set_getElem_self hk
theorem at_some' {α : Type} [Inhabited α] {f : α → List AVal} {xs : List α} {i : Int} {x : α} {q : Nat} (hb : 0 ≤ i ∧ i < xs.length) (hx : x = at' xs i) (hq : q = i.toNat) : (xs.map f)[q]? = some (f x) := by
 obtain ⟨hlt, hg⟩ := at_get hb hx
 subst hq
 simp [hlt, hg]
theorem Sep.rowF {α : Type} [Inhabited α] {f : α → List AVal} {xs : List α} {x : α} {i : Int} (h : Sep H n ((.s l, v, .list true (xs.map f)) :: K) ids) (hb : 0 ≤ i ∧ i < xs.length) (hx : x = at' xs i) (hq : q = i.toNat) :
  ∃ id els row W, v = .arr id xs.length 0 xs.length ∧ H id = some ⟨l.length, els⟩ ∧ els.length = xs.length ∧ els[q]? = some row ∧ row.length = l.length ∧ id ∈ W ∧ (∀ i ∈ ids, i ∈ W) ∧ id ∉ ids ∧ Sep H n (zip3 l row (f x)) W ∧
   ∀ H1 n1 y, Sep H1 n1 (zip3 l row (f y)) W → (f y).length = l.length → (∀ i ∈ W, H1 i = H i) → n ≤ n1 → Sep H1 n1 ((.s l, v, .list true ((xs.set q y).map f)) :: K) ids := by
 obtain ⟨id, els, row, W, h1, h2, h3, h4, h5, h6, h7, h8, h9, h10, h11⟩ := h.row (at_some' hb hx hq)
 refine ⟨id, els, row, W, by simpa using h1, h2, by simpa using h3, h4, h5, h7, h8, h9, h10, fun H1 n1 y k1 k2 k3 k4 => ?_⟩
 rw [List.map_set]
 exact h11 H1 n1 row (f y) k1 h5 k2 (fun i hi _ => k3 i hi) (by rw [k3 id h7, h2, set_same h4]) k4
end
section
variable {P : Program} {f' : FuncId} {N : Nat} {k : List Item} {Q : AVal → Heap → Nat → Prop} {Ty : Types} {ops : Array Oper} {L : List Oper} {ρ : Env} {H : Heap} {n : Nat} {K : List OwnE} {ids : List Id} {l : List Sh} {o : Oper}
variable {α : Type} [Inhabited α] {id : Id} {g q off : Nat} {ix : Int} {i : TI} {b : Value} {xs : List α} {f : α → List AVal} {x y : α}
theorem cell_store (lpre lpost : List Sh) (pre post : List AVal) {a : AVal} (h : Sep H n ((.s l, .arr id g 0 g, .list true (xs.map f)) :: K) ids) (hl : l = lpre ++ .c :: lpost) (hi : i.size = 1) (hb : 0 ≤ ix ∧ ix < xs.length) (hx : x = at' xs ix) (hq : q = ix.toNat) (hg : g = xs.length)
  (hf : f x = pre ++ a :: post) (hy : f y = pre ++ .v b :: post) (hp : pre.length = lpre.length) (ho : off = lpre.length) (h1 : Ab.one1 (.v b) = true) :
  ∃ H', storeF (some i) (.ptr id g q off) (some [.v b]) H = some H' ∧ Sep H' n ((.s l, .arr id g 0 g, .list true ((xs.set q y).map f)) :: K) ids ∧ ∀ i ∈ ids, H' i = H i := by
 subst hl ho
 obtain ⟨id', H', e, h2, h3, h4⟩ := Sep.setCell (i := i) (b := b) h ((at_some' hb hx hq).trans (congrArg some hf)) hp hi h1
 injection e with e1 e2 e3 e4
 subst e1
 rw [List.length_map] at h2
 subst hg
 refine ⟨H', h2, ?_, h4⟩
 rw [List.map_set, hy]
 exact h3
theorem bind_cell (lpre lpost : List Sh) (pre post : List AVal) {a : AVal} (h : Sep H n ((.s l, .arr id g 0 g, .list true (xs.map f)) :: K) ids) (hl : l = lpre ++ .c :: lpost) (hi : i.size = 1) (hb : 0 ≤ ix ∧ ix < xs.length) (hx : x = at' xs ix) (hq : q = ix.toNat) (hg : g = xs.length)
  (hf : f x = pre ++ a :: post) (hy : f y = pre ++ .v b :: post) (hp : pre.length = lpre.length) (ho : off = lpre.length) (h1 : Ab.one1 (.v b) = true)
  (hc : ∀ H', Sep H' n ((.s l, .arr id g 0 g, .list true ((xs.set q y).map f)) :: K) ids → (∀ i ∈ ids, H' i = H i) → evalK P f' N k Q Ty ops L (ρ.put o.dst .undef) H' n) :
  bindE P f' N k Q Ty ops (match storeF (some i) (.ptr id g q off) (some [.v b]) H with | some H' => some (AVal.undef, H', n) | none => none) o L ρ H n := by
 obtain ⟨H', e, h2, h3⟩ := cell_store (i := i) (b := b) (y := y) lpre lpost pre post h hl hi hb hx hq hg hf hy hp ho h1
 rw [e]
 exact (bindE_some (v := AVal.undef) (H' := H') (n' := n)).symm ▸ hc H' h2 h3
end
end Go.Ab
/- The abstract machine, part Sm: regions that draw their order and make arrays of the call's own out of told elements. -/
namespace Go.Ab
set_option linter.unusedSectionVars false
set_option linter.unusedSimpArgs false
set_option linter.unusedVariables false
def Stamp (H : Heap) (n : Nat) : Prop := ∀ i o, H i = some o → i.1 < n
def Ext (H H' : Heap) : Prop := ∀ i o, H i = some o → H' i = some o
theorem Ext.refl (H : Heap) : Ext H H := fun _ _ h => h
theorem Ext.trans {H H1 H2 : Heap} (h : Ext H H1) (h' : Ext H1 H2) : Ext H H2 := fun i o ho => h' i o (h i o ho)
theorem Stamp.set {H : Heap} {n d : Nat} {o : Ob} (h : Stamp H n) : Stamp (H.set (n, d) o) (n + 1) := fun i o' ho => by
 simp only [Heap.set] at ho
 split at ho
 ·rename_i he; subst he; exact Nat.lt_succ_self _
 ·have := h i o' ho; omega
theorem Stamp.put {H : Heap} {n : Nat} {id : Id} {o o0 : Ob} (h : Stamp H n) (h0 : H id = some o0) : Stamp (H.set id o) n := fun i o' ho => by
 simp only [Heap.set] at ho
 split at ho
 ·rename_i he; subst he; exact h _ _ h0
 ·exact h i o' ho
def kindX : Op → Nat
 | .buildSlice _ len _ => if len = 0 then 2 else 3
 | op => kindOp op
def ownF (Ty : Types) (d : Option Nat) (op : Op) (ρ : Env) (H : Heap) (n : Nat) : Option (AVal × Heap × Nat) :=
 match op with
 | .buildSlice t len ps => match kd Ty t, d with
  | .slice j, some d =>
   if len ≠ 0 ∧ len * j.size ≤ 16777216 ∧ j.size ≠ 0 ∧ j.zero.length = j.size then
    (fillA (fun k => some (k * j.size, j.size)) ((List.replicate len (j.zero.map AVal.v)).flatten) (ps.toList.map fun p => (p.1, ρ.ev p.2))).map fun cs => (.arr (n, d) len 0 len, H.set (n, d) ⟨j.size, chunks j.size len cs⟩, n + 1)
   else none
  | _, _ => none
 | _ => none
section
variable {P : Program} {N : Nat} {Ty : Types} {ρ : Env} {H H' : Heap} {n n' : Nat} {d : Option Nat} {ty : TypeId} {pos : String} {af : Array Edge} {gu : Option (Nat × Bool)}
end
section
variable (P : Program) (N : Nat) (ops : Array Oper)
def StepX (o : Oper) (s s' : AS) : Prop :=
 (gok ops o s.1 = some true ∧ ∃ v, s'.1 = s.1.put o.dst v ∧ (kindX o.op = 0 → s'.2 = s.2 ∧ ∀ H n, OpSem P N o (loc o.op s.1) H n (isV v H n)) ∧ (kindX o.op = 1 → s'.2 = s.2 ∧ ∀ H n, Ext s.2.1 H → s.2.2 ≤ n → OpSem P N o (loc o.op s.1) H n (isV v H n)) ∧
   (Stamp s.2.1 s.2.2 → Stamp s'.2.1 s'.2.2 ∧ (kindX o.op = 3 → Ext s.2.1 s'.2.1 ∧ s.2.2 ≤ s'.2.2)) ∧ OpSem P N o (loc o.op s.1) s.2.1 s.2.2 (isV v s'.2.1 s'.2.2)) ∨
 (gok ops o s.1 = some false ∧ s' = (s.1.put o.dst skv, s.2))
def RunX (R : AS → Prop) : List Oper → AS → Prop
 | [], s => R s
 | o :: l, s => ∃ s', StepX P N ops o s s' ∧ RunX R l s'
end
section
variable {P : Program} {N : Nat} {ops : Array Oper}
end
section
variable {P : Program} {f : FuncId} {N : Nat} {k : List Item} {ρ : Env} {H : Heap} {n : Nat} {Q : AVal → Heap → Nat → Prop}
end
def stepM (Ty : Types) (M : List Nat) (d : Option Nat) (op : Op) (ρ : Env) (H : Heap) (n : Nat) : Option (AVal × Heap × Nat) :=
 match d with
 | some t => if M.contains t then ownF Ty d op ρ H n else stepF Ty d op ρ H n
 | none => stepF Ty d op ρ H n
section
variable (P : Program) (f : FuncId) (N : Nat) (k : List Item) (Q : AVal → Heap → Nat → Prop) (Ty : Types) (M : List Nat) (ops : Array Oper)
def RunXK (l : List Oper) (ρ : Env) (H : Heap) (n : Nat) : Prop := RunX P N ops (fun s => Runs P f N k s.1 s.2.1 s.2.2 Q) l (ρ, H, n)
mutual
def evalM : List Oper → Env → Heap → Nat → Prop
 | [], ρ, H, n => Runs P f N k ρ H n Q
 | o :: l, ρ, H, n => o.guard = none ∧ bindM (stepM Ty M o.dst o.op ρ H n) o l ρ H n
 termination_by l => (l.length, 0)
def bindM : Option (AVal × Heap × Nat) → Oper → List Oper → Env → Heap → Nat → Prop
 | some (v, H', n'), o, l, ρ, _, _ => evalM l (ρ.put o.dst v) H' n'
 | none, o, l, ρ, H, n => RunXK P f N k Q ops (o :: l) ρ H n
 termination_by _ _ l => (l.length, 1)
end
end
section
variable {P : Program} {f : FuncId} {N : Nat} {k : List Item} {Q : AVal → Heap → Nat → Prop} {Ty : Types} {M : List Nat} {ops : Array Oper} {o : Oper} {L : List Oper} {ρ : Env} {H : Heap} {n : Nat}
end
section
variable {P : Program} {f f' : FuncId} {N : Nat} {k : List Item} {Q : AVal → Heap → Nat → Prop} {Ty : Types} {M : List Nat} {ops : Array Oper} {L : List Oper} {ρ : Env} {H H' : Heap} {n n' : Nat} {K K1 K2 : List OwnE} {ids : List Id} {t : TypeId} {j : TI} {l : List Sh} {v : AVal} {es : List (List AVal)} {o : Oper}
theorem Sep.ext (h : Sep H n K ids) (e : Ext H H') (hn : n ≤ n') : Sep H' n' K ids := by
 obtain ⟨h0, S, h1, h2⟩ := h
 refine ⟨fun i hi => by have := h0 i hi; omega, S, h1.frame fun i hi => ?_, fun i hi => ⟨by have := (h2 i hi).1; omega, (h2 i hi).2⟩⟩
 obtain ⟨o, ho⟩ := h1.has i hi
 rw [ho, e i o ho]
end
end Go.Ab
/- The abstract machine, part Sl: functions that take a slice of the caller's own and answer with another of the same cells; the library's Compact of strings. -/
namespace Go.Ab
open Go.Proofs Go.RowKit
set_option linter.unusedSectionVars false
section
variable {P : Program} {f : FuncId} {N : Nat} {k : List Item} {Q : AVal → Heap → Nat → Prop} {Ty : Types} {l : List Oper} {ρ : Env} {H : Heap} {n : Nat} {K : List OwnE} {ids : List Id}
end
end Go.Ab
/- The abstract machine, part Su: regions that draw their order and slice arrays of the call's own; reading what is never written again is told apart from memory, too. -/
namespace Go.Ab
set_option linter.unusedSectionVars false
set_option linter.unusedSimpArgs false
set_option linter.unusedVariables false
section
variable (P : Program) (N : Nat) (ops : Array Oper) (W : List Id)
end
section
variable {P : Program} {N : Nat} {ops : Array Oper} {W : List Id}
end
section
variable {P : Program} {f : FuncId} {N : Nat} {k : List Item} {ρ : Env} {H : Heap} {n : Nat} {Q : AVal → Heap → Nat → Prop}
end
section
variable (P : Program) (f : FuncId) (N : Nat) (k : List Item) (Q : AVal → Heap → Nat → Prop) (Ty : Types) (W : List Id) (ops : Array Oper)
end
section
variable {P : Program} {f : FuncId} {N : Nat} {k : List Item} {Q : AVal → Heap → Nat → Prop} {Ty : Types} {W : List Id} {ops : Array Oper} {o : Oper} {L : List Oper} {ρ : Env} {H : Heap} {n : Nat}
section
variable {H2 : Heap} (hw : ∀ i ∈ W, H2 i = H i)
include hw
end
end
section
variable {P : Program} {f f' : FuncId} {N : Nat} {k : List Item} {Q : AVal → Heap → Nat → Prop} {Ty : Types} {W : List Id} {L : List Oper} {ρ : Env} {H : Heap} {n : Nat} {K K1 K2 : List OwnE} {ids : List Id} {t : TypeId} {j : TI} {l : List Sh} {v : AVal} {es : List (List AVal)} {o : Oper}
end
end Go.Ab
/- The abstract machine, part R: what a row's reading tells, as abstract values; and back. -/
namespace Go.Ab
open Go.RowKit Go.ChangeAt Go.WideShapes Go.ChangeShapes
def RepC (w : World) (as1 : List AVal) (cs : List Value) : Prop :=
 as1.length = cs.length ∧ ∀ (c : Ctx), c.w = w → (∀ id, c.H id = none) → ∀ (j : Nat) (a : AVal) (x : Value), as1[j]? = some a → cs[j]? = some x → Rep c a x
def Reader (P : Program) (t : TypeId) {α : Type} (e : α → List AVal) (ok : α → Prop) : Prop :=
 ∀ (H : Type) (enc : TypeId × Value → H) (w : World) (base : Nat) (spare : Nat → Bool) (held : Bool) (fuel : Nat) (cs : List Value) (x : DataW H × List MemPlace), DataW.trod enc P w base spare held fuel t cs = some x → ∃ a, ok a ∧ RepC w (e a) cs
section
variable {P : Program} {t : TypeId}
theorem RepC.v (w : World) (x : Value) : RepC w [.v x] [x] := ⟨rfl, fun _ _ _ j a y ha hy => by
 match j with
 | 0 => simp at ha hy; subst ha hy; exact .v _
 | j + 1 => simp at ha⟩
theorem Reader.int (hu : P.underlying t = some (.int .i64)) : Reader P t (fun n : Int => [int n]) (fun n => -9223372036854775808 ≤ n ∧ n ≤ 9223372036854775807) := by
 intro H enc w base spare held fuel cs x h
 obtain ⟨n, rfl, _, hw⟩ := DataW.trod_int hu h
 refine ⟨n, ?_, RepC.v w _⟩
 simp [Lit.wf] at hw
 have h1 : IntKind.i64.min = -9223372036854775808 := by decide
 have h2 : IntKind.i64.max = 9223372036854775807 := by decide
 omega
theorem Reader.bool (hu : P.underlying t = some .bool) : Reader P t (fun b : Bool => [Ab.bool b]) (fun _ => True) := by
 intro H enc w base spare held fuel cs x h
 obtain ⟨b, rfl, _⟩ := DataW.trod_bool hu h
 exact ⟨b, trivial, RepC.v w _⟩
theorem Reader.str (hu : P.underlying t = some .string) : Reader P t (fun s : Str => [Ab.str s]) (fun s => s.length ≤ 9223372036854775807) := by
 intro H enc w base spare held fuel cs x h
 obtain ⟨s, rfl, _, hs⟩ := DataW.trod_string hu h
 have hm : maxLen = 9223372036854775807 := by decide
 refine ⟨s.data.toList, ?_, ?_⟩
 ·have : s.data.toList.length = s.size := rfl
  omega
 exact RepC.v w (.string s)
theorem Reader.map {α β : Type} {e : α → List AVal} {ok : α → Prop} {e' : β → List AVal} {ok' : β → Prop} (h : Reader P t e ok) (f : α → β) (he : ∀ a, e' (f a) = e a) (hok : ∀ a, ok a → ok' (f a)) : Reader P t e' ok' := by
 intro H enc w base spare held fuel cs x hx
 obtain ⟨a, h1, h2⟩ := h H enc w base spare held fuel cs x hx
 exact ⟨f a, hok a h1, by rw [he]; exact h2⟩
def FReader (P : Program) (fs : List Field) (off total : Nat) {α : Type} (e : α → List AVal) (ok : α → Prop) : Prop :=
 ∀ (H : Type) (enc : TypeId × Value → H) (w : World) (base : Nat) (spare : Nat → Bool) (held : Bool) (fuel : Nat) (cs : List Value), cs.length = total → (∀ f ∈ fs, ∃ x, DataW.trod enc P w base spare held fuel f.type ((cs.drop f.offset).take (P.cellsOf f.type)) = some x) → ∃ a, ok a ∧ RepC w (e a) (cs.drop off)
theorem FReader.nil (n : Nat) : FReader P [] n n (fun _ : Unit => []) (fun _ => True) := by
 intro H enc w base spare held fuel cs hl _
 refine ⟨(), trivial, ?_⟩
 rw [List.drop_of_length_le (by omega)]
 exact ⟨rfl, fun _ _ _ j a x ha => by simp at ha⟩
theorem RepC.append {w : World} {as1 bs : List AVal} {cs ds : List Value} (h : RepC w as1 cs) (k : RepC w bs ds) : RepC w (as1 ++ bs) (cs ++ ds) := by
 refine ⟨by simp [h.1, k.1], fun c hw hH j a x ha hx => ?_⟩
 rcases Nat.lt_or_ge j as1.length with hj | hj
 ·rw [List.getElem?_append_left hj] at ha
  rw [List.getElem?_append_left (by rw [← h.1]; exact hj)] at hx
  exact h.2 c hw hH j a x ha hx
 ·rw [List.getElem?_append_right hj] at ha
  rw [List.getElem?_append_right (by rw [← h.1]; exact hj), ← h.1] at hx
  exact k.2 c hw hH _ a x ha hx
theorem FReader.cons {f : Field} {fs : List Field} {off n total : Nat} {α β : Type} {e : α → List AVal} {ok : α → Prop} {e' : β → List AVal} {ok' : β → Prop} (ho : f.offset = off) (hn : P.cellsOf f.type = n) (h : Reader P f.type e ok) (k : FReader P fs (off + n) total e' ok') :
  FReader P (f :: fs) off total (fun p : α × β => e p.1 ++ e' p.2) (fun p => ok p.1 ∧ ok' p.2) := by
 intro H enc w base spare held fuel cs hl hx
 obtain ⟨x, h1⟩ := hx f (by simp)
 obtain ⟨a, ha, hra⟩ := h H enc w base spare held fuel _ x h1
 obtain ⟨b, hb, hrb⟩ := k H enc w base spare held fuel cs hl (fun g hg => hx g (by simp [hg]))
 refine ⟨(a, b), ⟨ha, hb⟩, ?_⟩
 have := RepC.append hra hrb
 rw [ho, hn, ← List.drop_drop, List.take_append_drop] at this
 exact this
theorem Reader.struct {fs : Array Field} {α : Type} {e : α → List AVal} {ok : α → Prop} {n : Nat} (hu : P.underlying t = some (.struct fs)) (hn : P.cellsOf t = n) (h : FReader P fs.toList 0 n e ok) : Reader P t e ok := by
 intro H enc w base spare held fuel cs x hx
 obtain ⟨xs, m, _, _, hl, hxl, hf⟩ := DataW.trod_struct hu hx
 obtain ⟨a, ha, hr⟩ := h H enc w base spare held m cs (hl.trans hn) (fun f hm => by
  obtain ⟨i, hi⟩ := List.getElem?_of_mem hm
  have hlt : i < xs.length := by rw [hxl]; simpa using (List.getElem?_eq_some_iff.1 hi).1
  exact ⟨xs[i], by rw [hf i f (by simpa using hi)]; exact List.getElem?_eq_getElem hlt⟩)
 exact ⟨a, ha, hr⟩
theorem exists_list {α : Type} {Q : Nat → α → Prop} : ∀ n, (∀ i, i < n → ∃ a, Q i a) → ∃ l : List α, l.length = n ∧ ∀ i a, l[i]? = some a → Q i a
 | 0, _ => ⟨[], rfl, by simp⟩
 | n + 1, h => by
  obtain ⟨l, hl, hq⟩ := exists_list n fun i hi => h i (by omega)
  obtain ⟨a, ha⟩ := h n (by omega)
  refine ⟨l ++ [a], by simp [hl], fun i b hb => ?_⟩
  rcases Nat.lt_or_ge i n with hi | hi
  ·rw [List.getElem?_append_left (by omega)] at hb; exact hq i b hb
  ·rw [List.getElem?_append_right (by omega)] at hb
   have : i - l.length = 0 := by
    rcases Nat.eq_zero_or_pos (i - l.length) with h | h
    ·exact h
    ·rw [List.getElem?_eq_none (by simp; omega)] at hb; cases hb
   rw [this] at hb
   simp at hb
   subst hb
   rw [show i = n by omega]
   exact ha
theorem cells_get {w : World} {base n : Nat} {a : Addr} {cs : List Value} (h : w.cells? base a n = some cs) : cs.length = n ∧ ∀ (j : Nat) x, cs[j]? = some x → w.cell? (a.add j) = some x := by
 unfold World.cells? at h
 split at h
 ·have hl := mapM_some_length h
  simp at hl
  refine ⟨hl, fun j x hx => ?_⟩
  have hj : j < n := by rw [← hl]; exact (List.getElem?_eq_some_iff.1 hx).1
  rw [mapM_some_get h j j (by simp [hj]), hx]
 ·cases h
theorem Reader.slice {t' : TypeId} {α : Type} {e : α → List AVal} {ok : α → Prop} (hu : P.underlying t = some (.slice t')) (hpos : 0 < P.cellsOf t') (h : Reader P t' e ok) :
  Reader P t (fun l : List α => [.list false (l.map e)]) (fun l => l.length ≤ 9223372036854775807 ∧ ∀ a ∈ l, ok a) := by
 intro H enc w base spare held fuel cs x hx
 rcases DataW.trod_slice hu hx with ⟨rfl, _⟩ | ⟨a, len, cap, elems, rest, n, _, rfl, _, _, hlc, hcm, hel, hat, _, _⟩
 ·refine ⟨[], ⟨by simp, by simp⟩, rfl, fun c hw hH j y z hy hz => ?_⟩
  match j with
  | 0 => simp at hy hz; subst hy hz; exact .lnil false
  | j + 1 => simp at hy
 ·have hall : ∀ i, i < len → ∃ b, ok b ∧ ∃ ci, w.cells? base (a.add (i * P.cellsOf t')) (P.cellsOf t') = some ci ∧ RepC w (e b) ci := by
   intro i hi
   have := hat i hi
   rw [List.getElem?_eq_getElem (by omega)] at this
   cases hc : w.cells? base (a.add (i * P.cellsOf t')) (P.cellsOf t') with
   | none => rw [hc] at this; cases this
   | some ci =>
    rw [hc] at this
    obtain ⟨b, hb, hr⟩ := h H enc w base spare held n ci _ this
    exact ⟨b, hb, ci, rfl, hr⟩
  obtain ⟨l, hl, hq⟩ := exists_list len hall
  have hm : maxLen = 9223372036854775807 := by decide
  have hl9 : l.length ≤ 9223372036854775807 := by omega
  refine ⟨l, ⟨hl9, fun b hb => ?_⟩, rfl, fun c hw hH j y z hy hz => ?_⟩
  ·obtain ⟨i, hi⟩ := List.getElem?_of_mem hb
   exact (hq i b hi).1
  match j with
  | j + 1 => simp at hy
  | 0 =>
  simp at hy hz
  subst hy hz
  have hcell : ∀ (i : Nat) b, l[i]? = some b → ∃ ci, RepC w (e b) ci ∧ ci.length = P.cellsOf t' ∧ ∀ (q : Nat) x, ci[q]? = some x → w.cell? ((a.add (i * P.cellsOf t')).add q) = some x := by
   intro i b hb
   obtain ⟨_, ci, h1, h2⟩ := hq i b hb
   obtain ⟨h3, h4⟩ := cells_get h1
   exact ⟨ci, h2, h3, h4⟩
  have hfirst : l ≠ [] → a.spot = none ∧ a.block < w.heap.size := by
   intro hne
   obtain ⟨b, hb⟩ : ∃ b, l[0]? = some b := get_of_len (List.length_pos_iff.2 hne)
   obtain ⟨ci, _, h3, h4⟩ := hcell 0 b hb
   obtain ⟨x, hx⟩ : ∃ x, ci[0]? = some x := get_of_len (by omega)
   have := h4 0 x hx
   constructor
   ·simpa [Addr.add] using World.cell?_spot this
   ·have h5 := this
    unfold World.cell? at h5
    rcases Nat.lt_or_ge a.block w.heap.size with hlt | hge
    ·exact hlt
    ·have : w.heap[a.block]? = none := Array.getElem?_eq_none hge
     simp [Addr.add, this] at h5
  have key : ∀ (i : Nat) (b : α) (q : Nat) (y : AVal), l[i]? = some b → (e b)[q]? = some y → ∃ x, w.cell? ⟨a.block, a.off + (i * P.cellsOf t' + q), none⟩ = some x ∧ Rep c y x := by
   intro i b q y hb hy
   obtain ⟨ci, hr, h3, h4⟩ := hcell i b hb
   have hql : q < ci.length := by rw [← hr.1]; exact (List.getElem?_eq_some_iff.1 hy).1
   obtain ⟨x, hx⟩ := get_of_len hql
   refine ⟨x, ?_, hr.2 c hw hH q y x hy hx⟩
   have h5 := h4 q x hx
   have hsp := (hfirst (by intro h0; subst h0; simp at hb)).1
   obtain ⟨b0, o0, s0⟩ := a
   simp only at hsp
   subst hsp
   simp only [Addr.add_lit] at h5
   rw [← Nat.add_assoc]
   exact h5
  have := Rep.list (c := c) false (l.map e) a cap (P.cellsOf t') (fun i q => (w.cell? ⟨a.block, a.off + (i * P.cellsOf t' + q), none⟩).getD Go.undef) (fun hne => (hfirst (by intro h0; subst h0; simp at hne)).1) (by simp; omega)
   (fun hne => ⟨no_mu hH _, by rw [hw]; exact (hfirst (by intro h0; subst h0; simp at hne)).2, fun h => by cases h⟩)
   (fun i el he => by
    obtain ⟨b, hb, rfl⟩ := map_get he
    obtain ⟨ci, hr, h3, _⟩ := hcell i b hb
    rw [hr.1, h3])
   (fun i el q y he hy => by
    obtain ⟨b, hb, rfl⟩ := map_get he
    obtain ⟨x, hx, _⟩ := key i b q y hb hy
    rw [hw, hx]
    rfl)
   (fun i el q y he hy => by
    obtain ⟨b, hb, rfl⟩ := map_get he
    obtain ⟨x, hx, hr⟩ := key i b q y hb hy
    rw [hx]
    exact hr)
  rw [List.length_map, hl] at this
  exact this
def ArgR (P : Program) (t : TypeId) {α : Type} (e : α → AVal) (ok : α → Prop) : Prop :=
 ∀ (H : Type) (enc : TypeId × Value → H) (W : World) (base : Nat) (v : Value) (d : DataW H) (p : List MemPlace), Value.okWide P W .any base t v → DataW.Trod enc P W 0 (fun _ => true) true t v d p →
  ∃ a, ok a ∧ ∀ c : Ctx, c.w = W → (∀ id, c.H id = none) → Rep c (e a) v
theorem ArgR.struct {fs : Array Field} {α : Type} {e : α → List AVal} {ok : α → Prop} (hu : P.underlying t = some (.struct fs)) (h : Reader P t e ok) : ArgR P t (fun a => .agg (e a)) ok := by
 intro H enc W base v d p hv ⟨fuel, hd⟩
 obtain ⟨a, ha, hl, hr⟩ := h H enc W 0 _ true fuel _ _ hd
 refine ⟨a, ha, fun c hw hH => ?_⟩
 simp only [Value.okWide, hu] at hv
 obtain ⟨cs, rfl, _, _⟩ := hv
 have := Rep.agg (c := c) (e a) cs.toList (by simpa [Value.cells] using hl) (fun i b x hb hx => hr c hw hH i b x hb (by simpa [Value.cells] using hx))
 simpa using this
theorem ArgR.cell {α : Type} {x : α → AVal} {ok : α → Prop} (hc : ∀ (W : World) (base : Nat) (v : Value), Value.okWide P W .any base t v → v.cells = #[v]) (h : Reader P t (fun a => [x a]) ok) : ArgR P t x ok := by
 intro H enc W base v d p hv ⟨fuel, hd⟩
 obtain ⟨a, ha, hl, hr⟩ := h H enc W 0 _ true fuel _ _ hd
 refine ⟨a, ha, fun c hw hH => ?_⟩
 exact hr c hw hH 0 _ v rfl (by rw [hc W base v hv]; rfl)
theorem cell_slice {e : TypeId} (hu : P.underlying t = some (.slice e)) (W : World) (base : Nat) (v : Value) (h : Value.okWide P W .any base t v) : v.cells = #[v] := by
 simp only [Value.okWide, hu, Cell.okWide] at h
 cases v <;> first | rfl | (simp [Cell.ok, hu] at h)
def ArgsR (P : Program) (ts : List TypeId) {α : Type} (e : α → List AVal) (ok : α → Prop) : Prop :=
 ∀ (H : Type) (enc : TypeId × Value → H) (W : World) (base : Nat) (vs : List Value) (ds : List (DataW H)) (p : List MemPlace), (∀ (j : Nat) t v, ts[j]? = some t → vs[j]? = some v → Value.okWide P W .any base t v) →
  DataW.TrodAll enc P W 0 (fun _ => true) true ts vs ds p → ∃ a, ok a ∧ ∀ c : Ctx, c.w = W → (∀ id, c.H id = none) → RepL c (e a) vs
theorem ArgsR.nil : ArgsR P [] (fun _ : Unit => []) (fun _ => True) := by
 intro H enc W base vs ds p _ h
 obtain ⟨rfl, _, _⟩ := ChangeShapes.trodAll_nil h
 exact ⟨(), trivial, fun c _ _ => ⟨rfl, fun i a x ha => by simp at ha⟩⟩
theorem ArgsR.cons {ts : List TypeId} {α β : Type} {e : α → AVal} {ok : α → Prop} {e' : β → List AVal} {ok' : β → Prop} (h : ArgR P t e ok) (k : ArgsR P ts e' ok') : ArgsR P (t :: ts) (fun p : α × β => e p.1 :: e' p.2) (fun p => ok p.1 ∧ ok' p.2) := by
 intro H enc W base vs ds p hv hA
 obtain ⟨v, vs', d, ds', q1, q2, rfl, rfl, rfl, h1, h2⟩ := ChangeShapes.trodAll_cons hA
 obtain ⟨a, ha, hr⟩ := h H enc W base v d q1 (hv 0 t v rfl rfl) h1
 obtain ⟨b, hb, hs⟩ := k H enc W base vs' ds' q2 (fun j u x hu hx => hv (j + 1) u x (by simpa using hu) (by simpa using hx)) h2
 refine ⟨(a, b), ⟨ha, hb⟩, fun c hw hH => ?_⟩
 have r1 := hr c hw hH
 obtain ⟨r2, r3⟩ := hs c hw hH
 refine ⟨by simp [r2], fun i y x hy hx => ?_⟩
 match i with
 | 0 => simp at hy hx; subst hy hx; exact r1
 | i + 1 => exact r3 i y x (by simpa using hy) (by simpa using hx)
theorem PureC.calls {f : FuncId} {args : List AVal} {x : Value} (h : PureC P f args (fun r => r = .v x)) (W : World) (xs : List Value) (hr : ∀ c : Ctx, c.w = W → (∀ id, c.H id = none) → RepL c args xs) :
  Calls P f xs.toArray W fun e W' => e = .returned x ∧ Below W.heap.size W W' := by
 refine (h ⟨W.heap.size, fun _ => 0, noHeap, 0, W⟩ xs rfl rfl (good_bare W) (hr _ rfl (fun _ => rfl))).mono ?_
 rintro e w' ⟨y, v, c', he, hw, ⟨r, hres, hR⟩, hv, hg, hk⟩
 subst hw hR
 have hy := (hres c' y rfl rfl hg hv ⟨0, fun _ => 0, noHeap, 0, c'.w⟩ rfl (fun k hk => by obtain ⟨id, o, ho, _⟩ := hk; cases ho) (Nat.zero_le _)).v_inv
 subst hy
 exact ⟨he, hk.os, hk.tape, hk.output, hk.size, fun k hk' => (hk.imm k hk' (by rintro ⟨id, o, ho, _⟩; cases ho)).1⟩
theorem Below.trodAll {H : Type} {enc : TypeId × Value → H} (hl : laidOutB P = true) {W W' : World} (hb : Below W.heap.size W W') : ∀ {ts : List TypeId} {vs : List Value} {ds : List (DataW H)} {ps : List MemPlace},
  ts.all (fun t => P.readableRec t && decide (t < P.types.size)) = true → DataW.TrodAll enc P W 0 (fun _ => true) true ts vs ds ps → (∀ x ∈ ps, x.block < W.heap.size) → DataW.TrodAll enc P W' 0 (fun b => decide (b < W.heap.size)) true ts vs ds ps
 | [], vs, ds, ps, _, h, _ => by
  obtain ⟨rfl, rfl, rfl⟩ := ChangeShapes.trodAll_nil h
  exact rfl
 | t :: ts, vs, ds, ps, hr, h, hp => by
  obtain ⟨v, vs', d, ds', q1, q2, rfl, rfl, rfl, h1, h2⟩ := ChangeShapes.trodAll_cons h
  simp only [List.all_cons, Bool.and_eq_true, decide_eq_true_eq] at hr
  exact ⟨q1, q2, Go.RowKit.Below.trod hl hr.1.1 hr.1.2 h1 hb (fun x hx => hp x (by simp [hx])), Below.trodAll hl hb (by simpa using hr.2) h2 (fun x hx => hp x (by simp [hx])), rfl⟩
theorem post_true {H : Type} {enc : TypeId × Value → H} {fn : Func} {s : ChangeSpec} {fresh handsOn : Bool} {W W' : World} {args : Array Value} {ds gs : List (DataW H)} {before : List MemPlace} {tb : TypeId}
  (hl : laidOutB P = true) (hvars : s.vars = []) (hrt : fn.resultTypes = #[tb]) (htb : P.underlying tb = some .bool) (hread : fn.params.toList.all (fun t => P.readableRec t && decide (t < P.types.size)) = true)
  (hres : (s.fn H ds).results = [.lit (.bool true)]) (hargs : (s.fn H ds).args = ds) (hvs : (s.fn H ds).vars = []) (hW : DataW.Whole enc P fn.params.toList s.vars false W args.toList ds gs before) (hb : Below W.heap.size W W') :
  s.post enc P fn false fresh handsOn false W args (.bool true) W' := by
 have hlt : ∀ x ∈ before, x.block < W.heap.size := fun x hx => by simpa using hW.lt x hx
 have hW0 := hW
 obtain ⟨p, q, hA, hV, rfl, _, _⟩ := hW0
 rw [hvars] at hV
 obtain ⟨hgs, hq⟩ := ChangeShapes.trodVars_none hV
 subst hgs hq
 refine ⟨ds, [], p ++ [], [], p, [], hW, ?_, ?_, ?_, hb.frame _, fun h => by cases h⟩
 ·rw [List.append_nil, hres, hrt]
  exact ChangeShapes.trodAll_mk1 (shut_bool htb true)
 ·rw [List.append_nil, hargs]
  exact Below.trodAll hl hb hread hA (fun x hx => hlt x (by simp [hx]))
 ·rw [List.append_nil, hvs, hvars]
  exact rfl
theorem trodAll_len {H : Type} {enc : TypeId × Value → H} {w : World} {base : Nat} {sp : Nat → Bool} {hd : Bool} : ∀ {ts : List TypeId} {vs : List Value} {ds : List (DataW H)} {ps : List MemPlace}, DataW.TrodAll enc P w base sp hd ts vs ds ps → ds.length = ts.length
 | [], vs, ds, ps, h => by obtain ⟨_, rfl, _⟩ := ChangeShapes.trodAll_nil h; rfl
 | t :: ts, vs, ds, ps, h => by
  obtain ⟨v, vs', d, ds', q1, q2, rfl, rfl, rfl, h1, h2⟩ := ChangeShapes.trodAll_cons h
  simp [trodAll_len h2]
end
theorem lift_law {C : Checked} {os : Os} {f : FuncId} {fn : Func} {s : ChangeSpec} {laid : List (String × DataW Unit)} {α : Type} {e : α → List AVal} {ok : α → Prop} {tb : TypeId} {H : Type} {enc : TypeId × Value → H}
  (own : ownKnob C.prog.godebug = none) (started : os.Started) (hinit : C.prog.inits.idxOf? f = none) (hfn : C.prog.funcs[f]? = some fn) (hl : laidOutB C.prog = true)
  (wit : ∃ (w : World) (tape : Tape) (i : Input), w.os = os ∧ (w.forCall tape i).Shaped C.prog ∧ i.vars = [] ∧ Input.okWide C.prog (w.forCall tape i) .any w.heap.size f i ∧
   ((s.pre enc C.prog fn [] false (w.forCall tape i).memory i.args ∧ laidMetH C.prog laid (w.forCall tape i).memory) ∧ sizedMet enc C.prog fn (OpenSpec.ofChange s) false (w.forCall tape i).memory i.args) ∧ ({} : Assume).holds C.prog (lone (Frame.enter C.prog f i.args .normal) [] (w.forCall tape i)))
  (hR : ArgsR C.prog fn.params.toList e ok) (hlaw : ∀ a, ok a → PureC C.prog f (e a) (fun r => r = .v (.bool true)))
  (hvars : s.vars = []) (hrt : fn.resultTypes = #[tb]) (htb : C.prog.underlying tb = some .bool) (hread : fn.params.toList.all (fun t => C.prog.readableRec t && decide (t < C.prog.types.size)) = true)
  (hs : ∀ ds : List (DataW H), ds.length = fn.params.toList.length → (s.fn H ds).results = [.lit (.bool true)] ∧ (s.fn H ds).args = ds ∧ (s.fn H ds).vars = []) :
  ReturnsInHanded {} C os f .any (fun w args => (s.pre enc C.prog fn [] false w args ∧ laidMetH C.prog laid w) ∧ sizedMet enc C.prog fn (OpenSpec.ofChange s) false w args)
   (s.post enc C.prog fn false true false false) := by
 refine returnsInHanded_of_change_and (C := C) (X := fun w _ => laidMetH C.prog laid w) (fun _ _ _ hh h => h.of_heap hh) own started hinit hfn wit ?_
 intro W base args ds gs before hval hW _ _ _ _
 have hW0 := hW
 obtain ⟨p, q, hA, _, _, _, _⟩ := hW0
 have hlen := trodAll_len hA
 obtain ⟨a, ha, hr⟩ := hR H enc W base args.toList ds p (fun j t v ht hv => hval j t v (by simpa using ht) (by simpa using hv)) hA
 obtain ⟨h1, h2, h3⟩ := hs ds hlen
 have hc := PureC.calls (hlaw a ha) W args.toList hr
 rw [Array.toArray_toList] at hc
 refine hc.mono ?_
 rintro e W' ⟨he, hb⟩
 exact ⟨_, he, post_true hl hvars hrt htb hread h1 h2 h3 hW hb⟩
end Go.Ab
/-
 DERIVED: THE SHELF's CONTRACTS AT THIS DUMP, IN PLAIN WORDS (tools/lay-plain.mjs out of 'TryzShelf.lean', which tools/lay-shelf.mjs wrote): THE SAME DECLARATIONS UNDER THE SAME NAMES: 'import', 'namespace', 'open', 'def', 'theorem' AND NOTHING ELSE: no command of the shelf's: FOR A HAND-IN. Each laying: the table of numbers ('.._ren') and one theorem, a field a fact of the dump's own or the kernel's comparison; each contract: ONE APPLICATION.
-/
namespace Go.Proofs
open Go.Shelf
def Tryz.lays160_ren : Go.Shelf.Ren := ⟨fun | 160 => 180 | 232 => 186 | 231 => 185 | 227 => 187 | 234 => 189 | 233 => 188 | 236 => 191 | 235 => 190 | 228 => 194 | 271 => 197 | 151 => 196 | 197 => 195 | 120 => 200 | 152 => 199 | 260 => 198 | 137 => 201 | 119 => 202 | 224 => 203 | 225 => 204 | 217 => 205 | 266 => 206 | n => n, fun | 9 => 9 | 4 => 4 | 3 => 3 | 5 => 5 | 117 => 191 | 116 => 190 | 0 => 0 | 124 => 194 | 21 => 21 | 105 => 200 | 46 => 122 | 119 => 204 | 139 => 207 | 138 => 206 | n => n, fun | 3 => 0 | 4 => 1 | n => n⟩
theorem Tryz.lays160 : Go.Proofs.Lays.n160 Tryz.prog Tryz.lays160_ren := {
 mixed := by kernel_rfl
 f119 := Tryz.func202.trans (congrArg some (by kernel_rfl))
 f120 := Tryz.func200.trans (congrArg some (by kernel_rfl))
 f137 := Tryz.func201.trans (congrArg some (by kernel_rfl))
 f151 := Tryz.func196.trans (congrArg some (by kernel_rfl))
 f152 := Tryz.func199.trans (congrArg some (by kernel_rfl))
 f160 := Tryz.func180.trans (congrArg some (by kernel_rfl))
 f197 := Tryz.func195.trans (congrArg some (by kernel_rfl))
 f217 := Tryz.func205.trans (congrArg some (by kernel_rfl))
 f224 := Tryz.func203.trans (congrArg some (by kernel_rfl))
 f225 := Tryz.func204.trans (congrArg some (by kernel_rfl))
 f227 := Tryz.func187.trans (congrArg some (by kernel_rfl))
 f228 := Tryz.func194.trans (congrArg some (by kernel_rfl))
 f231 := Tryz.func185.trans (congrArg some (by kernel_rfl))
 f232 := Tryz.func186.trans (congrArg some (by kernel_rfl))
 f233 := Tryz.func188.trans (congrArg some (by kernel_rfl))
 f234 := Tryz.func189.trans (congrArg some (by kernel_rfl))
 f235 := Tryz.func190.trans (congrArg some (by kernel_rfl))
 f236 := Tryz.func191.trans (congrArg some (by kernel_rfl))
 f260 := Tryz.func198.trans (congrArg some (by kernel_rfl))
 f266 := Tryz.func206.trans (congrArg some (by kernel_rfl))
 f271 := Tryz.func197.trans (congrArg some (by kernel_rfl))
 t0 := Tryz.underlying0
 a0 := Tryz.isAgg0
 z0 := Tryz.sizeOf0
 v0 := Tryz.zeroValue0
 t3 := Tryz.underlying3
 a3 := Tryz.isAgg3
 z3 := Tryz.sizeOf3
 v3 := Tryz.zeroValue3
 t4 := Tryz.underlying4
 a4 := Tryz.isAgg4
 z4 := Tryz.sizeOf4
 v4 := Tryz.zeroValue4
 t5 := Tryz.underlying5
 a5 := Tryz.isAgg5
 z5 := Tryz.sizeOf5
 v5 := Tryz.zeroValue5
 t9 := Tryz.underlying9
 a9 := Tryz.isAgg9
 z9 := Tryz.sizeOf9
 v9 := Tryz.zeroValue9
 t21 := Tryz.underlying21
 a21 := Tryz.isAgg21
 z21 := Tryz.sizeOf21
 v21 := Tryz.zeroValue21
 t46 := Tryz.underlying122
 a46 := Tryz.isAgg122
 z46 := Tryz.sizeOf122
 v46 := Tryz.zeroValue122
 t105 := Tryz.underlying200
 a105 := Tryz.isAgg200
 z105 := Tryz.sizeOf200
 v105 := Tryz.zeroValue200
 t116 := Tryz.underlying190
 a116 := Tryz.isAgg190
 z116 := Tryz.sizeOf190
 t117 := Tryz.underlying191
 a117 := Tryz.isAgg191
 z117 := Tryz.sizeOf191
 v117 := Tryz.zeroValue191
 t119 := Tryz.underlying204
 a119 := Tryz.isAgg204
 z119 := Tryz.sizeOf204
 t124 := Tryz.underlying194
 a124 := Tryz.isAgg194
 z124 := Tryz.sizeOf194
 v124 := Tryz.zeroValue194
 t138 := Tryz.underlying206
 a138 := Tryz.isAgg206
 z138 := Tryz.sizeOf206
 v138 := Tryz.zeroValue206
 t139 := Tryz.underlying207
 a139 := Tryz.isAgg207
 z139 := Tryz.sizeOf207
 v139 := Tryz.zeroValue207
 g3 := by kernel_rfl
 g4 := by kernel_rfl }
def Tryz.lays212_ren : Go.Shelf.Ren := ⟨fun | 212 => 182 | 263 => 192 | 264 => 193 | n => n, fun | 46 => 122 | 51 => 149 | 146 => 195 | 53 => 151 | 148 => 197 | n => n, fun | n => n⟩
theorem Tryz.lays212 : Go.Proofs.Lays.n212 Tryz.prog Tryz.lays212_ren := {
 mixed := by kernel_rfl
 f212 := Tryz.func182.trans (congrArg some (by kernel_rfl))
 f263 := Tryz.func192.trans (congrArg some (by kernel_rfl))
 f264 := Tryz.func193.trans (congrArg some (by kernel_rfl))
 t46 := Tryz.underlying122
 a46 := Tryz.isAgg122
 z46 := Tryz.sizeOf122
 v46 := Tryz.zeroValue122
 t51 := Tryz.underlying149
 a51 := Tryz.isAgg149
 z51 := Tryz.sizeOf149
 v51 := Tryz.zeroValue149
 t53 := Tryz.underlying151
 a53 := Tryz.isAgg151
 z53 := Tryz.sizeOf151
 v53 := Tryz.zeroValue151
 t146 := Tryz.underlying195
 a146 := Tryz.isAgg195
 z146 := Tryz.sizeOf195
 v146 := Tryz.zeroValue195
 t148 := Tryz.underlying197
 a148 := Tryz.isAgg197
 z148 := Tryz.sizeOf197
 v148 := Tryz.zeroValue197 }
open Go.RowKit Go.Lib in
theorem Tryz.bits_Mul (x y : Nat) (hx : x < 18446744073709551616) (hy : y < 18446744073709551616) (w : World) :
  Calls Tryz.prog 182 #[.int .u64 x, .int .u64 y] w fun e w' => e = .returned (.tuple #[.int .u64 ((x * y / 18446744073709551616 : Nat) : Int), .int .u64 ((x * y % 18446744073709551616 : Nat) : Int)]) ∧ w' = w := Any.bits_Mul Tryz.lays212 x y hx hy w
end Go.Proofs
/- The abstract machine, part S: the library's functions, by the shelf's contracts. -/
namespace Go.Ab
open Go.Proofs Go.RowKit
theorem PureC.of_below {P : Program} {f : FuncId} {args : List AVal} {R : AVal → Prop}
  (h : ∀ (c : Ctx) (xs : List Value), (∀ id, c.H id = none) → RepL c args xs → Calls P f xs.toArray c.w fun e w' => ∃ x v, e = .returned x ∧ R v ∧ Fresh v ∧ (∀ c' : Ctx, Rep c' v x) ∧ Below c.w.heap.size c.w w') : PureC P f args R := by
 intro c xs hH hn g r
 refine (h c xs (by intro id; rw [hH]; rfl) r).mono ?_
 rintro e w' ⟨x, v, he, hR, hf, hv, hb⟩
 obtain ⟨hk, hg⟩ := more_blocks g w' ⟨hb.os, hb.tape, hb.output⟩ hb.size hb.block
 exact ⟨x, v, { c with w := w' }, he, rfl, ⟨v, .of (Ret.fresh hf), hR⟩, hv _, hg, hk⟩
theorem RepL.one1 {c : Ctx} {a : AVal} {xs : List Value} (r : RepL c [a] xs) : ∃ x, xs = [x] ∧ Rep c a x := by
 obtain ⟨hl, hr⟩ := r
 match xs, hl with
 | [x], _ => exact ⟨x, rfl, hr 0 a x rfl rfl⟩
theorem RepL.two2 {c : Ctx} {a b : AVal} {xs : List Value} (r : RepL c [a, b] xs) : ∃ x y, xs = [x, y] ∧ Rep c a x ∧ Rep c b y := by
 obtain ⟨hl, hr⟩ := r
 match xs, hl with
 | [x, y], _ => exact ⟨x, y, rfl, hr 0 a x rfl rfl, hr 1 b y rfl rfl⟩
theorem trim_ok (s cut : Str) (hs : s.length ≤ 4611686018427387904) (hc : cut.length ≤ 1000) (ha : cut.all (fun b => decide (b.toNat < 128)) = true) : PureC Tryz.prog 180 [str s, str cut] (fun r => r = str (Lib.trimS s cut)) := by
 refine PureC.of_below fun c xs _ r => ?_
 obtain ⟨x, y, rfl, hx, hy⟩ := r.two2
 rw [hx.v_inv, hy.v_inv]
 refine (Any.strings_Trim_laid Tryz.lays160 (by kernel_rfl) ⟨s.toArray⟩ ⟨cut.toArray⟩ c.w (by simp; omega) (by simp; omega) (ascii_of_all (by simpa using ha))).mono ?_
 rintro e w' ⟨he, hb⟩
 exact ⟨_, _, he, rfl, .v _, fun _ => .v _, by simpa using hb⟩
end Go.Ab
/- Contracts of impl.joinTexts and (impl.Proc).textIn, at valid processes. -/
namespace Go.Ab
open Go.Proofs
set_option linter.unusedSimpArgs false
theorem e180 : Ent Tryz.prog 180 := Ent.of Tryz.func180 (by kernel_rfl) rfl
end Go.Ab
/- Contracts of impl.isName, impl.IsProcess and impl.ProcessText. -/
namespace Go.Ab
open Go.Proofs
set_option linter.unusedSimpArgs false
theorem e162 : Ent Tryz.prog 162 := Ent.of Tryz.func162 (by kernel_rfl) rfl
def lower (c : UInt8) : Bool := decide (97 ≤ c.toNat) && decide (c.toNat ≤ 122)
def isNm (s : Str) : Bool := within s.length 1 4 && s.all lower
def alpha : Str := [97, 98, 99, 100, 101, 102, 103, 104, 105, 106, 107, 108, 109, 110, 111, 112, 113, 114, 115, 116, 117, 118, 119, 120, 121, 122]
set_option maxRecDepth 10000 in
theorem alpha_lower (c : UInt8) : alpha.contains c = lower c := by
 have h : ∀ n : Fin 256, alpha.contains (UInt8.ofNat n.val) = lower (UInt8.ofNat n.val) := by decide
 have := h ⟨c.toNat, c.toNat_lt⟩
 simpa using this
theorem dropWhile_nil {q : UInt8 → Bool} : ∀ l : Str, l.dropWhile q = [] ↔ l.all q = true
 | [] => by simp
 | a :: l => by
  rw [List.dropWhile_cons]
  cases h : q a <;> simp [h, dropWhile_nil l]
theorem dropWhile_last {q : UInt8 → Bool} : ∀ l : Str, (l.dropWhile q).reverse.all q = true → l.all q = true
 | [], _ => by simp
 | a :: l, h => by
  rw [List.dropWhile_cons] at h
  cases hq : q a
  ·simp [hq] at h
  ·simp only [hq, if_true] at h
   have := dropWhile_last l h
   simp only [List.all_cons, hq, this, Bool.and_self]
theorem trimS_nil (s : Str) : (Lib.trimS s alpha = []) ↔ s.all lower = true := by
 have he : (fun c => alpha.contains c) = lower := funext alpha_lower
 unfold Lib.trimS Lib.trimLeftS Lib.trimRightS
 rw [he, dropWhile_nil]
 constructor
 ·intro h
  have := dropWhile_last _ h
  simpa using this
 ·intro h
  have h2 : s.reverse.dropWhile lower = [] := by rw [dropWhile_nil]; simpa using h
  rw [h2]
  rfl
theorem isName_ok (s : Str) (hs : s.length ≤ 4294967296) : PureC Tryz.prog 162 [str s] (fun r => r = bool (isNm s)) := by
 refine PureC.of Tryz.func162 rfl Tryz.ntmps162 (by simp) fun Q hQ => ?_
 refine Runs.seqE Ty_ok (by decide) fun k' hk' => ?_
 simp   -- R0
 refine hk' _ _ _ ?_
 refine Runs.seqE Ty_ok (by decide) fun k' hk' => ?_
 simp   -- R1
 refine RunK.callA Ty_ok (within_ok s.length 1 4) e113 (.cons (.v _ _ _) (.cons (.v _ _ _) (.cons (.v _ _ _) .nil))) (by decide) (by decide) rfl (by simp) ?_
 rintro _ rfl
 cases hw : within s.length 1 4
 ·simp [hw]
  refine hk' _ _ _ ?_
  exact Runs.ret Tryz.func162 (RetOk.one Tryz.results162) (hQ _ _ _ _ (.v _ _ _) (by simp [isNm, hw]))
 ·simp [hw]
  refine RunK.callA Ty_ok (trim_ok s alpha (by omega) (by decide) (by decide)) e180 (.cons (.v _ _ _) (.cons (.v _ _ _) .nil)) (by decide) (by decide) rfl (by simp [alpha]) ?_
  rintro _ rfl
  simp [hw]
  refine hk' _ _ _ ?_
  refine Runs.ret Tryz.func162 (RetOk.one Tryz.results162) (hQ _ _ _ _ (.v _ _ _) ?_)
  have := trimS_nil s
  cases h : s.all lower <;> simp [h] at this <;> simp [isNm, hw, h, this]
end Go.Ab
/- Bigraphs as values: types of data, and what a valid one is. -/
namespace Go.Ab
set_option linter.unusedSimpArgs false
structure Control where
 name : Str
 ports : Int
 kind : Int
 deriving Inhabited, DecidableEq
structure GNode where
 control : Int
 parent : Int
 links : List Int
 deriving Inhabited, DecidableEq
structure Wire where
 name : Str
 link : Int
 deriving Inhabited, DecidableEq
structure Big where
 roots : Int
 nodes : List GNode
 sites : List Int
 edges : Int
 outer : List Str
 inner : List Wire
 deriving Inhabited, DecidableEq
abbrev Sig := List Control
def sliceC {α : Type} (fr : Bool) (f : α → List AVal) (l : List α) : List AVal := [.list fr (l.map f)]
def Control.cells (x : Control) : List AVal := [str x.name, int x.ports, int x.kind]
def Wire.cells (x : Wire) : List AVal := [str x.name, int x.link]
def GNode.cells (t : Bool) (x : GNode) : List AVal := [int x.control, int x.parent, .list t (x.links.map intC)]
def encSig (t : Bool) (s : Sig) : AVal := .list t (s.map Control.cells)
def encI (t : Bool) (l : List Int) : AVal := .list t (l.map intC)
def encS (t : Bool) (l : List Str) : AVal := .list t (l.map strC)
def encW (t : Bool) (l : List Wire) : AVal := .list t (l.map Wire.cells)
def encN (t : Bool) (l : List GNode) : AVal := .list t (l.map (GNode.cells t))
def Big.cells (t : Bool) (b : Big) : List AVal := [int b.roots, encN t b.nodes, encI t b.sites, int b.edges, encS t b.outer, encW t b.inner]
def encB (t : Bool) (b : Big) : AVal := .agg (b.cells t)
theorem ints_flat (l : List Int) : ∀ e ∈ l.map intC, ∀ a ∈ e, flat a = true := by simp [intC]
theorem strs_flat (l : List Str) : ∀ e ∈ l.map strC, ∀ a ∈ e, flat a = true := by simp [strC]
theorem wires_flat (l : List Wire) : ∀ e ∈ l.map Wire.cells, ∀ a ∈ e, flat a = true := by simp [Wire.cells]
theorem sig_flat (l : Sig) : ∀ e ∈ l.map Control.cells, ∀ a ∈ e, flat a = true := by simp [Control.cells]
theorem old_encI (t : Bool) (l : List Int) : old (encI t l) = encI false l := by rw [encI, old_list, maps_old_flat (ints_flat l)]; rfl
theorem old_encS (t : Bool) (l : List Str) : old (encS t l) = encS false l := by rw [encS, old_list, maps_old_flat (strs_flat l)]; rfl
theorem old_encW (t : Bool) (l : List Wire) : old (encW t l) = encW false l := by rw [encW, old_list, maps_old_flat (wires_flat l)]; rfl
theorem old_encSig (t : Bool) (l : Sig) : old (encSig t l) = encSig false l := by rw [encSig, old_list, maps_old_flat (sig_flat l)]; rfl
theorem old_node (t : Bool) (x : GNode) : (x.cells t).map old = x.cells false := by
 simp only [GNode.cells, List.map_cons, List.map_nil, old_v]
 have := old_encI t x.links
 simp only [encI] at this
 rw [this]
theorem old_encN (t : Bool) (l : List GNode) : old (encN t l) = encN false l := by
 rw [encN, old_list, List.map_map]
 simp only [encN]
 congr 1
 exact List.map_congr_left fun x _ => old_node t x
theorem old_encB (t : Bool) (b : Big) : old (encB t b) = encB false b := by
 simp only [encB, Big.cells, old_agg, List.map_cons, List.map_nil, old_v, old_encN, old_encI, old_encS, old_encW]
theorem imm_encI (t : Bool) (l : List Int) : Imm (encI t l) := .list _ _ fun e he a ha => Imm.flat (ints_flat l e he a ha)
theorem imm_encS (t : Bool) (l : List Str) : Imm (encS t l) := .list _ _ fun e he a ha => Imm.flat (strs_flat l e he a ha)
theorem imm_encW (t : Bool) (l : List Wire) : Imm (encW t l) := .list _ _ fun e he a ha => Imm.flat (wires_flat l e he a ha)
theorem imm_encSig (t : Bool) (l : Sig) : Imm (encSig t l) := .list _ _ fun e he a ha => Imm.flat (sig_flat l e he a ha)
theorem imm_node (t : Bool) (x : GNode) : ∀ a ∈ x.cells t, Imm a := by
 intro a ha
 simp only [GNode.cells, List.mem_cons, List.not_mem_nil, or_false] at ha
 rcases ha with rfl | rfl | rfl
 ·exact .v _
 ·exact .v _
 ·exact imm_encI t x.links
theorem imm_encN (t : Bool) (l : List GNode) : Imm (encN t l) := by
 refine .list _ _ fun e he a ha => ?_
 obtain ⟨x, _, rfl⟩ := List.mem_map.1 he
 exact imm_node t x a ha
theorem imm_encB (t : Bool) (b : Big) : Imm (encB t b) := by
 refine .agg _ fun a ha => ?_
 simp only [Big.cells, List.mem_cons, List.not_mem_nil, or_false] at ha
 rcases ha with rfl | rfl | rfl | rfl | rfl | rfl
 ·exact .v _
 ·exact imm_encN t _
 ·exact imm_encI t _
 ·exact .v _
 ·exact imm_encS t _
 ·exact imm_encW t _
section
variable {H : Heap} {n : Nat}
theorem ArgOk.encI (t : Bool) (l : List Int) : ArgOk H n (encI t l) (encI false l) := ArgOk.imm' (imm_encI t l) (old_encI t l)
theorem ArgOk.encS (t : Bool) (l : List Str) : ArgOk H n (encS t l) (encS false l) := ArgOk.imm' (imm_encS t l) (old_encS t l)
theorem ArgOk.encW (t : Bool) (l : List Wire) : ArgOk H n (encW t l) (encW false l) := ArgOk.imm' (imm_encW t l) (old_encW t l)
theorem ArgOk.encSig (t : Bool) (l : Sig) : ArgOk H n (encSig t l) (encSig false l) := ArgOk.imm' (imm_encSig t l) (old_encSig t l)
theorem ArgOk.encN (t : Bool) (l : List GNode) : ArgOk H n (encN t l) (encN false l) := ArgOk.imm' (imm_encN t l) (old_encN t l)
theorem ArgOk.encB (t : Bool) (b : Big) : ArgOk H n (encB t b) (encB false b) := ArgOk.imm' (imm_encB t b) (old_encB t b)
end
def okControl (c : Control) : Bool := isNm c.name && within c.ports 0 3 && within c.kind 0 2
def newName (sig : Sig) (i : Nat) : Bool := !(sig.take i).any fun d => d.name == (sig.getD i default).name
def goodSig (sig : Sig) : Bool := within sig.length 1 6 && (List.range sig.length).all fun i => okControl (sig.getD i default) && newName sig i
def ascends (l : List Str) (i : Nat) : Bool := decide (i = 0) || Op.bytesLess (l.getD (i - 1) []) (l.getD i [])
def goodNames (l : List Str) : Bool := decide (l.length ≤ 16) && (List.range l.length).all fun i => isNm (l.getD i []) && ascends l i
def okLink (b : Big) (l : Int) : Bool := within l 0 (b.edges + b.outer.length - 1)
def okParent (sig : Sig) (b : Big) (parent : Int) (below : Nat) : Bool :=
 if parent < 0 then decide (-b.roots ≤ parent) else decide (parent < below) && decide ((sig.getD (b.nodes.getD parent.toNat default).control.toNat default).kind ≠ 2)
def okNodeB (sig : Sig) (b : Big) (i : Nat) : Bool :=
 within (b.nodes.getD i default).control 0 (sig.length - 1) && okParent sig b (b.nodes.getD i default).parent i && decide ((b.nodes.getD i default).links.length = (sig.getD (b.nodes.getD i default).control.toNat default).ports) &&
  (b.nodes.getD i default).links.all (okLink b)
def goodB (sig : Sig) (b : Big) : Bool :=
 goodSig sig && within b.roots 0 4 && decide (b.nodes.length ≤ 8) && decide (b.sites.length ≤ 4) && within b.edges 0 8 && goodNames b.outer && goodNames (b.inner.map (·.name)) &&
  (List.range b.nodes.length).all (okNodeB sig b) && b.sites.all (fun p => okParent sig b p b.nodes.length) && b.inner.all (fun w => okLink b w.link)
end Go.Ab
/- The abstract machine, part Sn: short names for what a walk by program says often. -/
namespace Go.Ab
set_option linter.unusedSectionVars false
structure Match where
 nodes : List Int
 roots : List Int
 deriving Inhabited, DecidableEq
def Match.cells (t : Bool) (m : Match) : List AVal := [.list t (m.nodes.map intC), .list t (m.roots.map intC)]
def intC2 (x : Int × Int) : List AVal := [int x.1, int x.2]
abbrev oE {α : Type} (l : List Sh) (f : α → List AVal) (v : AVal) (es : List α) : OwnE := (.s l, v, .list true (es.map f))
abbrev oI (v : AVal) (es : List Int) : OwnE := (.s [.c], v, .list true (es.map intC))
abbrev oS (v : AVal) (es : List Str) : OwnE := (.s [.c], v, .list true (es.map strC))
abbrev oN (v : AVal) (es : List GNode) : OwnE := (.s [.c, .c, .s [.c]], v, .list true (es.map (GNode.cells true)))
abbrev oW (v : AVal) (es : List Wire) : OwnE := (.s [.c, .c], v, .list true (es.map Wire.cells))
section
variable {H H' : Heap} {n n' : Nat} {K : List OwnE} {ids : List Id} {x : OwnE}
theorem Sep.f1 {x1 : OwnE} (h : Sep H n (x1 :: x :: K) ids) : Sep H n (x :: x1 :: K) ids := Sep.front (K1 := [x1]) h
theorem Sep.f2 {x1 x2 : OwnE} (h : Sep H n (x1 :: x2 :: x :: K) ids) : Sep H n (x :: x1 :: x2 :: K) ids := Sep.front (K1 := [x1, x2]) h
theorem Sep.f3 {x1 x2 x3 : OwnE} (h : Sep H n (x1 :: x2 :: x3 :: x :: K) ids) : Sep H n (x :: x1 :: x2 :: x3 :: K) ids := Sep.front (K1 := [x1, x2, x3]) h
theorem Sep.f4 {x1 x2 x3 x4 : OwnE} (h : Sep H n (x1 :: x2 :: x3 :: x4 :: x :: K) ids) : Sep H n (x :: x1 :: x2 :: x3 :: x4 :: K) ids := Sep.front (K1 := [x1, x2, x3, x4]) h
theorem Sep.f5 {x1 x2 x3 x4 x5 : OwnE} (h : Sep H n (x1 :: x2 :: x3 :: x4 :: x5 :: x :: K) ids) : Sep H n (x :: x1 :: x2 :: x3 :: x4 :: x5 :: K) ids := Sep.front (K1 := [x1, x2, x3, x4, x5]) h
theorem Sep.f6 {x1 x2 x3 x4 x5 x6 : OwnE} (h : Sep H n (x1 :: x2 :: x3 :: x4 :: x5 :: x6 :: x :: K) ids) : Sep H n (x :: x1 :: x2 :: x3 :: x4 :: x5 :: x6 :: K) ids := Sep.front (K1 := [x1, x2, x3, x4, x5, x6]) h
theorem Sep.f7 {x1 x2 x3 x4 x5 x6 x7 : OwnE} (h : Sep H n (x1 :: x2 :: x3 :: x4 :: x5 :: x6 :: x7 :: x :: K) ids) : Sep H n (x :: x1 :: x2 :: x3 :: x4 :: x5 :: x6 :: x7 :: K) ids := Sep.front (K1 := [x1, x2, x3, x4, x5, x6, x7]) h
theorem Sep.f8 {x1 x2 x3 x4 x5 x6 x7 x8 : OwnE} (h : Sep H n (x1 :: x2 :: x3 :: x4 :: x5 :: x6 :: x7 :: x8 :: x :: K) ids) : Sep H n (x :: x1 :: x2 :: x3 :: x4 :: x5 :: x6 :: x7 :: x8 :: K) ids := Sep.front (K1 := [x1, x2, x3, x4, x5, x6, x7, x8]) h
theorem Sep.f9 {x1 x2 x3 x4 x5 x6 x7 x8 x9 : OwnE} (h : Sep H n (x1 :: x2 :: x3 :: x4 :: x5 :: x6 :: x7 :: x8 :: x9 :: x :: K) ids) : Sep H n (x :: x1 :: x2 :: x3 :: x4 :: x5 :: x6 :: x7 :: x8 :: x9 :: K) ids := Sep.front (K1 := [x1, x2, x3, x4, x5, x6, x7, x8, x9]) h
theorem Sep.f10 {x1 x2 x3 x4 x5 x6 x7 x8 x9 x10 : OwnE} (h : Sep H n (x1 :: x2 :: x3 :: x4 :: x5 :: x6 :: x7 :: x8 :: x9 :: x10 :: x :: K) ids) : Sep H n (x :: x1 :: x2 :: x3 :: x4 :: x5 :: x6 :: x7 :: x8 :: x9 :: x10 :: K) ids := Sep.front (K1 := [x1, x2, x3, x4, x5, x6, x7, x8, x9, x10]) h
theorem Sep.dr (h : Sep H n (x :: K) ids) : Sep H n K ids := Sep.right (K1 := [x]) h
theorem Sep.hd (h : Sep H n (x :: K) ids) : Sep H n [x] ids := Sep.left (K1 := [x]) (K2 := K) h
theorem Sep.ap {α : Type} {l : List Sh} {f : α → List AVal} {v : AVal} {xs ys zs : List α} (hz : zs = xs ++ ys) (h : Sep H n ((.s l, v, .list true (xs.map f ++ ys.map f)) :: K) ids) : Sep H n ((.s l, v, .list true (zs.map f)) :: K) ids := by
 rw [hz, List.map_append]; exact h
theorem Sep.st {α : Type} {l : List Sh} {f : α → List AVal} {v : AVal} {xs zs : List α} {q : Nat} {y : α} (hz : zs = xs.set q y) (h : Sep H n ((.s l, v, .list true ((xs.map f).set q (f y))) :: K) ids) : Sep H n ((.s l, v, .list true (zs.map f)) :: K) ids := by
 rw [hz, List.map_set]; exact h
theorem Sep.oc {l : List Sh} {v e : AVal} (h : Sep H n ((.s l, v, e) :: K) ids) : cellsA v = some [v] ∧ Ab.one1 v = true := ⟨h.cells, h.one1⟩
end
theorem o1x : (∀ (k : IntKind) (a : Int), one1 (.v (.int k a)) = true) ∧ (∀ a : Bool, one1 (.v (.bool a)) = true) ∧ (∀ a : ByteArray, one1 (.v (.string a)) = true) ∧ one1 (.v (.slice none 0 0)) = true ∧
  (∀ (fr : Bool) (l : List (List AVal)), one1 (.list fr l) = true) ∧ (∀ (id : Id) (g o l : Nat), one1 (.arr id g o l) = true) ∧ ∀ (id : Id) (g o l : Nat), one1 (.ptr id g o l) = true :=
 ⟨fun _ _ => rfl, fun _ => rfl, fun _ => rfl, rfl, fun _ _ => rfl, fun _ _ _ _ => rfl, fun _ _ _ _ => rfl⟩
theorem cAx : (∀ (k : IntKind) (a : Int), cellsA (.v (.int k a)) = some [.v (.int k a)]) ∧ (∀ a : Bool, cellsA (.v (.bool a)) = some [.v (.bool a)]) ∧ (∀ a : ByteArray, cellsA (.v (.string a)) = some [.v (.string a)]) ∧ cellsA (.v (.slice none 0 0)) = some [.v (.slice none 0 0)] ∧
  (∀ l : List AVal, cellsA (.agg l) = some l) ∧ (∀ (fr : Bool) (l : List (List AVal)), cellsA (.list fr l) = some [.list fr l]) ∧ (∀ (id : Id) (g o l : Nat), cellsA (.arr id g o l) = some [.arr id g o l]) ∧ ∀ (id : Id) (g o l : Nat), cellsA (.ptr id g o l) = some [.ptr id g o l] :=
 ⟨fun _ _ => rfl, fun _ => rfl, fun _ => rfl, rfl, fun _ => rfl, fun _ _ => rfl, fun _ _ _ _ => rfl, fun _ _ _ _ => rfl⟩
theorem ArgOk.nest_Node {H : Heap} {n : Nat} (t : Bool) (l : List GNode) : ArgOk H n (.list t (l.map (GNode.cells t))) (.list false (l.map (GNode.cells false))) := ArgOk.encN t l
theorem old_nest_Node (t : Bool) (l : List GNode) : old (.list t (l.map (GNode.cells t))) = .list false (l.map (GNode.cells false)) := old_encN t l
theorem ixa_i {Ty : Types} {H : Heap} {t : TypeId} {len : Nat} {j : TI} {k : IntKind} {i : Int} {fr : Bool} {cs : List AVal} (hk : kd Ty t = .arr len j) (hi : 0 ≤ i ∧ i < len) :
  indexAddrF Ty H t (.iptr fr cs) (.v (.int k i)) = some (.iptr fr (cs.drop (i.toNat * j.size))) := by
 simp only [indexAddrF, hk, viewOf]
 rw [if_pos hi]
 simp only [ptrAdd]
theorem atm {α : Sort _} {x : α} {p : α → Prop} (h : ∀ v, v = x → p v) : ∃ v, v = x ∧ p v := ⟨x, rfl, h x rfl⟩
abbrev pA (i n : Nat) : AVal := .ptr (i, n) 1 0 0
abbrev bC (t : Bool) (b : Big) : List AVal := [int b.roots, .list t (b.nodes.map (GNode.cells t)), .list t (b.sites.map intC), int b.edges, .list t (b.outer.map strC), .list t (b.inner.map Wire.cells)]
abbrev mC (t : Bool) (m : Match) : List AVal := [.list t (m.nodes.map intC), .list t (m.roots.map intC)]
section
variable {H : Heap} {n : Nat}
theorem argI (t : Bool) (l : List Int) : ArgOk H n (.list t (l.map intC)) (.list false (l.map intC)) := ArgOk.encI t l
theorem argS (t : Bool) (l : List Str) : ArgOk H n (.list t (l.map strC)) (.list false (l.map strC)) := ArgOk.encS t l
theorem argW (t : Bool) (l : List Wire) : ArgOk H n (.list t (l.map Wire.cells)) (.list false (l.map Wire.cells)) := ArgOk.encW t l
theorem argC (t : Bool) (l : List Control) : ArgOk H n (.list t (l.map Control.cells)) (.list false (l.map Control.cells)) := ArgOk.encSig t l
theorem argB (t : Bool) (b : Big) : ArgOk H n (.agg (bC t b)) (.agg (bC false b)) := ArgOk.encB t b
theorem argM (t : Bool) (m : Match) : ArgOk H n (.agg (mC t m)) (.agg (mC false m)) := ArgOk.agg (.cons (argI t m.nodes) (.cons (argI t m.roots) .nil))
end
end Go.Ab
/- Loops that count: how their conditions are met. -/
namespace Go.Ab.Vg
set_option linter.unusedSimpArgs false
set_option linter.unusedVariables false
theorem loopW.up {σ τ : Type} {body : σ → (σ → Prop) → Prop} {s : σ} (N : Nat) (idx : σ → Int) (mk : Nat → τ → σ) (hidx : ∀ k t, idx (mk k t) = (k : Int)) (I : Nat → τ → Prop) (t0 : τ) (hs : s = mk 0 t0) (h0 : I 0 t0)
  (step : ∀ k t (K : σ → Prop), k ≤ N → I k t → (k < N → ∀ t', I (k + 1) t' → K (mk (k + 1) t')) → body (mk k t) K) : loopW body s := by
 refine ⟨fun s => ∃ k t, s = mk k t ∧ k ≤ N ∧ I k t, fun s => N - (idx s).toNat, ⟨0, t0, hs, Nat.zero_le _, h0⟩, ?_⟩
 rintro s ⟨k, t, rfl, hk, hI⟩
 refine step k t _ hk hI fun hlt t' hI' => ⟨⟨k + 1, t', rfl, hlt, hI'⟩, ?_⟩
 show N - (idx _).toNat < N - (idx _).toNat
 rw [hidx, hidx]
 omega
theorem loopW.upL {τ : Type} {body : Int × τ → (Int × τ → Prop) → Prop} (N : Nat) (I : Nat → τ → Prop) (t0 : τ) (h0 : I 0 t0)
  (step : ∀ k t (K : Int × τ → Prop), k ≤ N → I k t → (k < N → ∀ t', I (k + 1) t' → K (((k : Int) + 1), t')) → body ((k : Int), t) K) : loopW body (0, t0) :=
 loopW.up N (·.1) (fun k t => ((k : Int), t)) (fun _ _ => rfl) I t0 rfl h0 fun k t K hk hI h => step k t K hk hI fun hlt t' hI' => by have := h hlt t' hI'; simpa using this
theorem loopW.upR {τ : Type} {body : τ × Int → (τ × Int → Prop) → Prop} (N : Nat) (I : Nat → τ → Prop) (t0 : τ) (h0 : I 0 t0)
  (step : ∀ k t (K : τ × Int → Prop), k ≤ N → I k t → (k < N → ∀ t', I (k + 1) t' → K (t', ((k : Int) + 1))) → body (t, (k : Int)) K) : loopW body (t0, 0) :=
 loopW.up N (·.2) (fun k t => (t, (k : Int))) (fun _ _ => rfl) I t0 rfl h0 fun k t K hk hI h => step k t K hk hI fun hlt t' hI' => by have := h hlt t' hI'; simpa using this
theorem loopW.up1 {body : Int → (Int → Prop) → Prop} (N : Nat) (I : Nat → Prop) (h0 : I 0)
  (step : ∀ k (K : Int → Prop), k ≤ N → I k → (k < N → I (k + 1) → K ((k : Int) + 1)) → body (k : Int) K) : loopW body 0 :=
 loopW.up (τ := Unit) N id (fun k _ => (k : Int)) (fun _ _ => rfl) (fun k _ => I k) () rfl h0 fun k _ K hk hI h => step k K hk hI fun hlt hI' => by have := h hlt () hI'; simpa using this
theorem loopW.byM {σ : Type} {body : σ → (σ → Prop) → Prop} {s : σ} (I : σ → Prop) (m : σ → Nat) (h0 : I s) (step : ∀ s, I s → body s (fun s' => I s' ∧ m s' < m s)) : loopW body s := ⟨I, m, h0, step⟩
theorem at_lt {α : Type} [Inhabited α] {l : List α} {k : Nat} (h : k < l.length) : at' l (k : Int) = l[k] := by simp [at', h]
def idxs {α : Type} [Inhabited α] (l : List α) (p : α → Bool) (k : Nat) : List Int := ((List.range k).filter fun i : Nat => p (at' l (i : Int))).map fun i : Nat => (i : Int)
section
variable {α : Type} [Inhabited α] (l : List α) (p : α → Bool)
theorem idxs_yes {k : Nat} (h : p (at' l (k : Int)) = true) : idxs l p (k + 1) = idxs l p k ++ [(k : Int)] := by simp [idxs, List.range_succ, h]
theorem idxs_no {k : Nat} (h : p (at' l (k : Int)) = false) : idxs l p (k + 1) = idxs l p k := by simp [idxs, List.range_succ, h]
theorem idxs_len (k : Nat) : (idxs l p k).length ≤ k := by
 have := List.length_filter_le (fun i : Nat => p (at' l (i : Int))) (List.range k)
 simpa [idxs] using this
theorem mem_idxs {k : Nat} {x : Int} : x ∈ idxs l p k ↔ 0 ≤ x ∧ x < k ∧ p (at' l x) = true := by
 simp only [idxs, List.mem_map, List.mem_filter, List.mem_range]
 constructor
 ·rintro ⟨i, ⟨h1, h2⟩, rfl⟩
  exact ⟨by omega, by omega, h2⟩
 ·rintro ⟨h1, h2, h3⟩
  exact ⟨x.toNat, ⟨by omega, by rwa [Int.toNat_of_nonneg h1]⟩, by omega⟩
end
end Go.Ab.Vg
