/- The abstract machine, part H: literals of structs, arrays and slices; the step function as a whole; a region evaluated. -/
import Derived.Test.YtgmjebjcomckaaaDoorAbG
namespace Go.Ab

theorem foldl_set (off : Nat) : ∀ (vs : List Value) (k : Nat) (cells : Array Value), off + k + vs.length ≤ cells.size → (vs.zipIdx k).foldl (fun cs (p : Value × Nat) => cs.setIfInBounds (off + p.2) p.1) cells = over cells (off + k) vs
  | [], k, cells, h => by
    simp only [List.zipIdx_nil, List.foldl_nil, over, List.append_nil, List.length_nil, Nat.add_zero, List.take_append_drop]
  | v :: vs, k, cells, h => by
    simp only [List.length_cons] at h
    rw [List.zipIdx_cons, List.foldl_cons, foldl_set off vs (k + 1) _ (by simp; omega)]
    apply Array.ext_getElem?
    intro j
    rw [over_get (by simp; omega), over_get (by simp; omega)]
    simp only [List.length_cons]
    by_cases h1 : j = off + k
    · subst h1
      rw [if_neg (by omega), if_pos (by omega)]
      simp only [Nat.sub_self, List.getElem?_cons_zero]
      rw [Array.getElem?_setIfInBounds_self]
      simp
      omega
    · by_cases h2 : off + k < j ∧ j < off + k + (vs.length + 1)
      · rw [if_pos (by omega), if_pos (by omega)]
        rw [show j - (off + k) = (j - (off + (k + 1))) + 1 by omega, List.getElem?_cons_succ]
      · rw [if_neg (by omega), if_neg (by omega), Array.getElem?_setIfInBounds_ne (by omega)]

theorem fill_set {vs : List Value} {off : Nat} {cells : Array Value} (h : off + vs.length ≤ cells.size) : vs.toArray.zipIdx.foldl (fun cs (p : Value × Nat) => cs.setIfInBounds (off + p.2) p.1) cells = over cells off vs := by
  have := foldl_set off vs 0 cells (by simpa using h)
  rw [← Array.foldl_toList]
  simpa using this

theorem RepL.splice {c : Ctx} {cs new : List AVal} {vs nvs : List Value} (h : RepL c cs vs) (k : RepL c new nvs) {off : Nat} (ho : off + new.length ≤ cs.length) : RepL c (splice cs off new) (vs.take off ++ nvs ++ vs.drop (off + nvs.length)) := by
  have h1 := h.1
  have k1 := k.1
  refine ⟨by simp [Ab.splice]; omega, fun i a x ha hx => ?_⟩
  simp only [Ab.splice] at ha
  by_cases c1 : i < off
  · rw [List.append_assoc, List.getElem?_append_left (by simp; omega), List.getElem?_take, if_pos c1] at ha hx
    exact h.2 i a x ha hx
  · by_cases c2 : i < off + new.length
    · rw [List.append_assoc, List.getElem?_append_right (by simp; omega), List.getElem?_append_left (by simp; omega)] at ha hx
      simp only [List.length_take, Nat.min_eq_left (show off ≤ cs.length by omega)] at ha
      simp only [List.length_take, Nat.min_eq_left (show off ≤ vs.length by omega)] at hx
      exact k.2 _ a x ha hx
    · rw [List.getElem?_append_right (by simp; omega)] at ha hx
      simp only [List.length_append, List.length_take, Nat.min_eq_left (show off ≤ cs.length by omega), List.getElem?_drop] at ha
      simp only [List.length_append, List.length_take, Nat.min_eq_left (show off ≤ vs.length by omega), List.getElem?_drop] at hx
      rw [show off + new.length + (i - (off + new.length)) = i by omega] at ha
      rw [show off + nvs.length + (i - (off + nvs.length)) = i by omega] at hx
      exact h.2 i a x ha hx

theorem fill_ok {N : Nat} {c : Ctx} {ρ : Env} {a : Act} (r : RelE N c ρ a) {place : Nat → Option (Nat × Nat)} : ∀ (parts : List (Nat × Operand)) (cs : List AVal) (vs : List Value) (cs' : List AVal), RepL c cs vs → fillA place cs (parts.map fun p => (p.1, ρ.ev p.2)) = some cs' →
    ∃ vs', Instr.fill place vs.toArray (parts.map fun p => (p.1, a.eval p.2)) = some vs'.toArray ∧ RepL c cs' vs'
  | [], cs, vs, cs', h, hf => by
    simp only [List.map_nil, fillA, Option.some.injEq] at hf
    subst hf
    exact ⟨vs, rfl, h⟩
  | (i, x) :: parts, cs, vs, cs', h, hf => by
    simp only [List.map_cons, fillA] at hf
    split at hf
    · rename_i off size new hp hc
      split at hf
      · rename_i hcond
        obtain ⟨h1, h2⟩ := hcond
        obtain ⟨nvs, hn, hnl⟩ := cellsA_ok (r.ev x) hc
        have hl := h.1
        have hk := hnl.1
        obtain ⟨vs', hr, hl'⟩ := fill_ok r parts _ _ cs' (h.splice hnl h2) hf
        refine ⟨vs', ?_, hl'⟩
        simp only [List.map_cons, Instr.fill, hp, hn]
        rw [if_neg (by simp; omega), fill_set (by simp; omega)]
        exact hr
      · cases hf
    · cases hf

theorem RepL.ofV (c : Ctx) (l : List Value) : RepL c (l.map .v) l := ⟨by simp, Rep.vs c l⟩

theorem chunks_get {size len : Nat} {cs : List AVal} {i : Nat} {e : List AVal} (h : (chunks size len cs)[i]? = some e) (hl : cs.length = len * size) : i < len ∧ e.length = size ∧ ∀ (j : Nat) (x : AVal), e[j]? = some x → j < size ∧ cs[i * size + j]? = some x := by
  unfold chunks at h
  rw [List.getElem?_map] at h
  by_cases hi : i < len
  · rw [List.getElem?_range hi] at h
    simp only [Option.map_some, Option.some.injEq] at h
    subst h
    have hmul : i * size + size ≤ len * size := by
      have := Nat.mul_le_mul_right size (show i + 1 ≤ len by omega)
      rwa [Nat.add_mul, Nat.one_mul] at this
    refine ⟨hi, by simp; omega, fun j x hx => ?_⟩
    rw [List.getElem?_take] at hx
    split at hx
    · rename_i hj
      rw [List.getElem?_drop] at hx
      exact ⟨hj, hx⟩
    · cases hx
  · rw [List.getElem?_eq_none (by simp; omega)] at h
    cases h

section
variable {P : Program} {N : Nat} {Ty : Types} (hT : TypesOk P Ty) {ρ : Env} {H : Heap} {n : Nat}
variable {d : Option Tmp} {ty : TypeId} {pos : String} {af : Array Edge} {gu : Option (Nat × Bool)}

include hT in
theorem step_build {t : TypeId} {ps : Array (Nat × Operand)} {v : AVal} (h : buildF Ty t (ps.toList.map fun p => (p.1, ρ.ev p.2)) = some v) :
    OpSem P N ⟨d, .build t ps, ty, pos, af, gu⟩ ρ H n fun v1 H1 n1 => v1 = v ∧ H1 = H ∧ n1 = n :=
  OpSem.pure fun c a hH g r => by
    unfold buildF at h
    have hparts : (ps.map fun (p : Nat × Operand) => (p.1, a.eval p.2)).toList = ps.toList.map fun p => (p.1, a.eval p.2) := by simp
    have key : ∀ cells, P.built t (ps.map fun (p : Nat × Operand) => (p.1, a.eval p.2)).toList = some cells → (execOp a.eval ⟨d, .build t ps, ty, pos, af, gu⟩).run P c.w = .ok (.value (.agg cells)) c.w := by
      intro cells hb
      have := run_build (P := P) c.w t _ cells hb
      simp [execOp, this]
    split at h
    · rename_i i fs hi hk
      obtain ⟨hd, info, zv, hinfo, hsz, hby, hz, hzc⟩ := hT _ _ hi
      obtain ⟨i', gs, hi', hde, hfs⟩ := kd_struct hk
      rw [hi] at hi'
      cases hi'
      cases hf : fillA (fun x => (fs.map fun p => (p.1, p.2.size))[x]?) (i.zero.map .v) (ps.toList.map fun p => (p.1, ρ.ev p.2)) with
      | none => simp only [hf] at h; cases h
      | some cs =>
        simp only [hf, Option.map_some, Option.some.injEq] at h
        subst h
        obtain ⟨vs', hr, hl⟩ := fill_ok r ps.toList _ _ cs (RepL.ofV c i.zero) hf
        refine ⟨_, key vs'.toArray ?_, hl.agg⟩
        have hpa := fieldsA_places hfs hT
        simp only [Program.built, hinfo, hd, hde, hz, hpa, hzc, hparts]
        simpa using hr
    · rename_i i m j hi hk
      obtain ⟨hd, info, zv, hinfo, hsz, hby, hz, hzc⟩ := hT _ _ hi
      obtain ⟨i', e, hi', hde, hj⟩ := kd_arr hk
      rw [hi] at hi'
      cases hi'
      obtain ⟨_, info', zv', hinfo', hsz', _⟩ := hT _ _ hj
      cases hf : fillA (fun k => some (k * j.size, j.size)) (i.zero.map .v) (ps.toList.map fun p => (p.1, ρ.ev p.2)) with
      | none => simp [hf] at h
      | some cs =>
        simp only [hf, Option.map_some, Option.some.injEq] at h
        subst h
        obtain ⟨vs', hr, hl⟩ := fill_ok r ps.toList _ _ cs (RepL.ofV c i.zero) hf
        refine ⟨_, key vs'.toArray ?_, hl.agg⟩
        simp only [Program.built, hinfo, hd, hde, hz, hinfo', hsz', hzc, hparts]
        exact hr
    · cases h

theorem zero_rows {z : List Value} (len : Nat) (hz : z.length ≠ 0) : ((Array.range (len * z.length)).map fun i => z.toArray[i % z.toArray.size]!) = ((List.replicate len z).flatten).toArray := by
  apply Array.ext_getElem?
  intro i
  have hlen : ((List.replicate len z).flatten).length = len * z.length := by simp
  by_cases hi : i < len * z.length
  · have hm : i % z.length < z.length := Nat.mod_lt _ (by omega)
    have hR : ((List.replicate len z).flatten)[i]? = z[i % z.length]? := by
      clear hlen
      induction len generalizing i with
      | zero => omega
      | succ len ih =>
        rw [List.replicate_succ, List.flatten_cons]
        by_cases h1 : i < z.length
        · rw [List.getElem?_append_left h1, Nat.mod_eq_of_lt h1]
        · rw [List.getElem?_append_right (by omega)]
          rw [Nat.add_mul, Nat.one_mul] at hi
          rw [ih (i := i - z.length) (by omega) (Nat.mod_lt _ (by omega))]
          congr 1
          rw [← Nat.mod_eq_sub_mod (by omega)]
    have hR' : ((List.replicate len z).flatten).toArray[i]? = z[i % z.length]? := by rw [List.getElem?_toArray]; exact hR
    rw [hR', List.getElem?_eq_getElem hm, Array.getElem?_map]
    simp [hi, hm]
  · rw [Array.getElem?_eq_none (by simp; omega), Array.getElem?_eq_none (by simp; omega)]

theorem range0 : Array.range 0 = #[] := Array.eq_empty_of_size_eq_zero (by simp)

include hT in
theorem step_buildSlice_nil {t : TypeId} {j : TI} {k : Nat} (hk : kd Ty t = .slice j) :
    OpSem P N ⟨some k, .buildSlice t 0 #[], ty, pos, af, gu⟩ ρ H n fun v1 H1 n1 => v1 = .arr (n, k) 0 0 0 ∧ H1 = H.set (n, k) ⟨j.size, []⟩ ∧ n1 = n + 1 := by
  refine OpSem.of_value fun c a hH hn g r => ?_
  obtain ⟨i, e, hi, hd, hj⟩ := kd_slice hk
  have hde := (hT t i hi).run_desc c.w
  have hsz := (hT e j hj).run_size c.w
  have hh : Holds c #[] ⟨j.size, []⟩ := ⟨by simp, fun q e he => by simp at he⟩
  have hk := new_ob g k ⟨j.size, []⟩ #[] e hh
  refine ⟨.arr (n, k) 0 0 0, .slice (some ⟨c.w.heap.size, 0, none⟩) 0 0, _, ?_, ⟨rfl, ?_, ?_⟩, ?_, hk.2, hk.1⟩
  · simp [execOp, Instr.buildSlice, hde, hd, hsz, Instr.fill, newRow, range0]
  · rw [← hH, ← hn]
  · simp [hn]
  · refine .arr _ _ _ _ _ rfl (by simp [hn]) ?_ ?_
    · intro o ho
      exact Nat.zero_le _
    · intro o ho _
      simp [Heap.set, hn] at ho
      subst ho
      refine ⟨Nat.le_refl _, _, _, rfl, by simp [hn], rfl, Nat.le_refl _, .inr rfl, fun cl el fz hcl => ?_⟩
      simp

include hT in
theorem step_buildSlice {t : TypeId} {j : TI} {ps : Array (Nat × Operand)} {len : Nat} {cs : List AVal} (hkd : kd Ty t = .slice j) (h0 : len ≠ 0) (h1 : len * j.size ≤ 16777216) (h2 : j.size ≠ 0) (h3 : j.zero.length = j.size)
    (hf : fillA (fun k => some (k * j.size, j.size)) ((List.replicate len (j.zero.map AVal.v)).flatten) (ps.toList.map fun p => (p.1, ρ.ev p.2)) = some cs) :
    OpSem P N ⟨d, .buildSlice t len ps, ty, pos, af, gu⟩ ρ H n fun v1 H1 n1 => v1 = .list true (chunks j.size len cs) ∧ H1 = H ∧ n1 = n := by
  refine OpSem.of_value fun c a hH hn g r => ?_
  obtain ⟨i, e, hi, hd, hj⟩ := kd_slice hkd
  have hde := (hT t i hi).run_desc c.w
  have hsz := (hT e j hj).run_size c.w
  obtain ⟨zv, hz, hzc⟩ := (hT e j hj).run_zero c.w
  have hrep0 : RepL c ((List.replicate len (j.zero.map AVal.v)).flatten) ((List.replicate len j.zero).flatten) := by
    have : (List.replicate len (j.zero.map AVal.v)).flatten = ((List.replicate len j.zero).flatten).map .v := by
      rw [List.map_flatten, List.map_replicate]
    rw [this]
    exact RepL.ofV c _
  obtain ⟨vs', hr, hl⟩ := fill_ok r ps.toList _ _ cs hrep0 hf
  have hk := push_keeps g (.cells vs'.toArray e)
  have hrun : (execOp a.eval ⟨d, .buildSlice t len ps, ty, pos, af, gu⟩).run P c.w = .ok (.value (.slice (some ⟨c.w.heap.size, 0, none⟩) len len)) { c.w with heap := c.w.heap.push (.cells vs'.toArray e) } := by
    have hlz : len * j.size ≠ 0 := Nat.mul_ne_zero h0 h2
    have hzr := zero_rows (z := j.zero) len (by omega)
    rw [h3] at hzr
    have hps : (ps.map fun (p : Nat × Operand) => (p.1, a.eval p.2)).toList = ps.toList.map fun p => (p.1, a.eval p.2) := by simp
    have hbig : ¬ (16777216 < len * j.size) := by omega
    simp only [execOp, Instr.buildSlice, Sem.run_bind, hde, hd, Result.andThen_ok, hsz]
    simp only [Nat.reducePow, gt_iff_lt, hbig, if_false, hlz, Sem.run_pure, Sem.run_bind, hz, Result.andThen_ok, hzc, hzr, hps, hr]
    simp [newRow]
  have hlen : cs.length = len * j.size := by
    have := fillA_length hf
    rw [this]
    simp [h3]
  refine ⟨.list true (chunks j.size len cs), _, { c with w := { c.w with heap := c.w.heap.push (.cells vs'.toArray e) } }, hrun, ⟨rfl, hH, hn⟩, ?_, hk.2, hk.1⟩
  have hcl : (chunks j.size len cs).length = len := by simp [chunks]
  have hnm : ¬ (Ctx.mu { c with w := { c.w with heap := c.w.heap.push (.cells vs'.toArray e) } } c.w.heap.size) := by
    rintro ⟨id, o, ho, hb⟩
    have := g.lt ho
    simp only at hb
    omega
  have := Rep.list (c := { c with w := { c.w with heap := c.w.heap.push (.cells vs'.toArray e) } }) true (chunks j.size len cs) ⟨c.w.heap.size, 0, none⟩ len j.size (fun p q => vs'.getD (p * j.size + q) undef) (fun _ => rfl) (by omega)
    (fun _ => ⟨hnm, by simp, fun _ => g.Bsize⟩) (fun p e he => (chunks_get he hlen).2.1)
    (fun p e q x he hx => by
      obtain ⟨hp, _, hq⟩ := chunks_get he hlen
      obtain ⟨hq1, hq2⟩ := hq q x hx
      have hlt := (List.getElem?_eq_some_iff.1 hq2).1
      have hl1 := hl.1
      have : p * j.size + q < vs'.length := by omega
      simp [World.cell?, List.getD, this])
    (fun p e q x he hx => by
      obtain ⟨hp, _, hq⟩ := chunks_get he hlen
      obtain ⟨hq1, hq2⟩ := hq q x hx
      have hlt := (List.getElem?_eq_some_iff.1 hq2).1
      have hl1 := hl.1
      have hv : vs'[p * j.size + q]? = some (vs'[p * j.size + q]'(by omega)) := List.getElem?_eq_getElem (by omega)
      rw [List.getD, hv]
      exact (hl.2 _ _ _ hq2 hv).keeps hk.1)
  rw [hcl] at this
  exact this
  where
  fillA_length {place : Nat → Option (Nat × Nat)} : ∀ {parts : List (Nat × AVal)} {cs cs' : List AVal}, fillA place cs parts = some cs' → cs'.length = cs.length
    | [], cs, cs', h => by simp only [fillA, Option.some.injEq] at h; rw [h]
    | (i, x) :: parts, cs, cs', h => by
      simp only [fillA] at h
      split at h
      · split at h
        · rename_i hc
          rw [fillA_length h, splice_length hc.2]
        · cases h
      · cases h
end
end Go.Ab
