/- The abstract machine, part G: lengths, indexes, slices, literals; the step function is sound. -/
import Derived.Test.YtgmjebjcomckaaaDoorAbF
namespace Go.Ab

theorem live_some {H : Heap} {id : Id} {g : Nat} {o : Ob} (h : live H id g = some o) : H id = some o ∧ o.els.length = g := by
  unfold live at h
  split at h
  · rename_i o' ho
    split at h
    · rename_i hl
      cases h
      exact ⟨ho, hl⟩
    · cases h
  · cases h

theorem run_bound {P : Program} {w : World} {k : IntKind} {m : Int} {y : Nat} {code : BoundsCode} (h0 : 0 ≤ m) (h1 : m ≤ y) : (Instr.sliceBound (.int k m) y code).run P w = .ok m.toNat w := by
  simp [Instr.sliceBound, asIntOf, h0, h1]

section
variable {P : Program} {N : Nat} {Ty : Types} (hT : TypesOk P Ty) {ρ : Env} {H : Heap} {n : Nat}
variable {d : Option Tmp} {ty : TypeId} {pos : String} {af : Array Edge} {gu : Option (Nat × Bool)}

include hT in
theorem step_len {t : TypeId} {x : Operand} {v : AVal} (h : lenF Ty H t (ρ.ev x) = some v) :
    OpSem P N ⟨d, .call ⟨.builtin .len, #[x], #[t]⟩, ty, pos, af, gu⟩ ρ H n fun v1 H1 n1 => v1 = v ∧ H1 = H ∧ n1 = n :=
  OpSem.pure fun c a hH g r => by
    subst hH
    have rx := r.ev x
    unfold lenF at h
    have key : ∀ (u : Value), (Builtin.len_ #[t] ty #[a.eval x]).run P c.w = .ok u c.w → (execOp a.eval ⟨d, .call ⟨.builtin .len, #[x], #[t]⟩, ty, pos, af, gu⟩).run P c.w = .ok (.value u) c.w := by
      intro u hu
      simp only [execOp, resolve, invoke, builtin, Sem.run_bind, Sem.run_pure, Result.andThen_ok, List.map_toArray, List.map_cons, List.map_nil, hu]
    split at h
    · rename_i hk hx
      obtain ⟨i, hi, hd⟩ := kd_string hk
      have hde := (hT t i hi).run_desc c.w
      rw [hx] at rx
      cases h
      exact ⟨_, key _ (by simp [Builtin.len_, hde, hd, rx.v_inv, goInt]), .v _⟩
    · rename_i hk hx
      obtain ⟨i, e, hi, hd, hj⟩ := kd_slice hk
      have hde := (hT t i hi).run_desc c.w
      rw [hx] at rx
      cases h
      generalize hvx : a.eval x = vx at rx key
      cases rx with
      | lnil fr => exact ⟨_, key _ (by simp [Builtin.len_, hde, hd, goInt]), .v _⟩
      | list fr els a cap sz cell => exact ⟨_, key _ (by simp [Builtin.len_, hde, hd, goInt]), .v _⟩
    · rename_i hk hx
      obtain ⟨i, e, hi, hd, hj⟩ := kd_slice hk
      have hde := (hT t i hi).run_desc c.w
      rw [hx] at rx
      cases h
      exact ⟨_, key _ (by simp [Builtin.len_, hde, hd, rx.v_inv, goInt]), .v _⟩
    · rename_i id gg off len hk hx
      obtain ⟨i, e, hi, hd, hj⟩ := kd_slice hk
      have hde := (hT t i hi).run_desc c.w
      rw [hx] at rx
      split at h
      · rename_i o hl
        cases h
        obtain ⟨h1, h2⟩ := live_some hl
        generalize hvx : a.eval x = vx at rx key
        cases rx with
        | arr id gen off len x ho hn hg hp =>
          obtain ⟨_, ad, cap, hxx, _⟩ := hp o h1 h2
          subst hxx
          exact ⟨_, key _ (by simp [Builtin.len_, hde, hd, goInt]), .v _⟩
      · cases h
    · rename_i hk
      obtain ⟨i, e, hi, hd, hj⟩ := kd_arr hk
      have hde := (hT t i hi).run_desc c.w
      cases h
      exact ⟨_, key _ (by simp [Builtin.len_, hde, hd, goInt]), .v _⟩
    · cases h

include hT in
theorem step_indexAddr {t : TypeId} {x ix : Operand} {v : AVal} (h : indexAddrF Ty H t (ρ.ev x) (ρ.ev ix) = some v) :
    OpSem P N ⟨d, .indexAddr t x ix, ty, pos, af, gu⟩ ρ H n fun v1 H1 n1 => v1 = v ∧ H1 = H ∧ n1 = n :=
  OpSem.pure fun c a hH g r => by
    subst hH
    have rx := r.ev x
    have rix := r.ev ix
    unfold indexAddrF at h
    split at h
    · rename_i k m hm
      rw [hm] at rix
      have hix := rix.v_inv
      split at h
      · rename_i j fr els hk hx
        obtain ⟨i, e, hi, hd, hj⟩ := kd_slice hk
        have hde := (hT t i hi).run_desc c.w
        have hsz := (hT e j hj).run_size c.w
        rw [hx] at rx
        split at h
        · rename_i hc
          obtain ⟨h0, h1, h2⟩ := hc
          cases h
          generalize hvx : a.eval x = vx at rx
          have hlt : m.toNat < els.length := by omega
          have he : els[m.toNat]? = some els[m.toNat] := List.getElem?_eq_getElem hlt
          have hgetD : els.getD m.toNat [] = els[m.toNat] := by simp [List.getD, he]
          cases rx with
          | lnil fr => simp at h1; omega
          | list fr els ad cap sz cell hs hcap hmm hsz' hcc hr =>
            obtain ⟨b, off, sp⟩ := ad
            have hne : els ≠ [] := by intro h; simp [h] at hlt
            have hs := hs hne
            simp only at hs
            subst hs
            obtain ⟨m1, m2, m3⟩ := hmm hne
            have hszj : sz = j.size := by rw [← h2, hgetD]; exact (hsz' _ _ he).symm
            refine ⟨.pointer (some ⟨b, off + m.toNat * sz, none⟩), ?_, ?_⟩
            · simp [execOp, Instr.indexAt, hix, asIntOf, hde, hd, hvx, h0, h1, hsz, hszj, Addr.add_lit]
            · rw [hgetD]
              exact .iptr fr _ _ (fun q => cell m.toNat q) rfl m1 m2 m3 (fun q y hq => by simpa [Nat.add_assoc] using hcc _ _ q y he hq) (fun q y hq => hr _ _ q y he hq)
        · cases h
      · rename_i j id gg off len hk hx
        obtain ⟨i, e, hi, hd, hj⟩ := kd_slice hk
        have hde := (hT t i hi).run_desc c.w
        have hsz := (hT e j hj).run_size c.w
        rw [hx] at rx
        split at h
        · rename_i o hl
          obtain ⟨l1, l2⟩ := live_some hl
          split at h
          · rename_i hc
            obtain ⟨h0, h1, h2⟩ := hc
            cases h
            generalize hvx : a.eval x = vx at rx
            cases rx with
            | arr id gen off len x ho hn hg hp =>
              obtain ⟨p1, ⟨b, aoff, sp⟩, cap, hxx, hab, hsp, hlc, hoff, hcl⟩ := hp o l1 l2
              simp only at hab hsp hoff
              subst hxx hab hsp
              have hao : aoff = off * o.size := by
                rcases hoff with h | h
                · exact h
                · omega
              refine ⟨.pointer (some ⟨c.β id, aoff + m.toNat * j.size, none⟩), ?_, ?_⟩
              · simp [execOp, Instr.indexAt, hix, asIntOf, hde, hd, hvx, h0, h1, hsz, Addr.add_lit]
              · refine .ptr id _ _ _ _ rfl hn hg fun o' ho' hl' => ⟨by omega, ?_⟩
                rw [l1] at ho'
                cases ho'
                rw [hao, ← h2, Nat.add_mul, Nat.add_zero]
          · cases h
        · cases h
      · rename_i len j hk
        obtain ⟨i, e, hi, hd, hj⟩ := kd_arr hk
        have hde := (hT t i hi).run_desc c.w
        have hsz := (hT e j hj).run_size c.w
        split at h
        · rename_i cs hv
          split at h
          · rename_i hc
            obtain ⟨h0, h1⟩ := hc
            cases h
            obtain ⟨b, off, hx, hrep⟩ := Rep.ptrAdd g rx hv (m.toNat * j.size)
            refine ⟨_, ?_, hrep⟩
            simp [execOp, Instr.indexAt, hix, asIntOf, hde, hd, hx, h0, h1, hsz, Addr.add_lit, Instr.sureAddr]
          · cases h
        · cases h
      · cases h
    · cases h

include hT in
theorem step_index {t : TypeId} {x ix : Operand} {v : AVal} (h : indexF Ty t (ρ.ev x) (ρ.ev ix) = some v) :
    OpSem P N ⟨d, .index t x ix, ty, pos, af, gu⟩ ρ H n fun v1 H1 n1 => v1 = v ∧ H1 = H ∧ n1 = n :=
  OpSem.pure fun c a hH g r => by
    have rx := r.ev x
    have rix := r.ev ix
    unfold indexF at h
    split at h
    · rename_i k m hm
      rw [hm] at rix
      have hix := rix.v_inv
      split at h
      · rename_i len j cs hk hx
        obtain ⟨i, e, hi, hd, hj⟩ := kd_arr hk
        have hde := (hT t i hi).run_desc c.w
        have hsz := (hT e j hj).run_size c.w
        rw [hx] at rx
        split at h
        · rename_i hc
          obtain ⟨h0, h1⟩ := hc
          generalize hvx : a.eval x = vx at rx
          cases rx with
          | agg _ vs hl hr =>
            obtain ⟨y, hrun, hrep⟩ := run_part (hT _ _ hj) (⟨hl, hr⟩ : RepL c cs vs) h
            exact ⟨y, by simp [execOp, Instr.index, hix, asIntOf, hde, hd, hvx, h0, h1, hsz, hrun], hrep⟩
        · cases h
      · rename_i s hk hx
        obtain ⟨i, hi, hd⟩ := kd_string hk
        have hde := (hT t i hi).run_desc c.w
        rw [hx] at rx
        split at h
        · rename_i hc
          obtain ⟨h0, h1⟩ := hc
          cases h
          have hlt : m.toNat < s.size := by omega
          have hs : s[m.toNat]? = some (s.data.getD m.toNat 0) := by
            have h1 : s[m.toNat]? = some s[m.toNat] := getElem?_pos s m.toNat hlt
            rw [h1]
            have h2 : m.toNat < s.data.size := hlt
            simp only [Array.getD, h2, dif_pos]
            rfl
          exact ⟨_, by simp [execOp, Instr.index, hix, asIntOf, hde, hd, rx.v_inv, h0, hs], .v _⟩
        · cases h
      · cases h
    · cases h

theorem bound_eval {N : Nat} {c : Ctx} {ρ : Env} {a : Act} (r : RelE N c ρ a) {lo : Option Operand} {dflt : Nat} {l : Int} (h : boundOf (lo.map ρ.ev) dflt = some l) :
    (lo = none ∧ l = dflt) ∨ ∃ y k, lo = some y ∧ a.eval y = .int k l := by
  cases lo with
  | none => left; simp [boundOf] at h; exact ⟨rfl, h.symm⟩
  | some y =>
    right
    simp only [Option.map_some, boundOf] at h
    have ry := r.ev y
    split at h
    · rename_i heq; simp at heq
    · rename_i k m heq
      simp only [Option.some.injEq] at heq h
      rw [heq] at ry
      exact ⟨y, k, rfl, by rw [ry.v_inv, h]⟩
    · cases h

/-- The bounds of a slice expression come to what they say. -/
theorem run_bounds {N : Nat} {c : Ctx} {ρ : Env} {a : Act} (r : RelE N c ρ a) {lo hi : Option Operand} {len cap : Nat} {l h : Int} {isSlice : Bool} (hl : boundOf (lo.map ρ.ev) 0 = some l) (hh : boundOf (hi.map ρ.ev) len = some h)
    (h0 : 0 ≤ l) (h1 : l ≤ h) (h2 : h ≤ len) (h3 : len ≤ cap) : (Instr.sliceBounds isSlice len cap (lo.map a.eval) (hi.map a.eval) none).run P c.w = .ok (l.toNat, h.toNat, cap) c.w := by
  have e1 : ∀ (L : Nat) (code : BoundsCode), (L : Int) = h → (match (lo.map a.eval) with | some v => Instr.sliceBound v L code | none => pure 0 : Sem Nat).run P c.w = .ok l.toNat c.w := by
    intro L code hL
    rcases bound_eval r hl with ⟨rfl, rfl⟩ | ⟨y, k, rfl, hy⟩
    · simp
    · simp only [Option.map_some, hy]
      exact run_bound h0 (by omega)
  rcases bound_eval r hh with ⟨rfl, rfl⟩ | ⟨y, k, rfl, hy⟩
  · simp only [Instr.sliceBounds, Option.map_none, Sem.run_bind, Sem.run_pure, Result.andThen_ok]
    rw [show ((len : Int).toNat) = len from by omega]
    have := e1 len .sliceB rfl
    simp only [Option.isSome_none, Bool.false_eq_true, if_false]
    split <;> split at this <;> simp_all
  · have hb : ∀ code, (Instr.sliceBound (.int k h) cap code).run P c.w = .ok h.toNat c.w := fun code => run_bound (by omega) (by omega)
    simp only [Instr.sliceBounds, Option.map_some, hy, Sem.run_bind, Sem.run_pure, Result.andThen_ok, hb]
    have := e1 h.toNat .sliceB (by omega)
    simp only [Option.isSome_none, Bool.false_eq_true, if_false]
    split <;> split at this <;> simp_all

theorem list_sub {c : Ctx} {fr : Bool} {els : List (List AVal)} {a : Addr} {cap sz : Nat} {cell : Nat → Nat → Value} (hs : els ≠ [] → a.spot = none) (hcap : els.length ≤ cap)
    (hm : els ≠ [] → ¬ c.mu a.block ∧ a.block < c.w.heap.size ∧ (fr = true → c.B ≤ a.block)) (hsz : ∀ (i : Nat) (e : List AVal), els[i]? = some e → e.length = sz)
    (hc : ∀ (i : Nat) (e : List AVal) (j : Nat) (x : AVal), els[i]? = some e → e[j]? = some x → c.w.cell? ⟨a.block, a.off + (i * sz + j), none⟩ = some (cell i j))
    (hr : ∀ (i : Nat) (e : List AVal) (j : Nat) (x : AVal), els[i]? = some e → e[j]? = some x → Rep c x (cell i j)) (l h : Nat) (hlh : l ≤ h) (hh : h ≤ els.length) :
    Rep c (.list fr ((els.take h).drop l)) (.slice (some (if cap = l then a else a.add (l * sz))) (h - l) (cap - l)) := by
  have hlen : ((els.take h).drop l).length = h - l := by simp; omega
  have hget : ∀ (i : Nat) (e : List AVal), ((els.take h).drop l)[i]? = some e → els[l + i]? = some e := by
    intro i e he
    rw [List.getElem?_drop, List.getElem?_take] at he
    split at he
    · exact he
    · cases he
  by_cases hempty : (els.take h).drop l = []
  · rw [hempty]
    have h0 : h - l = 0 := by rw [← hlen, hempty]; rfl
    rw [h0]
    exact .list fr [] _ (cap - l) 0 (fun _ _ => undef) (fun h => absurd rfl h) (Nat.zero_le _) (fun h => absurd rfl h) (fun _ _ h => by simp at h) (fun _ _ _ _ h => by simp at h) (fun _ _ _ _ h => by simp at h)
  have hne : els ≠ [] := by intro h0; subst h0; simp at hempty
  have hs := hs hne
  have hadd : a.add (l * sz) = ⟨a.block, a.off + l * sz, none⟩ := by
    obtain ⟨b, off, sp⟩ := a
    simp only at hs
    subst hs
    exact Addr.add_lit b off (l * sz)
  by_cases hcl : cap = l
  · have hnil : (els.take h).drop l = [] := List.eq_nil_of_length_eq_zero (by omega)
    rw [if_pos hcl, hnil, show h - l = 0 by omega]
    exact .list fr [] a (cap - l) 0 (fun _ _ => undef) (fun _ => hs) (Nat.zero_le _) (fun h => absurd rfl h) (fun _ _ h => by simp at h) (fun _ _ _ _ h => by simp at h) (fun _ _ _ _ h => by simp at h)
  · rw [if_neg hcl, hadd]
    have := Rep.list (c := c) fr ((els.take h).drop l) ⟨a.block, a.off + l * sz, none⟩ (cap - l) sz (fun i j => cell (l + i) j) (fun _ => rfl) (by omega)
      (fun hne => hm (by intro h0; simp [h0] at hne)) (fun i e he => hsz _ e (hget i e he))
      (fun i e j x he hx => by
        have := hc _ e j x (hget i e he) hx
        simp only at *
        rw [show a.off + l * sz + (i * sz + j) = a.off + ((l + i) * sz + j) by rw [Nat.add_mul]; omega]
        exact this)
      (fun i e j x he hx => hr _ e j x (hget i e he) hx)
    rw [hlen] at this
    exact this

include hT in
theorem step_slice {t : TypeId} {x : Operand} {lo hi : Option Operand} {v : AVal} (h : sliceF Ty H t (ρ.ev x) (lo.map ρ.ev) (hi.map ρ.ev) = some v) :
    OpSem P N ⟨d, .slice t x lo hi none, ty, pos, af, gu⟩ ρ H n fun v1 H1 n1 => v1 = v ∧ H1 = H ∧ n1 = n :=
  OpSem.pure fun c a hH g r => by
    subst hH
    have rx := r.ev x
    unfold sliceF at h
    split at h
    · rename_i s hk hx
      obtain ⟨i, hi', hd⟩ := kd_string hk
      have hde := (hT t i hi').run_desc c.w
      rw [hx] at rx
      split at h
      · rename_i l hh hl hhh
        split at h
        · rename_i hc
          obtain ⟨c0, c1, c2⟩ := hc
          cases h
          have hb := run_bounds (P := P) r (len := s.size) (cap := s.size) (isSlice := false) hl hhh c0 c1 c2 (Nat.le_refl _)
          exact ⟨_, by simp [execOp, Instr.sliceAt, Instr.slice, hde, hd, rx.v_inv, hb], .v _⟩
        · cases h
      · cases h
    · rename_i j fr els hk hx
      obtain ⟨i, e, hi', hd, hj⟩ := kd_slice hk
      have hde := (hT t i hi').run_desc c.w
      have hsz := (hT e j hj).run_size c.w
      rw [hx] at rx
      split at h
      · rename_i l hh hl hhh
        split at h
        · rename_i hc
          obtain ⟨c0, c1, c2, c3⟩ := hc
          cases h
          generalize hvx : a.eval x = vx at rx
          cases rx with
          | lnil fr =>
            have hb := run_bounds (P := P) r (len := 0) (cap := 0) (isSlice := true) hl hhh c0 c1 c2 (Nat.le_refl _)
            simp only [List.length_nil] at c2
            have hh0 : hh = 0 := by omega
            have hl0 : l = 0 := by omega
            subst hh0 hl0
            exact ⟨.slice none 0 0, by simp [execOp, Instr.sliceAt, Instr.slice, hde, hd, hvx, hb, hsz], by simpa using Rep.lnil fr⟩
          | list fr els ad cap sz cell hs hcap hmm hsz' hcc hr =>
            have hb := run_bounds (P := P) r (len := els.length) (cap := cap) (isSlice := true) hl hhh c0 c1 c2 hcap
            have hrep : Rep c (.list fr ((els.take hh.toNat).drop l.toNat)) (.slice (some (if cap = l.toNat then ad else ad.add (l.toNat * j.size))) (hh.toNat - l.toNat) (cap - l.toNat)) := by
              refine list_sub hs hcap hmm (fun i e he => ?_) ?_ hr l.toNat hh.toNat (by omega) (by omega)
              · have := List.all_eq_true.1 c3 e (List.mem_of_getElem? he)
                simpa using this
              · intro i e q y he hq
                have h1 : sz = j.size := by
                  have := List.all_eq_true.1 c3 e (List.mem_of_getElem? he)
                  rw [← hsz' i e he]
                  simpa using this
                rw [← h1]
                exact hcc i e q y he hq
            refine ⟨_, ?_, hrep⟩
            by_cases hcl : cap = l.toNat
            · rw [hcl] at hb
              simp [execOp, Instr.sliceAt, Instr.slice, hde, hd, hvx, hb, hsz, hcl]
            · simp [execOp, Instr.sliceAt, Instr.slice, hde, hd, hvx, hb, hsz, hcl]
        · cases h
      · cases h
    · rename_i j id gg off len hk hx
      obtain ⟨i, e, hi', hd, hj⟩ := kd_slice hk
      have hde := (hT t i hi').run_desc c.w
      have hsz := (hT e j hj).run_size c.w
      rw [hx] at rx
      split at h
      · rename_i o l hh hlv hl hhh
        obtain ⟨l1, l2⟩ := live_some hlv
        split at h
        · rename_i hc
          obtain ⟨c0, c1, c2, c3⟩ := hc
          cases h
          generalize hvx : a.eval x = vx at rx
          cases rx with
          | arr id gen off len x ho hn hg hp =>
            obtain ⟨p1, ⟨b, aoff, sp⟩, cap, hxx, hab, hsp, hlc, hoff, hcl⟩ := hp o l1 l2
            simp only at hab hsp hoff
            subst hxx hab hsp
            have hb := run_bounds (P := P) r (len := len) (cap := cap) (isSlice := true) hl hhh c0 c1 c2 hlc
            refine ⟨.slice (some (if cap = l.toNat then ⟨c.β id, aoff, none⟩ else ⟨c.β id, aoff + l.toNat * j.size, none⟩)) (hh.toNat - l.toNat) (cap - l.toNat), ?_, ?_⟩
            · by_cases hcl : cap = l.toNat
              · rw [hcl] at hb
                simp [execOp, Instr.sliceAt, Instr.slice, hde, hd, hvx, hb, hsz, hcl]
              · simp [execOp, Instr.sliceAt, Instr.slice, hde, hd, hvx, hb, hsz, hcl, Addr.add_lit]
            · refine .arr id _ _ _ _ rfl hn hg fun o' ho' hl' => ?_
              rw [l1] at ho'
              cases ho'
              refine ⟨by omega, _, _, rfl, by split <;> rfl, by split <;> rfl, by omega, ?_, fun cl el fz hcell => ?_⟩
              · by_cases hcl : cap = l.toNat
                · right; omega
                · left
                  rw [if_neg hcl]
                  rcases hoff with h | h
                  · simp only; rw [h, Nat.add_mul, c3]
                  · omega
              · have := hcl cl el fz hcell
                have hle : off + l.toNat + (cap - l.toNat) = off + cap := by omega
                rw [hle]
                exact this
        · cases h
      · cases h
    · rename_i j hk hx
      obtain ⟨i, e, hi', hd, hj⟩ := kd_slice hk
      have hde := (hT t i hi').run_desc c.w
      have hsz := (hT e _ hj).run_size c.w
      rw [hx] at rx
      split at h
      · rename_i l hh hl hhh
        split at h
        · rename_i hc
          obtain ⟨rfl, rfl⟩ := hc
          cases h
          have hb := run_bounds (P := P) r (len := 0) (cap := 0) (isSlice := true) hl hhh (Int.le_refl _) (Int.le_refl _) (Int.le_refl _) (Nat.le_refl _)
          exact ⟨_, by simp [execOp, Instr.sliceAt, Instr.slice, hde, hd, rx.v_inv, hb, hsz], .v _⟩
        · cases h
      · cases h
    · cases h
end
end Go.Ab
