/- The abstract machine, part F: the model's operations come to what part E says. -/
import Derived.Test.YtgmjebjcomckaaaDoorAbE
namespace Go.Ab

/-- An operation that leaves the world alone. -/
theorem OpSem.pure {P : Program} {N : Nat} {o : Oper} {ρ : Env} {H : Heap} {n : Nat} {v : AVal}
    (h : ∀ (c : Ctx) (a : Act), c.H = H → Good c → RelE N c ρ a → ∃ x, (execOp a.eval o).run P c.w = .ok (.value x) c.w ∧ Rep c v x) :
    OpSem P N o ρ H n fun v1 H1 n1 => v1 = v ∧ H1 = H ∧ n1 = n :=
  OpSem.of_value fun c a hH hn g r => let ⟨x, hx, hr⟩ := h c a hH g r; ⟨v, x, c, hx, ⟨rfl, hH, hn⟩, hr, g, Keeps.refl c⟩

theorem Rep.ptrAdd {c : Ctx} (g : Good c) {p : AVal} {x : Value} (r : Rep c p x) {cs : List AVal} (h : viewOf c.H p = some cs) (k : Nat) : ∃ b off, x = .pointer (some ⟨b, off, none⟩) ∧ Rep c (ptrAdd p k) (.pointer (some ⟨b, off + k, none⟩)) := by
  obtain ⟨b, off, hx, _⟩ := viewOf_ok g r h
  refine ⟨b, off, hx, ?_⟩
  subst hx
  cases r with
  | ptr id gen idx o2 x ho hn hg hp =>
    refine .ptr id gen idx (o2 + k) _ rfl hn hg fun o hid hl => ?_
    obtain ⟨h1, h2⟩ := hp o hid hl
    refine ⟨h1, ?_⟩
    simp only [Value.pointer.injEq, Option.some.injEq, Addr.mk.injEq] at h2 ⊢
    exact ⟨h2.1, by have := h2.2.1; omega, trivial⟩
  | iptr fr cs' a cell hs hm hb hf hc hr =>
    refine .iptr fr (cs'.drop k) ⟨b, off + k, none⟩ (fun j => cell (k + j)) rfl hm hb hf (fun j x hx => ?_) (fun j x hx => ?_)
    · rw [List.getElem?_drop] at hx
      have := hc _ _ hx
      simpa [Nat.add_assoc] using this
    · rw [List.getElem?_drop] at hx
      exact hr _ _ hx
  | undef => simp [viewOf] at h
  | v => simp [viewOf] at h
  | arr => simp [viewOf] at h

section
variable {P : Program} {N : Nat} {Ty : Types} (hT : TypesOk P Ty) {ρ : Env} {H : Heap} {n : Nat}
variable {d : Option Tmp} {ty : TypeId} {pos : String} {af : Array Edge} {gu : Option (Nat × Bool)}

theorem step_move {x : Operand} : OpSem P N ⟨d, .move x, ty, pos, af, gu⟩ ρ H n fun v1 H1 n1 => v1 = ρ.ev x ∧ H1 = H ∧ n1 = n :=
  OpSem.pure fun c a _ _ r => ⟨a.eval x, by simp [execOp], r.ev x⟩

theorem step_assign {x : Operand} : OpSem P N ⟨d, .assign x, ty, pos, af, gu⟩ ρ H n fun v1 H1 n1 => v1 = ρ.ev x ∧ H1 = H ∧ n1 = n :=
  OpSem.pure fun c a _ _ r => ⟨a.eval x, by simp [execOp], r.ev x⟩

theorem step_pick {c x y : Operand} {t : Bool} (hc : ρ.ev c = .v (.bool t)) : OpSem P N ⟨d, .pick c x y, ty, pos, af, gu⟩ ρ H n fun v1 H1 n1 => v1 = (if t then ρ.ev x else ρ.ev y) ∧ H1 = H ∧ n1 = n :=
  OpSem.pure fun c' a _ _ r => by
    have h := r.ev c
    rw [hc] at h
    have hb := h.v_inv
    cases t with
    | true => exact ⟨a.eval x, by simp [execOp, hb, asBool], r.ev x⟩
    | false => exact ⟨a.eval y, by simp [execOp, hb, asBool], r.ev y⟩

include hT in
theorem step_alloc {t : TypeId} {i : TI} {k : Nat} (hi : Ty t = some i) :
    OpSem P N ⟨some k, .alloc t, ty, pos, af, gu⟩ ρ H n fun v1 H1 n1 => v1 = .ptr (n, k) 1 0 0 ∧ H1 = H.set (n, k) ⟨i.zero.length, [i.zero.map .v]⟩ ∧ n1 = n + 1 := by
  refine OpSem.of_value fun c a hH hn g r => ?_
  obtain ⟨zv, hz, hzc⟩ := (hT t i hi).run_zero c.w
  have hh : Holds c i.zero.toArray ⟨i.zero.length, [i.zero.map .v]⟩ := by
    refine ⟨by simp, fun j e he => ?_⟩
    cases j with
    | zero =>
      simp only [List.getElem?_cons_zero, Option.some.injEq] at he
      subst he
      refine ⟨by simp, fun j x hx => ?_⟩
      rw [List.getElem?_map] at hx
      cases hj : i.zero[j]? with
      | none => simp [hj] at hx
      | some y =>
        simp only [hj, Option.map_some, Option.some.injEq] at hx
        subst hx
        exact ⟨y, by simpa using hj, .v y⟩
    | succ j => simp at he
  have hk := new_ob g k ⟨i.zero.length, [i.zero.map .v]⟩ i.zero.toArray t hh
  refine ⟨.ptr (n, k) 1 0 0, .pointer (some ⟨c.w.heap.size, 0, none⟩), _, ?_, ⟨rfl, ?_, ?_⟩, ?_, hk.2, hk.1⟩
  · simp [execOp, Instr.alloc, hz, newVar, newRow, hzc]
  · rw [← hH, ← hn]
  · simp [hn]
  · refine .ptr _ _ _ _ _ rfl (by simp [hn]) ?_ ?_
    · intro o ho
      simp [Heap.set, hn] at ho
      subst ho
      simp
    · intro o ho _
      simp [Heap.set, hn] at ho
      subst ho
      simp [hn]

theorem step_box {t : TypeId} {x : Operand} {cs : List AVal} {k : Nat} (hc : cellsA (ρ.ev x) = some cs) :
    OpSem P N ⟨some k, .box t x, ty, pos, af, gu⟩ ρ H n fun v1 H1 n1 => v1 = .ptr (n, k) 1 0 0 ∧ H1 = H.set (n, k) ⟨cs.length, [cs]⟩ ∧ n1 = n + 1 := by
  refine OpSem.of_value fun c a hH hn g r => ?_
  obtain ⟨vs, hvs, hl⟩ := cellsA_ok (r.ev x) hc
  have hh : Holds c vs.toArray ⟨cs.length, [cs]⟩ := by
    have := hl.1
    refine ⟨by simp [this], fun j e he => ?_⟩
    cases j with
    | zero =>
      simp only [List.getElem?_cons_zero, Option.some.injEq] at he
      subst he
      refine ⟨rfl, fun j y hy => ?_⟩
      have hj := (List.getElem?_eq_some_iff.1 hy).1
      have hv : vs[j]? = some (vs[j]'(by omega)) := List.getElem?_eq_getElem (by omega)
      exact ⟨_, by simp [hv], hl.2 _ _ _ hy hv⟩
    | succ j => simp at he
  have hk := new_ob g k ⟨cs.length, [cs]⟩ vs.toArray t hh
  refine ⟨.ptr (n, k) 1 0 0, .pointer (some ⟨c.w.heap.size, 0, none⟩), _, ?_, ⟨rfl, ?_, ?_⟩, ?_, hk.2, hk.1⟩
  · simp [execOp, Instr.box, newVar, newRow, hvs]
  · rw [← hH, ← hn]
  · simp [hn]
  · refine .ptr _ _ _ _ _ rfl (by simp [hn]) ?_ ?_
    · intro o ho
      simp [Heap.set, hn] at ho
      subst ho
      simp
    · intro o ho _
      simp [Heap.set, hn] at ho
      subst ho
      simp [hn]

include hT in
theorem step_load {t : TypeId} {i : TI} {x : Operand} {cs : List AVal} {v : AVal} (hi : Ty t = some i) (hv : viewOf H (ρ.ev x) = some cs) (hl : loadA i cs = some v) :
    OpSem P N ⟨d, .load t x, ty, pos, af, gu⟩ ρ H n fun v1 H1 n1 => v1 = v ∧ H1 = H ∧ n1 = n :=
  OpSem.pure fun c a hH g r => by
    subst hH
    obtain ⟨b, off, hx, hview⟩ := viewOf_ok g (r.ev x) hv
    obtain ⟨y, hrun, hrep⟩ := run_loadVar (hT t i hi) hview hl
    exact ⟨y, by simp [execOp, Instr.loadAt, Instr.sureAddr, hx, hrun], hrep⟩

include hT in
theorem step_store {t : TypeId} {x y : Operand} {H' : Heap} (h : storeF (Ty t) (ρ.ev x) (cellsA (ρ.ev y)) H = some H') :
    OpSem P N ⟨d, .store t x y, ty, pos, af, gu⟩ ρ H n fun v1 H1 n1 => v1 = .undef ∧ H1 = H' ∧ n1 = n := by
  refine OpSem.of_skip fun c a hH hn g r => ?_
  subst hH
  cases hi : Ty t with
  | none => simp [storeF, hi] at h
  | some i =>
    cases hc : cellsA (ρ.ev y) with
    | none => simp only [storeF, hi, hc] at h; split at h <;> simp_all
    | some new =>
      have rx := r.ev x
      generalize hpx : ρ.ev x = px at rx h
      generalize hvx : a.eval x = vx at rx
      cases rx with
      | ptr id gen idx off _ ho hn' hg hp =>
        simp only [storeF, hi, hc, live] at h
        cases hid : c.H id with
        | none => simp [hid] at h
        | some o =>
          simp only [hid] at h
          by_cases hl : o.els.length = gen
          · rw [if_pos hl] at h
            simp only at h
            split at h
            · rename_i hcond
              obtain ⟨h1, h2, h3, h4⟩ := hcond
              simp only [Option.some.injEq] at h
              obtain ⟨_, hptr⟩ := hp o hid hl
              obtain ⟨vs, hvs, hrl⟩ := cellsA_ok (r.ev y) hc
              obtain ⟨w', hrun, hk, hgood⟩ := store_ob g hid (by rw [hl]; exact h2) h3 hrl h4 P
              refine ⟨{ c with H := c.H.set id (o.write idx off new), w := w' }, ?_, ⟨rfl, h, hn⟩, hgood, hk⟩
              have hsz := (hT t i hi).run_size c.w
              have hvl : vs.length = i.size := by rw [← hrl.1]; exact h1
              simp [execOp, Instr.storeAt, Instr.sureAddr, hvx, hptr, storeVar, hvs, hvl, hsz, hrun]
            · cases h
          · rw [if_neg hl] at h
            simp at h
      | _ => simp [storeF, hi, hc] at h

include hT in
theorem step_fieldAddr {t : TypeId} {x : Operand} {f off : Nat} {j : TI} {fs : List (Nat × TI)} {cs : List AVal} (hk : kd Ty t = .struct fs) (hf : fs[f]? = some (off, j)) (hs : j.size ≠ 0)
    (hv : viewOf H (ρ.ev x) = some cs) : OpSem P N ⟨d, .fieldAddr t x f, ty, pos, af, gu⟩ ρ H n fun v1 H1 n1 => v1 = ptrAdd (ρ.ev x) off ∧ H1 = H ∧ n1 = n :=
  OpSem.pure fun c a hH g r => by
    subst hH
    obtain ⟨i, gs, hi, hd, hfs⟩ := kd_struct hk
    obtain ⟨fl, hfl, rfl, hj⟩ := fieldsA_get hfs hf
    obtain ⟨b, off, hx, hrep⟩ := Rep.ptrAdd g (r.ev x) hv fl.offset
    refine ⟨_, ?_, hrep⟩
    have hde := (hT t i hi).run_desc c.w
    have hsz := (hT fl.type j hj).run_size c.w
    have hg : gs[f]? = some fl := by simpa using hfl
    simp [execOp, Instr.fieldAt, hde, hd, hg, Instr.sureAddr, hx, fieldPlace, hsz, hs, Addr.add_lit]

theorem run_part {i : TI} {t : TypeId} (ht : TyOk P t i) {c : Ctx} {cs : List AVal} {vs : List Value} (hl : RepL c cs vs) {off : Nat} {v : AVal} (h : partA i cs off = some v) :
    ∃ x, (part t vs.toArray off).run P c.w = .ok x c.w ∧ Rep c v x := by
  have hlen := hl.1
  unfold partA at h
  split at h
  · rename_i hagg
    split at h
    · rename_i hsz
      simp only [Option.some.injEq] at h
      subst h
      refine ⟨.agg ((vs.drop off).take i.size).toArray, ?_, ?_⟩
      · simp only [part, Sem.run_bind, ht.run_isAgg, Result.andThen_ok, hagg, if_true, ht.run_size, Sem.run_pure]
        congr 2
        apply Array.ext'
        simp [List.extract_eq_take_drop]
      · refine .agg _ _ (by simp; omega) fun k a x ha hx => ?_
        rw [List.getElem?_take] at ha hx
        split at ha
        · rename_i hk
          rw [if_pos hk] at hx
          rw [List.getElem?_drop] at ha hx
          exact hl.2 _ _ _ ha hx
        · cases ha
    · cases h
  · rename_i hagg
    have ho := (List.getElem?_eq_some_iff.1 h).1
    have hv : vs[off]? = some (vs[off]'(by omega)) := List.getElem?_eq_getElem (by omega)
    refine ⟨_, ?_, hl.2 _ _ _ h hv⟩
    have ho' : off < vs.length := by omega
    simp [part, ht.run_isAgg, hagg, ho']

include hT in
theorem step_field {t : TypeId} {x : Operand} {f off : Nat} {j : TI} {fs : List (Nat × TI)} {cs : List AVal} {v : AVal} (hk : kd Ty t = .struct fs) (hf : fs[f]? = some (off, j))
    (hx : ρ.ev x = .agg cs) (hp : partA j cs off = some v) : OpSem P N ⟨d, .field t x f, ty, pos, af, gu⟩ ρ H n fun v1 H1 n1 => v1 = v ∧ H1 = H ∧ n1 = n :=
  OpSem.pure fun c a hH g r => by
    obtain ⟨i, gs, hi, hd, hfs⟩ := kd_struct hk
    obtain ⟨fl, hfl, rfl, hj⟩ := fieldsA_get hfs hf
    have rx := r.ev x
    rw [hx] at rx
    generalize hvx : a.eval x = vx at rx
    cases rx with
    | agg _ vs hl hr =>
      obtain ⟨y, hrun, hrep⟩ := run_part (hT _ _ hj) (⟨hl, hr⟩ : RepL c cs vs) hp
      refine ⟨y, ?_, hrep⟩
      have hde := (hT t i hi).run_desc c.w
      have hg : gs[f]? = some fl := by simpa using hfl
      simp [execOp, Instr.field, hde, hd, hg, hvx, asAgg, hrun]

theorem step_makeFunc {f : Fn} {first cap : Array Operand} : OpSem P N ⟨d, .makeFunc f first cap, ty, pos, af, gu⟩ ρ H n fun v1 H1 n1 => v1 = .fn f (first.toList.map ρ.ev) (cap.toList.map ρ.ev) ∧ H1 = H ∧ n1 = n :=
  OpSem.pure fun c a _ _ r => by
    have h1 := Rep.argsOf r first.toList
    have h2 := Rep.argsOf r cap.toList
    refine ⟨.func f (first.map a.eval) (cap.map a.eval), by simp [execOp, Instr.makeFunc], ?_⟩
    have e1 : first.map a.eval = (first.toList.map a.eval).toArray := by apply Array.ext'; simp
    have e2 : cap.map a.eval = (cap.toList.map a.eval).toArray := by apply Array.ext'; simp
    rw [e1, e2]
    exact .fn f _ _ _ _ h1.1 h2.1 h1.2 h2.2

theorem step_extract {t : Operand} {ix : Nat} {vs : List AVal} {v : AVal} (ht : ρ.ev t = .tup vs) (hv : vs[ix]? = some v) : OpSem P N ⟨d, .extract t ix, ty, pos, af, gu⟩ ρ H n fun v1 H1 n1 => v1 = v ∧ H1 = H ∧ n1 = n :=
  OpSem.pure fun c a _ _ r => by
    have rx := r.ev t
    rw [ht] at rx
    generalize hvx : a.eval t = vx at rx
    cases rx with
    | tup _ us hl hr =>
      have hi := (List.getElem?_eq_some_iff.1 hv).1
      have hu : us[ix]? = some (us[ix]'(by omega)) := List.getElem?_eq_getElem (by omega)
      refine ⟨_, ?_, hr _ _ _ hv hu⟩
      have : ix < us.length := by omega
      simp [execOp, Instr.extract, hvx, this]

theorem step_nilCheck {x : Operand} {cs : List AVal} (h : viewOf H (ρ.ev x) = some cs) : OpSem P N ⟨d, .nilCheck x, ty, pos, af, gu⟩ ρ H n fun v1 H1 n1 => v1 = ρ.ev x ∧ H1 = H ∧ n1 = n :=
  OpSem.pure fun c a hH g r => by
    subst hH
    obtain ⟨b, off, hx, _⟩ := viewOf_ok g (r.ev x) h
    exact ⟨a.eval x, by simp [execOp, hx], r.ev x⟩

theorem intBin_ok {op : BinOp} {k : IntKind} {x y : Int} {v : AVal} (h : intBin op k x y = some v) (w : World) (t : TypeId) : ∃ u, v = .v u ∧ (binOp op t (.int k x) (.int k y)).run P w = .ok u w := by
  cases op <;> simp only [intBin] at h <;> first
    | (cases h; done)
    | (simp only [Option.some.injEq] at h; subst h; exact ⟨_, rfl, by simp [binOp, Op.intArith, Op.intCmp]⟩)
    | (split at h
       · cases h
       · rename_i h0
         simp only [Option.some.injEq] at h
         subst h
         exact ⟨_, rfl, by simp [binOp, Op.intDiv, h0]⟩)

theorem strBin_ok {op : BinOp} {x y : ByteArray} {v : AVal} (h : strBin op x y = some v) (w : World) (t : TypeId) : ∃ u, v = .v u ∧ (binOp op t (.string x) (.string y)).run P w = .ok u w := by
  cases op <;> simp only [strBin] at h <;> first
    | (cases h; done)
    | (simp only [Option.some.injEq] at h; subst h; exact ⟨_, rfl, by simp [binOp, Op.stringOp]⟩)
    | (split at h
       · rename_i h0
         simp only [Option.some.injEq] at h
         subst h
         refine ⟨_, rfl, ?_⟩
         simp [binOp, Op.stringOp, IntKind.max, IntKind.signed, IntKind.bits]
         omega
       · cases h)

theorem run_equal_bool {t : TypeId} {w : World} (h : (underlying t).run P w = .ok .bool w) (a b : Bool) : (Op.equal t (.bool a) (.bool b)).run P w = .ok (a == b) w := by
  have h1 : ∀ k, (Op.equalIn (k + 1) t (.bool a) (.bool b)).run P w = .ok (a == b) w := fun k => by simp [Op.equalIn, h]
  exact h1 9999

include hT in
theorem binF_ok {op : BinOp} {t : TypeId} {x y v : AVal} (h : binF Ty op t x y = some v) : ∃ a b u, x = .v a ∧ y = .v b ∧ v = .v u ∧ ∀ w, (binOp op t a b).run P w = .ok u w ∧ ∀ X Y, (eqGuard op t X Y a b).run P w = .ok () w := by
  unfold binF at h
  split at h
  · rename_i k a k' b
    split at h
    · rename_i hk
      subst hk
      obtain ⟨u, hv, _⟩ := intBin_ok (P := P) h default t
      refine ⟨_, _, u, rfl, rfl, hv, fun w => ⟨?_, fun X Y => ?_⟩⟩
      · obtain ⟨u', hv', hr⟩ := intBin_ok (P := P) h w t
        rw [hv] at hv'
        cases hv'
        exact hr
      · cases op <;> rfl
    · cases h
  · rename_i a b
    obtain ⟨u, hv, _⟩ := strBin_ok (P := P) h default t
    refine ⟨_, _, u, rfl, rfl, hv, fun w => ⟨?_, fun X Y => ?_⟩⟩
    · obtain ⟨u', hv', hr⟩ := strBin_ok (P := P) h w t
      rw [hv] at hv'
      cases hv'
      exact hr
    · cases op <;> rfl
  · rename_i a b
    split at h
    · rename_i hk
      obtain ⟨i, hi, hd⟩ := kd_bool hk
      have hde := fun w => (hT t i hi).run_desc w
      rw [hd] at hde
      cases op <;> simp only [boolBin] at h <;> first
        | (cases h; done)
        | (simp only [Option.some.injEq] at h
           subst h
           refine ⟨_, _, _, rfl, rfl, rfl, fun w => ⟨?_, fun X Y => rfl⟩⟩
           show ((Op.equal t (.bool a) (.bool b)) >>= fun r => _).run P w = _
           simp only [Sem.run_bind, run_equal_bool (hde w), Result.andThen_ok, Sem.run_pure])
    · cases h
  · cases h

include hT in
theorem step_binOp {op : BinOp} {t t' : TypeId} {x y : Operand} {v : AVal} (h : binF Ty op t (ρ.ev x) (ρ.ev y) = some v) : OpSem P N ⟨d, .binOp op t x y t', ty, pos, af, gu⟩ ρ H n fun v1 H1 n1 => v1 = v ∧ H1 = H ∧ n1 = n :=
  OpSem.pure fun c a _ _ r => by
    obtain ⟨p, q, u, hx, hy, hv, hrun⟩ := binF_ok hT h
    have rx := r.ev x
    have ry := r.ev y
    rw [hx] at rx
    rw [hy] at ry
    have ex := rx.v_inv
    have ey := ry.v_inv
    obtain ⟨h1, h2⟩ := hrun c.w
    exact ⟨u, by simp [execOp, ex, ey, h1, h2], by rw [hv]; exact .v u⟩

theorem step_unOp {op : UnOp} {t : TypeId} {x : Operand} {v : AVal} (h : unF op (ρ.ev x) = some v) : OpSem P N ⟨d, .unOp op t x, ty, pos, af, gu⟩ ρ H n fun v1 H1 n1 => v1 = v ∧ H1 = H ∧ n1 = n :=
  OpSem.pure fun c a _ _ r => by
    have rx := r.ev x
    unfold unF at h
    split at h
    · rename_i k m hx
      rw [hx] at rx
      simp only [Option.some.injEq] at h
      subst h
      exact ⟨_, by simp [execOp, rx.v_inv, Op.unary, Op.intArith], .v _⟩
    · rename_i b hx
      rw [hx] at rx
      simp only [Option.some.injEq] at h
      subst h
      exact ⟨_, by simp [execOp, rx.v_inv, Op.unary], .v _⟩
    · cases h

include hT in
theorem step_convert {s t : TypeId} {x : Operand} {v : AVal} (h : convF Ty s t (ρ.ev x) = some v) : OpSem P N ⟨d, .convert s t x, ty, pos, af, gu⟩ ρ H n fun v1 H1 n1 => v1 = v ∧ H1 = H ∧ n1 = n :=
  OpSem.pure fun c a _ _ r => by
    have rx := r.ev x
    unfold convF at h
    split at h
    · rename_i i k _ m hi hk hx
      rw [hx] at rx
      obtain ⟨j, hj, hd⟩ := kd_int hk
      have d1 := (hT s i hi).run_desc c.w
      have d2 := (hT t j hj).run_desc c.w
      rw [hd] at d2
      cases h
      exact ⟨_, by simp [execOp, rx.v_inv, convert, d1, d2, Conv.intToInt], .v _⟩
    · rename_i i b hi hk hx
      rw [hx] at rx
      obtain ⟨j, hj, hd⟩ := kd_string hk
      have d1 := (hT s i hi).run_desc c.w
      have d2 := (hT t j hj).run_desc c.w
      rw [hd] at d2
      cases h
      exact ⟨_, by simp [execOp, rx.v_inv, convert, d1, d2], .v _⟩
    · cases h

end
end Go.Ab
