/- The abstract machine, part I: the step function is sound; a region evaluated; contracts of functions that only read and make. -/
import Derived.Test.YtgmjebjcomckaaaDoorAbJ
namespace Go.Ab

theorem toList_one {α : Type} {a : Array α} {x : α} (h : a.toList = [x]) : a = #[x] := Array.ext' h
theorem toList_none {α : Type} {a : Array α} (h : a.toList.isEmpty = true) : a = #[] := by
  apply Array.ext'
  simpa using h

section
variable {P : Program} {N : Nat} {Ty : Types} (hT : TypesOk P Ty) {ρ : Env} {H : Heap} {n : Nat}

include hT in
theorem stepF_ok {o : Oper} {v : AVal} {H' : Heap} {n' : Nat} (h : stepF Ty o.dst o.op ρ H n = some (v, H', n')) : OpSem P N o ρ H n fun v1 H1 n1 => v1 = v ∧ H1 = H' ∧ n1 = n' := by
  obtain ⟨d, op, ty, pos, af, gu⟩ := o
  simp only at h
  unfold stepF at h
  split at h
  · cases h; exact step_move
  · cases h; exact step_assign
  · split at h
    · rename_i hc
      cases h
      exact step_pick hc
    · cases h
  · split at h
    · rename_i hi
      cases h
      exact step_alloc hT hi
    · cases h
  · split at h
    · rename_i hc
      cases h
      exact step_box hc
    · cases h
  · split at h
    · rename_i hi hv
      split at h
      · rename_i hl
        cases h
        exact step_load hT hi hv hl
      · cases h
    · cases h
  · split at h
    · rename_i hs
      cases h
      exact step_store hT hs
    · cases h
  · split at h
    · rename_i hk hv
      split at h
      · rename_i hf
        split at h
        · cases h
        · rename_i hs
          cases h
          exact step_fieldAddr hT hk hf hs hv
      · cases h
    · cases h
  · split at h
    · rename_i hk hx
      split at h
      · rename_i hf
        simp only [Option.map_eq_some_iff, Prod.mk.injEq] at h
        obtain ⟨y, hy, rfl, rfl, rfl⟩ := h
        exact step_field hT hk hf hx hy
      · cases h
    · cases h
  · simp only [Option.map_eq_some_iff, Prod.mk.injEq] at h
    obtain ⟨y, hy, rfl, rfl, rfl⟩ := h
    exact step_indexAddr hT hy
  · simp only [Option.map_eq_some_iff, Prod.mk.injEq] at h
    obtain ⟨y, hy, rfl, rfl, rfl⟩ := h
    exact step_index hT hy
  · simp only [Option.map_eq_some_iff, Prod.mk.injEq] at h
    obtain ⟨y, hy, rfl, rfl, rfl⟩ := h
    exact step_build hT hy
  · split at h
    · rename_i hk
      split at h
      · rename_i h0
        split at h
        · rename_i hps
          cases h
          subst h0
          have e0 := toList_none hps
          subst e0
          exact step_buildSlice_nil hT hk
        · cases h
      · rename_i h0
        split at h
        · rename_i hc
          obtain ⟨h1, h2, h3⟩ := hc
          simp only [Option.map_eq_some_iff, Prod.mk.injEq] at h
          obtain ⟨y, hy, rfl, rfl, rfl⟩ := h
          exact step_buildSlice hT hk h0 h1 h2 h3 hy
        · cases h
    · cases h
  · simp only [Option.map_eq_some_iff, Prod.mk.injEq] at h
    obtain ⟨y, hy, rfl, rfl, rfl⟩ := h
    exact step_binOp hT hy
  · simp only [Option.map_eq_some_iff, Prod.mk.injEq] at h
    obtain ⟨y, hy, rfl, rfl, rfl⟩ := h
    exact step_unOp hy
  · simp only [Option.map_eq_some_iff, Prod.mk.injEq] at h
    obtain ⟨y, hy, rfl, rfl, rfl⟩ := h
    exact step_convert hT hy
  · cases h; exact step_makeFunc
  · simp only [Option.map_eq_some_iff, Prod.mk.injEq] at h
    obtain ⟨y, hy, rfl, rfl, rfl⟩ := h
    exact step_slice hT hy
  · split at h
    · rename_i ht
      simp only [Option.map_eq_some_iff, Prod.mk.injEq] at h
      obtain ⟨y, hy, rfl, rfl, rfl⟩ := h
      exact step_extract ht hy
    · cases h
  · split at h
    · rename_i hv
      cases h
      exact step_nilCheck hv
    · cases h
  · exact step_makeSlice hT h
  · split at h
    · rename_i hs ht
      split at h
      · rename_i htt
        subst htt
        have e1 : _ = #[_, _] := Array.ext' hs
        have e2 : _ = #[_, _] := Array.ext' ht
        subst e1
        subst e2
        exact step_append hT h
      · cases h
    · cases h
  · split at h
    · rename_i hx ht
      simp only [Option.map_eq_some_iff, Prod.mk.injEq] at h
      obtain ⟨y, hy, rfl, rfl, rfl⟩ := h
      have e1 := toList_one hx
      have e2 := toList_one ht
      subst e1
      subst e2
      exact step_len hT hy
    · cases h
  · cases h
end

/-- The rest of a region, and what stands behind it. -/
def RunK (P : Program) (f : FuncId) (N : Nat) (k : List Item) (Q : AVal → Heap → Nat → Prop) (ops : Array Oper) (l : List Oper) (ρ : Env) (H : Heap) (n : Nat) : Prop :=
  RunO P N ops l ρ H n fun ρ' H' n' => Runs P f N k ρ' H' n' Q

/-- The slot that a guard looks at. -/
def guardOf (ops : Array Oper) (ρ : Env) (j : Nat) : AVal :=
  match (ops[j]?).bind (·.dst) with
  | some t => ρ t
  | none => .undef

section
variable (P : Program) (f : FuncId) (N : Nat) (k : List Item) (Q : AVal → Heap → Nat → Prop) (Ty : Types) (ops : Array Oper)
mutual
/-- A region evaluated as far as the step function goes. -/
def evalK : List Oper → Env → Heap → Nat → Prop
  | [], ρ, H, n => Runs P f N k ρ H n Q
  | o :: l, ρ, H, n =>
    match o.guard with
    | none => bindE (stepF Ty o.dst o.op ρ H n) o l ρ H n
    | some (j, want) => match guardOf ops ρ j with
      | .v (.bool b) => guardE b want o l ρ H n
      | .v (.tuple _) => evalK l (ρ.put o.dst skv) H n
      | _ => RunK P f N k Q ops (o :: l) ρ H n
  termination_by l => (l.length, 0)
/-- What goes on behind a step, if there is one. -/
def bindE : Option (AVal × Heap × Nat) → Oper → List Oper → Env → Heap → Nat → Prop
  | some (v, H', n'), o, l, ρ, _, _ => evalK l (ρ.put o.dst v) H' n'
  | none, o, l, ρ, H, n => RunK P f N k Q ops ({ o with guard := none } :: l) ρ H n
  termination_by _ _ l => (l.length, 1)
/-- A choice by a guard. -/
def guardE (b want : Bool) (o : Oper) (l : List Oper) (ρ : Env) (H : Heap) (n : Nat) : Prop :=
  if b = want then bindE (stepF Ty o.dst o.op ρ H n) o l ρ H n else evalK l (ρ.put o.dst skv) H n
  termination_by (l.length, 2)
end
end

section
variable {P : Program} {f : FuncId} {N : Nat} {k : List Item} {Q : AVal → Heap → Nat → Prop} {Ty : Types} {ops : Array Oper} {o : Oper} {l : List Oper} {ρ : Env} {H : Heap} {n : Nat}
@[simp] theorem evalK_nil : evalK P f N k Q Ty ops [] ρ H n = Runs P f N k ρ H n Q := by rw [evalK]
@[simp] theorem evalK_op {d : Option Tmp} {op : Op} {ty : TypeId} {pos : String} {af : Array Edge} : evalK P f N k Q Ty ops (⟨d, op, ty, pos, af, none⟩ :: l) ρ H n = bindE P f N k Q Ty ops (stepF Ty d op ρ H n) ⟨d, op, ty, pos, af, none⟩ l ρ H n := by rw [evalK]
theorem evalK_guard {d : Option Tmp} {op : Op} {ty : TypeId} {pos : String} {af : Array Edge} {j : Nat} {want : Bool} : evalK P f N k Q Ty ops (⟨d, op, ty, pos, af, some (j, want)⟩ :: l) ρ H n = (match guardOf ops ρ j with
      | .v (.bool b) => guardE P f N k Q Ty ops b want ⟨d, op, ty, pos, af, some (j, want)⟩ l ρ H n
      | .v (.tuple _) => evalK P f N k Q Ty ops l (ρ.put d skv) H n
      | _ => RunK P f N k Q ops (⟨d, op, ty, pos, af, some (j, want)⟩ :: l) ρ H n) := by rw [evalK]
@[simp] theorem bindE_some {v : AVal} {H' : Heap} {n' : Nat} : bindE P f N k Q Ty ops (some (v, H', n')) o l ρ H n = evalK P f N k Q Ty ops l (ρ.put o.dst v) H' n' := by rw [bindE]
@[simp] theorem bindE_none : bindE P f N k Q Ty ops none o l ρ H n = RunK P f N k Q ops ({ o with guard := none } :: l) ρ H n := by rw [bindE]
@[simp] theorem guardE_tt : guardE P f N k Q Ty ops true true o l ρ H n = bindE P f N k Q Ty ops (stepF Ty o.dst o.op ρ H n) o l ρ H n := by rw [guardE, if_pos rfl]
@[simp] theorem guardE_ff : guardE P f N k Q Ty ops false false o l ρ H n = bindE P f N k Q Ty ops (stepF Ty o.dst o.op ρ H n) o l ρ H n := by rw [guardE, if_pos rfl]
@[simp] theorem guardE_tf : guardE P f N k Q Ty ops true false o l ρ H n = evalK P f N k Q Ty ops l (ρ.put o.dst skv) H n := by rw [guardE, if_neg (by simp)]
@[simp] theorem guardE_ft : guardE P f N k Q Ty ops false true o l ρ H n = evalK P f N k Q Ty ops l (ρ.put o.dst skv) H n := by rw [guardE, if_neg (by simp)]
end

theorem RunO.unguard {P : Program} {N : Nat} {ops : Array Oper} {o : Oper} {l : List Oper} {ρ : Env} {H : Heap} {n : Nat} {R : Env → Heap → Nat → Prop} {j t : Nat} {want b : Bool} (hg : o.guard = some (j, want))
    (hj : (ops[j]?).bind (·.dst) = some t) (ht : dok N (some t) = true) (hv : ρ t = .v (.bool b)) (hb : b = want) (h : RunO P N ops ({ o with guard := none } :: l) ρ H n R) : RunO P N ops (o :: l) ρ H n R := by
  intro c a hH hn g r Q k
  have hyi := yielded_of r hj ht hv
  have := h c a hH hn g r Q k
  unfold wpList at this ⊢
  rw [if_pos (by simp [Region.wanted])] at this
  rw [if_pos (by simp [Region.wanted, hg, hyi, hb])]
  exact this

theorem evalK_sound {P : Program} {f : FuncId} {N : Nat} {k : List Item} {Q : AVal → Heap → Nat → Prop} {Ty : Types} (hT : TypesOk P Ty) {ops : Array Oper} (hN : ops.toList.all (fun o => dok N o.dst) = true) :
    ∀ (l : List Oper) (ρ : Env) (H : Heap) (n : Nat), l.all (fun o => dok N o.dst) = true → evalK P f N k Q Ty ops l ρ H n → RunK P f N k Q ops l ρ H n
  | [], ρ, H, n, _, h => RunO.nil (by simpa using h)
  | o :: l, ρ, H, n, hd, h => by
    simp only [List.all_cons, Bool.and_eq_true] at hd
    rw [evalK] at h
    split at h
    · rename_i hg
      cases hs : stepF Ty o.dst o.op ρ H n with
      | some r =>
        obtain ⟨v, H', n'⟩ := r
        rw [hs, bindE_some] at h
        refine RunO.op hg hd.1 ((stepF_ok hT hs).mono ?_)
        rintro v1 H1 n1 ⟨rfl, rfl, rfl⟩
        exact evalK_sound hT hN l _ _ _ hd.2 h
      | none =>
        rw [hs, bindE_none] at h
        obtain ⟨d, op, ty, pos, af, gu⟩ := o
        simp only at hg
        subst hg
        exact h
    · rename_i j want hg
      split at h
      · rename_i b hv
        unfold guardOf at hv
        split at hv
        · rename_i t hj
          have ht : dok N (some t) = true := by
            cases ho : ops[j]? with
            | none => simp [ho] at hj
            | some o' =>
              simp only [ho, Option.bind_some] at hj
              have := List.all_eq_true.1 hN o' (by rw [← Array.getElem?_toList] at ho; exact List.mem_of_getElem? ho)
              rw [hj] at this
              exact this
          rw [guardE] at h
          split at h
          · rename_i hb
            cases hs : stepF Ty o.dst o.op ρ H n with
            | some r =>
              obtain ⟨v, H', n'⟩ := r
              rw [hs, bindE_some] at h
              refine RunO.guarded hg hd.1 hj ht hv (fun _ => (stepF_ok hT hs).mono ?_) (fun hne => absurd hb hne)
              rintro v1 H1 n1 ⟨rfl, rfl, rfl⟩
              exact evalK_sound hT hN l _ _ _ hd.2 h
            | none =>
              rw [hs, bindE_none] at h
              exact RunO.unguard hg hj ht hv hb h
          · rename_i hb
            exact RunO.guarded hg hd.1 hj ht hv (fun he => absurd he hb) (fun _ => evalK_sound hT hN l _ _ _ hd.2 h)
        · cases hv
      · rename_i xs hv
        unfold guardOf at hv
        split at hv
        · rename_i t hj
          have ht : dok N (some t) = true := by
            cases ho : ops[j]? with
            | none => simp [ho] at hj
            | some o' =>
              simp only [ho, Option.bind_some] at hj
              have := List.all_eq_true.1 hN o' (by rw [← Array.getElem?_toList] at ho; exact List.mem_of_getElem? ho)
              rw [hj] at this
              exact this
          exact RunO.skipped hg hd.1 hj ht hv (evalK_sound hT hN l _ _ _ hd.2 h)
        · cases hv
      · exact h

/-- A guard that is not known yet. -/
theorem guardE.split {P : Program} {f : FuncId} {N : Nat} {k : List Item} {Q : AVal → Heap → Nat → Prop} {Ty : Types} {ops : Array Oper} {o : Oper} {l : List Oper} {ρ : Env} {H : Heap} {n : Nat} {b want : Bool}
    (h : b = want → bindE P f N k Q Ty ops (stepF Ty o.dst o.op ρ H n) o l ρ H n) (h' : b ≠ want → evalK P f N k Q Ty ops l (ρ.put o.dst skv) H n) : guardE P f N k Q Ty ops b want o l ρ H n := by
  rw [guardE]
  split
  · exact h (by assumption)
  · exact h' (by assumption)

/-- A region with a fixed order: evaluated. -/
theorem Runs.eval {P : Program} {f : FuncId} {N : Nat} {k : List Item} {Q : AVal → Heap → Nat → Prop} {Ty : Types} (hT : TypesOk P Ty) {id : Nat} {ops : List Oper} {ρ : Env} {H : Heap} {n : Nat} (hN : ops.all (fun o => dok N o.dst) = true)
    (h : evalK P f N k Q Ty ops.toArray ops ρ H n) : Runs P f N (.code (.region id ops.toArray false) :: k) ρ H n Q :=
  Runs.region (evalK_sound (ops := ops.toArray) hT (by simpa using hN) ops ρ H n hN h)

/-- The walk goes on behind an operation met by hand. -/
theorem RunK.op {P : Program} {f : FuncId} {N : Nat} {k : List Item} {Q : AVal → Heap → Nat → Prop} {Ty : Types} (hT : TypesOk P Ty) {ops l : List Oper} {o : Oper} {ρ : Env} {H : Heap} {n : Nat} {post : AVal → Heap → Nat → Prop}
    (hN : ops.all (fun o => dok N o.dst) = true) (hl : (o :: l).all (fun o => dok N o.dst) = true) (hg : o.guard = none) (ho : OpSem P N o ρ H n post)
    (h : ∀ v H' n', post v H' n' → evalK P f N k Q Ty ops.toArray l (ρ.put o.dst v) H' n') : RunK P f N k Q ops.toArray (o :: l) ρ H n := by
  simp only [List.all_cons, Bool.and_eq_true] at hl
  exact RunO.op hg hl.1 (ho.mono fun v H' n' hp => evalK_sound (ops := ops.toArray) hT (by simpa using hN) l _ _ _ hl.2 (h v H' n' hp))

/-- An argument handed to a function that only reads: as a value that no heap of the callee's knows. -/
def ArgOk (H : Heap) (n : Nat) (a a' : AVal) : Prop :=
  ∀ (c : Ctx) (x : Value), c.H = H → c.n = n → Good c → Rep c a x → ∀ c' : Ctx, c'.w = c.w → (∀ id, c'.H id = none) → Rep c' a' x

/-- A result: as a value of cells that are all new. -/
def ResOk (H : Heap) (n : Nat) (a a' : AVal) : Prop :=
  ∀ (c : Ctx) (x : Value), c.H = H → c.n = n → Good c → Rep c a x → ∀ c' : Ctx, c'.w = c.w → (∀ k, c'.mu k → k < c.B) → c'.B ≤ c.B → Rep c' a' x

inductive ArgsOk (H : Heap) (n : Nat) : List AVal → List AVal → Prop
  | nil : ArgsOk H n [] []
  | cons {a b : AVal} {as bs : List AVal} (h : ArgOk H n a b) (t : ArgsOk H n as bs) : ArgsOk H n (a :: as) (b :: bs)

theorem ArgsOk.get {H : Heap} {n : Nat} {as bs : List AVal} (h : ArgsOk H n as bs) : as.length = bs.length ∧ ∀ (i : Nat) (a b : AVal), as[i]? = some a → bs[i]? = some b → ArgOk H n a b := by
  induction h with
  | nil => exact ⟨rfl, by simp⟩
  | cons h _ ih =>
    refine ⟨by simp [ih.1], fun i a b ha hb => ?_⟩
    cases i with
    | zero => simp at ha hb; rw [← ha, ← hb]; exact h
    | succ i => exact ih.2 i a b (by simpa using ha) (by simpa using hb)

def noHeap : Heap := fun _ => none

/-- A function that only reads its arguments and makes its result anew. -/
def PureC (P : Program) (f : FuncId) (args : List AVal) (R : AVal → Prop) : Prop :=
  CallsA P f args noHeap 0 fun v H' n' => ∃ r, ResOk H' n' v r ∧ R r

theorem PureC.mono {P : Program} {f : FuncId} {args : List AVal} {R R' : AVal → Prop} (h : PureC P f args R) (hr : ∀ r, R r → R' r) : PureC P f args R' :=
  CallsA.mono h fun _ _ _ ⟨r, h1, h2⟩ => ⟨r, h1, hr r h2⟩

theorem good_bare (w : World) : Good ⟨w.heap.size, fun _ => 0, noHeap, 0, w⟩ :=
  ⟨(by intro _ _ h; cases h), (by intro _ _ _ _ h; cases h), Nat.le_refl _, (by intro _ _ h; cases h)⟩

/-- A call of a function that only reads and makes. -/
theorem OpSem.callP {P : Program} {N : Nat} {d : Option Tmp} {g : Operand} {args : Array Operand} {ats : Array TypeId} {ty : TypeId} {pos : String} {af : Array Edge} {gu : Option (Nat × Bool)} {ρ : Env} {H : Heap} {n : Nat} {R : AVal → Prop}
    {f : FuncId} {args' : List AVal} (hg : ρ.ev g = .fn (.func f) [] []) (hent : Ent P f) (ha : ArgsOk H n (args.toList.map ρ.ev) args') (h : PureC P f args' R) :
    OpSem P N ⟨d, .call ⟨.value g, args, ats⟩, ty, pos, af, gu⟩ ρ H n fun v H1 n1 => R v ∧ H1 = H ∧ n1 = n := by
  refine OpSem.call hg hent ?_
  intro c xs hH hn gd hl
  simp only [List.nil_append, List.append_nil] at hl
  have hb : Good ⟨c.w.heap.size, fun _ => 0, noHeap, 0, c.w⟩ := good_bare c.w
  obtain ⟨hlen, hget⟩ := ha.get
  have hrep : RepL ⟨c.w.heap.size, fun _ => 0, noHeap, 0, c.w⟩ args' xs := by
    refine ⟨by rw [← hlen]; exact hl.1, fun i b x hb' hx => ?_⟩
    have hi := (List.getElem?_eq_some_iff.1 hb').1
    have ha' : (args.toList.map ρ.ev)[i]? = some ((args.toList.map ρ.ev)[i]'(by omega)) := List.getElem?_eq_getElem (by omega)
    exact hget i _ b ha' hb' c x hH hn gd (hl.2 i _ x ha' hx) _ rfl (fun _ => rfl)
  refine (h _ xs rfl rfl hb hrep).mono ?_
  rintro e w' ⟨x, v, c1, he, hw, ⟨r, hres, hR⟩, hrv, hg1, hk⟩
  subst hw
  have hnomu : ∀ k, ¬ Ctx.mu ⟨c.w.heap.size, fun _ => 0, noHeap, 0, c.w⟩ k := by
    rintro k ⟨id, o, ho, _⟩
    cases ho
  obtain ⟨hkc, hgc⟩ := more_blocks gd c1.w ⟨hk.os, hk.tape, hk.output⟩ hk.size (fun k hk' => (hk.imm k hk' (hnomu k)).1)
  refine ⟨x, r, { c with w := c1.w }, he, rfl, ⟨hR, hH, hn⟩, ?_, hgc, hkc⟩
  refine hres c1 x rfl rfl hg1 hrv { c with w := c1.w } rfl ?_ ?_
  · rintro k ⟨id, o, ho, hb'⟩
    have hlt : c.β id < c.w.heap.size := gd.lt ho
    rw [hk.B]
    show k < c.w.heap.size
    simp only at hb'
    omega
  · rw [hk.B]
    exact gd.Bsize

theorem PureC.of_runs {P : Program} {f : FuncId} {fn : Func} {body : Code} {args : List AVal} {R : AVal → Prop} (hfn : P.funcs[f]? = some fn) (hb : fn.body = some body) (hN : args.length ≤ fn.ntmps)
    (h : Runs P f fn.ntmps [.code body] (argEnv args) noHeap 0 fun v H' n' => ∃ r, ResOk H' n' v r ∧ R r) : PureC P f args R :=
  CallsA.of_runs hfn hb hN h

end Go.Ab
