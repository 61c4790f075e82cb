/- The abstract machine, part M: a region that draws its order, evaluated. -/
import Derived.Test.YtgmjebjcomckaaaDoorAbL
namespace Go.Ab

section
variable {Ty : Types} {ρ : Env} {H H' : Heap} {n n' : Nat} {d : Option Tmp} {v : AVal}

theorem map_some_eq {x : Option AVal} (h : x.map (fun y => (y, H, n)) = some (v, H', n')) : x = some v ∧ H' = H ∧ n' = n := by
  cases x with
  | none => cases h
  | some y => cases h; exact ⟨rfl, rfl, rfl⟩

theorem stepF_k0 {op : Op} (hk : kindOp op = 0) (h : stepF Ty d op ρ H n = some (v, H', n')) : H' = H ∧ n' = n ∧ ∀ H2 n2, stepF Ty d op ρ H2 n2 = some (v, H2, n2) := by
  cases op with
  | move x => cases h; exact ⟨rfl, rfl, fun _ _ => rfl⟩
  | assign x => cases h; exact ⟨rfl, rfl, fun _ _ => rfl⟩
  | pick c a b =>
    simp only [stepF] at h ⊢
    split at h
    · cases h; exact ⟨rfl, rfl, fun _ _ => rfl⟩
    · cases h
  | binOp op t x y t' => obtain ⟨h1, h2, h3⟩ := map_some_eq h; exact ⟨h2, h3, fun _ _ => by simp only [stepF, h1, Option.map_some]⟩
  | unOp op t x => obtain ⟨h1, h2, h3⟩ := map_some_eq h; exact ⟨h2, h3, fun _ _ => by simp only [stepF, h1, Option.map_some]⟩
  | convert s t x => obtain ⟨h1, h2, h3⟩ := map_some_eq h; exact ⟨h2, h3, fun _ _ => by simp only [stepF, h1, Option.map_some]⟩
  | makeFunc f a b => cases h; exact ⟨rfl, rfl, fun _ _ => rfl⟩
  | extract t i =>
    simp only [stepF] at h ⊢
    split at h
    · obtain ⟨h1, h2, h3⟩ := map_some_eq h
      exact ⟨h2, h3, fun _ _ => by simp only [h1, Option.map_some]⟩
    · cases h
  | field t x f =>
    simp only [stepF] at h ⊢
    split at h
    · split at h
      · obtain ⟨h1, h2, h3⟩ := map_some_eq h
        exact ⟨h2, h3, fun _ _ => by simp only [h1, Option.map_some]⟩
      · cases h
    · cases h
  | index t x i => obtain ⟨h1, h2, h3⟩ := map_some_eq h; exact ⟨h2, h3, fun _ _ => by simp only [stepF, h1, Option.map_some]⟩
  | build t ps => obtain ⟨h1, h2, h3⟩ := map_some_eq h; exact ⟨h2, h3, fun _ _ => by simp only [stepF, h1, Option.map_some]⟩
  | buildSlice t len ps =>
    simp only [kindOp] at hk
    split at hk
    · cases hk
    · rename_i h0
      simp only [stepF] at h ⊢
      split at h
      · rw [if_neg h0] at h
        split at h
        · rename_i hc
          cases hf : fillA (fun k => some (k * _, _)) _ (ps.toList.map fun p => (p.1, ρ.ev p.2)) with
          | none => rw [hf] at h; cases h
          | some cs =>
            rw [hf] at h
            cases h
            refine ⟨rfl, rfl, fun H2 n2 => ?_⟩
            rw [if_neg h0, if_pos hc]
            rfl
        · cases h
      · cases h
  | call c =>
    obtain ⟨cal, args, ats⟩ := c
    cases cal with
    | builtin b => cases b <;> simp [kindOp] at hk
    | _ => simp [kindOp] at hk
  | _ => simp [kindOp] at hk

theorem stepF_k1 {op : Op} (hk : kindOp op = 1) (h : stepF Ty d op ρ H n = some (v, H', n')) : H' = H ∧ n' = n := by
  cases op with
  | load t a =>
    simp only [stepF] at h
    split at h
    · split at h
      · cases h; exact ⟨rfl, rfl⟩
      · cases h
    · cases h
  | fieldAddr t a f =>
    simp only [stepF] at h
    split at h
    · split at h
      · split at h
        · cases h
        · cases h; exact ⟨rfl, rfl⟩
      · cases h
    · cases h
  | indexAddr t a i => exact (map_some_eq h).2
  | slice t x lo hi mx =>
    cases mx with
    | none => exact (map_some_eq h).2
    | some m => cases h
  | nilCheck x =>
    simp only [stepF] at h
    split at h
    · cases h; exact ⟨rfl, rfl⟩
    · cases h
  | call c =>
    obtain ⟨cal, args, ats⟩ := c
    cases cal with
    | builtin b =>
      cases b <;> simp [kindOp] at hk
      simp only [stepF] at h
      split at h
      · exact (map_some_eq h).2
      · cases h
    | value g => cases h
    | invoke r m => simp [kindOp] at hk
  | buildSlice t len ps => simp only [kindOp] at hk; split at hk <;> cases hk
  | _ => simp [kindOp] at hk
end

/-- Calls may turn what is told of memory. -/
def kindZ : Op → Nat
  | .call ⟨.value _, _, _⟩ => 2
  | op => kindOp op

def KOk (κ : Op → Nat) : Prop := ∀ op, (κ op = 0 → kindOp op = 0) ∧ (κ op = 1 → kindOp op = 1)
theorem kindOp_ok : KOk kindOp := fun _ => ⟨id, id⟩
theorem kindZ_ok : KOk kindZ := fun op => by
  unfold kindZ
  split
  · exact ⟨(fun h => (by cases h)), (fun h => (by cases h))⟩
  · exact ⟨id, id⟩

section
variable (P : Program) (f : FuncId) (N : Nat) (k : List Item) (Q : AVal → Heap → Nat → Prop) (Ty : Types) (κ : Op → Nat) (ops : Array Oper)

def RunDK (l : List Oper) (ρ : Env) (H : Heap) (n : Nat) : Prop := RunD P N ops κ (fun s => Runs P f N k s.1 s.2.1 s.2.2 Q) l (ρ, H, n)

mutual
def evalD : List Oper → Env → Heap → Nat → Prop
  | [], ρ, H, n => Runs P f N k ρ H n Q
  | o :: l, ρ, H, n =>
    match o.guard with
    | none => bindD (stepF Ty o.dst o.op ρ H n) o l ρ H n
    | some (j, want) => match guardOf ops ρ j with
      | .v (.bool b) => guardD b want o l ρ H n
      | .v (.tuple _) => evalD l (ρ.put o.dst skv) H n
      | _ => RunDK P f N k Q κ ops (o :: l) ρ H n
  termination_by l => (l.length, 0)
def bindD : Option (AVal × Heap × Nat) → Oper → List Oper → Env → Heap → Nat → Prop
  | some (v, H', n'), o, l, ρ, _, _ => evalD l (ρ.put o.dst v) H' n'
  | none, o, l, ρ, H, n => RunDK P f N k Q κ ops ({ o with guard := none } :: l) ρ H n
  termination_by _ _ l => (l.length, 1)
def guardD (b want : Bool) (o : Oper) (l : List Oper) (ρ : Env) (H : Heap) (n : Nat) : Prop :=
  if b = want then bindD (stepF Ty o.dst o.op ρ H n) o l ρ H n else evalD l (ρ.put o.dst skv) H n
  termination_by (l.length, 2)
end
end

section
variable {P : Program} {f : FuncId} {N : Nat} {k : List Item} {Q : AVal → Heap → Nat → Prop} {Ty : Types} {κ : Op → Nat} {ops : Array Oper} {o : Oper} {l : List Oper} {ρ : Env} {H : Heap} {n : Nat}
@[simp] theorem evalD_nil : evalD P f N k Q Ty κ ops [] ρ H n = Runs P f N k ρ H n Q := by rw [evalD]
@[simp] theorem evalD_op {d : Option Tmp} {op : Op} {ty : TypeId} {pos : String} {af : Array Edge} : evalD P f N k Q Ty κ ops (⟨d, op, ty, pos, af, none⟩ :: l) ρ H n = bindD P f N k Q Ty κ ops (stepF Ty d op ρ H n) ⟨d, op, ty, pos, af, none⟩ l ρ H n := by rw [evalD]
@[simp] theorem evalD_guard {d : Option Tmp} {op : Op} {ty : TypeId} {pos : String} {af : Array Edge} {j : Nat} {want : Bool} : evalD P f N k Q Ty κ ops (⟨d, op, ty, pos, af, some (j, want)⟩ :: l) ρ H n = (match guardOf ops ρ j with
      | .v (.bool b) => guardD P f N k Q Ty κ ops b want ⟨d, op, ty, pos, af, some (j, want)⟩ l ρ H n
      | .v (.tuple _) => evalD P f N k Q Ty κ ops l (ρ.put d skv) H n
      | _ => RunDK P f N k Q κ ops (⟨d, op, ty, pos, af, some (j, want)⟩ :: l) ρ H n) := by rw [evalD]
@[simp] theorem bindD_some {v : AVal} {H' : Heap} {n' : Nat} : bindD P f N k Q Ty κ ops (some (v, H', n')) o l ρ H n = evalD P f N k Q Ty κ ops l (ρ.put o.dst v) H' n' := by rw [bindD]
@[simp] theorem bindD_none : bindD P f N k Q Ty κ ops none o l ρ H n = RunDK P f N k Q κ ops ({ o with guard := none } :: l) ρ H n := by rw [bindD]
@[simp] theorem guardD_tt : guardD P f N k Q Ty κ ops true true o l ρ H n = bindD P f N k Q Ty κ ops (stepF Ty o.dst o.op ρ H n) o l ρ H n := by rw [guardD, if_pos rfl]
@[simp] theorem guardD_ff : guardD P f N k Q Ty κ ops false false o l ρ H n = bindD P f N k Q Ty κ ops (stepF Ty o.dst o.op ρ H n) o l ρ H n := by rw [guardD, if_pos rfl]
@[simp] theorem guardD_tf : guardD P f N k Q Ty κ ops true false o l ρ H n = evalD P f N k Q Ty κ ops l (ρ.put o.dst skv) H n := by rw [guardD, if_neg (by simp)]
@[simp] theorem guardD_ft : guardD P f N k Q Ty κ ops false true o l ρ H n = evalD P f N k Q Ty κ ops l (ρ.put o.dst skv) H n := by rw [guardD, if_neg (by simp)]

theorem StepD.of_step (hT : TypesOk P Ty) (hκ : KOk κ) {v : AVal} {H' : Heap} {n' : Nat} (hg : gok ops o ρ = some true) (hs : stepF Ty o.dst o.op ρ H n = some (v, H', n')) : StepD P N ops κ o (ρ, H, n) (ρ.put o.dst v, H', n') := by
  have hl : stepF Ty o.dst o.op (loc o.op ρ) H n = some (v, H', n') := by rw [stepF_loc]; exact hs
  refine .inl ⟨hg, v, rfl, fun h0 => ?_, fun h1 => ?_, stepF_ok hT hl⟩
  · obtain ⟨e1, e2, hall⟩ := stepF_k0 ((hκ o.op).1 h0) hl
    subst e1
    subst e2
    exact ⟨rfl, fun H2 n2 => stepF_ok hT (hall H2 n2)⟩
  · obtain ⟨e1, e2⟩ := stepF_k1 ((hκ o.op).2 h1) hl
    subst e1
    subst e2
    rfl

theorem RunDK.unguard {j : Nat} {want b : Bool} (hg : o.guard = some (j, want)) (hv : guardOf ops ρ j = .v (.bool b)) (hb : b = want) (h : RunDK P f N k Q κ ops ({ o with guard := none } :: l) ρ H n) : RunDK P f N k Q κ ops (o :: l) ρ H n := by
  obtain ⟨s', hst, hrest⟩ := h
  refine ⟨s', ?_, hrest⟩
  rcases hst with ⟨_, v, hv', h0, h1, hop⟩ | ⟨hgf, _⟩
  · exact .inl ⟨by simp only [gok, hg, hv, hb]; cases want <;> rfl, v, hv', h0, h1, hop⟩
  · simp [gok] at hgf

theorem evalD_sound (hT : TypesOk P Ty) (hκ : KOk κ) : ∀ (l : List Oper) (ρ : Env) (H : Heap) (n : Nat), evalD P f N k Q Ty κ ops l ρ H n → RunDK P f N k Q κ ops l ρ H n
  | [], ρ, H, n, h => by
    rw [evalD] at h
    exact h
  | o :: l, ρ, H, n, h => by
    rw [evalD] at h
    split at h
    · rename_i hg
      cases hs : stepF Ty o.dst o.op ρ H n with
      | some r =>
        obtain ⟨v, H', n'⟩ := r
        rw [hs, bindD_some] at h
        exact ⟨_, StepD.of_step hT hκ (by simp [gok, hg]) hs, evalD_sound hT hκ l _ _ _ h⟩
      | none =>
        rw [hs, bindD_none] at h
        obtain ⟨d, op, ty, pos, af, gu⟩ := o
        simp only at hg
        subst hg
        exact h
    · rename_i j want hg
      split at h
      · rename_i b hv
        rw [guardD] at h
        split at h
        · rename_i hb
          cases hs : stepF Ty o.dst o.op ρ H n with
          | some r =>
            obtain ⟨v, H', n'⟩ := r
            rw [hs, bindD_some] at h
            exact ⟨_, StepD.of_step hT hκ (by simp only [gok, hg, hv, hb]; cases want <;> rfl) hs, evalD_sound hT hκ l _ _ _ h⟩
          | none =>
            rw [hs, bindD_none] at h
            exact RunDK.unguard hg hv hb h
        · rename_i hb
          refine ⟨_, .inr ⟨?_, rfl⟩, evalD_sound hT hκ l _ _ _ h⟩
          simp only [gok, hg, hv]
          cases b <;> cases want <;> simp_all
      · rename_i xs hv
        exact ⟨_, .inr ⟨by simp only [gok, hg, hv], rfl⟩, evalD_sound hT hκ l _ _ _ h⟩
      · exact h

theorem guardD.split {b want : Bool} (h : b = want → bindD P f N k Q Ty κ ops (stepF Ty o.dst o.op ρ H n) o l ρ H n) (h' : b ≠ want → evalD P f N k Q Ty κ ops l (ρ.put o.dst skv) H n) : guardD P f N k Q Ty κ ops b want o l ρ H n := by
  rw [guardD]
  split
  · exact h (by assumption)
  · exact h' (by assumption)

/-- An operation met by hand in such a region. -/
theorem RunDK.op (hT : TypesOk P Ty) (hκ : KOk κ) {v : AVal} {H' : Heap} {n' : Nat} (hg : o.guard = none) (h0 : κ o.op ≠ 0) (h1 : κ o.op = 1 → H' = H ∧ n' = n) (hop : OpSem P N o (loc o.op ρ) H n (isV v H' n'))
    (h : evalD P f N k Q Ty κ ops l (ρ.put o.dst v) H' n') : RunDK P f N k Q κ ops (o :: l) ρ H n :=
  ⟨(ρ.put o.dst v, H', n'), .inl ⟨by simp [gok, hg], v, rfl, fun h => absurd h h0, fun h => by obtain ⟨e1, e2⟩ := h1 h; rw [e1, e2], hop⟩, evalD_sound hT hκ l _ _ _ h⟩

/-- A region that draws its order, and then the rest. -/
theorem Runs.seqD (hT : TypesOk P Ty) (hκ : KOk κ) {id : Nat} {ops : List Oper} {y : Code} (hm : P.follows .mixedOrders = true) (hN : ops.all (fun o => dok N o.dst) = true) (hB : drawOk κ ops.toArray = true)
    (h : ∀ k' : List Item, (∀ ρ H n, Runs P f N (.code y :: k) ρ H n Q → Runs P f N k' ρ H n Q) → evalD P f N k' Q Ty κ ops.toArray ops ρ H n) : Runs P f N (.code (.seq (.region id ops.toArray true) y) :: k) ρ H n Q :=
  Runs.seq (Runs.draw hm hN hB (evalD_sound hT hκ ops _ _ _ (h (.code y :: k) fun _ _ _ h => h)))

theorem Runs.evalDE (hT : TypesOk P Ty) (hκ : KOk κ) {id : Nat} {ops : List Oper} (hm : P.follows .mixedOrders = true) (hN : ops.all (fun o => dok N o.dst) = true) (hB : drawOk κ ops.toArray = true)
    (h : ∀ k' : List Item, (∀ ρ H n, Runs P f N k ρ H n Q → Runs P f N k' ρ H n Q) → evalD P f N k' Q Ty κ ops.toArray ops ρ H n) : Runs P f N (.code (.region id ops.toArray true) :: k) ρ H n Q :=
  Runs.draw hm hN hB (evalD_sound hT hκ ops _ _ _ (h k fun _ _ _ h => h))

/-- A call that only reads and makes, in such a region. -/
theorem OpSem.callD {d : Option Tmp} {g : Operand} {args : Array Operand} {ats : Array TypeId} {ty : TypeId} {pos : String} {af : Array Edge} {gu : Option (Nat × Bool)} {v : AVal}
    {f : FuncId} {args' : List AVal} (hg : ρ.ev g = .fn (.func f) [] []) (hent : Ent P f) (ha : ArgsOk H n (args.toList.map ρ.ev) args') (h : PureC P f args' (fun r => r = v)) :
    OpSem P N ⟨d, .call ⟨.value g, args, ats⟩, ty, pos, af, gu⟩ (loc (.call ⟨.value g, args, ats⟩) ρ) H n (isV v H n) := by
  have h1 : (loc (.call ⟨.value g, args, ats⟩) ρ).ev g = ρ.ev g := loc_ev (by simp [Op.operands, Call.operands])
  have h2 : args.toList.map (loc (.call ⟨.value g, args, ats⟩) ρ).ev = args.toList.map ρ.ev := List.map_congr_left fun x hx => loc_ev (by simp [Op.operands, Call.operands]; exact .inr (by simpa using hx))
  exact OpSem.callP (by rw [h1]; exact hg) hent (by rw [h2]; exact ha) h

/-- In a region whose order is fixed. -/
theorem RunK.call (hT : TypesOk P Ty) {d : Option Tmp} {g : Operand} {args : Array Operand} {ats : Array TypeId} {ty : TypeId} {pos : String} {af : Array Edge} {R : AVal → Prop} {f' : FuncId} {args' : List AVal} {ops : List Oper}
    (hN : ops.all (fun o => dok N o.dst) = true) (hl : (⟨d, .call ⟨.value g, args, ats⟩, ty, pos, af, none⟩ :: l : List Oper).all (fun o => dok N o.dst) = true) (hg : ρ.ev g = .fn (.func f') [] []) (hent : Ent P f') (ha : ArgsOk H n (args.toList.map ρ.ev) args') (h : PureC P f' args' R)
    (hk : ∀ v, R v → evalK P f N k Q Ty ops.toArray l (ρ.put d v) H n) : RunK P f N k Q ops.toArray (⟨d, .call ⟨.value g, args, ats⟩, ty, pos, af, none⟩ :: l) ρ H n :=
  RunK.op hT hN hl rfl (OpSem.callP hg hent ha h) fun v H' n' ⟨hR, hH, hn⟩ => by rw [hH, hn]; exact hk v hR

/-- In a region that draws. -/
theorem RunDK.call (hT : TypesOk P Ty) (hκ : KOk κ) {d : Option Tmp} {g : Operand} {args : Array Operand} {ats : Array TypeId} {ty : TypeId} {pos : String} {af : Array Edge} {v : AVal} {f' : FuncId} {args' : List AVal}
    (h0 : κ (.call ⟨.value g, args, ats⟩) ≠ 0) (hg : ρ.ev g = .fn (.func f') [] []) (hent : Ent P f') (ha : ArgsOk H n (args.toList.map ρ.ev) args') (h : PureC P f' args' (fun r => r = v))
    (hk : evalD P f N k Q Ty κ ops l (ρ.put d v) H n) : RunDK P f N k Q κ ops (⟨d, .call ⟨.value g, args, ats⟩, ty, pos, af, none⟩ :: l) ρ H n :=
  RunDK.op hT hκ rfl h0 (fun _ => ⟨rfl, rfl⟩) (OpSem.callD hg hent ha h) hk
end
end Go.Ab
