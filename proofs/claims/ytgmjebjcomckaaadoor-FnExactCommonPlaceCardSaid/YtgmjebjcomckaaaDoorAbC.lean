/- The abstract machine, part C: the judgements (an operation, a region, what is left of a body, a call) and the rules of control. -/
import Derived.Test.YtgmjebjcomckaaaDoorAbB
namespace Go.Ab

abbrev Env := Nat → AVal

def Env.put (ρ : Env) (d : Option Nat) (x : AVal) : Env :=
  match d with
  | none => ρ
  | some d => fun t => if t = d then x else ρ t

theorem Env.put_none (ρ : Env) (x : AVal) : ρ.put none x = ρ := rfl
theorem Env.put_get (ρ : Env) (d t : Nat) (x : AVal) : ρ.put (some d) x t = if t = d then x else ρ t := rfl

def constA : Value → AVal
  | .agg cs => .agg (cs.toList.map .v)
  | x => .v x

def Env.ev (ρ : Env) : Operand → AVal
  | .tmp t => ρ t
  | .const x => constA x
  | .global g => .v (.pointer (some ⟨g, 0, none⟩))
  | .func f => .fn (.func f) [] []

theorem Rep.vs (c : Ctx) (l : List Value) : ∀ (i : Nat) (a : AVal) (x : Value), (l.map AVal.v)[i]? = some a → l[i]? = some x → Rep c a x := by
  intro i a x ha hx
  rw [List.getElem?_map, hx] at ha
  cases ha
  exact .v x

theorem Rep.const (c : Ctx) (x : Value) : Rep c (constA x) x := by
  cases x with
  | agg cs =>
    have := Rep.agg (c := c) (cs.toList.map .v) cs.toList (by simp) (Rep.vs c _)
    simpa [constA] using this
  | _ => exact .v _

theorem Rep.v_inv {c : Ctx} {x y : Value} (h : Rep c (.v x) y) : y = x := by cases h; rfl

structure RelE (N : Nat) (c : Ctx) (ρ : Env) (a : Act) : Prop where
  defers : a.defers = []
  size : a.tmps.size = N
  rep : ∀ t, Rep c (ρ t) (a.tmps.getD t undef)

theorem RelE.ev {N : Nat} {c : Ctx} {ρ : Env} {a : Act} (h : RelE N c ρ a) (x : Operand) : Rep c (ρ.ev x) (a.eval x) := by
  cases x with
  | tmp t => exact h.rep t
  | const x => exact Rep.const c x
  | global g => exact .v _
  | func f => exact Rep.fn (c := c) (.func f) [] [] [] [] rfl rfl (by simp) (by simp)

theorem RelE.keeps {N : Nat} {c c' : Ctx} {ρ : Env} {a : Act} (k : Keeps c c') (h : RelE N c ρ a) : RelE N c' ρ a := ⟨h.defers, h.size, fun t => (h.rep t).keeps k⟩

def dok (N : Nat) : Option Nat → Bool
  | none => true
  | some d => decide (d < N)

theorem RelE.put {N : Nat} {c : Ctx} {ρ : Env} {a : Act} (h : RelE N c ρ a) {d : Option Nat} (hd : dok N d = true) {v : AVal} {x : Value} (hr : Rep c v x) : RelE N c (ρ.put d v) (a.put d x) := by
  cases d with
  | none => exact h
  | some d =>
    have hd' : d < N := by simpa [dok] using hd
    refine ⟨h.defers, by simp [Act.put, h.size], fun t => ?_⟩
    simp only [Act.put, Env.put]
    by_cases ht : t = d
    · subst ht
      have hs : t < a.tmps.size := by rw [h.size]; exact hd'
      have hv : (a.tmps.setIfInBounds t x).getD t undef = x := by simp [Array.getD, hs]
      rw [if_pos rfl, hv]
      exact hr
    · rw [if_neg ht]
      have : (a.tmps.setIfInBounds d x).getD t undef = a.tmps.getD t undef := by
        simp only [Array.getD_eq_getD_getElem?]
        rw [Array.getElem?_setIfInBounds_ne (by omega)]
      rw [this]
      exact h.rep t

/-- An operation: at whatever world that fits it gives a value and a heap as 'post' says. -/
def OpSem (P : Program) (N : Nat) (o : Oper) (ρ : Env) (H : Heap) (n : Nat) (post : AVal → Heap → Nat → Prop) : Prop :=
  ∀ (c : Ctx) (a : Act), c.H = H → c.n = n → Good c → RelE N c ρ a → ∀ (next : Act → World → Prop) (Q : Exit → Act → World → Prop),
    (∀ v x c', post v c'.H c'.n → Rep c' v x → Good c' → Keeps c c' → next (a.put o.dst x) c'.w) → o.wp P a c.w next Q

theorem OpSem.mono {P : Program} {N : Nat} {o : Oper} {ρ : Env} {H : Heap} {n : Nat} {post post' : AVal → Heap → Nat → Prop} (h : OpSem P N o ρ H n post) (hp : ∀ v H' n', post v H' n' → post' v H' n') : OpSem P N o ρ H n post' :=
  fun c a hH hn g r next Q k => h c a hH hn g r next Q fun v x c' hpost => k v x c' (hp _ _ _ hpost)

theorem OpSem.of_value {P : Program} {N : Nat} {o : Oper} {ρ : Env} {H : Heap} {n : Nat} {post : AVal → Heap → Nat → Prop}
    (h : ∀ (c : Ctx) (a : Act), c.H = H → c.n = n → Good c → RelE N c ρ a → ∃ v x c', (execOp a.eval o).run P c.w = .ok (.value x) c'.w ∧ post v c'.H c'.n ∧ Rep c' v x ∧ Good c' ∧ Keeps c c') :
    OpSem P N o ρ H n post := by
  intro c a hH hn g r next Q k
  obtain ⟨v, x, c', hrun, hpost, hrep, hg, hk⟩ := h c a hH hn g r
  unfold Oper.wp
  rw [hrun]
  exact k v x c' hpost hrep hg hk

theorem OpSem.of_skip {P : Program} {N : Nat} {o : Oper} {ρ : Env} {H : Heap} {n : Nat} {post : AVal → Heap → Nat → Prop}
    (h : ∀ (c : Ctx) (a : Act), c.H = H → c.n = n → Good c → RelE N c ρ a → ∃ c', (execOp a.eval o).run P c.w = .ok .skip c'.w ∧ post .undef c'.H c'.n ∧ Good c' ∧ Keeps c c') :
    OpSem P N o ρ H n post := by
  intro c a hH hn g r next Q k
  obtain ⟨c', hrun, hpost, hg, hk⟩ := h c a hH hn g r
  unfold Oper.wp
  rw [hrun]
  exact k .undef undef c' hpost (.undef _) hg hk

/-- The rest of a region. -/
def RunO (P : Program) (N : Nat) (ops : Array Oper) (l : List Oper) (ρ : Env) (H : Heap) (n : Nat) (R : Env → Heap → Nat → Prop) : Prop :=
  ∀ (c : Ctx) (a : Act), c.H = H → c.n = n → Good c → RelE N c ρ a → ∀ (Q : Exit → Act → World → Prop),
    (∀ a' c' ρ', Keeps c c' → Good c' → RelE N c' ρ' a' → R ρ' c'.H c'.n → Q .normal a' c'.w) → wpList P ops Q l a c.w

theorem RunO.nil {P : Program} {N : Nat} {ops : Array Oper} {ρ : Env} {H : Heap} {n : Nat} {R : Env → Heap → Nat → Prop} (h : R ρ H n) : RunO P N ops [] ρ H n R := by
  intro c a hH hn g r Q k
  subst hH; subst hn
  exact k a c ρ (Keeps.refl c) g r h

theorem RunO.mono {P : Program} {N : Nat} {ops : Array Oper} {l : List Oper} {ρ : Env} {H : Heap} {n : Nat} {R R' : Env → Heap → Nat → Prop} (h : RunO P N ops l ρ H n R) (hr : ∀ ρ H n, R ρ H n → R' ρ H n) : RunO P N ops l ρ H n R' :=
  fun c a hH hn g r Q k => h c a hH hn g r Q fun a' c' ρ' hk hg hr' hR => k a' c' ρ' hk hg hr' (hr _ _ _ hR)

theorem RunO.op {P : Program} {N : Nat} {ops : Array Oper} {o : Oper} {l : List Oper} {ρ : Env} {H : Heap} {n : Nat} {R : Env → Heap → Nat → Prop} (hg : o.guard = none) (hd : dok N o.dst = true)
    (h : OpSem P N o ρ H n fun v H' n' => RunO P N ops l (ρ.put o.dst v) H' n' R) : RunO P N ops (o :: l) ρ H n R := by
  intro c a hH hn g r Q k
  unfold wpList
  rw [if_pos (by simp [Region.wanted, hg])]
  refine .inl (h c a hH hn g r _ _ fun v x c' hpost hrep hgood hk => ?_)
  exact hpost c' (a.put o.dst x) rfl rfl hgood ((r.keeps hk).put hd hrep) Q fun a' c'' ρ' hk' hg' hr' hR => k a' c'' ρ' (hk.trans hk') hg' hr' hR

theorem yielded_of {N : Nat} {c : Ctx} {ρ : Env} {a : Act} (r : RelE N c ρ a) {ops : Array Oper} {j t : Nat} {b : Bool} (hj : (ops[j]?).bind (·.dst) = some t) (ht : dok N (some t) = true) (hv : ρ t = .v (.bool b)) : yielded ops a.tmps j = some b := by
  have h := r.rep t
  rw [hv] at h
  have hlt : t < a.tmps.size := by rw [r.size]; simpa [dok] using ht
  have hb : a.tmps.getD t undef = .bool b := h.v_inv
  have : a.tmps[t]? = some (.bool b) := by
    rw [Array.getElem?_eq_getElem hlt]
    simp only [Array.getD, hlt, dif_pos] at hb
    exact congrArg some hb
  simp [yielded, hj, this]

/-- What an operation that is skipped leaves. -/
abbrev skv : AVal := .v Go.undef

theorem RunO.guarded {P : Program} {N : Nat} {ops : Array Oper} {o : Oper} {l : List Oper} {ρ : Env} {H : Heap} {n : Nat} {R : Env → Heap → Nat → Prop} {j t : Nat} {want b : Bool} (hg : o.guard = some (j, want)) (hd : dok N o.dst = true)
    (hj : (ops[j]?).bind (·.dst) = some t) (ht : dok N (some t) = true) (hv : ρ t = .v (.bool b))
    (hy : b = want → OpSem P N o ρ H n fun v H' n' => RunO P N ops l (ρ.put o.dst v) H' n' R) (hno : b ≠ want → RunO P N ops l (ρ.put o.dst skv) H n R) : RunO P N ops (o :: l) ρ H n R := by
  intro c a hH hn g r Q k
  have hyi := yielded_of r hj ht hv
  unfold wpList
  by_cases hb : b = want
  · rw [if_pos (by simp [Region.wanted, hg, hyi, hb])]
    refine .inl (hy hb c a hH hn g r _ _ fun v x c' hpost hrep hgood hk => ?_)
    exact hpost c' (a.put o.dst x) rfl rfl hgood ((r.keeps hk).put hd hrep) Q fun a' c'' ρ' hk' hg' hr' hR => k a' c'' ρ' (hk.trans hk') hg' hr' hR
  · rw [if_neg (by simp [Region.wanted, hg, hyi, hb])]
    exact hno hb c (a.put o.dst undef) hH hn g (r.put hd (.v _)) Q k

theorem yielded_none {N : Nat} {c : Ctx} {ρ : Env} {a : Act} (r : RelE N c ρ a) {ops : Array Oper} {j t : Nat} {xs : Array Value} (hj : (ops[j]?).bind (·.dst) = some t) (ht : dok N (some t) = true) (hv : ρ t = .v (.tuple xs)) : yielded ops a.tmps j = none := by
  have h := r.rep t
  rw [hv] at h
  have hlt : t < a.tmps.size := by rw [r.size]; simpa [dok] using ht
  have hb : a.tmps.getD t undef = .tuple xs := h.v_inv
  have : a.tmps[t]? = some (.tuple xs) := by
    rw [Array.getElem?_eq_getElem hlt]
    simp only [Array.getD, hlt, dif_pos] at hb
    exact congrArg some hb
  simp [yielded, hj, this]

/-- An operation that looks at one that was skipped is skipped. -/
theorem RunO.skipped {P : Program} {N : Nat} {ops : Array Oper} {o : Oper} {l : List Oper} {ρ : Env} {H : Heap} {n : Nat} {R : Env → Heap → Nat → Prop} {j t : Nat} {want : Bool} {xs : Array Value} (hg : o.guard = some (j, want)) (hd : dok N o.dst = true)
    (hj : (ops[j]?).bind (·.dst) = some t) (ht : dok N (some t) = true) (hv : ρ t = .v (.tuple xs)) (h : RunO P N ops l (ρ.put o.dst skv) H n R) : RunO P N ops (o :: l) ρ H n R := by
  intro c a hH hn g r Q k
  have hyi := yielded_none r hj ht hv
  unfold wpList
  rw [if_neg (by simp [Region.wanted, hg, hyi])]
  exact h c (a.put o.dst undef) hH hn g (r.put hd (.v _)) Q k

/-- What is left of a body: it comes to a return. -/
def Runs (P : Program) (f : FuncId) (N : Nat) (k : List Item) (ρ : Env) (H : Heap) (n : Nat) (Q : AVal → Heap → Nat → Prop) : Prop :=
  ∀ (c : Ctx) (a : Act), c.H = H → c.n = n → Good c → RelE N c ρ a → ∀ (b : Frame) (cs : List Frame), b.fn = f → b.kind = .normal →
    ∃ x v c' fr, Q v c'.H c'.n ∧ Rep c' v x ∧ Good c' ∧ Keeps c c' ∧ Steps P (lone (b.at a k) cs c.w) (lone fr cs c'.w) ∧ fr.fn = f ∧ fr.leaving P c'.w (.returned x)

section
variable {P : Program} {f : FuncId} {N : Nat} {k : List Item} {ρ : Env} {H : Heap} {n : Nat} {Q : AVal → Heap → Nat → Prop}

theorem Runs.mono {Q' : AVal → Heap → Nat → Prop} (h : Runs P f N k ρ H n Q) (hq : ∀ v H n, Q v H n → Q' v H n) : Runs P f N k ρ H n Q' :=
  fun c a hH hn g r b cs hf hk => let ⟨x, v, c', fr, q, rest⟩ := h c a hH hn g r b cs hf hk; ⟨x, v, c', fr, hq _ _ _ q, rest⟩

theorem Runs.step {k k' : List Item} (hs : ∀ (c : Ctx) (a : Act) (b : Frame) (cs : List Frame), RelE N c ρ a → step P (lone (b.at a k) cs c.w) = .next (lone (b.at a k') cs c.w)) (h : Runs P f N k' ρ H n Q) : Runs P f N k ρ H n Q := by
  intro c a hH hn g r b cs hf hk
  obtain ⟨x, v, c', fr, q, hr, hg, hke, hst, rest⟩ := h c a hH hn g r b cs hf hk
  exact ⟨x, v, c', fr, q, hr, hg, hke, .head (hs c a b cs r) hst, rest⟩

theorem Runs.skip (h : Runs P f N k ρ H n Q) : Runs P f N (.code .skip :: k) ρ H n Q := .step (fun _ _ _ _ _ => step_skip) h
theorem Runs.label {l : Nat} (h : Runs P f N k ρ H n Q) : Runs P f N (.code (.label l) :: k) ρ H n Q := .step (fun _ _ _ _ _ => step_label) h
theorem Runs.inBlock {id : Nat} (h : Runs P f N k ρ H n Q) : Runs P f N (.inBlock id :: k) ρ H n Q := .step (fun _ _ _ _ _ => step_inBlock) h
theorem Runs.seq {x y : Code} (h : Runs P f N (.code x :: .code y :: k) ρ H n Q) : Runs P f N (.code (.seq x y) :: k) ρ H n Q := .step (fun _ _ _ _ _ => step_seq) h
theorem Runs.block {id : Nat} {x : Code} (h : Runs P f N (.code x :: .inBlock id :: k) ρ H n Q) : Runs P f N (.code (.block id x) :: k) ρ H n Q := .step (fun _ _ _ _ _ => step_block) h
theorem Runs.loop {x : Code} (h : Runs P f N (.code x :: .inLoop x :: k) ρ H n Q) : Runs P f N (.code (.loop x) :: k) ρ H n Q := .step (fun _ _ _ _ _ => step_loop) h
theorem Runs.inLoop {x : Code} (h : Runs P f N (.code x :: .inLoop x :: k) ρ H n Q) : Runs P f N (.inLoop x :: k) ρ H n Q := .step (fun _ _ _ _ _ => step_inLoop) h
theorem Runs.exit {id : Nat} {k' : List Item} (he : exitTo id k = some k') (h : Runs P f N k' ρ H n Q) : Runs P f N (.code (.exit id) :: k) ρ H n Q := .step (fun _ _ _ _ _ => step_exit he) h
theorem Runs.cond {t : Operand} {x y : Code} {b : Bool} (hb : ρ.ev t = .v (.bool b)) (h : Runs P f N (.code (if b then x else y) :: k) ρ H n Q) : Runs P f N (.code (.cond t x y) :: k) ρ H n Q :=
  .step (fun _ a _ _ r => step_cond (by have := r.ev t; rw [hb] at this; exact this.v_inv)) h

/-- A region whose order is fixed. -/
theorem Runs.region {id : Nat} {ops : Array Oper} (h : RunO P N ops ops.toList ρ H n fun ρ' H' n' => Runs P f N k ρ' H' n' Q) : Runs P f N (.code (.region id ops false) :: k) ρ H n Q := by
  intro c a hH hn g r b cs hf hk
  have hw : (Code.region id ops false).wp P (fun e a' w' => e = .normal ∧ ∃ c' ρ', c'.w = w' ∧ Keeps c c' ∧ Good c' ∧ RelE N c' ρ' a' ∧ Runs P f N k ρ' c'.H c'.n Q) a c.w :=
    wp_region_list (h c a hH hn g r _ fun a' c' ρ' hk' hg' hr' hR => ⟨rfl, c', ρ', rfl, hk', hg', hr', hR⟩)
  obtain ⟨e, a', w', ⟨rfl, c', ρ', rfl, hk', hg', hr', hR⟩, harr⟩ := hw b k cs
  obtain ⟨x, v, c'', fr, q, hr, hg, hke, hst, rest⟩ := hR c' a' rfl rfl hg' hr' b cs hf hk
  exact ⟨x, v, c'', fr, q, hr, hg, hk'.trans hke, Steps.trans harr hst, rest⟩

/-- What a function hands back. -/
def RetOk (P : Program) (N : Nat) (fn : Func) (ρ : Env) (H : Heap) (n : Nat) (v : AVal) : Prop :=
  ∀ (c : Ctx) (a : Act), c.H = H → c.n = n → Good c → RelE N c ρ a → ∃ x, (results fn a.tmps).run P c.w = .ok x c.w ∧ Rep c v x

theorem Runs.ret {fn : Func} {v : AVal} (hfn : P.funcs[f]? = some fn) (hr : RetOk P N fn ρ H n v) (hq : Q v H n) : Runs P f N (.code .ret :: k) ρ H n Q := by
  intro c a hH hn g r b cs hf hk
  obtain ⟨x, hx, hrep⟩ := hr c a hH hn g r
  refine ⟨x, v, c, { b.at a (.code .ret :: k) with mode := .returning }, by rw [hH, hn]; exact hq, hrep, g, Keeps.refl c, .one step_ret, hf, rfl, r.defers, hk, fn, by simpa [Frame.at, hf] using hfn, hx⟩

theorem Runs.fin {fn : Func} {v : AVal} (hfn : P.funcs[f]? = some fn) (hr : RetOk P N fn ρ H n v) (hq : Q v H n) : Runs P f N [] ρ H n Q := by
  intro c a hH hn g r b cs hf hk
  obtain ⟨x, hx, hrep⟩ := hr c a hH hn g r
  refine ⟨x, v, c, { b.at a [] with mode := .returning }, by rw [hH, hn]; exact hq, hrep, g, Keeps.refl c, .one step_end, hf, rfl, r.defers, hk, fn, by simpa [Frame.at, hf] using hfn, hx⟩
end

/-- The arguments' values. -/
def RepL (c : Ctx) (as : List AVal) (xs : List Value) : Prop := as.length = xs.length ∧ ∀ (i : Nat) (a : AVal) (x : Value), as[i]? = some a → xs[i]? = some x → Rep c a x

/-- A call. -/
def CallsA (P : Program) (f : FuncId) (args : List AVal) (H : Heap) (n : Nat) (Q : AVal → Heap → Nat → Prop) : Prop :=
  ∀ (c : Ctx) (xs : List Value), c.H = H → c.n = n → Good c → RepL c args xs →
    Calls P f xs.toArray c.w fun e w' => ∃ x v c', e = .returned x ∧ c'.w = w' ∧ Q v c'.H c'.n ∧ Rep c' v x ∧ Good c' ∧ Keeps c c'

theorem CallsA.mono {P : Program} {f : FuncId} {args : List AVal} {H : Heap} {n : Nat} {Q Q' : AVal → Heap → Nat → Prop} (h : CallsA P f args H n Q) (hq : ∀ v H n, Q v H n → Q' v H n) : CallsA P f args H n Q' :=
  fun c xs hH hn g r => (h c xs hH hn g r).mono fun _ _ ⟨x, v, c', he, hw, q, rest⟩ => ⟨x, v, c', he, hw, hq _ _ _ q, rest⟩

def argEnv (args : List AVal) : Env := fun t => (args[t]?).getD .undef

theorem CallsA.of_runs {P : Program} {f : FuncId} {fn : Func} {body : Code} {args : List AVal} {H : Heap} {n : Nat} {Q : AVal → Heap → Nat → Prop} (hfn : P.funcs[f]? = some fn) (hb : fn.body = some body) (hN : args.length ≤ fn.ntmps)
    (h : Runs P f fn.ntmps [.code body] (argEnv args) H n Q) : CallsA P f args H n Q := by
  intro c xs hH hn g r cs
  let b : Frame := { (default : Frame) with fn := f, kind := .normal }
  have henter : Frame.enter P f xs.toArray .normal = b.at { tmps := xs.toArray ++ Array.replicate (fn.ntmps - xs.toArray.size) undef, defers := [] } [.code body] := by
    simp [Frame.enter, Frame.at, hfn, hb, b]
  have hre : RelE fn.ntmps c (argEnv args) { tmps := xs.toArray ++ Array.replicate (fn.ntmps - xs.toArray.size) undef, defers := [] } := by
    have hl := r.1
    refine ⟨rfl, by simp; omega, fun t => ?_⟩
    simp only [argEnv]
    cases ha : args[t]? with
    | none => exact .undef _
    | some v =>
      have hlt : t < args.length := (List.getElem?_eq_some_iff.1 ha).1
      have hx : xs[t]? = some (xs[t]'(by omega)) := List.getElem?_eq_getElem (by omega)
      have : (xs.toArray ++ Array.replicate (fn.ntmps - xs.toArray.size) undef).getD t undef = xs[t]'(by omega) := by
        rw [Array.getD_eq_getD_getElem?, Array.getElem?_append_left (by simp; omega)]
        simp [hx]
      rw [this]
      exact r.2 t v _ ha hx
  obtain ⟨x, v, c', fr, q, hr, hg, hk, hst, hfr, hlv⟩ := h c _ hH hn g hre b cs rfl rfl
  rw [henter]
  exact ⟨.returned x, c'.w, fr, ⟨x, v, c', rfl, rfl, q, hr, hg, hk⟩, hst, hfr, hlv⟩

/-- The function can be entered: it has a body (and is not the one whose name the model knows). -/
def Ent (P : Program) (f : FuncId) : Prop := ∃ fn body, P.funcs[f]? = some fn ∧ (fn.name == "runtime.NumGoroutine") = false ∧ fn.body = some body

theorem Rep.argsOf {N : Nat} {c : Ctx} {ρ : Env} {a : Act} (r : RelE N c ρ a) (l : List Operand) : RepL c (l.map ρ.ev) (l.map a.eval) := by
  refine ⟨by simp, fun i v x hv hx => ?_⟩
  rw [List.getElem?_map] at hv hx
  cases h : l[i]? with
  | none => simp [h] at hv
  | some y =>
    simp only [h, Option.map_some, Option.some.injEq] at hv hx
    rw [← hv, ← hx]
    exact r.ev y

theorem RepL.append {c : Ctx} {as bs : List AVal} {xs ys : List Value} (h : RepL c as xs) (k : RepL c bs ys) : RepL c (as ++ bs) (xs ++ ys) := by
  refine ⟨by simp [h.1, k.1], fun i v x hv hx => ?_⟩
  have hl := h.1
  by_cases hi : i < as.length
  · rw [List.getElem?_append_left hi] at hv
    rw [List.getElem?_append_left (by omega)] at hx
    exact h.2 i v x hv hx
  · rw [List.getElem?_append_right (by omega)] at hv
    rw [List.getElem?_append_right (by omega), ← hl] at hx
    exact k.2 _ v x hv hx

/-- A call of a function value. -/
theorem OpSem.call {P : Program} {N : Nat} {d : Option Tmp} {g : Operand} {args : Array Operand} {ats : Array TypeId} {ty : TypeId} {pos : String} {af : Array Edge} {gu : Option (Nat × Bool)} {ρ : Env} {H : Heap} {n : Nat} {post : AVal → Heap → Nat → Prop}
    {f : FuncId} {first captured : List AVal} (hg : ρ.ev g = .fn (.func f) first captured) (hent : Ent P f) (h : CallsA P f (first ++ args.toList.map ρ.ev ++ captured) H n post) :
    OpSem P N ⟨d, .call ⟨.value g, args, ats⟩, ty, pos, af, gu⟩ ρ H n post := by
  intro c a hH hn gd r next Q k
  have hr := r.ev g
  rw [hg] at hr
  generalize hx : a.eval g = x at hr
  cases hr with
  | fn _ _ _ vs us hl hl' h1 h2 =>
    obtain ⟨fn, body, hfn, hname, hbody⟩ := hent
    have hname : fn.name ≠ "runtime.NumGoroutine" := by simpa using hname
    have hrun : (execOp a.eval ⟨d, .call ⟨.value g, args, ats⟩, ty, pos, af, gu⟩).run P c.w = .ok (.enter f (vs ++ args.toList.map a.eval ++ us).toArray) c.w := by
      have e1 : args.map a.eval = (args.toList.map a.eval).toArray := by
        apply Array.ext'
        simp
      simp [execOp, resolve, hx, Deferred.ofValue, invoke, callFunc, Bind.bind, Pure.pure, Sem.bind, Sem.run, program, hfn, hname, hbody, e1]
    unfold Oper.wp
    rw [hrun]
    show Calls P f _ _ _
    refine (h c (vs ++ args.toList.map a.eval ++ us) hH hn gd (RepL.append (RepL.append ⟨hl, h1⟩ (Rep.argsOf r _)) ⟨hl', h2⟩)).mono ?_
    rintro e w' ⟨x, v, c', rfl, rfl, q, hrep, hgood, hk⟩
    exact k v x c' q hrep hgood hk

end Go.Ab
