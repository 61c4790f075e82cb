/- The abstract machine, part L: a region that draws its order: one evaluation in the text's order serves every order. -/
import Derived.Test.YtgmjebjcomckaaaDoorAbK
import Derived.Still
import Derived.Orders
namespace Go.Ab

def tmpsOf (op : Op) : List Tmp := op.operands.toList.filterMap fun | .tmp t => some t | _ => none

/-- What an operation's own operands tell. -/
def loc (op : Op) (ρ : Env) : Env := fun t => if (tmpsOf op).contains t then ρ t else .undef

theorem loc_ev {op : Op} {ρ : Env} {x : Operand} (h : x ∈ op.operands) : (loc op ρ).ev x = ρ.ev x := by
  cases x with
  | tmp t =>
    have : t ∈ tmpsOf op := List.mem_filterMap.2 ⟨.tmp t, by simpa using h, rfl⟩
    simp [Env.ev, loc, this]
  | _ => rfl

theorem loc_put {op : Op} {ρ : Env} {d : Option Tmp} {v : AVal} (h : ∀ t, d = some t → t ∉ tmpsOf op) : loc op (ρ.put d v) = loc op ρ := by
  cases d with
  | none => rfl
  | some d =>
    funext t
    simp only [loc, Env.put]
    split
    · rename_i ht
      rw [if_neg]
      intro he
      subst he
      exact h t rfl (by simpa using ht)
    · rfl

theorem RelE.loc {N : Nat} {c : Ctx} {ρ : Env} {a : Act} (op : Op) (r : RelE N c ρ a) : RelE N c (loc op ρ) a := by
  refine ⟨r.defers, r.size, fun t => ?_⟩
  simp only [Ab.loc]
  split
  · exact r.rep t
  · exact .undef _

theorem put_comm {ρ : Env} {x y : Option Nat} (v u : AVal) (h : ∀ d, x = some d → y ≠ some d) : (ρ.put x v).put y u = (ρ.put y u).put x v := by
  cases x with
  | none => rfl
  | some d =>
    cases y with
    | none => rfl
    | some e =>
      have hne : d ≠ e := fun he => h d rfl (he ▸ rfl)
      funext t
      simp only [Env.put]
      by_cases h1 : t = e <;> by_cases h2 : t = d <;> simp_all

/-- 0: it looks at no memory and makes none that is told of; 1: it looks at memory; 2: it may turn it. -/
def kindOp : Op → Nat
  | .move _ | .assign _ | .pick .. | .binOp .. | .unOp .. | .convert .. | .makeFunc .. | .extract .. | .field .. | .index .. | .build .. => 0
  | .load .. | .fieldAddr .. | .indexAddr .. | .slice .. | .nilCheck _ | .call ⟨.builtin .len, _, _⟩ | .call ⟨.value _, _, _⟩ => 1
  | .buildSlice _ len _ => if len = 0 then 2 else 0
  | _ => 2

abbrev AS := Env × Heap × Nat

def gok (ops : Array Oper) (o : Oper) (ρ : Env) : Option Bool :=
  match o.guard with
  | none => some true
  | some (j, w) => match guardOf ops ρ j with
    | .v (.bool b) => some (b == w)
    | .v (.tuple _) => some false
    | _ => none

def isV (v : AVal) (H : Heap) (n : Nat) : AVal → Heap → Nat → Prop := fun v1 H1 n1 => v1 = v ∧ H1 = H ∧ n1 = n

section
variable (P : Program) (N : Nat) (ops : Array Oper) (κ : Op → Nat)

def StepD (o : Oper) (s s' : AS) : Prop :=
  (gok ops o s.1 = some true ∧ ∃ v, s'.1 = s.1.put o.dst v ∧ (κ o.op = 0 → s'.2 = s.2 ∧ ∀ H n, OpSem P N o (loc o.op s.1) H n (isV v H n)) ∧ (κ o.op = 1 → s'.2 = s.2) ∧ OpSem P N o (loc o.op s.1) s.2.1 s.2.2 (isV v s'.2.1 s'.2.2)) ∨
  (gok ops o s.1 = some false ∧ s' = (s.1.put o.dst skv, s.2))

def AnyA (R : AS → Prop) : Nat → Array Bool → AS → Prop
  | 0, listed, s => Region.ready .any ops listed = [] ∧ R s
  | fuel + 1, listed, s => (Region.ready .any ops listed = [] → R s) ∧ ∀ i ∈ Region.ready .any ops listed, ∃ o s', ops[i]? = some o ∧ StepD P N ops κ o s s' ∧ AnyA R fuel (listed.setIfInBounds i true) s'

/-- The evaluation in the text's order. -/
def RunD (R : AS → Prop) : List Oper → AS → Prop
  | [], s => R s
  | o :: l, s => ∃ s', StepD P N ops κ o s s' ∧ RunD R l s'
end

def compat (a b : Nat) : Bool := a == 0 || b == 0 || (a == 1 && b == 1)

section
variable {P : Program} {N : Nat} {ops : Array Oper} {κ : Op → Nat}

theorem gok_put {o : Oper} {ρ : Env} {d : Option Tmp} {v : AVal} (h : ∀ t, d = some t → t ∉ o.looksAt ops) : gok ops o (ρ.put d v) = gok ops o ρ := by
  unfold gok
  cases hg : o.guard with
  | none => rfl
  | some gw =>
    obtain ⟨j, w⟩ := gw
    have : guardOf ops (ρ.put d v) j = guardOf ops ρ j := by
      unfold guardOf
      cases ht : (ops[j]?).bind (·.dst) with
      | none => rfl
      | some t =>
        cases d with
        | none => rfl
        | some d =>
          simp only [Env.put]
          rw [if_neg]
          intro he
          subst he
          exact h t rfl (by simp [Oper.looksAt, hg, ht])
    simp only [this]

theorem looks_tmps {o : Oper} {d : Option Tmp} (h : ∀ t, d = some t → t ∉ o.looksAt ops) : ∀ t, d = some t → t ∉ tmpsOf o.op := fun t ht hm => by
  obtain ⟨x, hx, he⟩ := List.mem_filterMap.1 hm
  cases x with
  | tmp t' => cases he; exact h _ ht (List.mem_append_left _ (List.mem_filterMap.2 ⟨.tmp _, hx, rfl⟩))
  | _ => cases he

theorem StepD.diamond {oi oj : Oper} (hap : oi.apart ops oj = true) (hc : compat (κ oi.op) (κ oj.op) = true) {s si sij : AS} (hi : StepD P N ops κ oi s si) (hj : StepD P N ops κ oj si sij) : ∃ sj, StepD P N ops κ oj s sj ∧ StepD P N ops κ oi sj sij := by
  obtain ⟨h1, h2, h3⟩ := Oper.apart_spec hap
  have lj : ∀ v, loc oj.op (s.1.put oi.dst v) = loc oj.op s.1 := fun v => loc_put (looks_tmps h1)
  have li : ∀ v, loc oi.op (s.1.put oj.dst v) = loc oi.op s.1 := fun v => loc_put (looks_tmps h3)
  have gj : ∀ v, gok ops oj (s.1.put oi.dst v) = gok ops oj s.1 := fun v => gok_put h1
  have gi : ∀ v, gok ops oi (s.1.put oj.dst v) = gok ops oi s.1 := fun v => gok_put h3
  have hcc : κ oi.op = 0 ∨ κ oj.op = 0 ∨ (κ oi.op = 1 ∧ κ oj.op = 1) := by
    simp only [compat, Bool.or_eq_true, beq_iff_eq, Bool.and_eq_true] at hc
    rcases hc with (h | h) | h
    · exact .inl h
    · exact .inr (.inl h)
    · exact .inr (.inr h)
  obtain ⟨ρ, H, n⟩ := s
  obtain ⟨ρi, Hi, ni⟩ := si
  obtain ⟨ρj, Hj, nj⟩ := sij
  simp only at lj li gj gi
  rcases hi with ⟨hgi, v, hv, hk0, hk1, hop⟩ | ⟨hgi, hs⟩
  · simp only at hgi hv hk0 hk1 hop
    subst hv
    rcases hj with ⟨hgj, u, hu, hl0, hl1, hoq⟩ | ⟨hgj, hs'⟩
    · simp only at hgj hu hl0 hl1 hoq
      subst hu
      rw [gj] at hgj
      rw [lj] at hl0 hoq
      rcases hcc with h0 | h0 | ⟨h0, h0'⟩
      · obtain ⟨he, hall⟩ := hk0 h0
        cases he
        refine ⟨(ρ.put oj.dst u, Hj, nj), .inl ⟨hgj, u, rfl, hl0, hl1, hoq⟩, .inl ⟨by simpa only [gi] using hgi, v, by rw [put_comm v u h2], fun _ => ⟨rfl, by simpa only [li] using hall⟩, fun _ => rfl, ?_⟩⟩
        simp only [li]
        exact hall Hj nj
      · obtain ⟨he, hall⟩ := hl0 h0
        cases he
        refine ⟨(ρ.put oj.dst u, H, n), .inl ⟨hgj, u, rfl, fun _ => ⟨rfl, hall⟩, fun _ => rfl, hall H n⟩, .inl ⟨by simpa only [gi] using hgi, v, by rw [put_comm v u h2], by simpa only [li] using hk0, hk1, ?_⟩⟩
        simp only [li]
        exact hop
      · have e1 := hk1 h0
        have e2 := hl1 h0'
        cases e1
        cases e2
        refine ⟨(ρ.put oj.dst u, H, n), .inl ⟨hgj, u, rfl, hl0, hl1, hoq⟩, .inl ⟨by simpa only [gi] using hgi, v, by rw [put_comm v u h2], by simpa only [li] using hk0, hk1, ?_⟩⟩
        simp only [li]
        exact hop
    · simp only at hgj hs'
      cases hs'
      rw [gj] at hgj
      refine ⟨(ρ.put oj.dst skv, H, n), .inr ⟨hgj, rfl⟩, .inl ⟨by simpa only [gi] using hgi, v, by rw [put_comm v skv h2], by simpa only [li] using hk0, hk1, ?_⟩⟩
      simp only [li]
      exact hop
  · simp only at hgi hs
    cases hs
    rcases hj with ⟨hgj, u, hu, hl0, hl1, hoq⟩ | ⟨hgj, hs'⟩
    · simp only at hgj hu hl0 hl1 hoq
      subst hu
      rw [gj] at hgj
      rw [lj] at hl0 hoq
      exact ⟨(ρ.put oj.dst u, Hj, nj), .inl ⟨hgj, u, rfl, hl0, hl1, hoq⟩, .inr ⟨by simpa only [gi] using hgi, by rw [put_comm skv u h2]⟩⟩
    · simp only at hgj hs'
      cases hs'
      rw [gj] at hgj
      exact ⟨(ρ.put oj.dst skv, H, n), .inr ⟨hgj, rfl⟩, .inr ⟨by simpa only [gi] using hgi, by rw [put_comm skv skv h2]⟩⟩

theorem AnyA.first {R : AS → Prop} {i : Nat} {oi : Oper} (hi : ops[i]? = some oi) (D : List Nat) (hD : ∀ j oj, ops[j]? = some oj → j ∈ D → j ≠ i → ∃ e ∈ oj.after, Region.binds .any e = true ∧ e.on ∈ D) : ∀ (fuel : Nat) (listed : Array Bool) (s s' : AS),
    (∀ j ∈ D, listed.getD j true = false) → (∀ j oj, ops[j]? = some oj → j ≠ i → listed.getD j true = false → j ∉ D → oi.apart ops oj = true ∧ compat (κ oi.op) (κ oj.op) = true) →
    i ∈ Region.ready .any ops listed → StepD P N ops κ oi s s' → AnyA P N ops κ R fuel (listed.setIfInBounds i true) s' → AnyA P N ops κ R (fuel + 1) listed s := by
  intro fuel
  induction fuel with
  | zero =>
    intro listed s s' _ _ hr hst H
    refine ⟨fun h => (by rw [h] at hr; cases hr), fun j hj => ?_⟩
    by_cases hji : j = i
    · subst hji; exact ⟨oi, s', hi, hst, H⟩
    · have := ready_mono hj hji
      rw [H.1] at this
      cases this
  | succ fuel ih =>
    intro listed s s' hinv hfree hr hst H
    refine ⟨fun h => (by rw [h] at hr; cases hr), fun j hj => ?_⟩
    by_cases hji : j = i
    · subst hji; exact ⟨oi, s', hi, hst, H⟩
    · obtain ⟨oj, s'', hoj, hstj, hrest⟩ := H.2 j (ready_mono hj hji)
      obtain ⟨hjun, oj', hoj', hall⟩ := mem_ready.1 hj
      rw [hoj] at hoj'
      cases hoj'
      have hnot : j ∉ D := fun hd => by
        obtain ⟨e, he, hb, hed⟩ := hD j oj hoj hd hji
        have h1 := hall e he hb
        have h0 := hinv e.on hed
        rcases Nat.lt_or_ge e.on listed.size with h' | h'
        · simp [h'] at h0 h1; rw [h0] at h1; cases h1
        · simp [Array.getElem?_eq_none h'] at h1
      obtain ⟨hap, hco⟩ := hfree j oj hoj hji hjun hnot
      obtain ⟨sj, h1, h2⟩ := StepD.diamond hap hco hst hstj
      refine ⟨oj, sj, hoj, h1, ih (listed.setIfInBounds j true) sj s'' (fun k hk => ?_) (fun k ok hk hki hun hno => ?_) (ready_mono hr (Ne.symm hji)) h2 ?_⟩
      · have hjk : j ≠ k := fun he => hnot (he ▸ hk)
        rw [getD_set_ne true hjk]
        exact hinv k hk
      · refine hfree k ok hk hki ?_ hno
        by_cases hjk : j = k
        · subst hjk; exact hjun
        · rw [getD_set_ne true hjk] at hun; exact hun
      · rw [Array.setIfInBounds_comm _ _ hji]
        exact hrest

/-- What stands behind an operation. -/
def behind (ops : Array Oper) (i : Nat) : List Nat :=
  (List.range ops.size).foldl (fun D j => match ops[j]? with
    | some oj => if oj.after.any (fun e => Region.binds .any e && D.contains e.on) then j :: D else D
    | none => D) [i]

def freeD (κ : Op → Nat) (ops : Array Oper) (listed : Array Bool) (i : Nat) : Bool :=
  match ops[i]? with
  | none => false
  | some oi => ((behind ops i).all fun j => !(listed.getD j true) && match ops[j]? with
      | none => true
      | some oj => j == i || oj.after.any (fun e => Region.binds .any e && (behind ops i).contains e.on)) &&
    (List.range ops.size).all fun j => match ops[j]? with
    | none => true
    | some oj => j == i || listed.getD j true || (behind ops i).contains j || (oi.apart ops oj && compat (κ oi.op) (κ oj.op))

def lexD (κ : Op → Nat) (ops : Array Oper) : Nat → Nat → Array Bool → Bool
  | 0, _, listed => (Region.ready .any ops listed).isEmpty
  | fuel + 1, k, listed => (Region.ready .any ops listed).contains k && freeD κ ops listed k && lexD κ ops fuel (k + 1) (listed.setIfInBounds k true)

def drawOk (κ : Op → Nat) (ops : Array Oper) : Bool := lexD κ ops ops.size 0 (Array.replicate ops.size false)

theorem freeD_spec {listed : Array Bool} {i : Nat} {oi : Oper} (hi : ops[i]? = some oi) (h : freeD κ ops listed i = true) :
    (∀ j oj, ops[j]? = some oj → j ∈ behind ops i → j ≠ i → ∃ e ∈ oj.after, Region.binds .any e = true ∧ e.on ∈ behind ops i) ∧ (∀ j ∈ behind ops i, listed.getD j true = false) ∧
    ∀ j oj, ops[j]? = some oj → j ≠ i → listed.getD j true = false → j ∉ behind ops i → oi.apart ops oj = true ∧ compat (κ oi.op) (κ oj.op) = true := by
  unfold freeD at h
  simp only [hi, Bool.and_eq_true] at h
  obtain ⟨h1, h2⟩ := h
  refine ⟨fun j oj hj hd hji => ?_, fun j hd => ?_, fun j oj hj hji hun hno => ?_⟩
  · have := List.all_eq_true.1 h1 j hd
    simp only [hj, Bool.and_eq_true, Bool.or_eq_true, beq_iff_eq] at this
    rcases this.2 with h3 | h3
    · exact absurd h3 hji
    · obtain ⟨e, he, hb⟩ := Array.any_eq_true'.1 h3
      simp only [Bool.and_eq_true, List.contains_iff_mem] at hb
      exact ⟨e, he, hb.1, hb.2⟩
  · have := List.all_eq_true.1 h1 j hd
    simp only [Bool.and_eq_true, Bool.not_eq_true'] at this
    exact this.1
  · have hlt : j < ops.size := (Array.getElem?_eq_some_iff.1 hj).1
    have := List.all_eq_true.1 h2 j (List.mem_range.2 hlt)
    simp only [hj, hun, Bool.or_false, Bool.or_eq_true, beq_iff_eq, Bool.and_eq_true, List.contains_iff_mem] at this
    rcases this with (h1 | h1) | h1
    · exact absurd h1 hji
    · exact absurd h1 hno
    · exact h1

theorem AnyA.lex {R : AS → Prop} : ∀ (l : List Oper) (k : Nat) (listed : Array Bool) (s : AS), (∀ j : Nat, l[j]? = ops[k + j]?) → lexD κ ops l.length k listed = true → RunD P N ops κ R l s → AnyA P N ops κ R l.length listed s
  | [], _, _, _, _, hB, h => ⟨by simpa [lexD] using hB, h⟩
  | o :: l, k, listed, s, hl, hB, h => by
    have h0 : ops[k]? = some o := by simpa using (hl 0).symm
    simp only [List.length_cons, lexD, Bool.and_eq_true] at hB
    obtain ⟨⟨hr, hf⟩, hB'⟩ := hB
    obtain ⟨s', hst, hrest⟩ := h
    obtain ⟨f1, f2, f3⟩ := freeD_spec h0 hf
    exact AnyA.first h0 (behind ops k) f1 l.length listed s s' f2 f3 (by simpa using hr) hst
      (AnyA.lex l (k + 1) _ _ (fun j => by have := hl (j + 1); simpa [Nat.add_assoc, Nat.add_comm 1 j] using this) hB' hrest)

theorem wanted_of_gok {c : Ctx} {ρ : Env} {a : Act} (r : RelE N c ρ a) (hN : ops.toList.all (fun o => dok N o.dst) = true) {o : Oper} {b : Bool} (h : gok ops o ρ = some b) : Region.wanted o (yielded ops a.tmps) = b := by
  unfold gok at h
  cases hg : o.guard with
  | none => simp only [hg, Option.some.injEq] at h; simp [Region.wanted, hg, ← h]
  | some gw =>
    obtain ⟨j, w⟩ := gw
    simp only [hg] at h
    split at h
    · rename_i b' hv
      unfold guardOf at hv
      split at hv
      · rename_i t hj
        have ht : dok N (some t) = true := by
          cases ho : ops[j]? with
          | none => simp [ho] at hj
          | some o' =>
            simp only [ho, Option.bind_some] at hj
            have := List.all_eq_true.1 hN o' (by rw [← Array.getElem?_toList] at ho; exact List.mem_of_getElem? ho)
            rw [hj] at this
            exact this
        have hy := yielded_of r hj ht hv
        simp only [Option.some.injEq] at h
        subst h
        simp only [Region.wanted, hg, hy]
        cases b' <;> cases w <;> rfl
      · cases hv
    · rename_i xs hv
      unfold guardOf at hv
      split at hv
      · rename_i t hj
        have ht : dok N (some t) = true := by
          cases ho : ops[j]? with
          | none => simp [ho] at hj
          | some o' =>
            simp only [ho, Option.bind_some] at hj
            have := List.all_eq_true.1 hN o' (by rw [← Array.getElem?_toList] at ho; exact List.mem_of_getElem? ho)
            rw [hj] at this
            exact this
        have hy := yielded_none r hj ht hv
        simp only [Option.some.injEq] at h
        subst h
        simp only [Region.wanted, hg, hy]
        rfl
      · cases hv
    · cases h

theorem AnyA.sound {R : AS → Prop} (hN : ops.toList.all (fun o => dok N o.dst) = true) {Q : Exit → Act → World → Prop} {c0 : Ctx} (hQ : ∀ a c ρ, Keeps c0 c → Good c → RelE N c ρ a → R (ρ, c.H, c.n) → Q .normal a c.w) :
    ∀ (fuel : Nat) (listed : Array Bool) (ρ : Env) (c : Ctx) (a : Act), Keeps c0 c → Good c → RelE N c ρ a → AnyA P N ops κ R fuel listed (ρ, c.H, c.n) → wpAny P .any ops Q fuel listed a c.w
  | 0, _, _, _, _, hk, g, r, h => ⟨h.1, hQ _ _ _ hk g r h.2⟩
  | fuel + 1, listed, ρ, c, a, hk, g, r, h => by
    refine ⟨fun h0 => hQ _ _ _ hk g r (h.1 h0), fun i hi => ?_⟩
    obtain ⟨o, s', ho, hst, hrest⟩ := h.2 i hi
    obtain ⟨ρ', H', n'⟩ := s'
    have hd : dok N o.dst = true := List.all_eq_true.1 hN o (by rw [← Array.getElem?_toList] at ho; exact List.mem_of_getElem? ho)
    unfold wpOp
    simp only [ho]
    rcases hst with ⟨hg, v, hv, _, _, hop⟩ | ⟨hg, hs⟩
    · rw [if_pos (wanted_of_gok r hN hg)]
      simp only at hv hop
      subst hv
      refine .inl (hop c a rfl rfl g (r.loc o.op) _ _ ?_)
      rintro v1 x c' ⟨rfl, hH, hn⟩ hrep hgood hkeep
      exact AnyA.sound hN hQ fuel _ _ c' _ (hk.trans hkeep) hgood ((r.keeps hkeep).put hd hrep) (by rw [hH, hn]; exact hrest)
    · rw [if_neg (by rw [wanted_of_gok r hN hg]; simp)]
      cases hs
      exact AnyA.sound hN hQ fuel _ _ c _ hk g (r.put hd (.v _)) hrest

end

section
variable {P : Program} {f : FuncId} {N : Nat} {k : List Item} {ρ : Env} {H : Heap} {n : Nat} {Q : AVal → Heap → Nat → Prop} {κ : Op → Nat}

/-- A region that draws its order. -/
theorem Runs.draw {id : Nat} {ops : List Oper} (hm : P.follows .mixedOrders = true) (hN : ops.all (fun o => dok N o.dst) = true) (hB : drawOk κ ops.toArray = true)
    (h : RunD P N ops.toArray κ (fun s => Runs P f N k s.1 s.2.1 s.2.2 Q) ops (ρ, H, n)) : Runs P f N (.code (.region id ops.toArray true) :: k) ρ H n Q := by
  intro c a hH hn g r b cs hf hk
  subst hH
  subst hn
  obtain ⟨d1, d2⟩ := draw_keeps g
  have hany := AnyA.lex (P := P) (N := N) (κ := κ) (ops := ops.toArray) ops 0 (Array.replicate ops.toArray.size false) (ρ, c.H, c.n) (by simp) (by simpa [drawOk] using hB) h
  have hw : (Code.region id ops.toArray true).wp P (fun e a' w' => e = .normal ∧ ∃ c' ρ', c'.w = w' ∧ Keeps c c' ∧ Good c' ∧ RelE N c' ρ' a' ∧ Runs P f N k ρ' c'.H c'.n Q) a c.w := by
    refine wp_region_any hm ?_
    have := AnyA.sound (P := P) (N := N) (κ := κ) (ops := ops.toArray) (c0 := c) (by simpa using hN) (Q := fun e a' w' => e = .normal ∧ ∃ c' ρ', c'.w = w' ∧ Keeps c c' ∧ Good c' ∧ RelE N c' ρ' a' ∧ Runs P f N k ρ' c'.H c'.n Q)
      (R := fun s => Runs P f N k s.1 s.2.1 s.2.2 Q) (fun a' c' ρ' hk' hg' hr' hR => ⟨rfl, c', ρ', rfl, hk', hg', hr', hR⟩) ops.length (Array.replicate ops.toArray.size false) ρ { c with w := { c.w with drawn := c.w.drawn + 1 } } a d1 d2 (r.keeps d1) hany
    simpa using this
  obtain ⟨e, a', w', ⟨rfl, c', ρ', rfl, hk', hg', hr', hR⟩, harr⟩ := hw b k cs
  obtain ⟨x, v, c'', fr, q, hr, hg, hke, hst, rest⟩ := hR c' a' rfl rfl hg' hr' b cs hf hk
  exact ⟨x, v, c'', fr, q, hr, hg, hk'.trans hke, Steps.trans harr hst, rest⟩
end

section
variable {P : Program} {N : Nat} {Ty : Types} {ρ ρ' : Env} {H : Heap} {n : Nat} {d : Option Tmp}

theorem stepF_loc {op : Op} : stepF Ty d op (loc op ρ) H n = stepF Ty d op ρ H n := by
  have h : ∀ x, x ∈ op.operands → (loc op ρ).ev x = ρ.ev x := fun x hx => loc_ev hx
  generalize loc op ρ = ρ' at h
  cases op with
  | build t ps =>
    have : ps.toList.map (fun p => (p.1, ρ'.ev p.2)) = ps.toList.map (fun p => (p.1, ρ.ev p.2)) := List.map_congr_left fun p hp => by rw [h p.2 (by simp [Op.operands]; exact ⟨p.1, by simpa using hp⟩)]
    simp only [stepF, this]
  | buildSlice t len ps =>
    have : ps.toList.map (fun p => (p.1, ρ'.ev p.2)) = ps.toList.map (fun p => (p.1, ρ.ev p.2)) := List.map_congr_left fun p hp => by rw [h p.2 (by simp [Op.operands]; exact ⟨p.1, by simpa using hp⟩)]
    simp only [stepF, this]
  | makeFunc f first cap =>
    have h1 : first.toList.map ρ'.ev = first.toList.map ρ.ev := List.map_congr_left fun p hp => h p (by simp [Op.operands]; exact .inl (by simpa using hp))
    have h2 : cap.toList.map ρ'.ev = cap.toList.map ρ.ev := List.map_congr_left fun p hp => h p (by simp [Op.operands]; exact .inr (by simpa using hp))
    simp only [stepF, h1, h2]
  | slice t x lo hi mx =>
    cases lo <;> cases hi <;> cases mx <;> simp_all [stepF, Op.operands]
  | call c =>
    obtain ⟨cal, args, ats⟩ := c
    cases cal with
    | builtin b =>
      have ha : ∀ x, x ∈ args.toList → ρ'.ev x = ρ.ev x := fun x hx => h x (by simp [Op.operands, Call.operands]; simpa using hx)
      cases b <;> try rfl
      case append =>
        obtain ⟨l⟩ := args
        obtain ⟨m⟩ := ats
        match l, m with
        | [s, x], [t, t'] =>
          simp only [stepF]
          rw [ha s (by simp), ha x (by simp)]
        | [], _ | [_], _ | _ :: _ :: _ :: _, _ | [_, _], [] | [_, _], [_] | [_, _], _ :: _ :: _ :: _ => rfl
      case len =>
        obtain ⟨l⟩ := args
        obtain ⟨m⟩ := ats
        match l, m with
        | [x], [t] =>
          simp only [stepF]
          rw [ha x (by simp)]
        | [], _ | _ :: _ :: _, _ | [_], [] | [_], _ :: _ :: _ => rfl
    | _ => rfl
  | _ => first | rfl | (simp_all [stepF, Op.operands])
end

end Go.Ab
