/- The abstract machine, part T: what a callee has made is taken over, as the caller's own. -/
import Derived.Test.YtgmjebjcomckaaaDoorAbN
namespace Go.Ab

def shId (k : Nat) (id : Id) : Id := (id.1 + k, id.2)
def shA (k : Nat) : AVal → AVal
  | .agg cs => .agg (shL k cs)
  | .tup cs => .tup (shL k cs)
  | .list fr els => .list fr (shLL k els)
  | .arr id g off len => .arr (shId k id) g off len
  | .ptr id g idx off => .ptr (shId k id) g idx off
  | x => x
  where
  shL (k : Nat) : List AVal → List AVal
    | [] => []
    | a :: l => shA k a :: shL k l
  shLL (k : Nat) : List (List AVal) → List (List AVal)
    | [] => []
    | e :: l => shL k e :: shLL k l

theorem shL_eq (k : Nat) (l : List AVal) : shA.shL k l = l.map (shA k) := by
  induction l with
  | nil => rfl
  | cons a l ih => simp [shA.shL, ih]
theorem shLL_eq (k : Nat) (l : List (List AVal)) : shA.shLL k l = l.map (fun e => e.map (shA k)) := by
  induction l with
  | nil => rfl
  | cons a l ih => simp [shA.shLL, ih, shL_eq]
theorem shA_v (k : Nat) (x : Value) : shA k (.v x) = .v x := by simp [shA]
theorem shA_agg (k : Nat) (cs : List AVal) : shA k (.agg cs) = .agg (cs.map (shA k)) := by simp [shA, shL_eq]
theorem shA_tup (k : Nat) (cs : List AVal) : shA k (.tup cs) = .tup (cs.map (shA k)) := by simp [shA, shL_eq]
theorem shA_list (k : Nat) (fr : Bool) (els : List (List AVal)) : shA k (.list fr els) = .list fr (els.map fun e => e.map (shA k)) := by simp [shA, shLL_eq]
theorem shA_arr (k : Nat) (id : Id) (g off len : Nat) : shA k (.arr id g off len) = .arr (shId k id) g off len := by simp [shA]

/-- It may be taken over: plain values, cells that are all new, objects on a list. -/
inductive Mv (K : Id → Prop) : AVal → Prop
  | v (x : Value) : Mv K (.v x)
  | agg (cs : List AVal) (h : ∀ a ∈ cs, Mv K a) : Mv K (.agg cs)
  | tup (cs : List AVal) (h : ∀ a ∈ cs, Mv K a) : Mv K (.tup cs)
  | list (els : List (List AVal)) (h : ∀ e ∈ els, ∀ a ∈ e, Mv K a) : Mv K (.list true els)
  | arr (id : Id) (g off len : Nat) (h : K id) : Mv K (.arr id g off len)
  | ptr (id : Id) (g idx off : Nat) (h : K id) : Mv K (.ptr id g idx off)

def shOb (k : Nat) (o : Ob) : Ob := ⟨o.size, o.els.map fun e => e.map (shA k)⟩

/-- The caller's heap with the callee's objects behind it. -/
def merge (n : Nat) (H H' : Heap) (K : Id → Bool) : Heap := fun id => if id.1 < n then H id else if K (id.1 - n, id.2) then (H' (id.1 - n, id.2)).map (shOb n) else none

theorem merge_lt {n : Nat} {H H' : Heap} {K : Id → Bool} {id : Id} (h : id.1 < n) : merge n H H' K id = H id := by simp [merge, h]
theorem merge_sh {n : Nat} {H H' : Heap} {K : Id → Bool} {id : Id} (h : K id = true) : merge n H H' K (shId n id) = (H' id).map (shOb n) := by
  have h1 : ¬ (shId n id).1 < n := by simp [shId]
  unfold merge
  rw [if_neg h1]
  simp [shId, h]

theorem Rep.sh {c1 c2 : Ctx} {k : Nat} {K : Id → Prop} (hw : c2.w = c1.w) (hB : c2.B ≤ c1.B) (hmu : ∀ b, c1.B ≤ b → c2.mu b → c1.mu b) (hn : c1.n + k ≤ c2.n)
    (hobj : ∀ id, K id → c2.β (shId k id) = c1.β id ∧ ∀ o', c2.H (shId k id) = some o' → ∃ o, c1.H id = some o ∧ o.size = o'.size ∧ o.els.length = o'.els.length) {a : AVal} {x : Value} (r : Rep c1 a x) :
    Mv K a → Rep c2 (shA k a) x := by
  induction r with
  | undef => intro h; cases h
  | v x => intro _; rw [shA_v]; exact .v x
  | agg cs vs hl _ ih =>
    intro h
    cases h with
    | agg _ h =>
    rw [shA_agg]
    refine .agg _ vs (by simpa using hl) fun i a x ha hx => ?_
    obtain ⟨b, hb, rfl⟩ := map_get ha
    exact ih i b x hb hx (h b (List.mem_of_getElem? hb))
  | tup cs vs hl _ ih =>
    intro h
    cases h with
    | tup _ h =>
    rw [shA_tup]
    refine .tup _ vs (by simpa using hl) fun i a x ha hx => ?_
    obtain ⟨b, hb, rfl⟩ := map_get ha
    exact ih i b x hb hx (h b (List.mem_of_getElem? hb))
  | lnil fr => intro _; exact .lnil fr
  | list fr els a cap sz cell hs hcap hm hsz hc _ ih =>
    intro h
    cases h with
    | list _ h =>
    rw [shA_list]
    have := Rep.list (c := c2) true (els.map fun e => e.map (shA k)) a cap sz cell (fun hne => hs (by intro h0; subst h0; simp at hne)) (by simpa using hcap) (fun hne => ?_) (fun i e he => ?_) (fun i e j x he hx => ?_) (fun i e j x he hx => ?_)
    · simpa using this
    · obtain ⟨h1, h2, h3⟩ := hm (by intro h0; simp [h0] at hne)
      exact ⟨fun hmk => h1 (hmu _ (h3 rfl) hmk), by rw [hw]; exact h2, fun _ => Nat.le_trans hB (h3 rfl)⟩
    · obtain ⟨b, hb, rfl⟩ := map_get he
      rw [List.length_map]; exact hsz i b hb
    · obtain ⟨b, hb, rfl⟩ := map_get he
      obtain ⟨y, hy, rfl⟩ := map_get hx
      rw [hw]
      exact hc i b j y hb hy
    · obtain ⟨b, hb, rfl⟩ := map_get he
      obtain ⟨y, hy, rfl⟩ := map_get hx
      exact ih i b j y hb hy (h b (List.mem_of_getElem? hb) y (List.mem_of_getElem? hy))
  | arr id gen off len x h1 hlt hg hh =>
    intro h
    cases h with
    | arr _ _ _ _ hK =>
    rw [shA_arr]
    obtain ⟨hb, ho⟩ := hobj id hK
    refine .arr _ gen off len x h1 (by simp [shId]; omega) (fun o' ho' => ?_) (fun o' ho' hgen => ?_)
    · obtain ⟨o, h2, h3, h4⟩ := ho o' ho'
      rw [← h4]; exact hg o h2
    · obtain ⟨o, h2, h3, h4⟩ := ho o' ho'
      obtain ⟨p1, a, cap, p2, p3, p4, p5, p6, p7⟩ := hh o h2 (by omega)
      refine ⟨p1, a, cap, p2, by rw [hb]; exact p3, p4, p5, by rw [← h3]; exact p6, ?_⟩
      rw [hb, hw, ← h3]
      exact p7
  | ptr id gen idx off x h1 hlt hg hh =>
    intro h
    cases h with
    | ptr _ _ _ _ hK =>
    have e : shA k (.ptr id gen idx off) = .ptr (shId k id) gen idx off := by simp [shA]
    rw [e]
    obtain ⟨hb, ho⟩ := hobj id hK
    refine .ptr _ gen idx off x h1 (by simp [shId]; omega) (fun o' ho' => ?_) (fun o' ho' hgen => ?_)
    · obtain ⟨o, h2, h3, h4⟩ := ho o' ho'
      rw [← h4]; exact hg o h2
    · obtain ⟨o, h2, h3, h4⟩ := ho o' ho'
      obtain ⟨p1, p2⟩ := hh o h2 (by omega)
      exact ⟨p1, by rw [hb, ← h3]; exact p2⟩
  | iptr => intro h; cases h
  | fn => intro h; cases h
  | iface => intro h; cases h

/-- The objects on the list refer to such alone. -/
def Closed (H' : Heap) (K : Id → Bool) : Prop := ∀ id o, H' id = some o → K id = true → ∀ e ∈ o.els, ∀ a ∈ e, Mv (fun i => K i = true) a

theorem take_over {c c1 : Ctx} (g : Good c) (g1 : Good c1) (hk : Keeps ⟨c.w.heap.size, fun _ => 0, noHeap, 0, c.w⟩ c1) {K : Id → Bool} (hcl : Closed c1.H K) :
    ∃ c2 : Ctx, c2.H = merge c.n c.H c1.H K ∧ c2.n = c.n + c1.n ∧ c2.w = c1.w ∧ Good c2 ∧ Keeps c c2 ∧ ∀ a x, Rep c1 a x → Mv (fun i => K i = true) a → Rep c2 (shA c.n a) x := by
  have hB1 : c1.B = c.w.heap.size := hk.B
  have hnomu : ∀ k, ¬ Ctx.mu ⟨c.w.heap.size, fun _ => 0, noHeap, 0, c.w⟩ k := by
    rintro k ⟨id, o, ho, _⟩
    cases ho
  have hblk : ∀ k, k < c.w.heap.size → c1.w.heap[k]? = c.w.heap[k]? := fun k hlt => (hk.imm k hlt (hnomu k)).1
  have hsize : c.w.heap.size ≤ c1.w.heap.size := hk.size
  let c2 : Ctx := ⟨c.B, fun id => if id.1 < c.n then c.β id else c1.β (id.1 - c.n, id.2), merge c.n c.H c1.H K, c.n + c1.n, c1.w⟩
  have hsh : ∀ id : Id, ¬ (shId c.n id).1 < c.n := fun id => by simp [shId]
  have hβs : ∀ id : Id, c2.β (shId c.n id) = c1.β id := fun id => by
    show (if (shId c.n id).1 < c.n then _ else _) = _
    rw [if_neg (hsh id)]
    simp [shId]
  have hβo : ∀ id : Id, id.1 < c.n → c2.β id = c.β id := fun id h => by
    show (if id.1 < c.n then _ else _) = _
    rw [if_pos h]
  -- an object of c2 is one of c, or one of c1, shifted
  have hcase : ∀ id o, c2.H id = some o → (id.1 < c.n ∧ c.H id = some o) ∨ ∃ id1 o1, id = shId c.n id1 ∧ c1.H id1 = some o1 ∧ K id1 = true ∧ o = shOb c.n o1 := by
    intro id o ho
    rcases Nat.lt_or_ge id.1 c.n with h | h
    · left
      refine ⟨h, ?_⟩
      have : merge c.n c.H c1.H K id = some o := ho
      rwa [merge_lt h] at this
    · right
      have e : merge c.n c.H c1.H K id = some o := ho
      unfold merge at e
      rw [if_neg (by omega)] at e
      split at e
      · rename_i hK
        cases h1 : c1.H (id.1 - c.n, id.2) with
        | none => rw [h1] at e; cases e
        | some o1 =>
          rw [h1] at e
          cases e
          exact ⟨(id.1 - c.n, id.2), o1, by ext <;> simp [shId]; omega, h1, hK, rfl⟩
      · cases e
  have hlow : ∀ id o, c.H id = some o → c.β id < c.w.heap.size := fun id o h => g.lt h
  have hhigh : ∀ id o, c1.H id = some o → c.w.heap.size ≤ c1.β id := fun id o h => by rw [← hB1]; exact (g1.obj id o h).1
  have hmu2 : ∀ b, c2.mu b → c.mu b ∨ c1.mu b := by
    rintro b ⟨id, o, ho, hb⟩
    rcases hcase id o ho with ⟨h1, h2⟩ | ⟨id1, o1, rfl, h1, _, _⟩
    · left; exact ⟨id, o, h2, by rw [← hb, hβo id h1]⟩
    · right; exact ⟨id1, o1, h1, by rw [← hb, hβs]⟩
  have hkeep : Keeps c c2 := by
    refine ⟨Nat.le_add_right _ _, rfl, hsize, hk.os, hk.tape, hk.output, fun k hlt hm => ⟨hblk k hlt, fun h => ?_⟩, fun id o' ho' hid => ?_⟩
    · rcases hmu2 k h with h | ⟨id, o, h1, h2⟩
      · exact hm h
      · have := hhigh id o h1; omega
    · have e : merge c.n c.H c1.H K id = some o' := ho'
      rw [merge_lt hid] at e
      refine ⟨o', e, rfl, Nat.le_refl _, fun _ => ⟨hβo id hid, fun cl' el' fz' h => ⟨cl', el', fz', ?_, Nat.le_refl _⟩⟩⟩
      have h2 : c1.w.heap[c.β id]? = some (.cells cl' el' fz') := h
      rw [hblk _ (hlow id o' e)] at h2
      exact h2
  have hrep : ∀ a x, Rep c1 a x → Mv (fun i => K i = true) a → Rep c2 (shA c.n a) x := by
    intro a x r hm
    refine Rep.sh (c1 := c1) (c2 := c2) (K := fun i => K i = true) rfl ?_ ?_ (Nat.le_of_eq (Nat.add_comm _ _)) ?_ r hm
    · rw [hB1]; exact g.Bsize
    · intro b hb h
      rcases hmu2 b h with ⟨id, o, h1, h2⟩ | h
      · have := hlow id o h1; omega
      · exact h
    · intro id hK
      refine ⟨hβs id, fun o' ho' => ?_⟩
      have e : merge c.n c.H c1.H K (shId c.n id) = some o' := ho'
      rw [merge_sh hK] at e
      cases h1 : c1.H id with
      | none => rw [h1] at e; cases e
      | some o =>
        rw [h1] at e
        cases e
        exact ⟨o, rfl, rfl, by simp [shOb]⟩
  refine ⟨c2, rfl, rfl, rfl, ⟨fun id o ho => ?_, fun id id' o o' ho ho' hb => ?_, Nat.le_trans g.Bsize hsize, fun id o ho => ?_⟩, hkeep, hrep⟩
  · rcases hcase id o ho with ⟨h1, _⟩ | ⟨id1, o1, rfl, h1, _, _⟩
    · show id.1 < c.n + c1.n; omega
    · have := g1.stamp id1 o1 h1
      show (shId c.n id1).1 < c.n + c1.n
      simp [shId]; omega
  · rcases hcase id o ho with ⟨h1, h2⟩ | ⟨id1, o1, rfl, h1, _, _⟩ <;> rcases hcase id' o' ho' with ⟨k1, k2⟩ | ⟨id1', o1', rfl, k1, _, _⟩
    · rw [hβo id h1, hβo id' k1] at hb
      exact g.inj id id' o o' h2 k2 hb
    · rw [hβo id h1, hβs] at hb
      have := hlow id o h2
      have := hhigh id1' o1' k1
      omega
    · rw [hβo id' k1, hβs] at hb
      have := hlow id' o' k2
      have := hhigh id1 o1 h1
      omega
    · rw [hβs, hβs] at hb
      rw [g1.inj id1 id1' o1 o1' h1 k1 hb]
  · rcases hcase id o ho with ⟨h1, h2⟩ | ⟨id1, o1, rfl, h1, hK, rfl⟩
    · obtain ⟨p1, cl, el, p2, p3, p4⟩ := g.obj id o h2
      rw [hβo id h1]
      refine ⟨p1, cl, el, ?_, p3, fun i e he => ⟨(p4 i e he).1, fun j a ha => ?_⟩⟩
      · show c1.w.heap[c.β id]? = _
        rw [hblk _ (hlow id o h2)]; exact p2
      · obtain ⟨x, hx, hr⟩ := (p4 i e he).2 j a ha
        exact ⟨x, hx, hr.keeps hkeep⟩
    · obtain ⟨p1, cl, el, p2, p3, p4⟩ := g1.obj id1 o1 h1
      rw [hβs]
      refine ⟨by rw [hB1] at p1; exact Nat.le_trans g.Bsize p1, cl, el, p2, by simpa [shOb] using p3, fun i e he => ?_⟩
      obtain ⟨e1, he1, rfl⟩ := map_get (show (o1.els.map fun e => e.map (shA c.n))[i]? = some e from he)
      obtain ⟨q1, q2⟩ := p4 i e1 he1
      refine ⟨by rw [List.length_map]; exact q1, fun j a ha => ?_⟩
      obtain ⟨b, hb, rfl⟩ := map_get ha
      obtain ⟨x, hx, hr⟩ := q2 j b hb
      exact ⟨x, hx, hrep b x hr (hcl id1 o1 h1 hK e1 (List.mem_of_getElem? he1) b (List.mem_of_getElem? hb))⟩

/-- A contract of a function that only reads its arguments, with what it has made. -/
def MadeC (P : Program) (f : FuncId) (args : List AVal) (R : AVal → Heap → Nat → Prop) : Prop := CallsA P f args noHeap 0 R

/-- A call; what it has made is the caller's own. -/
theorem OpSem.callM {P : Program} {N : Nat} {d : Option Tmp} {g : Operand} {args : Array Operand} {ats : Array TypeId} {ty : TypeId} {pos : String} {af : Array Edge} {gu : Option (Nat × Bool)} {ρ : Env} {H : Heap} {n : Nat} {R : AVal → Heap → Nat → Prop}
    {f : FuncId} {args' : List AVal} (hg : ρ.ev g = .fn (.func f) [] []) (hent : Ent P f) (ha : ArgsOk H n (args.toList.map ρ.ev) args') (h : MadeC P f args' R) (K : AVal → Heap → Id → Bool)
    (hm : ∀ v H' n', R v H' n' → Mv (fun i => K v H' i = true) v ∧ Closed H' (K v H')) :
    OpSem P N ⟨d, .call ⟨.value g, args, ats⟩, ty, pos, af, gu⟩ ρ H n fun v1 H1 n1 => ∃ v H' n', R v H' n' ∧ v1 = shA n v ∧ H1 = merge n H H' (K v H') ∧ n1 = n + n' := by
  refine OpSem.call hg hent ?_
  intro c xs hH hn gd hl
  simp only [List.nil_append, List.append_nil] at hl
  have hb : Good ⟨c.w.heap.size, fun _ => 0, noHeap, 0, c.w⟩ := good_bare c.w
  obtain ⟨hlen, hget⟩ := ha.get
  have hrep : RepL ⟨c.w.heap.size, fun _ => 0, noHeap, 0, c.w⟩ args' xs := by
    refine ⟨by rw [← hlen]; exact hl.1, fun i b x hb' hx => ?_⟩
    have hi := (List.getElem?_eq_some_iff.1 hb').1
    have ha' : (args.toList.map ρ.ev)[i]? = some ((args.toList.map ρ.ev)[i]'(by omega)) := List.getElem?_eq_getElem (by omega)
    exact hget i _ b ha' hb' c x hH hn gd (hl.2 i _ x ha' hx) _ rfl (fun _ => rfl)
  refine (h _ xs rfl rfl hb hrep).mono ?_
  rintro e w' ⟨x, v, c1, he, hw, hR, hrv, hg1, hk⟩
  subst hw
  obtain ⟨m1, m2⟩ := hm v c1.H c1.n hR
  obtain ⟨c2, e1, e2, e3, g2, k2, r2⟩ := take_over gd hg1 hk m2
  subst hH hn
  exact ⟨x, shA c.n v, c2, he, e3, ⟨v, c1.H, c1.n, hR, rfl, e1, e2⟩, r2 v x hrv m1, g2, k2⟩

/-- Pairwise, each with objects of its own. -/
def OwnL (Q : AVal → AVal → List Id → Prop) : List AVal → List AVal → List Id → Prop
  | [], [], S => S = []
  | a :: as, b :: bs, S => ∃ S1 S2, Q a b S1 ∧ OwnL Q as bs S2 ∧ S = S1 ++ S2 ∧ ∀ i ∈ S1, i ∉ S2
  | _, _, _ => False
def OwnLL (Q : AVal → AVal → List Id → Prop) : List (List AVal) → List (List AVal) → List Id → Prop
  | [], [], S => S = []
  | a :: as, b :: bs, S => ∃ S1 S2, OwnL Q a b S1 ∧ OwnLL Q as bs S2 ∧ S = S1 ++ S2 ∧ ∀ i ∈ S1, i ∉ S2
  | _, _, _ => False

/-- A value of own arrays, each met once: as a value of lists. -/
def Own (H : Heap) : Nat → AVal → AVal → List Id → Prop
  | 0, a, b, S => (∃ x, a = .v x ∧ b = .v x) ∧ S = []
  | d + 1, a, b, S => ((∃ x, a = .v x ∧ b = .v x) ∧ S = []) ∨ (∃ cs ds, a = .agg cs ∧ b = .agg ds ∧ OwnL (Own H d) cs ds S) ∨ (∃ cs ds, a = .tup cs ∧ b = .tup ds ∧ OwnL (Own H d) cs ds S) ∨
    (a = .v (.slice none 0 0) ∧ b = .list true [] ∧ S = []) ∨
    ∃ id o els T, a = .arr id o.els.length 0 o.els.length ∧ b = .list true els ∧ H id = some o ∧ OwnLL (Own H d) o.els els T ∧ id ∉ T ∧ S = id :: T

section
variable {Q Q' : AVal → AVal → List Id → Prop}
theorem OwnL.mono : ∀ {as bs : List AVal} {S : List Id}, OwnL Q as bs S → (∀ a b T, a ∈ as → Q a b T → (∀ i ∈ T, i ∈ S) → Q' a b T) → OwnL Q' as bs S
  | [], [], S, h, _ => h
  | a :: as, b :: bs, S, ⟨S1, S2, h1, h2, h3, h4⟩, hq =>
    ⟨S1, S2, hq a b S1 (by simp) h1 (fun i hi => by simp [h3, hi]), OwnL.mono h2 (fun x y T hx hxy hT => hq x y T (by simp [hx]) hxy (fun i hi => by simp [h3, hT i hi])), h3, h4⟩
theorem OwnLL.mono : ∀ {as bs : List (List AVal)} {S : List Id}, OwnLL Q as bs S → (∀ e ∈ as, ∀ a b T, a ∈ e → Q a b T → (∀ i ∈ T, i ∈ S) → Q' a b T) → OwnLL Q' as bs S
  | [], [], S, h, _ => h
  | a :: as, b :: bs, S, ⟨S1, S2, h1, h2, h3, h4⟩, hq =>
    ⟨S1, S2, OwnL.mono h1 (fun x y T hx hxy hT => hq a (by simp) x y T hx hxy (fun i hi => by simp [h3, hT i hi])),
      OwnLL.mono h2 (fun e he x y T hx hxy hT => hq e (by simp [he]) x y T hx hxy (fun i hi => by simp [h3, hT i hi])), h3, h4⟩
theorem OwnL.len : ∀ {as bs : List AVal} {S : List Id}, OwnL Q as bs S → as.length = bs.length
  | [], [], _, _ => rfl
  | a :: as, b :: bs, _, ⟨_, _, _, h2, _, _⟩ => by simp [OwnL.len h2]
theorem OwnLL.len : ∀ {as bs : List (List AVal)} {S : List Id}, OwnLL Q as bs S → as.length = bs.length
  | [], [], _, _ => rfl
  | a :: as, b :: bs, _, ⟨_, _, _, h2, _, _⟩ => by simp [OwnLL.len h2]
theorem OwnL.get : ∀ {as bs : List AVal} {S : List Id}, OwnL Q as bs S → ∀ (i : Nat) a b, as[i]? = some a → bs[i]? = some b → ∃ T, Q a b T ∧ ∀ j ∈ T, j ∈ S
  | [], [], _, _, i, a, b, ha, _ => by simp at ha
  | x :: as, y :: bs, S, ⟨S1, S2, h1, h2, h3, _⟩, i, a, b, ha, hb => by
    match i with
    | 0 => simp at ha hb; subst ha hb; exact ⟨S1, h1, fun j hj => by simp [h3, hj]⟩
    | i + 1 =>
      obtain ⟨T, hT, hs⟩ := OwnL.get h2 i a b (by simpa using ha) (by simpa using hb)
      exact ⟨T, hT, fun j hj => by simp [h3, hs j hj]⟩
theorem OwnLL.get : ∀ {as bs : List (List AVal)} {S : List Id}, OwnLL Q as bs S → ∀ (i : Nat) a b, as[i]? = some a → bs[i]? = some b → ∃ T, OwnL Q a b T ∧ ∀ j ∈ T, j ∈ S
  | [], [], _, _, i, a, b, ha, _ => by simp at ha
  | x :: as, y :: bs, S, ⟨S1, S2, h1, h2, h3, _⟩, i, a, b, ha, hb => by
    match i with
    | 0 => simp at ha hb; subst ha hb; exact ⟨S1, h1, fun j hj => by simp [h3, hj]⟩
    | i + 1 =>
      obtain ⟨T, hT, hs⟩ := OwnLL.get h2 i a b (by simpa using ha) (by simpa using hb)
      exact ⟨T, hT, fun j hj => by simp [h3, hs j hj]⟩
end

theorem Own.frame {H H' : Heap} : ∀ {d : Nat} {a b : AVal} {S : List Id}, Own H d a b S → (∀ i ∈ S, H' i = H i) → Own H' d a b S
  | 0, _, _, _, h, _ => h
  | d + 1, a, b, S, h, hf => by
    rcases h with h | ⟨cs, ds, rfl, rfl, h⟩ | ⟨cs, ds, rfl, rfl, h⟩ | h | ⟨id, o, els, T, rfl, rfl, ho, h, hn, rfl⟩
    · exact .inl h
    · exact .inr (.inl ⟨cs, ds, rfl, rfl, h.mono fun a b T _ hq hT => Own.frame hq fun i hi => hf i (hT i hi)⟩)
    · exact .inr (.inr (.inl ⟨cs, ds, rfl, rfl, h.mono fun a b T _ hq hT => Own.frame hq fun i hi => hf i (hT i hi)⟩))
    · exact .inr (.inr (.inr (.inl h)))
    · exact .inr (.inr (.inr (.inr ⟨id, o, els, T, rfl, rfl, by rw [hf id (by simp)]; exact ho, h.mono fun e _ a b T' _ hq hT => Own.frame hq fun i hi => hf i (by simp [hT i hi]), hn, rfl⟩)))

/-- Such a value handed back. -/
theorem Own.ret {H : Heap} : ∀ {d : Nat} {a b : AVal} {S : List Id}, Own H d a b S → Ret H a b
  | 0, _, _, _, ⟨⟨x, rfl, rfl⟩, _⟩ => .v x
  | d + 1, a, b, S, h => by
    rcases h with ⟨⟨x, rfl, rfl⟩, _⟩ | ⟨cs, ds, rfl, rfl, h⟩ | ⟨cs, ds, rfl, rfl, h⟩ | ⟨rfl, rfl, _⟩ | ⟨id, o, els, T, rfl, rfl, ho, h, hn, rfl⟩
    · exact .v x
    · exact .agg h.len fun i a b ha hb => by obtain ⟨T, hT, _⟩ := h.get i a b ha hb; exact Own.ret hT
    · exact .tup h.len fun i a b ha hb => by obtain ⟨T, hT, _⟩ := h.get i a b ha hb; exact Own.ret hT
    · exact .nil true
    · have e : (o.els.drop 0).take o.els.length = o.els := by simp
      refine .arr (o := o) (by simp [live, ho]) (by rw [e]; exact h.len) (fun i x y hx hy => ?_) (fun i x y j p q hx hy hp hq => ?_)
      · rw [e] at hx
        obtain ⟨T', hT, _⟩ := h.get i x y hx hy
        exact hT.len
      · rw [e] at hx
        obtain ⟨T', hT, _⟩ := h.get i x y hx hy
        obtain ⟨T2, hT2, _⟩ := hT.get j p q hp hq
        exact Own.ret hT2

section
variable {Q Q' : AVal → AVal → List Id → Prop}
theorem OwnL.mem {i : Id} : ∀ {as bs : List AVal} {S : List Id}, OwnL Q as bs S → i ∈ S → ∃ a ∈ as, ∃ b ∈ bs, ∃ T, Q a b T ∧ i ∈ T ∧ ∀ j ∈ T, j ∈ S
  | [], [], S, h, hi => by rw [show S = [] from h] at hi; cases hi
  | x :: as, y :: bs, S, ⟨S1, S2, h1, h2, h3, _⟩, hi => by
    rw [h3] at hi
    rcases List.mem_append.1 hi with hi | hi
    · exact ⟨x, by simp, y, by simp, S1, h1, hi, fun j hj => by simp [h3, hj]⟩
    · obtain ⟨a, ha, b, hb, T, hT, hiT, hs⟩ := OwnL.mem h2 hi
      exact ⟨a, by simp [ha], b, by simp [hb], T, hT, hiT, fun j hj => by simp [h3, hs j hj]⟩
theorem OwnLL.mem {i : Id} : ∀ {as bs : List (List AVal)} {S : List Id}, OwnLL Q as bs S → i ∈ S → ∃ e ∈ as, ∃ a ∈ e, ∃ f ∈ bs, ∃ b ∈ f, ∃ T, Q a b T ∧ i ∈ T ∧ ∀ j ∈ T, j ∈ S
  | [], [], S, h, hi => by rw [show S = [] from h] at hi; cases hi
  | x :: as, y :: bs, S, ⟨S1, S2, h1, h2, h3, _⟩, hi => by
    rw [h3] at hi
    rcases List.mem_append.1 hi with hi | hi
    · obtain ⟨a, ha, b, hb, T, hT, hiT, hs⟩ := h1.mem hi
      exact ⟨x, by simp, a, ha, y, by simp, b, hb, T, hT, hiT, fun j hj => by simp [h3, hs j hj]⟩
    · obtain ⟨e, he, a, ha, f, hf, b, hb, T, hT, hiT, hs⟩ := OwnLL.mem h2 hi
      exact ⟨e, by simp [he], a, ha, f, by simp [hf], b, hb, T, hT, hiT, fun j hj => by simp [h3, hs j hj]⟩
theorem OwnL.map {f : AVal → AVal} {g : Id → Id} (hg : ∀ i j, g i = g j → i = j) : ∀ {as bs : List AVal} {S : List Id}, OwnL Q as bs S → (∀ a b T, a ∈ as → Q a b T → (∀ i ∈ T, i ∈ S) → Q' (f a) b (T.map g)) → OwnL Q' (as.map f) bs (S.map g)
  | [], [], S, h, _ => by rw [show S = [] from h]; rfl
  | a :: as, b :: bs, S, ⟨S1, S2, h1, h2, h3, h4⟩, hq =>
    ⟨S1.map g, S2.map g, hq a b S1 (by simp) h1 (fun i hi => by simp [h3, hi]), OwnL.map hg h2 (fun x y T hx hxy hT => hq x y T (by simp [hx]) hxy (fun i hi => by simp [h3, hT i hi])), by rw [h3, List.map_append],
      fun i hi hj => by
        obtain ⟨i1, hi1, rfl⟩ := List.mem_map.1 hi
        obtain ⟨j1, hj1, he⟩ := List.mem_map.1 hj
        have := hg _ _ he
        subst this
        exact h4 _ hi1 hj1⟩
theorem OwnLL.map {f : AVal → AVal} {g : Id → Id} (hg : ∀ i j, g i = g j → i = j) : ∀ {as bs : List (List AVal)} {S : List Id}, OwnLL Q as bs S → (∀ e ∈ as, ∀ a b T, a ∈ e → Q a b T → (∀ i ∈ T, i ∈ S) → Q' (f a) b (T.map g)) → OwnLL Q' (as.map fun e => e.map f) bs (S.map g)
  | [], [], S, h, _ => by rw [show S = [] from h]; rfl
  | a :: as, b :: bs, S, ⟨S1, S2, h1, h2, h3, h4⟩, hq =>
    ⟨S1.map g, S2.map g, h1.map hg (fun x y T hx hxy hT => hq a (by simp) x y T hx hxy (fun i hi => by simp [h3, hT i hi])),
      OwnLL.map hg h2 (fun e he x y T hx hxy hT => hq e (by simp [he]) x y T hx hxy (fun i hi => by simp [h3, hT i hi])), by rw [h3, List.map_append],
      fun i hi hj => by
        obtain ⟨i1, hi1, rfl⟩ := List.mem_map.1 hi
        obtain ⟨j1, hj1, he⟩ := List.mem_map.1 hj
        have := hg _ _ he
        subst this
        exact h4 _ hi1 hj1⟩
end

theorem Mv.mono {K K' : Id → Prop} (h : ∀ i, K i → K' i) {a : AVal} (m : Mv K a) : Mv K' a := by
  induction m with
  | v x => exact .v x
  | agg cs _ ih => exact .agg cs ih
  | tup cs _ ih => exact .tup cs ih
  | list els _ ih => exact .list els ih
  | arr id g off len hk => exact .arr id g off len (h id hk)
  | ptr id g idx off hk => exact .ptr id g idx off (h id hk)

theorem Own.mv {H : Heap} : ∀ {d : Nat} {a b : AVal} {S : List Id}, Own H d a b S → Mv (fun i => i ∈ S) a
  | 0, _, _, _, ⟨⟨x, rfl, rfl⟩, _⟩ => .v x
  | d + 1, a, b, S, h => by
    rcases h with ⟨⟨x, rfl, rfl⟩, _⟩ | ⟨cs, ds, rfl, rfl, h⟩ | ⟨cs, ds, rfl, rfl, h⟩ | ⟨rfl, rfl, _⟩ | ⟨id, o, els, T, rfl, rfl, ho, h, hn, rfl⟩
    · exact .v x
    · refine .agg _ fun a ha => ?_
      obtain ⟨i, hi⟩ := List.getElem?_of_mem ha
      obtain ⟨b, hb⟩ := get_of_len (l := ds) (i := i) (by rw [← h.len]; exact (List.getElem?_eq_some_iff.1 hi).1)
      obtain ⟨T, hT, hs⟩ := h.get i a b hi hb
      exact (Own.mv hT).mono hs
    · refine .tup _ fun a ha => ?_
      obtain ⟨i, hi⟩ := List.getElem?_of_mem ha
      obtain ⟨b, hb⟩ := get_of_len (l := ds) (i := i) (by rw [← h.len]; exact (List.getElem?_eq_some_iff.1 hi).1)
      obtain ⟨T, hT, hs⟩ := h.get i a b hi hb
      exact (Own.mv hT).mono hs
    · exact .v _
    · exact .arr _ _ _ _ (by simp)

theorem Own.cells {H : Heap} : ∀ {d : Nat} {a b : AVal} {S : List Id}, Own H d a b S → ∀ id o, H id = some o → id ∈ S → ∀ e ∈ o.els, ∀ x ∈ e, Mv (fun i => i ∈ S) x
  | 0, _, _, _, ⟨_, hS⟩, id, o, _, hi => by rw [hS] at hi; cases hi
  | d + 1, a, b, S, h, id, o, ho, hi => by
    rcases h with ⟨_, rfl⟩ | ⟨cs, ds, rfl, rfl, h⟩ | ⟨cs, ds, rfl, rfl, h⟩ | ⟨_, _, rfl⟩ | ⟨id', o', els, T, rfl, rfl, ho', h, hn, rfl⟩
    · cases hi
    · obtain ⟨a, _, b, _, T, hT, hiT, hs⟩ := h.mem hi
      exact fun e he x hx => (Own.cells hT id o ho hiT e he x hx).mono hs
    · obtain ⟨a, _, b, _, T, hT, hiT, hs⟩ := h.mem hi
      exact fun e he x hx => (Own.cells hT id o ho hiT e he x hx).mono hs
    · cases hi
    · rcases List.mem_cons.1 hi with rfl | hi
      · rw [ho] at ho'
        cases ho'
        intro e he x hx
        obtain ⟨i, hi⟩ := List.getElem?_of_mem he
        obtain ⟨f, hf⟩ := get_of_len (l := els) (i := i) (by rw [← h.len]; exact (List.getElem?_eq_some_iff.1 hi).1)
        obtain ⟨T', hT, hs⟩ := h.get i e f hi hf
        obtain ⟨j, hj⟩ := List.getElem?_of_mem hx
        obtain ⟨y, hy⟩ := get_of_len (l := f) (i := j) (by rw [← hT.len]; exact (List.getElem?_eq_some_iff.1 hj).1)
        obtain ⟨T2, hT2, hs2⟩ := hT.get j x y hj hy
        exact (Own.mv hT2).mono fun i hi => by simp [hs i (hs2 i hi)]
      · obtain ⟨e', _, a, _, f, _, b, _, T', hT, hiT, hs⟩ := h.mem hi
        exact fun e he x hx => (Own.cells hT id o ho hiT e he x hx).mono fun i hi => by simp [hs i hi]

theorem shId_inj (n : Nat) (i j : Id) (h : shId n i = shId n j) : i = j := by
  obtain ⟨a, b⟩ := i
  obtain ⟨c, d⟩ := j
  simp [shId] at h
  ext
  · simp; omega
  · simp [h.2]

theorem Own.sh {H H2 : Heap} {n : Nat} : ∀ {d : Nat} {a b : AVal} {S : List Id}, Own H d a b S → (∀ i ∈ S, H2 (shId n i) = (H i).map (shOb n)) → Own H2 d (shA n a) b (S.map (shId n))
  | 0, _, _, _, ⟨⟨x, rfl, rfl⟩, hS⟩, _ => by subst hS; exact ⟨⟨x, shA_v n x, rfl⟩, rfl⟩
  | d + 1, a, b, S, h, hf => by
    rcases h with ⟨⟨x, rfl, rfl⟩, rfl⟩ | ⟨cs, ds, rfl, rfl, h⟩ | ⟨cs, ds, rfl, rfl, h⟩ | ⟨rfl, rfl, rfl⟩ | ⟨id, o, els, T, rfl, rfl, ho, h, hn, rfl⟩
    · exact .inl ⟨⟨x, shA_v n x, rfl⟩, rfl⟩
    · exact .inr (.inl ⟨_, ds, shA_agg n cs, rfl, h.map (shId_inj n) fun a b T _ hq hT => Own.sh hq fun i hi => hf i (hT i hi)⟩)
    · exact .inr (.inr (.inl ⟨_, ds, shA_tup n cs, rfl, h.map (shId_inj n) fun a b T _ hq hT => Own.sh hq fun i hi => hf i (hT i hi)⟩))
    · exact .inr (.inr (.inr (.inl ⟨shA_v n _, rfl, rfl⟩)))
    · refine .inr (.inr (.inr (.inr ⟨shId n id, shOb n o, els, T.map (shId n), ?_, rfl, ?_, ?_, ?_, rfl⟩)))
      · rw [shA_arr]; simp [shOb]
      · rw [hf id (by simp), ho]; rfl
      · exact h.map (shId_inj n) fun e _ a b T' _ hq hT => Own.sh hq fun i hi => hf i (by simp [hT i hi])
      · intro hm
        obtain ⟨j, hj, he⟩ := List.mem_map.1 hm
        rw [shId_inj n _ _ he] at hj
        exact hn hj

theorem Own.imm {H : Heap} : ∀ {d : Nat} {a b : AVal} {S : List Id}, Own H d a b S → Imm b
  | 0, _, _, _, ⟨⟨x, rfl, rfl⟩, _⟩ => .v x
  | d + 1, a, b, S, h => by
    rcases h with ⟨⟨x, rfl, rfl⟩, _⟩ | ⟨cs, ds, rfl, rfl, h⟩ | ⟨cs, ds, rfl, rfl, h⟩ | ⟨rfl, rfl, _⟩ | ⟨id, o, els, T, rfl, rfl, ho, h, hn, rfl⟩
    · exact .v x
    · refine .agg _ fun b hb => ?_
      obtain ⟨i, hi⟩ := List.getElem?_of_mem hb
      obtain ⟨a, ha⟩ := get_of_len (l := cs) (i := i) (by rw [h.len]; exact (List.getElem?_eq_some_iff.1 hi).1)
      obtain ⟨T, hT, _⟩ := h.get i a b ha hi
      exact Own.imm hT
    · refine .tup _ fun b hb => ?_
      obtain ⟨i, hi⟩ := List.getElem?_of_mem hb
      obtain ⟨a, ha⟩ := get_of_len (l := cs) (i := i) (by rw [h.len]; exact (List.getElem?_eq_some_iff.1 hi).1)
      obtain ⟨T, hT, _⟩ := h.get i a b ha hi
      exact Own.imm hT
    · exact .list _ _ (by simp)
    · refine .list _ _ fun f hf y hy => ?_
      obtain ⟨i, hi⟩ := List.getElem?_of_mem hf
      obtain ⟨e, he⟩ := get_of_len (l := o.els) (i := i) (by rw [h.len]; exact (List.getElem?_eq_some_iff.1 hi).1)
      obtain ⟨T', hT, _⟩ := h.get i e f he hi
      obtain ⟨j, hj⟩ := List.getElem?_of_mem hy
      obtain ⟨x, hx⟩ := get_of_len (l := e) (i := j) (by rw [hT.len]; exact (List.getElem?_eq_some_iff.1 hj).1)
      obtain ⟨T2, hT2, _⟩ := hT.get j x y hx hj
      exact Own.imm hT2

theorem Own.has {H : Heap} : ∀ {d : Nat} {a b : AVal} {S : List Id}, Own H d a b S → ∀ i ∈ S, ∃ o, H i = some o
  | 0, _, _, _, ⟨_, hS⟩, i, hi => by rw [hS] at hi; cases hi
  | d + 1, a, b, S, h, i, hi => by
    rcases h with ⟨_, rfl⟩ | ⟨cs, ds, rfl, rfl, h⟩ | ⟨cs, ds, rfl, rfl, h⟩ | ⟨_, _, rfl⟩ | ⟨id', o', els, T, rfl, rfl, ho', h, hn, rfl⟩
    · cases hi
    · obtain ⟨a, _, b, _, T, hT, hiT, hs⟩ := h.mem hi
      exact Own.has hT i hiT
    · obtain ⟨a, _, b, _, T, hT, hiT, hs⟩ := h.mem hi
      exact Own.has hT i hiT
    · cases hi
    · rcases List.mem_cons.1 hi with rfl | hi
      · exact ⟨_, ho'⟩
      · obtain ⟨e', _, a, _, f, _, b, _, T', hT, hiT, hs⟩ := h.mem hi
        exact Own.has hT i hiT

/-- Such a value handed over to a function that reads it. -/
theorem ArgOk.own {H : Heap} {n d : Nat} {a b : AVal} {S : List Id} (h : Own H d a b S) : ArgOk H n a (old b) := by
  intro c x hH hn g r c' hw hc
  subst hH
  have r2 : Rep ⟨0, fun _ => 0, noHeap, 0, c.w⟩ b x := Rep.ret (c' := ⟨0, fun _ => 0, noHeap, 0, c.w⟩) g rfl (by rintro k ⟨id, o, ho, _⟩; cases ho) (Nat.zero_le _) h.ret r
  exact Rep.old (c := ⟨0, fun _ => 0, noHeap, 0, c.w⟩) hw hc r2 h.imm

/-- A contract of a function that makes its result anew: the caller owns it. -/
def OwnC (P : Program) (f : FuncId) (args : List AVal) (d : Nat) (R : AVal → Prop) : Prop := MadeC P f args fun v H' _ => ∃ r S, Own H' d v r S ∧ R r

theorem OwnC.pure {P : Program} {f : FuncId} {args : List AVal} {d : Nat} {R : AVal → Prop} (h : OwnC P f args d R) : PureC P f args R :=
  CallsA.mono (Q := fun v H' _ => ∃ r S, Own H' d v r S ∧ R r) h fun _ _ _ ⟨r, _, hO, hR⟩ => ⟨r, .of hO.ret, hR⟩

/-- A call of such a function: a tree of objects, all new. -/
theorem OpSem.callO {P : Program} {N : Nat} {d : Option Tmp} {g : Operand} {args : Array Operand} {ats : Array TypeId} {ty : TypeId} {pos : String} {af : Array Edge} {gu : Option (Nat × Bool)} {ρ : Env} {H : Heap} {n dp : Nat} {R : AVal → Prop}
    {f : FuncId} {args' : List AVal} (hg : ρ.ev g = .fn (.func f) [] []) (hent : Ent P f) (ha : ArgsOk H n (args.toList.map ρ.ev) args') (h : OwnC P f args' dp R) :
    OpSem P N ⟨d, .call ⟨.value g, args, ats⟩, ty, pos, af, gu⟩ ρ H n fun v1 H1 n1 => ∃ r S, Own H1 dp v1 r S ∧ R r ∧ n ≤ n1 ∧ (∀ i ∈ S, n ≤ i.1 ∧ i.1 < n1) ∧ ∀ i : Id, i.1 < n → H1 i = H i := by
  classical
  refine OpSem.call hg hent ?_
  intro c xs hH hn gd hl
  simp only [List.nil_append, List.append_nil] at hl
  have hb : Good ⟨c.w.heap.size, fun _ => 0, noHeap, 0, c.w⟩ := good_bare c.w
  obtain ⟨hlen, hget⟩ := ha.get
  have hrep : RepL ⟨c.w.heap.size, fun _ => 0, noHeap, 0, c.w⟩ args' xs := by
    refine ⟨by rw [← hlen]; exact hl.1, fun i b x hb' hx => ?_⟩
    have hi := (List.getElem?_eq_some_iff.1 hb').1
    have ha' : (args.toList.map ρ.ev)[i]? = some ((args.toList.map ρ.ev)[i]'(by omega)) := List.getElem?_eq_getElem (by omega)
    exact hget i _ b ha' hb' c x hH hn gd (hl.2 i _ x ha' hx) _ rfl (fun _ => rfl)
  refine (h _ xs rfl rfl hb hrep).mono ?_
  rintro e w' ⟨x, v, c1, he, hw, ⟨r, S, hO, hR⟩, hrv, hg1, hk⟩
  subst hw
  have hKS : ∀ i : Id, (fun i : Id => decide (i ∈ S)) i = true ↔ i ∈ S := fun i => by simp
  have hcl : Closed c1.H fun i => decide (i ∈ S) := fun id o ho hK e he a ha => (hO.cells id o ho ((hKS id).1 hK) e he a ha).mono fun i hi => (hKS i).2 hi
  obtain ⟨c2, e1, e2, e3, g2, k2, r2⟩ := take_over gd hg1 hk hcl
  subst hH hn
  have hO2 : Own c2.H dp (shA c.n v) r (S.map (shId c.n)) := hO.sh fun i hi => by rw [e1, merge_sh ((hKS i).2 hi)]
  refine ⟨x, shA c.n v, c2, he, e3, ⟨r, S.map (shId c.n), hO2, hR, by rw [e2]; omega, ?_, ?_⟩, r2 v x hrv (hO.mv.mono fun i hi => (hKS i).2 hi), g2, k2⟩
  · intro i hi
    obtain ⟨o, ho⟩ := hO2.has i hi
    refine ⟨?_, g2.stamp i o ho⟩
    obtain ⟨j, _, rfl⟩ := List.mem_map.1 hi
    simp [shId]
  · intro i hi
    rw [e1, merge_lt hi]
end Go.Ab
