/- The abstract machine, part Te: own arrays that are not turned any more become lists. -/
import Derived.Test.YtgmjebjcomckaaaDoorAbTd
namespace Go.Ab

/-- Own arrays of the set K as lists. -/
def fz (K : Id → Bool) (H : Heap) : AVal → AVal
  | .agg cs => .agg (fzL K H cs)
  | .tup cs => .tup (fzL K H cs)
  | .list fr els => .list fr (fzLL K H els)
  | .arr id g off len => if K id then (match H id with | some o => if o.els.length = g then .list true ((o.els.drop off).take len) else .undef | none => .undef) else .arr id g off len
  | .ptr id g idx off => if K id then .undef else .ptr id g idx off
  | .iptr fr cs => .iptr fr (fzL K H cs)
  | .fn f a b => .fn f (fzL K H a) (fzL K H b)
  | .iface t x => .iface t (fz K H x)
  | x => x
  where
  fzL (K : Id → Bool) (H : Heap) : List AVal → List AVal
    | [] => []
    | a :: l => fz K H a :: fzL K H l
  fzLL (K : Id → Bool) (H : Heap) : List (List AVal) → List (List AVal)
    | [] => []
    | e :: l => fzL K H e :: fzLL K H l

section
variable {K : Id → Bool} {H : Heap}
theorem fzL_eq (l : List AVal) : fz.fzL K H l = l.map (fz K H) := by
  induction l with
  | nil => rfl
  | cons a l ih => simp [fz.fzL, ih]
theorem fzLL_eq (l : List (List AVal)) : fz.fzLL K H l = l.map (fun e => e.map (fz K H)) := by
  induction l with
  | nil => rfl
  | cons a l ih => simp [fz.fzLL, ih, fzL_eq]
theorem fz_v (x : Value) : fz K H (.v x) = .v x := by simp [fz]
theorem fz_agg (cs : List AVal) : fz K H (.agg cs) = .agg (cs.map (fz K H)) := by simp [fz, fzL_eq]
theorem fz_tup (cs : List AVal) : fz K H (.tup cs) = .tup (cs.map (fz K H)) := by simp [fz, fzL_eq]
theorem fz_list (fr : Bool) (els : List (List AVal)) : fz K H (.list fr els) = .list fr (els.map fun e => e.map (fz K H)) := by simp [fz, fzLL_eq]
theorem fz_iptr (fr : Bool) (cs : List AVal) : fz K H (.iptr fr cs) = .iptr fr (cs.map (fz K H)) := by simp [fz, fzL_eq]
theorem fz_fn (f : Fn) (a b : List AVal) : fz K H (.fn f a b) = .fn f (a.map (fz K H)) (b.map (fz K H)) := by simp [fz, fzL_eq]
theorem fz_iface (t : TypeId) (x : AVal) : fz K H (.iface t x) = .iface t (fz K H x) := by simp [fz]
theorem fz_arr (id : Id) (g off len : Nat) : fz K H (.arr id g off len) = if K id then (match H id with | some o => if o.els.length = g then .list true ((o.els.drop off).take len) else .undef | none => .undef) else .arr id g off len := by simp [fz]
theorem fz_ptr (id : Id) (g idx off : Nat) : fz K H (.ptr id g idx off) = if K id then .undef else .ptr id g idx off := by simp [fz]
theorem fz_undef : fz K H .undef = .undef := by simp [fz]

theorem map_fix {f : AVal → AVal} : ∀ {l : List AVal}, l.map f = l → ∀ a ∈ l, f a = a
  | [], _, a, h => by cases h
  | b :: l, e, a, h => by
    simp only [List.map_cons, List.cons.injEq] at e
    rcases List.mem_cons.1 h with rfl | h
    · exact e.1
    · exact map_fix e.2 a h
theorem maps_fix {f : AVal → AVal} : ∀ {l : List (List AVal)}, (l.map fun e => e.map f) = l → ∀ e ∈ l, ∀ a ∈ e, f a = a
  | [], _, a, h => by cases h
  | b :: l, e, a, h => by
    simp only [List.map_cons, List.cons.injEq] at e
    rcases List.mem_cons.1 h with rfl | h
    · exact map_fix e.1
    · exact maps_fix e.2 a h
theorem fz_flat {e : List AVal} (h : ∀ a ∈ e, flat a = true) : e.map (fz K H) = e := by
  conv => rhs; rw [← List.map_id e]
  refine List.map_congr_left fun a ha => ?_
  have := h a ha
  cases a <;> simp [flat] at this
  exact fz_v _
theorem fz_flats {els : List (List AVal)} (h : ∀ e ∈ els, ∀ a ∈ e, flat a = true) : els.map (fun e => e.map (fz K H)) = els := by
  conv => rhs; rw [← List.map_id els]
  exact List.map_congr_left fun e he => fz_flat (h e he)
theorem fz_listF {fr : Bool} {els : List (List AVal)} (h : ∀ e ∈ els, ∀ a ∈ e, flat a = true) : fz K H (.list fr els) = .list fr els := by rw [fz_list, fz_flats h]
end

def fzH (K : Id → Bool) (H : Heap) : Heap := fun i => if K i then none else (H i).map fun o => ⟨o.size, o.els.map fun e => e.map (fz K H)⟩

theorem fzH_some {K : Id → Bool} {H : Heap} {i : Id} {o : Ob} (h : fzH K H i = some o) : K i = false ∧ ∃ o1, H i = some o1 ∧ o = ⟨o1.size, o1.els.map fun e => e.map (fz K H)⟩ := by
  simp only [fzH] at h
  split at h
  · cases h
  · rename_i hk
    cases h1 : H i with
    | none => rw [h1] at h; cases h
    | some o1 =>
      rw [h1] at h
      cases h
      exact ⟨by simpa using hk, o1, rfl, rfl⟩

section
variable {c : Ctx} {K : Id → Bool}
/-- The same world with fewer objects. -/
def Ctx.frz (c : Ctx) (K : Id → Bool) : Ctx := { c with H := fzH K c.H }

theorem frz_mu {k : Nat} (h : (c.frz K).mu k) : c.mu k := by
  obtain ⟨i, o, h1, h2⟩ := h
  obtain ⟨_, o1, h3, _⟩ := fzH_some h1
  exact ⟨i, o1, h3, h2⟩

theorem Rep.frz1 {a : AVal} {x : Value} (r : Rep c a x) : fz K c.H a = a → Rep (c.frz K) a x := by
  induction r with
  | undef x => intro _; exact .undef x
  | v x => intro _; exact .v x
  | agg cs vs hl _ ih =>
    intro h
    rw [fz_agg] at h
    injection h with h
    exact .agg _ vs hl fun i a x ha hx => ih i a x ha hx (map_fix h a (List.mem_of_getElem? ha))
  | tup cs vs hl _ ih =>
    intro h
    rw [fz_tup] at h
    injection h with h
    exact .tup _ vs hl fun i a x ha hx => ih i a x ha hx (map_fix h a (List.mem_of_getElem? ha))
  | lnil fr => intro _; exact .lnil fr
  | list fr els a cap sz cell hs hcap hm hsz hc _ ih =>
    intro h
    rw [fz_list] at h
    injection h with _ h
    exact .list fr els a cap sz cell hs hcap (fun hne => ⟨fun hmu => (hm hne).1 (frz_mu hmu), (hm hne).2.1, (hm hne).2.2⟩) hsz hc fun i e j y he hy => ih i e j y he hy (maps_fix h e (List.mem_of_getElem? he) y (List.mem_of_getElem? hy))
  | arr id gen off len x h1 hn hg h =>
    intro hb
    refine .arr id gen off len x h1 hn (fun o ho => ?_) (fun o ho hgen => ?_)
    · obtain ⟨_, o1, h3, rfl⟩ := fzH_some ho
      simpa using hg o1 h3
    · obtain ⟨_, o1, h3, rfl⟩ := fzH_some ho
      exact h o1 h3 (by simpa using hgen)
  | ptr id gen idx off x h1 hn hg h =>
    intro hb
    refine .ptr id gen idx off x h1 hn (fun o ho => ?_) (fun o ho hgen => ?_)
    · obtain ⟨_, o1, h3, rfl⟩ := fzH_some ho
      simpa using hg o1 h3
    · obtain ⟨_, o1, h3, rfl⟩ := fzH_some ho
      exact h o1 h3 (by simpa using hgen)
  | iptr fr cs a cell hs hm hb hf hc _ ih =>
    intro h
    rw [fz_iptr] at h
    injection h with _ h
    exact .iptr fr cs a cell hs (fun hmu => hm (frz_mu hmu)) hb hf hc fun j y hy => ih j y hy (map_fix h y (List.mem_of_getElem? hy))
  | fn f first captured vs us hl hl' _ _ ih ih' =>
    intro h
    rw [fz_fn] at h
    injection h with _ h h'
    exact .fn f first captured vs us hl hl' (fun i a x ha hx => ih i a x ha hx (map_fix h a (List.mem_of_getElem? ha))) (fun i a x ha hx => ih' i a x ha hx (map_fix h' a (List.mem_of_getElem? ha)))
  | iface t a x _ ih =>
    intro h
    rw [fz_iface] at h
    injection h with _ h
    exact .iface t a x (ih h)

theorem Rep.frz (g : Good c) (hK : ∀ i o, K i = true → c.H i = some o → ∀ e ∈ o.els, ∀ a ∈ e, fz K c.H a = a) {a : AVal} {x : Value} (r : Rep c a x) : Rep (c.frz K) (fz K c.H a) x := by
  induction r with
  | undef x => rw [fz_undef]; exact .undef x
  | v x => rw [fz_v]; exact .v x
  | agg cs vs hl _ ih =>
    rw [fz_agg]
    refine .agg _ vs (by simpa using hl) fun i a x ha hx => ?_
    obtain ⟨b, hb, rfl⟩ := map_get ha
    exact ih i b x hb hx
  | tup cs vs hl _ ih =>
    rw [fz_tup]
    refine .tup _ vs (by simpa using hl) fun i a x ha hx => ?_
    obtain ⟨b, hb, rfl⟩ := map_get ha
    exact ih i b x hb hx
  | lnil fr => rw [fz_list]; exact .lnil fr
  | list fr els a cap sz cell hs hcap hm hsz hc _ ih =>
    rw [fz_list]
    have := Rep.list (c := c.frz K) fr (els.map fun e => e.map (fz K c.H)) a cap sz cell (fun hne => hs (by intro h0; subst h0; simp at hne)) (by simpa using hcap) (fun hne => ?_) (fun i e he => ?_) (fun i e j y he hy => ?_) (fun i e j y he hy => ?_)
    · simpa using this
    · obtain ⟨h1, h2, h3⟩ := hm (by intro h0; simp [h0] at hne)
      exact ⟨fun hmu => h1 (frz_mu hmu), h2, h3⟩
    · obtain ⟨b, hb, rfl⟩ := map_get he
      rw [List.length_map]; exact hsz i b hb
    · obtain ⟨b, hb, rfl⟩ := map_get he
      obtain ⟨z, hz, rfl⟩ := map_get hy
      exact hc i b j z hb hz
    · obtain ⟨b, hb, rfl⟩ := map_get he
      obtain ⟨z, hz, rfl⟩ := map_get hy
      exact ih i b j z hb hz
  | arr id gen off len x h1 hn hg h =>
    rw [fz_arr]
    cases hk : K id with
    | false =>
      refine .arr id gen off len x h1 hn (fun o ho => ?_) (fun o ho hgen => ?_)
      · obtain ⟨_, o1, h3, rfl⟩ := fzH_some ho
        simpa using hg o1 h3
      · obtain ⟨_, o1, h3, rfl⟩ := fzH_some ho
        exact h o1 h3 (by simpa using hgen)
    | true =>
      rw [if_pos rfl]
      cases ho : c.H id with
      | none => exact .undef _
      | some o =>
      simp only
      split
      · rename_i hgen
        obtain ⟨p1, ⟨b, aoff, sp⟩, cap, rfl, hab, hsp, hlc, hoff, hcl⟩ := h o ho hgen
        simp only at hab hsp hoff
        subst hab hsp
        obtain ⟨hB, cl, el, hcell, hfit, hel⟩ := g.obj id o ho
        have hlen : ((o.els.drop off).take len).length = len := by simp; omega
        have hget : ∀ (i : Nat) (e : List AVal), ((o.els.drop off).take len)[i]? = some e → i < len ∧ o.els[off + i]? = some e := by
          intro i e he
          rw [List.getElem?_take] at he
          split at he
          · rename_i hi
            rw [List.getElem?_drop] at he
            exact ⟨hi, he⟩
          · cases he
        have hao : ∀ (i : Nat) (e : List AVal), ((o.els.drop off).take len)[i]? = some e → aoff = off * o.size := by
          intro i e he
          obtain ⟨hi, _⟩ := hget i e he
          rcases hoff with h | h
          · exact h
          · omega
        have := Rep.list (c := c.frz K) true ((o.els.drop off).take len) ⟨c.β id, aoff, none⟩ cap o.size (fun i j => cl.getD ((off + i) * o.size + j) Go.undef) (fun _ => rfl) (by omega) (fun _ => ⟨?_, g.lt ho, fun _ => hB⟩) (fun i e he => ?_) (fun i e j y he hy => ?_) (fun i e j y he hy => ?_)
        · rw [hlen] at this; exact this
        · rintro ⟨i, o', h3, h4⟩
          obtain ⟨hki, o1, h5, _⟩ := fzH_some h3
          have := g.inj i id o1 o h5 ho h4
          subst this
          rw [hk] at hki
          cases hki
        · exact (hel _ _ (hget i e he).2).1
        · obtain ⟨hi, he2⟩ := hget i e he
          obtain ⟨u, hu, hr⟩ := (hel _ _ he2).2 j y hy
          rw [hao i e he, ← Nat.add_assoc, ← Nat.add_mul]
          simp [Ctx.frz, World.cell?, hcell, hu, Array.getD_eq_getD_getElem?]
        · obtain ⟨hi, he2⟩ := hget i e he
          obtain ⟨u, hu, hr⟩ := (hel _ _ he2).2 j y hy
          rw [Array.getD_eq_getD_getElem?, hu]
          exact hr.frz1 (hK id o hk ho e (List.mem_of_getElem? he2) y (List.mem_of_getElem? hy))
      · exact .undef _
  | ptr id gen idx off x h1 hn hg h =>
    rw [fz_ptr]
    cases hk : K id with
    | true => exact .undef _
    | false =>
      refine .ptr id gen idx off x h1 hn (fun o ho => ?_) (fun o ho hgen => ?_)
      · obtain ⟨_, o1, h3, rfl⟩ := fzH_some ho
        simpa using hg o1 h3
      · obtain ⟨_, o1, h3, rfl⟩ := fzH_some ho
        exact h o1 h3 (by simpa using hgen)
  | iptr fr cs a cell hs hm hb hf hc _ ih =>
    rw [fz_iptr]
    refine .iptr fr _ a cell hs (fun hmu => hm (frz_mu hmu)) hb hf (fun j y hy => ?_) (fun j y hy => ?_)
    · obtain ⟨z, hz, rfl⟩ := map_get hy
      exact hc j z hz
    · obtain ⟨z, hz, rfl⟩ := map_get hy
      exact ih j z hz
  | fn f first captured vs us hl hl' _ _ ih ih' =>
    rw [fz_fn]
    refine .fn f _ _ vs us (by simpa using hl) (by simpa using hl') (fun i a x ha hx => ?_) (fun i a x ha hx => ?_)
    · obtain ⟨z, hz, rfl⟩ := map_get ha
      exact ih i z x hz hx
    · obtain ⟨z, hz, rfl⟩ := map_get ha
      exact ih' i z x hz hx
  | iface t a x _ ih => rw [fz_iface]; exact .iface t _ x ih
end

theorem Bnd.fz {n : Nat} {K : Id → Bool} {H : Heap} (hK : ∀ i, K i = true → n ≤ i.1) {a : AVal} (h : Bnd n a) : Ab.fz K H a = a := by
  have fix : ∀ {l : List AVal}, (∀ a ∈ l, Ab.fz K H a = a) → l.map (Ab.fz K H) = l := fun {l} h => by
    conv => rhs; rw [← List.map_id l]
    exact List.map_congr_left h
  induction h with
  | undef => exact fz_undef
  | v x => exact fz_v x
  | agg cs _ ih => rw [fz_agg, fix ih]
  | tup cs _ ih => rw [fz_tup, fix ih]
  | list fr els _ ih =>
    rw [fz_list]
    congr 1
    conv => rhs; rw [← List.map_id els]
    exact List.map_congr_left fun e he => fix (ih e he)
  | arr id g off len h =>
    rw [fz_arr, if_neg]
    intro hk
    have := hK id hk
    omega
  | ptr id g idx off h =>
    rw [fz_ptr, if_neg]
    intro hk
    have := hK id hk
    omega
  | iptr fr cs _ ih => rw [fz_iptr, fix ih]
  | fn f a b _ _ ih ih' => rw [fz_fn, fix ih, fix ih']
  | iface t a _ ih => rw [fz_iface, ih]

theorem Frame.fz {n : Nat} {K : Id → Bool} {H H1 : Heap} (hB : HBnd n H) (hK : ∀ i, K i = true → n ≤ i.1) (h : Frame n H H1) : Frame n H (fzH K H1) := fun i hi => by
  have hk : K i = false := by
    cases e : K i with
    | false => rfl
    | true => have := hK i e; omega
  simp only [fzH, hk, Bool.false_eq_true, if_false]
  rw [h i hi]
  cases ho : H i with
  | none => rfl
  | some o =>
    obtain ⟨_, h2⟩ := hB i o ho
    obtain ⟨sz, els⟩ := o
    simp only [Option.map_some, Option.some.injEq, Ob.mk.injEq, true_and]
    conv => rhs; rw [← List.map_id els]
    refine List.map_congr_left fun e he => ?_
    conv => rhs; rw [id, ← List.map_id e]
    exact List.map_congr_left fun a ha => Bnd.fz hK (h2 e he a ha)

/-- OWN ARRAYS THAT ARE NOT TURNED ANY MORE ARE LISTS FROM NOW ON. -/
theorem Runs.freeze {P : Program} {f : FuncId} {N : Nat} {k : List Item} {ρ : Env} {H : Heap} {n : Nat} {Q : AVal → Heap → Nat → Prop} (K : Id → Bool)
    (hK : ∀ i o, K i = true → H i = some o → ∀ e ∈ o.els, ∀ a ∈ e, fz K H a = a) (h : Runs P f N k (fun t => fz K H (ρ t)) (fzH K H) n Q) : Runs P f N k ρ H n Q := by
  intro c a hH hn g r b cs hf hk
  subst hH hn
  have g2 : Good (c.frz K) := by
    refine ⟨fun id o ho => ?_, fun id id' o o' ho ho' hb => ?_, g.Bsize, fun id o ho => ?_⟩
    · obtain ⟨_, o1, h3, _⟩ := fzH_some ho
      exact g.stamp id o1 h3
    · obtain ⟨_, o1, h3, _⟩ := fzH_some ho
      obtain ⟨_, o2, h4, _⟩ := fzH_some ho'
      exact g.inj id id' o1 o2 h3 h4 hb
    · obtain ⟨_, o1, h3, rfl⟩ := fzH_some ho
      obtain ⟨p1, cl, el, p2, p3, p4⟩ := g.obj id o1 h3
      refine ⟨p1, cl, el, p2, by simpa using p3, fun i e he => ?_⟩
      obtain ⟨e1, he1, rfl⟩ := map_get (show (o1.els.map fun e => e.map (fz K c.H))[i]? = some e from he)
      refine ⟨by rw [List.length_map]; exact (p4 i e1 he1).1, fun j y hy => ?_⟩
      obtain ⟨z, hz, rfl⟩ := map_get hy
      obtain ⟨x, hx, hr⟩ := (p4 i e1 he1).2 j z hz
      exact ⟨x, hx, hr.frz g hK⟩
  have r2 : RelE N (c.frz K) (fun t => fz K c.H (ρ t)) a := ⟨r.defers, r.size, fun t => (r.rep t).frz g hK⟩
  have k2 : Keeps c (c.frz K) := by
    refine ⟨Nat.le_refl _, rfl, Nat.le_refl _, rfl, rfl, rfl, fun k hk hm => ⟨rfl, fun h => hm (frz_mu h)⟩, fun id o' ho hid => ?_⟩
    obtain ⟨_, o1, h3, rfl⟩ := fzH_some ho
    exact ⟨o1, h3, rfl, by simp, fun _ => ⟨rfl, fun cl el fz h => ⟨cl, el, fz, h, Nat.le_refl _⟩⟩⟩
  obtain ⟨x, v, c', fr, q, hr, hg, hke, rest⟩ := h (c.frz K) a rfl rfl g2 r2 b cs hf hk
  exact ⟨x, v, c', fr, q, hr, hg, k2.trans hke, rest⟩

/-- One array of plain cells. -/
theorem Runs.freeze1 {P : Program} {f : FuncId} {N : Nat} {k : List Item} {ρ : Env} {H : Heap} {n : Nat} {Q : AVal → Heap → Nat → Prop} (id : Id) {o : Ob} (hid : H id = some o)
    (hf : ∀ e ∈ o.els, ∀ a ∈ e, flat a = true) (h : Runs P f N k (fun t => fz (fun i => decide (i = id)) H (ρ t)) (fzH (fun i => decide (i = id)) H) n Q) : Runs P f N k ρ H n Q := by
  refine Runs.freeze (fun i => decide (i = id)) (fun i o' hi ho e he a ha => ?_) h
  have hi : i = id := by simpa using hi
  subst hi
  rw [hid] at ho
  cases ho
  have := hf e he a ha
  cases a <;> simp [flat] at this
  exact fz_v _

theorem fz_own {H : Heap} {id : Id} {sz g : Nat} {els : List (List AVal)} (h : H id = some ⟨sz, els⟩) (hg : els.length = g) : fz (fun i => decide (i = id)) H (.arr id g 0 g) = .list true els := by
  rw [fz_arr]
  simp [h, hg]
  rw [← hg, List.take_length]

theorem fzH_ne {H : Heap} {id i : Id} (h : i ≠ id) : fzH (fun i => decide (i = id)) H i = (H i).map fun o => ⟨o.size, o.els.map fun e => e.map (fz (fun i => decide (i = id)) H)⟩ := by
  simp [fzH, h]
end Go.Ab
