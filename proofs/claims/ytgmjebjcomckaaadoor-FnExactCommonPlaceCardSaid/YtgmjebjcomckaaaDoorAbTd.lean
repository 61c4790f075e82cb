/- The abstract machine, part Td: functions whose results may share cells with their arguments; what they have made besides is dropped. -/
import Derived.Test.YtgmjebjcomckaaaDoorAbTc
import Derived.Test.YtgmjebjcomckaaaDoorAbM
namespace Go.Ab

/-- What is told so may be told otherwise. -/
def Sub (a b : AVal) : Prop := ∀ (c : Ctx) (x : Value), Rep c a x → Rep c b x
theorem Sub.refl (a : AVal) : Sub a a := fun _ _ h => h
theorem Sub.nil (fr : Bool) : Sub (.v (.slice none 0 0)) (.list fr []) := fun c x h => by rw [h.v_inv]; exact .lnil fr

inductive SubL : List AVal → List AVal → Prop
  | nil : SubL [] []
  | cons {a b : AVal} {as bs : List AVal} (h : Sub a b) (t : SubL as bs) : SubL (a :: as) (b :: bs)
theorem SubL.refl : ∀ as, SubL as as
  | [] => .nil
  | a :: as => .cons (.refl a) (.refl as)
theorem SubL.get {as bs : List AVal} (h : SubL as bs) : as.length = bs.length ∧ ∀ (i : Nat) (a b : AVal), as[i]? = some a → bs[i]? = some b → Sub a b := by
  induction h with
  | nil => exact ⟨rfl, by simp⟩
  | cons h _ ih =>
    refine ⟨by simp [ih.1], fun i a b ha hb => ?_⟩
    cases i with
    | zero => simp at ha hb; rw [← ha, ← hb]; exact h
    | succ i => exact ih.2 i a b (by simpa using ha) (by simpa using hb)

theorem Sub.agg {as bs : List AVal} (h : SubL as bs) : Sub (.agg as) (.agg bs) := fun c x r => by
  cases r with
  | agg _ vs hl hr =>
    obtain ⟨h1, h2⟩ := h.get
    refine .agg _ vs (by omega) fun i b x hb hx => ?_
    have hi := (List.getElem?_eq_some_iff.1 hb).1
    obtain ⟨a, ha⟩ := get_of_len (l := as) (i := i) (by omega)
    exact h2 i a b ha hb c x (hr i a x ha hx)

theorem Sub.old {els : List (List AVal)} (t : Bool) : Sub (.list t els) (.list false els) := fun c x r => by
  cases r with
  | lnil => exact .lnil false
  | list _ _ a cap sz cell hs hcap hm hsz hc hr => exact .list false els a cap sz cell hs hcap (fun h => ⟨(hm h).1, (hm h).2.1, fun h => by cases h⟩) hsz hc hr

theorem CallsA.sub {P : Program} {f : FuncId} {as bs : List AVal} {H : Heap} {n : Nat} {Q : AVal → Heap → Nat → Prop} (hs : SubL as bs) (h : CallsA P f bs H n Q) : CallsA P f as H n Q := fun c xs hH hn g r => by
  obtain ⟨h1, h2⟩ := hs.get
  refine h c xs hH hn g ⟨by rw [← h1]; exact r.1, fun i b x hb hx => ?_⟩
  have hi := (List.getElem?_eq_some_iff.1 hb).1
  obtain ⟨a, ha⟩ := get_of_len (l := as) (i := i) (by omega)
  exact h2 i a b ha hb c x (r.2 i a x ha hx)

/-- It names no objects but those of stamps below n. -/
inductive Bnd (n : Nat) : AVal → Prop
  | undef : Bnd n .undef
  | v (x : Value) : Bnd n (.v x)
  | agg (cs : List AVal) (h : ∀ a ∈ cs, Bnd n a) : Bnd n (.agg cs)
  | tup (cs : List AVal) (h : ∀ a ∈ cs, Bnd n a) : Bnd n (.tup cs)
  | list (fr : Bool) (els : List (List AVal)) (h : ∀ e ∈ els, ∀ a ∈ e, Bnd n a) : Bnd n (.list fr els)
  | arr (id : Id) (g off len : Nat) (h : id.1 < n) : Bnd n (.arr id g off len)
  | ptr (id : Id) (g idx off : Nat) (h : id.1 < n) : Bnd n (.ptr id g idx off)
  | iptr (fr : Bool) (cs : List AVal) (h : ∀ a ∈ cs, Bnd n a) : Bnd n (.iptr fr cs)
  | fn (f : Fn) (first captured : List AVal) (h : ∀ a ∈ first, Bnd n a) (h' : ∀ a ∈ captured, Bnd n a) : Bnd n (.fn f first captured)
  | iface (t : TypeId) (a : AVal) (h : Bnd n a) : Bnd n (.iface t a)

theorem Bnd.tup2 {n : Nat} {a b : AVal} (h : Bnd n a) (k : Bnd n b) : Bnd n (.tup [a, b]) := .tup _ fun x hx => by
  rcases List.mem_cons.1 hx with rfl | hx
  · exact h
  · rcases List.mem_cons.1 hx with rfl | hx
    · exact k
    · cases hx

theorem mem_pair {as : List AVal} {xs : List Value} (hl : as.length = xs.length) {a : AVal} (ha : a ∈ as) : ∃ (i : Nat) (x : Value), as[i]? = some a ∧ xs[i]? = some x := by
  obtain ⟨i, hi⟩ := List.getElem?_of_mem ha
  have h1 := (List.getElem?_eq_some_iff.1 hi).1
  exact ⟨i, xs[i]'(by omega), hi, List.getElem?_eq_getElem (by omega)⟩

theorem Rep.bnd {c : Ctx} {a : AVal} {x : Value} (r : Rep c a x) : Bnd c.n a := by
  induction r with
  | undef => exact .undef
  | v x => exact .v x
  | agg cs vs hl _ ih => exact .agg _ fun a ha => by obtain ⟨i, x, h1, h2⟩ := mem_pair hl ha; exact ih i a x h1 h2
  | tup cs vs hl _ ih => exact .tup _ fun a ha => by obtain ⟨i, x, h1, h2⟩ := mem_pair hl ha; exact ih i a x h1 h2
  | lnil fr => exact .list _ _ (by simp)
  | list fr els a cap sz cell hs hcap hm hsz hc _ ih =>
    refine .list _ _ fun e he y hy => ?_
    obtain ⟨i, hi⟩ := List.getElem?_of_mem he
    obtain ⟨j, hj⟩ := List.getElem?_of_mem hy
    exact ih i e j y hi hj
  | arr id gen off len x h1 hn hg h => exact .arr _ _ _ _ hn
  | ptr id gen idx off x h1 hn hg h => exact .ptr _ _ _ _ hn
  | iptr fr cs a cell hs hm hb hf hc _ ih =>
    refine .iptr _ _ fun y hy => ?_
    obtain ⟨j, hj⟩ := List.getElem?_of_mem hy
    exact ih j y hj
  | fn f first captured vs us hl hl' _ _ ih ih' =>
    exact .fn _ _ _ (fun a ha => by obtain ⟨i, x, h1, h2⟩ := mem_pair hl ha; exact ih i a x h1 h2) (fun a ha => by obtain ⟨i, x, h1, h2⟩ := mem_pair hl' ha; exact ih' i a x h1 h2)
  | iface t a x _ ih => exact .iface _ _ ih

/-- The objects of later stamps are dropped. -/
def Ctx.cut (c : Ctx) (n : Nat) : Ctx := { c with H := fun i => if i.1 < n then c.H i else none, n := n }

theorem Ctx.cut_H {c : Ctx} {n : Nat} {i : Id} {o : Ob} (h : (c.cut n).H i = some o) : i.1 < n ∧ c.H i = some o := by
  simp only [Ctx.cut] at h
  split at h
  · exact ⟨by assumption, h⟩
  · cases h
theorem Ctx.cut_mu {c : Ctx} {n k : Nat} (h : (c.cut n).mu k) : c.mu k := by
  obtain ⟨i, o, h1, h2⟩ := h
  exact ⟨i, o, (Ctx.cut_H h1).2, h2⟩

theorem Rep.cut {c : Ctx} {n : Nat} {a : AVal} {x : Value} (r : Rep c a x) : Bnd n a → Rep (c.cut n) a x := by
  induction r with
  | undef x => intro _; exact .undef x
  | v x => intro _; exact .v x
  | agg cs vs hl _ ih => intro h; cases h with | agg _ h => exact .agg _ vs hl fun i a x ha hx => ih i a x ha hx (h a (List.mem_of_getElem? ha))
  | tup cs vs hl _ ih => intro h; cases h with | tup _ h => exact .tup _ vs hl fun i a x ha hx => ih i a x ha hx (h a (List.mem_of_getElem? ha))
  | lnil fr => intro _; exact .lnil fr
  | list fr els a cap sz cell hs hcap hm hsz hc _ ih =>
    intro h
    cases h with
    | list _ _ h => exact .list fr els a cap sz cell hs hcap (fun hne => ⟨fun hmu => (hm hne).1 (Ctx.cut_mu hmu), (hm hne).2.1, (hm hne).2.2⟩) hsz hc fun i e j y he hy => ih i e j y he hy (h e (List.mem_of_getElem? he) y (List.mem_of_getElem? hy))
  | arr id gen off len x h1 hn hg h =>
    intro hb
    cases hb with
    | arr _ _ _ _ hlt => exact .arr id gen off len x h1 hlt (fun o ho => hg o (Ctx.cut_H ho).2) (fun o ho hgen => h o (Ctx.cut_H ho).2 hgen)
  | ptr id gen idx off x h1 hn hg h =>
    intro hb
    cases hb with
    | ptr _ _ _ _ hlt => exact .ptr id gen idx off x h1 hlt (fun o ho => hg o (Ctx.cut_H ho).2) (fun o ho hgen => h o (Ctx.cut_H ho).2 hgen)
  | iptr fr cs a cell hs hm hb hf hc _ ih =>
    intro h
    cases h with
    | iptr _ _ h => exact .iptr fr cs a cell hs (fun hmu => hm (Ctx.cut_mu hmu)) hb hf hc fun j y hy => ih j y hy (h y (List.mem_of_getElem? hy))
  | fn f first captured vs us hl hl' _ _ ih ih' =>
    intro h
    cases h with
    | fn _ _ _ h h' => exact .fn f first captured vs us hl hl' (fun i a x ha hx => ih i a x ha hx (h a (List.mem_of_getElem? ha))) (fun i a x ha hx => ih' i a x ha hx (h' a (List.mem_of_getElem? ha)))
  | iface t a x _ ih => intro h; cases h with | iface _ _ h => exact .iface t a x (ih h)

/-- A result: arrays that the call has made as lists. -/
inductive RetD (H : Heap) (n : Nat) : AVal → AVal → Prop
  | bnd {a : AVal} (h : Bnd n a) : RetD H n a a
  | agg {cs ds : List AVal} (hl : cs.length = ds.length) (h : ∀ (i : Nat) (a b : AVal), cs[i]? = some a → ds[i]? = some b → RetD H n a b) : RetD H n (.agg cs) (.agg ds)
  | tup {cs ds : List AVal} (hl : cs.length = ds.length) (h : ∀ (i : Nat) (a b : AVal), cs[i]? = some a → ds[i]? = some b → RetD H n a b) : RetD H n (.tup cs) (.tup ds)
  | nil (fr : Bool) : RetD H n (.v (.slice none 0 0)) (.list fr [])
  | arr {id : Id} {g off len : Nat} {o : Ob} {fls : List (List AVal)} (hlv : live H id g = some o) (hid : n ≤ id.1) (hl : ((o.els.drop off).take len).length = fls.length)
      (hl' : ∀ (i : Nat) (e f : List AVal), ((o.els.drop off).take len)[i]? = some e → fls[i]? = some f → e.length = f.length)
      (h : ∀ (i : Nat) (e f : List AVal) (j : Nat) (a b : AVal), ((o.els.drop off).take len)[i]? = some e → fls[i]? = some f → e[j]? = some a → f[j]? = some b → RetD H n a b) : RetD H n (.arr id g off len) (.list true fls)

theorem Rep.retD {c : Ctx} {n : Nat} (g : Good c) {a b : AVal} (r : RetD c.H n a b) : ∀ {x : Value}, Rep c a x → Rep (c.cut n) b x := by
  induction r with
  | bnd h => intro x hx; exact hx.cut h
  | agg hl _ ih =>
    intro x hx
    cases hx with
    | agg _ vs hl' hr =>
    refine .agg _ vs (by omega) fun i b x hb hx => ?_
    have hi := (List.getElem?_eq_some_iff.1 hb).1
    obtain ⟨a, ha⟩ := get_of_len (l := _) (i := i) (by rw [hl]; exact hi)
    exact ih i a b ha hb (hr i a x ha hx)
  | tup hl _ ih =>
    intro x hx
    cases hx with
    | tup _ vs hl' hr =>
    refine .tup _ vs (by omega) fun i b x hb hx => ?_
    have hi := (List.getElem?_eq_some_iff.1 hb).1
    obtain ⟨a, ha⟩ := get_of_len (l := _) (i := i) (by rw [hl]; exact hi)
    exact ih i a b ha hb (hr i a x ha hx)
  | nil fr => intro x hx; rw [hx.v_inv]; exact .lnil fr
  | @arr id gen off len o fls hlv hid hl hl' _ ih =>
    intro x hx
    obtain ⟨l1, l2⟩ := live_some hlv
    cases hx with
    | arr _ _ _ _ _ hone hn hg hp =>
    obtain ⟨p1, ⟨b, aoff, sp⟩, cap, rfl, hab, hsp, hlc, hoff, hcl⟩ := hp o l1 l2
    simp only at hab hsp hoff
    subst hab hsp
    obtain ⟨hB, cl, el, hcell, hfit, hel⟩ := g.obj id o l1
    have hlen : ((o.els.drop off).take len).length = len := by simp; omega
    have hget : ∀ (i : Nat) (e : List AVal), ((o.els.drop off).take len)[i]? = some e → i < len ∧ o.els[off + i]? = some e := by
      intro i e he
      rw [List.getElem?_take] at he
      split at he
      · rename_i hi
        rw [List.getElem?_drop] at he
        exact ⟨hi, he⟩
      · cases he
    have key : ∀ (i : Nat) (f : List AVal) (j : Nat) (y : AVal), fls[i]? = some f → f[j]? = some y → ∃ e z u, ((o.els.drop off).take len)[i]? = some e ∧ e[j]? = some z ∧ cl[(off + i) * o.size + j]? = some u ∧ Rep c z u ∧ aoff = off * o.size := by
      intro i f j y hf hy
      have hi := (List.getElem?_eq_some_iff.1 hf).1
      obtain ⟨e, he⟩ := get_of_len (l := (o.els.drop off).take len) (i := i) (by omega)
      have hej := hl' i e f he hf
      obtain ⟨z, hz⟩ := get_of_len (l := e) (i := j) (by rw [hej]; exact (List.getElem?_eq_some_iff.1 hy).1)
      obtain ⟨hi2, he2⟩ := hget i e he
      obtain ⟨u, hu, hr⟩ := (hel _ _ he2).2 j z hz
      refine ⟨e, z, u, he, hz, hu, hr, ?_⟩
      rcases hoff with h | h
      · exact h
      · omega
    have := Rep.list (c := c.cut n) true fls ⟨c.β id, aoff, none⟩ cap o.size (fun i j => cl.getD ((off + i) * o.size + j) Go.undef) (fun _ => rfl) (by omega) (fun _ => ⟨?_, g.lt l1, fun _ => hB⟩) (fun i f hf => ?_) (fun i f j y hf hy => ?_) (fun i f j y hf hy => ?_)
    · rw [← hl, hlen] at this; exact this
    · rintro ⟨i, o', h1, h2⟩
      obtain ⟨h3, h4⟩ := Ctx.cut_H h1
      have := g.inj i id o' o h4 l1 h2
      subst this
      omega
    · have hi := (List.getElem?_eq_some_iff.1 hf).1
      obtain ⟨e, he⟩ := get_of_len (l := (o.els.drop off).take len) (i := i) (by omega)
      rw [← hl' i e f he hf]
      exact (hel _ _ (hget i e he).2).1
    · obtain ⟨e, z, u, he, hz, hu, hr, hao⟩ := key i f j y hf hy
      rw [hao, ← Nat.add_assoc, ← Nat.add_mul]
      simp [Ctx.cut, World.cell?, hcell, hu, Array.getD_eq_getD_getElem?]
    · obtain ⟨e, z, u, he, hz, hu, hr, hao⟩ := key i f j y hf hy
      rw [Array.getD_eq_getD_getElem?, hu]
      exact ih i e f j z y he hf hz hy hr

/-- What had been made before is as it was. -/
def Frame (n : Nat) (H H1 : Heap) : Prop := ∀ i : Id, i.1 < n → H1 i = H i
theorem Frame.refl (n : Nat) (H : Heap) : Frame n H H := fun _ _ => rfl
theorem Frame.set {n : Nat} {H H1 : Heap} {id : Id} {o : Ob} (hid : n ≤ id.1) (h : Frame n H H1) : Frame n H (H1.set id o) := fun i hi => by
  rw [Heap.get_set_ne _ _ (by rintro rfl; omega)]
  exact h i hi
theorem Frame.trans {n m : Nat} {H H1 H2 : Heap} (h : Frame n H H1) (hm : n ≤ m) (k : Frame m H1 H2) : Frame n H H2 := fun i hi => by rw [k i (by omega), h i hi]

theorem CallsA.drop {P : Program} {f : FuncId} {args : List AVal} {H : Heap} {n : Nat} {R : AVal → Prop} (h : CallsA P f args H n (fun v H1 _ => ∃ r, RetD H1 n v r ∧ Frame n H H1 ∧ R r)) : CallsA P f args H n (fun v H1 n1 => R v ∧ H1 = H ∧ n1 = n) := by
  intro c xs hH hn g r
  refine (h c xs hH hn g r).mono ?_
  rintro e w' ⟨x, v, c1, he, hw, ⟨r', hret, hfr, hR⟩, hrep, hg1, hk⟩
  subst hH hn
  refine ⟨x, r', c1.cut c.n, he, hw, ⟨hR, ?_, rfl⟩, hrep.retD hg1 hret, ⟨fun id o ho => (Ctx.cut_H ho).1, fun id id' o o' ho ho' hb => hg1.inj id id' o o' (Ctx.cut_H ho).2 (Ctx.cut_H ho').2 hb, hg1.Bsize, fun id o ho => ?_⟩, ?_⟩
  · funext i
    simp only [Ctx.cut]
    split
    · rename_i h; exact hfr i h
    · rename_i h
      cases hc : c.H i with
      | none => rfl
      | some o => exact absurd (g.stamp i o hc) h
  · obtain ⟨h1, h2⟩ := Ctx.cut_H ho
    obtain ⟨p1, cl, el, p2, p3, p4⟩ := hg1.obj id o h2
    refine ⟨p1, cl, el, p2, p3, fun i e he => ⟨(p4 i e he).1, fun j a ha => ?_⟩⟩
    obtain ⟨y, hy, hr⟩ := (p4 i e he).2 j a ha
    refine ⟨y, hy, hr.cut ?_⟩
    rw [hfr id h1] at h2
    obtain ⟨_, cl0, el0, _, _, q4⟩ := g.obj id o h2
    obtain ⟨y0, _, hr0⟩ := (q4 i e he).2 j a ha
    exact hr0.bnd
  · exact ⟨Nat.le_refl _, hk.B, hk.size, hk.os, hk.tape, hk.output, fun k hlt hm => ⟨(hk.imm k hlt hm).1, fun h => (hk.imm k hlt hm).2 (Ctx.cut_mu h)⟩, fun id o' ho hid => hk.obj id o' (Ctx.cut_H ho).2 hid⟩

/-- A contract at every heap: nothing of the caller's is turned. -/
def ShareC (P : Program) (f : FuncId) (args : List AVal) (R : AVal → Prop) : Prop := ∀ H n, CallsA P f args H n (fun v H1 n1 => R v ∧ H1 = H ∧ n1 = n)

/-- All that the heap names has a stamp below n. -/
def HBnd (n : Nat) (H : Heap) : Prop := ∀ i o, H i = some o → i.1 < n ∧ ∀ e ∈ o.els, ∀ a ∈ e, Bnd n a

theorem CallsA.bnd {P : Program} {f : FuncId} {args : List AVal} {H : Heap} {n : Nat} {Q : AVal → Heap → Nat → Prop} (h : HBnd n H → CallsA P f args H n Q) : CallsA P f args H n Q := by
  intro c xs hH hn g r
  refine h (fun i o ho => ?_) c xs hH hn g r
  subst hH hn
  refine ⟨g.stamp i o ho, fun e he a ha => ?_⟩
  obtain ⟨j, hj⟩ := List.getElem?_of_mem he
  obtain ⟨q, hq⟩ := List.getElem?_of_mem ha
  obtain ⟨_, cl, el, _, _, h4⟩ := g.obj i o ho
  obtain ⟨x, _, hr⟩ := (h4 j e hj).2 q a hq
  exact hr.bnd

theorem ShareC.of {P : Program} {f : FuncId} {fn : Func} {body : Code} {args : List AVal} {N : Nat} {R : AVal → Prop} (hfn : P.funcs[f]? = some fn) (hb : fn.body = some body) (hn : fn.ntmps = N) (hN : args.length ≤ N)
    (h : ∀ H n Q, HBnd n H → (∀ v H1 n1 r, RetD H1 n v r → Frame n H H1 → R r → Q v H1 n1) → Runs P f N [.code body] (argEnv args) H n Q) : ShareC P f args R := fun H n =>
  CallsA.bnd fun hB => CallsA.drop (CallsA.of hfn hb hn hN fun Q hQ => h H n Q hB fun v H1 n1 r h1 h2 h3 => hQ v H1 n1 ⟨r, h1, h2, h3⟩)

theorem ShareC.mono {P : Program} {f : FuncId} {args : List AVal} {R R' : AVal → Prop} (h : ShareC P f args R) (hr : ∀ v, R v → R' v) : ShareC P f args R' := fun H n => CallsA.mono (h H n) fun _ _ _ ⟨h1, h2⟩ => ⟨hr _ h1, h2⟩

/-- With nothing of its own in the arguments, and a result of new cells. -/
theorem ShareC.pure {P : Program} {f : FuncId} {args : List AVal} {R : AVal → Prop} (h : ShareC P f args R) (hr : ∀ v, R v → Fresh v) : PureC P f args R :=
  CallsA.mono (h noHeap 0) fun _ _ _ ⟨h1, _, _⟩ => ⟨_, .of (Ret.fresh (hr _ h1)), h1⟩

section
variable {P : Program} {f : FuncId} {N : Nat} {k : List Item} {Q : AVal → Heap → Nat → Prop} {Ty : Types} {l : List Oper} {ρ : Env} {H : Heap} {n : Nat}
theorem RunK.callH (hT : TypesOk P Ty) {d : Option Tmp} {g : Operand} {args : Array Operand} {ats : Array TypeId} {ty : TypeId} {pos : String} {af : Array Edge} {R : AVal → Prop} {f' : FuncId} {as bs : List AVal} {ops : List Oper}
    (h : ShareC P f' bs R) (hent : Ent P f') (hs : SubL as bs)
    (hN : ops.all (fun o => dok N o.dst) = true) (hl : (⟨d, .call ⟨.value g, args, ats⟩, ty, pos, af, none⟩ :: l : List Oper).all (fun o => dok N o.dst) = true) (hg : ρ.ev g = .fn (.func f') [] []) (has : args.toList.map ρ.ev = as)
    (hk : ∀ v, R v → evalK P f N k Q Ty ops.toArray l (ρ.put d v) H n) :
    RunK P f N k Q ops.toArray (⟨d, .call ⟨.value g, args, ats⟩, ty, pos, af, none⟩ :: l) ρ H n :=
  RunK.callS hT (CallsA.sub hs (h H n)) hent hN hl hg has fun v H1 n1 ⟨h1, h2, h3⟩ => by subst h2 h3; exact hk v h1

/-- The same in a region that draws. -/
theorem RunDK.callH (hT : TypesOk P Ty) {κ : Op → Nat} (hκ : KOk κ) {d : Option Tmp} {g : Operand} {args : Array Operand} {ats : Array TypeId} {ty : TypeId} {pos : String} {af : Array Edge} {v : AVal} {f' : FuncId} {as bs : List AVal} {ops : Array Oper}
    (h : ShareC P f' bs (fun r => r = v)) (hent : Ent P f') (hs : SubL as bs) (h0 : κ (.call ⟨.value g, args, ats⟩) ≠ 0) (hg : ρ.ev g = .fn (.func f') [] []) (has : args.toList.map ρ.ev = as)
    (hk : evalD P f N k Q Ty κ ops l (ρ.put d v) H n) : RunDK P f N k Q κ ops (⟨d, .call ⟨.value g, args, ats⟩, ty, pos, af, none⟩ :: l) ρ H n := by
  refine RunDK.op hT hκ rfl h0 (fun _ => ⟨rfl, rfl⟩) ?_ hk
  have h1 : (loc (.call ⟨.value g, args, ats⟩) ρ).ev g = ρ.ev g := loc_ev (by simp [Op.operands, Call.operands])
  have h2 : args.toList.map (loc (.call ⟨.value g, args, ats⟩) ρ).ev = args.toList.map ρ.ev := List.map_congr_left fun x hx => loc_ev (by simp [Op.operands, Call.operands]; exact .inr (by simpa using hx))
  exact OpSem.call (by rw [h1]; exact hg) hent (by rw [h2, has, List.nil_append, List.append_nil]; exact CallsA.sub hs (h H n))
end

/-- A result variable's value. -/
def resA (Ty : Types) (H : Heap) (ρ : Env) : ResultVar → Option AVal
  | .tmp t => some (ρ t)
  | .cell t ty => match Ty ty, viewOf H (ρ t) with
    | some i, some cs => loadA i cs
    | _, _ => none

theorem resA_tmp {Ty : Types} {H : Heap} {ρ : Env} (t : Tmp) : resA Ty H ρ (.tmp t) = some (ρ t) := rfl

/-- Two results, in variables or in memory. -/
theorem RetOk.mix2 {P : Program} {Ty : Types} (hT : TypesOk P Ty) {N : Nat} {fn : Func} {ρ : Env} {H : Heap} {n : Nat} {r1 r2 : ResultVar} {v1 v2 : AVal} (h : fn.results = #[r1, r2]) (h1 : resA Ty H ρ r1 = some v1) (h2 : resA Ty H ρ r2 = some v2) : RetOk P N fn ρ H n (.tup [v1, v2]) := by
  intro c a hH hn g r
  subst hH
  have cell : ∀ {t : Tmp} {ty : TypeId} {v : AVal}, resA Ty c.H ρ (.cell t ty) = some v → ∃ x p y, a.tmps[t]?.getD undef = x ∧ (asAddr x).run P c.w = .ok p c.w ∧ (loadVar ty p).run P c.w = .ok y c.w ∧ Rep c v y := by
    intro t ty v hv
    simp only [resA] at hv
    split at hv
    · rename_i i cs hi hvw
      obtain ⟨b, off, hx, hview⟩ := viewOf_ok g (r.rep t) hvw
      obtain ⟨y, hrun, hrep⟩ := run_loadVar (hT ty i hi) hview hv
      rw [Array.getD_eq_getD_getElem?] at hx
      exact ⟨_, _, y, hx, by simp [asAddr], hrun, hrep⟩
    · cases hv
  have hx : ∃ x1 x2, (results fn a.tmps).run P c.w = .ok (.tuple [x1, x2].toArray) c.w ∧ Rep c v1 x1 ∧ Rep c v2 x2 := by
    cases r1 with
    | tmp t =>
      cases h1
      cases r2 with
      | tmp u => cases h2; exact ⟨a.tmps.getD t undef, a.tmps.getD u undef, by simp [results, h], r.rep t, r.rep u⟩
      | cell u ty => obtain ⟨x, p, y, e, k, l, q⟩ := cell h2; exact ⟨a.tmps.getD t undef, y, by simp [results, h, e, k, l], r.rep t, q⟩
    | cell t ty =>
      obtain ⟨x, p, y, e, k, l, q⟩ := cell h1
      cases r2 with
      | tmp u => cases h2; exact ⟨y, a.tmps.getD u undef, by simp [results, h, e, k, l], q, r.rep u⟩
      | cell u ty' => obtain ⟨x', p', y', e', k', l', q'⟩ := cell h2; exact ⟨y, y', by simp [results, h, e, k, l, e', k', l'], q, q'⟩
  obtain ⟨x1, x2, hrun, q1, q2⟩ := hx
  refine ⟨.tuple [x1, x2].toArray, hrun, .tup _ _ rfl fun i b x hb hx => ?_⟩
  · match i with
    | 0 => simp at hb hx; rw [← hb, ← hx]; exact q1
    | 1 => simp at hb hx; rw [← hb, ← hx]; exact q2
    | i + 2 => simp at hb

theorem bytes_extract (s : Str) (a b : Nat) : (ByteArray.mk s.toArray).extract a b = ByteArray.mk ((s.drop a).take (b - a)).toArray := by
  apply ByteArray.ext
  apply Array.ext'
  simp
attribute [simp] bytes_extract
end Go.Ab
