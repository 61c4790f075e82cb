/- The abstract machine, part N: handing over, shorter. -/
import Derived.Test.YtgmjebjcomckaaaDoorAbK
import Derived.Test.YtgmjebjcomckaaaDoorAbM
import Derived.Laws.Strings
namespace Go.Ab

theorem map_old_flat {e : List AVal} (h : ∀ a ∈ e, flat a = true) : e.map old = e := by
  conv => rhs; rw [← List.map_id e]
  refine List.map_congr_left fun a ha => ?_
  have := h a ha
  cases a <;> simp [flat] at this
  rfl

theorem maps_old_flat {els : List (List AVal)} (h : ∀ e ∈ els, ∀ a ∈ e, flat a = true) : els.map (fun e => e.map old) = els := by
  conv => rhs; rw [← List.map_id els]
  exact List.map_congr_left fun e he => map_old_flat (h e he)

section
variable {H : Heap} {n : Nat}
/-- A function's own array of plain cells. -/
theorem ArgOk.arrF {id : Id} {g sz : Nat} {els : List (List AVal)} (hl : live H id g = some ⟨sz, els⟩) (h : ∀ e ∈ els, ∀ a ∈ e, flat a = true) : ArgOk H n (.arr id g 0 g) (.list false els) := by
  obtain ⟨_, l2⟩ := live_some hl
  simp only at l2
  have := ArgOk.arr (n := n) (off := 0) (len := g) hl fun e he a ha => Imm.flat (h e he a ha)
  have e1 : ((Ob.mk sz els).els.drop 0).take g = els := by simp [← l2]
  rw [e1, maps_old_flat h] at this
  exact this

theorem ArgOk.listF {fr : Bool} {els : List (List AVal)} (h : ∀ e ∈ els, ∀ a ∈ e, flat a = true) : ArgOk H n (.list fr els) (.list false els) := by
  refine ArgOk.imm' (.list _ _ fun e he a ha => Imm.flat (h e he a ha)) ?_
  rw [old_list, maps_old_flat h]

theorem ArgOk.nil : ArgOk H n (.v (.slice none 0 0)) (.list false []) := fun _ y _ _ _ r _ _ _ => by rw [r.v_inv]; exact .lnil false

theorem ArgOk.aggF {cs : List AVal} (h : ∀ a ∈ cs, flat a = true) : ArgOk H n (.agg cs) (.agg cs) :=
  ArgOk.imm' (.agg _ fun a ha => Imm.flat (h a ha)) (by rw [old_agg, map_old_flat h])

/-- One list of plain cells in a struct of one field. -/
theorem ArgOk.agg1 {a b : AVal} (h : ArgOk H n a b) : ArgOk H n (.agg [a]) (.agg [b]) := by
  intro c x hH hn g r c' hw hc
  cases r with
  | agg _ vs hl hr =>
  refine .agg _ vs (by simpa using hl) fun i b' y hb hy => ?_
  match i with
  | 0 => simp at hb; subst hb; exact h c y hH hn g (hr 0 a y rfl hy) c' hw hc
  | i + 1 => simp at hb
end

section
variable {P : Program} {f : FuncId} {N : Nat} {k : List Item} {Q : AVal → Heap → Nat → Prop} {Ty : Types} {l : List Oper} {ρ : Env} {H : Heap} {n : Nat}
/-- A call, with its arguments told. -/
theorem RunK.callA (hT : TypesOk P Ty) {d : Option Tmp} {g : Operand} {args : Array Operand} {ats : Array TypeId} {ty : TypeId} {pos : String} {af : Array Edge} {R : AVal → Prop} {f' : FuncId} {as args' : List AVal} {ops : List Oper}
    (h : PureC P f' args' R) (hent : Ent P f') (ha : ArgsOk H n as args')
    (hN : ops.all (fun o => dok N o.dst) = true) (hl : (⟨d, .call ⟨.value g, args, ats⟩, ty, pos, af, none⟩ :: l : List Oper).all (fun o => dok N o.dst) = true) (hg : ρ.ev g = .fn (.func f') [] []) (has : args.toList.map ρ.ev = as)
    (hk : ∀ v, R v → evalK P f N k Q Ty ops.toArray l (ρ.put d v) H n) : RunK P f N k Q ops.toArray (⟨d, .call ⟨.value g, args, ats⟩, ty, pos, af, none⟩ :: l) ρ H n :=
  RunK.call hT hN hl hg hent (has ▸ ha) h hk

/-- The same in a region that draws. -/
theorem RunDK.callA (hT : TypesOk P Ty) {κ : Op → Nat} (hκ : KOk κ) {d : Option Tmp} {g : Operand} {args : Array Operand} {ats : Array TypeId} {ty : TypeId} {pos : String} {af : Array Edge} {v : AVal} {f' : FuncId} {as args' : List AVal} {ops : Array Oper}
    (h : PureC P f' args' (fun r => r = v)) (hent : Ent P f') (ha : ArgsOk H n as args') (h0 : κ (.call ⟨.value g, args, ats⟩) ≠ 0) (hg : ρ.ev g = .fn (.func f') [] []) (has : args.toList.map ρ.ev = as)
    (hk : evalD P f N k Q Ty κ ops l (ρ.put d v) H n) : RunDK P f N k Q κ ops (⟨d, .call ⟨.value g, args, ats⟩, ty, pos, af, none⟩ :: l) ρ H n :=
  RunDK.call hT hκ h0 hg hent (has ▸ ha) h hk
end

@[simp] theorem Fresh.v_iff (x : Value) : Fresh (.v x) ↔ True := ⟨fun _ => trivial, fun _ => .v x⟩
@[simp] theorem Imm.v_iff (x : Value) : Imm (.v x) ↔ True := ⟨fun _ => trivial, fun _ => .v x⟩
@[simp] theorem flat_v (x : Value) : flat (.v x) = true := rfl
theorem Fresh.list_iff (els : List (List AVal)) : Fresh (.list true els) ↔ ∀ e ∈ els, ∀ a ∈ e, Fresh a := ⟨fun h => by cases h; assumption, fun h => .list els h⟩
theorem Fresh.agg_iff (cs : List AVal) : Fresh (.agg cs) ↔ ∀ a ∈ cs, Fresh a := ⟨fun h => by cases h; assumption, fun h => .agg cs h⟩
theorem Fresh.tup_iff (cs : List AVal) : Fresh (.tup cs) ↔ ∀ a ∈ cs, Fresh a := ⟨fun h => by cases h; assumption, fun h => .tup cs h⟩
attribute [simp] Fresh.list_iff Fresh.agg_iff Fresh.tup_iff
theorem Imm.list_iff (fr : Bool) (els : List (List AVal)) : Imm (.list fr els) ↔ ∀ e ∈ els, ∀ a ∈ e, Imm a := ⟨fun h => by cases h; assumption, fun h => .list fr els h⟩
theorem Imm.agg_iff (cs : List AVal) : Imm (.agg cs) ↔ ∀ a ∈ cs, Imm a := ⟨fun h => by cases h; assumption, fun h => .agg cs h⟩
attribute [simp] Imm.list_iff Imm.agg_iff
@[simp] theorem bytes_append (a b : Array UInt8) : (ByteArray.mk a) ++ (ByteArray.mk b) = ByteArray.mk (a ++ b) := by
  apply ByteArray.ext
  simp
@[simp] theorem bytes_size (a : Array UInt8) : (ByteArray.mk a).size = a.size := rfl
@[simp] theorem bytes_list (l : Array UInt8) : (ByteArray.mk l).toList = l.toList := by rw [ByteArray.toList_eq]

theorem Ent.of {P : Program} {f : FuncId} {fn : Func} {body : Code} (h : P.funcs[f]? = some fn) (hn : (fn.name == "runtime.NumGoroutine") = false) (hb : fn.body = some body) : Ent P f := ⟨fn, body, h, hn, hb⟩
attribute [simp] wrap64

/-- An array that is being filled from the left. -/
def part {α : Type} (f : α → List AVal) (z : List AVal) (p : List α) (k : Nat) : List (List AVal) := (p.take k).map f ++ List.replicate (p.length - k) z
section
variable {α : Type} {f : α → List AVal} {z : List AVal} {p : List α} {k : Nat}
theorem part_zero : part f z p 0 = List.replicate p.length z := by simp [part]
theorem part_len (hk : k ≤ p.length) : (part f z p k).length = p.length := by simp [part]; omega
theorem part_get (hk : k < p.length) : (part f z p k)[k]? = some z := by
  unfold part
  rw [List.getElem?_append_right (by simp; omega)]
  rw [List.getElem?_replicate]
  simp
  omega
theorem part_get' (hk : k < p.length) (h : k < (part f z p k).length) : (part f z p k)[k] = z := by
  have := part_get (f := f) (z := z) hk
  rw [List.getElem?_eq_getElem h] at this
  exact Option.some.inj this
theorem part_set (hk : k < p.length) : (part f z p k).set k (f p[k]) = part f z p (k + 1) := by
  unfold part
  rw [List.set_append_right _ _ (by simp; omega), List.take_succ_eq_append_getElem hk, List.map_append, List.append_assoc]
  congr 1
  have h1 : p.length - k = (p.length - (k + 1)) + 1 := by omega
  have h2 : k - (List.map f (p.take k)).length = 0 := by simp; omega
  rw [h1, h2, List.replicate_succ]
  rfl
theorem part_end : part f z p p.length = p.map f := by simp [part]
end

section
variable {P : Program} {N : Nat} {fn : Func} {ρ : Env} {H : Heap} {n : Nat} {Ty : Types}
/-- A result that is read in memory. -/
theorem RetOk.cell (hT : TypesOk P Ty) {t : Tmp} {ty : TypeId} (h : fn.results = #[.cell t ty]) {i : TI} {cs : List AVal} {v : AVal} (hi : Ty ty = some i) (hv : viewOf H (ρ t) = some cs) (hl : loadA i cs = some v) : RetOk P N fn ρ H n v := by
  intro c a hH hn g r
  subst hH
  obtain ⟨b, off, hx, hview⟩ := viewOf_ok g (r.rep t) hv
  obtain ⟨y, hrun, hrep⟩ := run_loadVar (hT ty i hi) hview hl
  rw [Array.getD_eq_getD_getElem?] at hx
  exact ⟨y, by simp [results, h, hx, hrun, asAddr], hrep⟩
end
end Go.Ab
