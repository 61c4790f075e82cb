/- The abstract machine, part Tf: calls of function values; calls that leave the heap as it is. -/
import Derived.Test.YtgmjebjcomckaaaDoorAbTd
namespace Go.Ab

/-- A call at one heap that leaves it as it is. -/
def StillC (P : Program) (f : FuncId) (args : List AVal) (H : Heap) (n : Nat) (R : AVal → Prop) : Prop := CallsA P f args H n (fun v H1 n1 => R v ∧ H1 = H ∧ n1 = n)

theorem StillC.of {P : Program} {f : FuncId} {fn : Func} {body : Code} {args : List AVal} {N : Nat} {R : AVal → Prop} {H : Heap} {n : Nat} (hfn : P.funcs[f]? = some fn) (hb : fn.body = some body) (hn : fn.ntmps = N) (hN : args.length ≤ N)
    (h : ∀ Q, HBnd n H → (∀ v H1 n1 r, RetD H1 n v r → Frame n H H1 → R r → Q v H1 n1) → Runs P f N [.code body] (argEnv args) H n Q) : StillC P f args H n R :=
  CallsA.bnd fun hB => CallsA.drop (CallsA.of hfn hb hn hN fun Q hQ => h Q hB fun v H1 n1 r h1 h2 h3 => hQ v H1 n1 ⟨r, h1, h2, h3⟩)

theorem ShareC.still {P : Program} {f : FuncId} {args : List AVal} {R : AVal → Prop} (h : ShareC P f args R) (H : Heap) (n : Nat) : StillC P f args H n R := h H n

/-- A function value that answers b for an argument. -/
def ClosC (P : Program) (H : Heap) (n : Nat) (cl : AVal) (args : List AVal) (R : AVal → Prop) : Prop :=
  ∃ g first caps, cl = .fn (.func g) first caps ∧ Ent P g ∧ StillC P g (first ++ args ++ caps) H n R

section
variable {P : Program} {f : FuncId} {N : Nat} {k : List Item} {Q : AVal → Heap → Nat → Prop} {Ty : Types} {l : List Oper} {ρ : Env} {H : Heap} {n : Nat}
theorem RunK.callF (hT : TypesOk P Ty) {d : Option Tmp} {g : Operand} {args : Array Operand} {ats : Array TypeId} {ty : TypeId} {pos : String} {af : Array Edge} {R : AVal → Prop} {cl : AVal} {as : List AVal} {ops : List Oper}
    (h : ClosC P H n cl as R) (hN : ops.all (fun o => dok N o.dst) = true) (hl : (⟨d, .call ⟨.value g, args, ats⟩, ty, pos, af, none⟩ :: l : List Oper).all (fun o => dok N o.dst) = true) (hg : ρ.ev g = cl) (has : args.toList.map ρ.ev = as)
    (hk : ∀ v, R v → evalK P f N k Q Ty ops.toArray l (ρ.put d v) H n) :
    RunK P f N k Q ops.toArray (⟨d, .call ⟨.value g, args, ats⟩, ty, pos, af, none⟩ :: l) ρ H n := by
  obtain ⟨f', first, caps, hcl, hent, hc⟩ := h
  refine RunK.op hT hN hl rfl (OpSem.call (hg.trans hcl) hent (by rw [has]; exact hc)) ?_
  rintro v H1 n1 ⟨h1, rfl, rfl⟩
  exact hk v h1

theorem RunK.callT (hT : TypesOk P Ty) {d : Option Tmp} {g : Operand} {args : Array Operand} {ats : Array TypeId} {ty : TypeId} {pos : String} {af : Array Edge} {R : AVal → Prop} {f' : FuncId} {as : List AVal} {ops : List Oper}
    (h : StillC P f' as H n R) (hent : Ent P f')
    (hN : ops.all (fun o => dok N o.dst) = true) (hl : (⟨d, .call ⟨.value g, args, ats⟩, ty, pos, af, none⟩ :: l : List Oper).all (fun o => dok N o.dst) = true) (hg : ρ.ev g = .fn (.func f') [] []) (has : args.toList.map ρ.ev = as)
    (hk : ∀ v, R v → evalK P f N k Q Ty ops.toArray l (ρ.put d v) H n) :
    RunK P f N k Q ops.toArray (⟨d, .call ⟨.value g, args, ats⟩, ty, pos, af, none⟩ :: l) ρ H n :=
  RunK.callS hT h hent hN hl hg has fun v H1 n1 ⟨h1, h2, h3⟩ => by subst h2 h3; exact hk v h1

/-- The same in a region that draws. -/
theorem RunDK.callT (hT : TypesOk P Ty) {κ : Op → Nat} (hκ : KOk κ) {d : Option Tmp} {g : Operand} {args : Array Operand} {ats : Array TypeId} {ty : TypeId} {pos : String} {af : Array Edge} {v : AVal} {f' : FuncId} {as : List AVal} {ops : Array Oper}
    (h : StillC P f' as H n (fun r => r = v)) (hent : Ent P f') (h0 : κ (.call ⟨.value g, args, ats⟩) ≠ 0) (hg : ρ.ev g = .fn (.func f') [] []) (has : args.toList.map ρ.ev = as)
    (hk : evalD P f N k Q Ty κ ops l (ρ.put d v) H n) : RunDK P f N k Q κ ops (⟨d, .call ⟨.value g, args, ats⟩, ty, pos, af, none⟩ :: l) ρ H n := by
  refine RunDK.op hT hκ rfl h0 (fun _ => ⟨rfl, rfl⟩) ?_ hk
  have h1 : (loc (.call ⟨.value g, args, ats⟩) ρ).ev g = ρ.ev g := loc_ev (by simp [Op.operands, Call.operands])
  have h2 : args.toList.map (loc (.call ⟨.value g, args, ats⟩) ρ).ev = args.toList.map ρ.ev := List.map_congr_left fun x hx => loc_ev (by simp [Op.operands, Call.operands]; exact .inr (by simpa using hx))
  exact OpSem.call (by rw [h1]; exact hg) hent (by rw [h2, has, List.nil_append, List.append_nil]; exact h)
end
end Go.Ab
