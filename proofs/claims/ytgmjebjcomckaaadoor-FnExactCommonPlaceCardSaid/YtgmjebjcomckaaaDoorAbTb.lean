/- The abstract machine, part Tb: contracts whose result the caller owns, and how a script shows one. -/
import Derived.Test.YtgmjebjcomckaaaDoorAbT
namespace Go.Ab

theorem Own.v {H : Heap} : ∀ (d : Nat) (x : Value), Own H d (.v x) (.v x) []
  | 0, x => ⟨⟨x, rfl, rfl⟩, rfl⟩
  | _ + 1, x => .inl ⟨⟨x, rfl, rfl⟩, rfl⟩

theorem OwnL.flat {H : Heap} {d : Nat} : ∀ {e : List AVal}, (∀ a ∈ e, flat a = true) → OwnL (Own H d) e e []
  | [], _ => rfl
  | a :: e, h => by
    have ha := h a (by simp)
    cases a <;> simp [Ab.flat] at ha
    exact ⟨[], [], Own.v d _, OwnL.flat fun b hb => h b (by simp [hb]), rfl, by simp⟩

theorem OwnLL.flat {H : Heap} {d : Nat} : ∀ {els : List (List AVal)}, (∀ e ∈ els, ∀ a ∈ e, flat a = true) → OwnLL (Own H d) els els []
  | [], _ => rfl
  | e :: els, h => ⟨[], [], OwnL.flat (h e (by simp)), OwnLL.flat fun f hf => h f (by simp [hf]), rfl, by simp⟩

theorem Own.arrF {H : Heap} {d g sz : Nat} {id : Id} {els : List (List AVal)} (h : H id = some ⟨sz, els⟩) (hg : els.length = g) (hf : ∀ e ∈ els, ∀ a ∈ e, flat a = true) : Own H (d + 1) (.arr id g 0 g) (.list true els) [id] := by
  subst hg
  exact .inr (.inr (.inr (.inr ⟨id, _, els, [], rfl, rfl, h, OwnLL.flat hf, by simp, rfl⟩)))

theorem Own.nilS {H : Heap} {d : Nat} : Own H (d + 1) (.v (.slice none 0 0)) (.list true []) [] := .inr (.inr (.inr (.inl ⟨rfl, rfl, rfl⟩)))

theorem Own.agg1 {H : Heap} {d : Nat} {a b : AVal} {S : List Id} (h : Own H d a b S) : Own H (d + 1) (.agg [a]) (.agg [b]) S :=
  .inr (.inl ⟨_, _, rfl, rfl, S, [], h, rfl, by simp, by simp⟩)

theorem Own.tup2 {H : Heap} {d : Nat} {a b : AVal} {S : List Id} (h : Own H d a b S) (x : Value) : Own H (d + 1) (.tup [a, .v x]) (.tup [b, .v x]) S :=
  .inr (.inr (.inl ⟨_, _, rfl, rfl, S, [], h, ⟨[], [], Own.v d x, rfl, rfl, by simp⟩, by simp, by simp⟩))

/-- What a body owes at its returns. -/
def PostO (d : Nat) (R : AVal → Prop) (Q : AVal → Heap → Nat → Prop) : Prop := ∀ v H n r S, Own H d v r S → R r → Q v H n

theorem OwnC.of {P : Program} {f : FuncId} {fn : Func} {body : Code} {args : List AVal} {R : AVal → Prop} {N d : Nat} (hfn : P.funcs[f]? = some fn) (hb : fn.body = some body) (hn : fn.ntmps = N) (hN : args.length ≤ N)
    (h : ∀ Q, PostO d R Q → Runs P f N [.code body] (argEnv args) noHeap 0 Q) : OwnC P f args d R := by
  subst hn
  exact CallsA.of_runs hfn hb hN (h (fun v H' _ => ∃ r S, Own H' d v r S ∧ R r) fun v H n r S h1 h2 => ⟨r, S, h1, h2⟩)

section
variable {P : Program} {f : FuncId} {N : Nat} {k : List Item} {Q : AVal → Heap → Nat → Prop} {Ty : Types} {l : List Oper} {ρ : Env} {H : Heap} {n : Nat}
/-- A call whose result the caller owns. -/
theorem RunK.callO (hT : TypesOk P Ty) {d : Option Tmp} {g : Operand} {args : Array Operand} {ats : Array TypeId} {ty : TypeId} {pos : String} {af : Array Edge} {R : AVal → Prop} {f' : FuncId} {as args' : List AVal} {ops : List Oper} {dp : Nat}
    (h : OwnC P f' args' dp R) (hent : Ent P f') (ha : ArgsOk H n as args')
    (hN : ops.all (fun o => dok N o.dst) = true) (hl : (⟨d, .call ⟨.value g, args, ats⟩, ty, pos, af, none⟩ :: l : List Oper).all (fun o => dok N o.dst) = true) (hg : ρ.ev g = .fn (.func f') [] []) (has : args.toList.map ρ.ev = as)
    (hk : ∀ v H1 n1 r S, Own H1 dp v r S → R r → n ≤ n1 → (∀ i ∈ S, n ≤ i.1 ∧ i.1 < n1) → (∀ i : Id, i.1 < n → H1 i = H i) → evalK P f N k Q Ty ops.toArray l (ρ.put d v) H1 n1) :
    RunK P f N k Q ops.toArray (⟨d, .call ⟨.value g, args, ats⟩, ty, pos, af, none⟩ :: l) ρ H n :=
  RunK.op hT hN hl rfl (OpSem.callO hg hent (has ▸ ha) h) fun v H' n' ⟨r, S, h1, h2, h3, h4, h5⟩ => hk v H' n' r S h1 h2 h3 h4 h5

/-- A call that turns the caller's own objects. -/
theorem RunK.callS (hT : TypesOk P Ty) {d : Option Tmp} {g : Operand} {args : Array Operand} {ats : Array TypeId} {ty : TypeId} {pos : String} {af : Array Edge} {post : AVal → Heap → Nat → Prop} {f' : FuncId} {as : List AVal} {ops : List Oper}
    (h : CallsA P f' as H n post) (hent : Ent P f')
    (hN : ops.all (fun o => dok N o.dst) = true) (hl : (⟨d, .call ⟨.value g, args, ats⟩, ty, pos, af, none⟩ :: l : List Oper).all (fun o => dok N o.dst) = true) (hg : ρ.ev g = .fn (.func f') [] []) (has : args.toList.map ρ.ev = as)
    (hk : ∀ v H1 n1, post v H1 n1 → evalK P f N k Q Ty ops.toArray l (ρ.put d v) H1 n1) :
    RunK P f N k Q ops.toArray (⟨d, .call ⟨.value g, args, ats⟩, ty, pos, af, none⟩ :: l) ρ H n :=
  RunK.op hT hN hl rfl (OpSem.call hg hent (by simpa [has] using h)) hk
end
end Go.Ab
