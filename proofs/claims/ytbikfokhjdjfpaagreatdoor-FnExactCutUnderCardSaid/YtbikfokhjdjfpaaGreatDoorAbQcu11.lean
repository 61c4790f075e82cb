/- Merged texts (11 of 18) of the proof that ends in Cuy: O Mbw Mcw. -/
import Derived.Test.YtbikfokhjdjfpaaGreatDoorAbQcu10
/- The abstract machine, part O: regions that draw their order and make variables. -/
namespace Go.Ab
def kindN:Op→Nat
 | .move _ | .assign _ | .pick .. | .binOp .. | .unOp .. | .convert .. | .makeFunc .. | .extract .. | .field .. | .index .. | .build ..=>0
 | .load .. | .fieldAddr .. | .indexAddr .. | .nilCheck _ | .call ⟨.builtin .len,_,_⟩=>1
 | .alloc _=>3
 | .store ..=>4
 | _=>2
def compatN (a b:Nat):Bool:=a == 0 || b == 0 || (a == 1 && (b == 1 || b == 3 || b == 4)) || (a == 3 && (b == 1 || b == 3 || b == 4)) || (a == 4 && (b == 1 || b == 3))
def idOk (n0:Nat):AVal→Prop
 | .ptr id _ _ _ | .arr id _ _ _=>id.1<n0
 | _=>True
def condN (n0:Nat) (op:Op) (ρ:Env):Prop:=
 match op with
 | .load _ a | .fieldAddr _ a _ | .nilCheck a=>idOk n0 (ρ.ev a)
 | .indexAddr _ x _=>idOk n0 (ρ.ev x)
 | .call ⟨.builtin .len,args,_⟩=>∀ x ∈ args.toList,idOk n0 (ρ.ev x)
 | .store _ a _=>∃ id g idx off,ρ.ev a = .ptr id g idx off∧n0≤id.1
 | _=>kindN op=0
section
variable {Ty:Types} {ρ:Env} {H H2 H':Heap} {n n2 n' n0:Nat} {d:Option Tmp} {v:AVal} {op:Op}
end
section
variable (Ty:Types) (ops:Array Oper) (n0:Nat)
def DoN (o:Oper) (s:AS) (R:AS→Prop):Prop:=
 (gok ops o s.1=some false∧R (s.1.put o.dst skv,s.2)) ∨
 (gok ops o s.1=some true∧kindN o.op ≠ 3∧condN n0 o.op s.1∧∃ v H',stepF Ty o.dst o.op s.1 s.2.1 s.2.2=some (v,H',s.2.2)∧R (s.1.put o.dst v,H',s.2.2)) ∨
 (gok ops o s.1=some true∧∃ t k i,o.op = .alloc t∧o.dst=some k∧Ty t=some i∧∀ a,n0≤a→(∀ j,s.2.1 (a,j)=none)→R (s.1.put (some k) (.ptr (a,k) 1 0 0),s.2.1.set (a,k) ⟨i.zero.length,[i.zero.map .v]⟩,max s.2.2 (a+1)))
end
section
variable {Ty:Types} {ops:Array Oper} {n0:Nat}
theorem DoN.mono {o:Oper} {s:AS} {R R':AS→Prop} (h:DoN Ty ops n0 o s R) (hR:∀ s,R s→R' s):DoN Ty ops n0 o s R':=by
 rcases h with ⟨h1,h2⟩ | ⟨h1,h2,h3,v,H',h4,h5⟩ | ⟨h1,t,k,i,h2,h3,h4,h5⟩
 ·exact .inl ⟨h1,hR _ h2⟩
 ·exact .inr (.inl ⟨h1,h2,h3,v,H',h4,hR _ h5⟩)
 ·exact .inr (.inr ⟨h1,t,k,i,h2,h3,h4,fun a ha hf=>hR _ (h5 a ha hf)⟩)
variable (Ty ops n0) in
def AnyN (R:AS→Prop):Nat→Array Bool→AS→Prop
 | 0,listed,s=>Region.ready .any ops listed=[]∧R s
 | fuel+1,listed,s=>(Region.ready .any ops listed=[]→R s)∧∀ i ∈ Region.ready .any ops listed,∃ o,ops[i]?=some o∧DoN Ty ops n0 o s (AnyN R fuel (listed.setIfInBounds i true))
variable (Ty ops n0) in
def RunN (R:AS→Prop):List Oper→AS→Prop
 | [],s=>R s
 | o::l,s=>DoN Ty ops n0 o s (RunN R l)
variable (ops) in
def freeN (listed:Array Bool) (i:Nat):Bool:=
 match ops[i]? with
 | none=>false
 | some oi=>((behind ops i).all fun j => !(listed.getD j true) && match ops[j]? with
   | none=>true
   | some oj=>j == i || oj.after.any (fun e=>Region.binds .any e && (behind ops i).contains e.on)) &&
  (List.range ops.size).all fun j=>match ops[j]? with
  | none=>true
  | some oj=>j == i || listed.getD j true || (behind ops i).contains j || (oi.apart ops oj && compatN (kindN oi.op) (kindN oj.op))
variable (ops) in
def lexN:Nat→Nat→Array Bool→Bool
 | 0,_,listed=>(Region.ready .any ops listed).isEmpty
 | fuel+1,k,listed=>(Region.ready .any ops listed).contains k && freeN ops listed k && lexN fuel (k+1) (listed.setIfInBounds k true)
variable (ops) in
def drawN:Bool:=lexN ops ops.size 0 (Array.replicate ops.size false)
end
section
variable {P:Program} {N:Nat} {Ty:Types} {ops:Array Oper} {n0:Nat}
end
section
variable {P:Program} {f:FuncId} {N:Nat} {k:List Item} {ρ:Env} {H:Heap} {n:Nat} {Q:AVal→Heap→Nat→Prop} {Ty:Types}
end
section
variable (P:Program) (f:FuncId) (N:Nat) (k:List Item) (Q:AVal→Heap→Nat→Prop) (Ty:Types) (ops:Array Oper) (n0:Nat)
end
section
variable {P:Program} {f:FuncId} {N:Nat} {k:List Item} {ρ:Env} {H:Heap} {n:Nat} {Q:AVal→Heap→Nat→Prop} {Ty:Types} {ops:Array Oper} {n0:Nat}
end
attribute [simp] gok
end Go.Ab
/- Walks by program for YtbikfokhjdjfpaaGreatDoorAbMb. -/
namespace Go.Ab.Vg
open Go.Proofs
set_option maxRecDepth 100000
set_option linter.unusedSimpArgs false
set_option linter.unusedVariables false
attribute [local simp] Control.cells GNode.cells Wire.cells intC intC2 sliceC strC bC mC pA
theorem hasI_ok (l:List Int) (x:Int) (h:l.length≤1048576):PureC Tryz.prog 47 [.list false (l.map intC),int x] (fun r=>r=bool (hasI l x)):=contains_ok l x h
theorem l1HasI_ok (l:List Int) (x:Int) (h:l.length≤1048576):PureC Tryz.prog 118 [.list false (l.map intC),int x] (fun r=>r=bool (hasI l x)):=l1Has_ok l x h
end Go.Ab.Vg
/- Walks by program for YtbikfokhjdjfpaaGreatDoorAbMc. -/
namespace Go.Ab.Vg
open Go.Proofs
set_option maxRecDepth 100000
set_option linter.unusedSimpArgs false
set_option linter.unusedVariables false
attribute [local simp] Control.cells GNode.cells Wire.cells intC intC2 sliceC strC bC mC pA
end Go.Ab.Vg
