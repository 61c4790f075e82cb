/- Merged texts (4 of 11) of the proof that ends in Fpy: Ty X P So Sx Sy Sz Sm. -/
import Derived.Test.YtiokiodmcghlhaaDoorAbQfp3
import Derived.Test.YtiokiodmcghlhaaDoorProg
import Derived.KernelRfl
import Derived.Shelf.Sort.Plain
/- The seat's types: what the model's table says of each, as plain data. By program. -/
namespace Go.Ab
open Go.Proofs
theorem TyOk.of {P:Program} {t:TypeId} {s b:Nat} {z:List Value} (h:(P.underlying t).isSome=true) (h2:(P.info? t).map (fun i=>(i.size,i.bytes,i.zero.map Value.cells))=some (s,b,some z.toArray)):TyOk P t ⟨(P.underlying t).getD .invalid,s,b,z⟩:=by
 refine⟨?_,?_⟩
 ·cases hu:P.underlying t with
  | none=>simp[hu] at h
  | some d=>rfl
 cases hi:P.info? t with
 | none=>simp[hi] at h2
 | some info=>
  simp only[hi,Option.map_some,Option.some.injEq,Prod.mk.injEq,Option.map_eq_some_iff] at h2
  obtain⟨h3,h4,zv,h5,h6⟩:=h2
  exact⟨info,zv,rfl,h3,h4,h5,h6⟩
noncomputable def ty3:TI:=⟨(Tryd.prog.underlying 3).getD .invalid,1,8,[.int .i64 0]⟩
noncomputable def ty4:TI:=⟨(Tryd.prog.underlying 4).getD .invalid,1,1,[.bool false]⟩
noncomputable def ty5:TI:=⟨(Tryd.prog.underlying 5).getD .invalid,1,1,[.int .u8 0]⟩
noncomputable def ty9:TI:=⟨(Tryd.prog.underlying 9).getD .invalid,1,16,[.string ⟨#[]⟩]⟩
noncomputable def ty22:TI:=⟨(Tryd.prog.underlying 22).getD .invalid,1,24,[.slice none 0 0]⟩
noncomputable def ty24:TI:=⟨(Tryd.prog.underlying 24).getD .invalid,1,24,[.slice none 0 0]⟩
noncomputable def ty25:TI:=⟨(Tryd.prog.underlying 25).getD .invalid,1,24,[.slice none 0 0]⟩
noncomputable def ty26:TI:=⟨(Tryd.prog.underlying 26).getD .invalid,1,24,[.slice none 0 0]⟩
noncomputable def ty27:TI:=⟨(Tryd.prog.underlying 27).getD .invalid,1,24,[.slice none 0 0]⟩
noncomputable def ty28:TI:=⟨(Tryd.prog.underlying 28).getD .invalid,1,24,[.slice none 0 0]⟩
noncomputable def ty30:TI:=⟨(Tryd.prog.underlying 30).getD .invalid,6,112,[.int .i64 0,.slice none 0 0,.slice none 0 0,.int .i64 0,.slice none 0 0,.slice none 0 0]⟩
noncomputable def ty42:TI:=⟨(Tryd.prog.underlying 42).getD .invalid,3,40,[.int .i64 0,.int .i64 0,.slice none 0 0]⟩
noncomputable def ty45:TI:=⟨(Tryd.prog.underlying 45).getD .invalid,1,8,[.int .u64 0]⟩
noncomputable def ty47:TI:=⟨(Tryd.prog.underlying 47).getD .invalid,3,40,[.slice none 0 0,.int .i64 0,.int .u64 0]⟩
noncomputable def ty61:TI:=⟨(Tryd.prog.underlying 61).getD .invalid,3,32,[.string ⟨#[]⟩,.int .i64 0,.int .i64 0]⟩
noncomputable def ty65:TI:=⟨(Tryd.prog.underlying 65).getD .invalid,2,24,[.string ⟨#[]⟩,.int .i64 0]⟩
noncomputable def tyL:List (Nat × TI):=[(3,ty3),(4,ty4),(5,ty5),(9,ty9),(22,ty22),(24,ty24),(25,ty25),(26,ty26),(27,ty27),(28,ty28),(30,ty30),(42,ty42),(45,ty45),(47,ty47),(61,ty61),(65,ty65)]
noncomputable def Ty:Types:=fun t=>(tyL.find? (fun p=>p.1 == t)).map (·.2)
theorem ok3:TyOk Tryd.prog 3 ty3:=TyOk.of (by kernel_rfl) (by kernel_rfl)
theorem Ty_3:Ty 3=some ty3:=by kernel_rfl
theorem ty3_size:ty3.size=1:=rfl
theorem ty3_bytes:ty3.bytes=8:=rfl
theorem ty3_zero:ty3.zero=[.int .i64 0]:=rfl
theorem ty3_agg:ty3.isAgg=false:=by kernel_rfl
theorem kd_3:kd Ty 3 = .int .i64:=by kernel_rfl
theorem ok4:TyOk Tryd.prog 4 ty4:=TyOk.of (by kernel_rfl) (by kernel_rfl)
theorem Ty_4:Ty 4=some ty4:=by kernel_rfl
theorem ty4_size:ty4.size=1:=rfl
theorem ty4_bytes:ty4.bytes=1:=rfl
theorem ty4_zero:ty4.zero=[.bool false]:=rfl
theorem ty4_agg:ty4.isAgg=false:=by kernel_rfl
theorem kd_4:kd Ty 4 = .bool:=by kernel_rfl
theorem ok5:TyOk Tryd.prog 5 ty5:=TyOk.of (by kernel_rfl) (by kernel_rfl)
theorem Ty_5:Ty 5=some ty5:=by kernel_rfl
theorem ty5_size:ty5.size=1:=rfl
theorem ty5_bytes:ty5.bytes=1:=rfl
theorem ty5_zero:ty5.zero=[.int .u8 0]:=rfl
theorem ty5_agg:ty5.isAgg=false:=by kernel_rfl
theorem kd_5:kd Ty 5 = .int .u8:=by kernel_rfl
theorem ok9:TyOk Tryd.prog 9 ty9:=TyOk.of (by kernel_rfl) (by kernel_rfl)
theorem Ty_9:Ty 9=some ty9:=by kernel_rfl
theorem ty9_size:ty9.size=1:=rfl
theorem ty9_bytes:ty9.bytes=16:=rfl
theorem ty9_zero:ty9.zero=[.string ⟨#[]⟩]:=rfl
theorem ty9_agg:ty9.isAgg=false:=by kernel_rfl
theorem kd_9:kd Ty 9 = .string:=by kernel_rfl
theorem ok22:TyOk Tryd.prog 22 ty22:=TyOk.of (by kernel_rfl) (by kernel_rfl)
theorem Ty_22:Ty 22=some ty22:=by kernel_rfl
theorem ty22_size:ty22.size=1:=rfl
theorem ty22_bytes:ty22.bytes=24:=rfl
theorem ty22_zero:ty22.zero=[.slice none 0 0]:=rfl
theorem ty22_agg:ty22.isAgg=false:=by kernel_rfl
theorem kd_22:kd Ty 22 = .slice ty5:=by kernel_rfl
theorem ok24:TyOk Tryd.prog 24 ty24:=TyOk.of (by kernel_rfl) (by kernel_rfl)
theorem Ty_24:Ty 24=some ty24:=by kernel_rfl
theorem ty24_size:ty24.size=1:=rfl
theorem ty24_bytes:ty24.bytes=24:=rfl
theorem ty24_zero:ty24.zero=[.slice none 0 0]:=rfl
theorem ty24_agg:ty24.isAgg=false:=by kernel_rfl
theorem kd_24:kd Ty 24 = .slice ty61:=by kernel_rfl
theorem ok25:TyOk Tryd.prog 25 ty25:=TyOk.of (by kernel_rfl) (by kernel_rfl)
theorem Ty_25:Ty 25=some ty25:=by kernel_rfl
theorem ty25_size:ty25.size=1:=rfl
theorem ty25_bytes:ty25.bytes=24:=rfl
theorem ty25_zero:ty25.zero=[.slice none 0 0]:=rfl
theorem ty25_agg:ty25.isAgg=false:=by kernel_rfl
theorem kd_25:kd Ty 25 = .slice ty42:=by kernel_rfl
theorem ok26:TyOk Tryd.prog 26 ty26:=TyOk.of (by kernel_rfl) (by kernel_rfl)
theorem Ty_26:Ty 26=some ty26:=by kernel_rfl
theorem ty26_size:ty26.size=1:=rfl
theorem ty26_bytes:ty26.bytes=24:=rfl
theorem ty26_zero:ty26.zero=[.slice none 0 0]:=rfl
theorem ty26_agg:ty26.isAgg=false:=by kernel_rfl
theorem kd_26:kd Ty 26 = .slice ty3:=by kernel_rfl
theorem ok27:TyOk Tryd.prog 27 ty27:=TyOk.of (by kernel_rfl) (by kernel_rfl)
theorem Ty_27:Ty 27=some ty27:=by kernel_rfl
theorem ty27_size:ty27.size=1:=rfl
theorem ty27_bytes:ty27.bytes=24:=rfl
theorem ty27_zero:ty27.zero=[.slice none 0 0]:=rfl
theorem ty27_agg:ty27.isAgg=false:=by kernel_rfl
theorem kd_27:kd Ty 27 = .slice ty9:=by kernel_rfl
theorem ok28:TyOk Tryd.prog 28 ty28:=TyOk.of (by kernel_rfl) (by kernel_rfl)
theorem Ty_28:Ty 28=some ty28:=by kernel_rfl
theorem ty28_size:ty28.size=1:=rfl
theorem ty28_bytes:ty28.bytes=24:=rfl
theorem ty28_zero:ty28.zero=[.slice none 0 0]:=rfl
theorem ty28_agg:ty28.isAgg=false:=by kernel_rfl
theorem kd_28:kd Ty 28 = .slice ty65:=by kernel_rfl
theorem ok30:TyOk Tryd.prog 30 ty30:=TyOk.of (by kernel_rfl) (by kernel_rfl)
theorem Ty_30:Ty 30=some ty30:=by kernel_rfl
theorem ty30_size:ty30.size=6:=rfl
theorem ty30_bytes:ty30.bytes=112:=rfl
theorem ty30_zero:ty30.zero=[.int .i64 0,.slice none 0 0,.slice none 0 0,.int .i64 0,.slice none 0 0,.slice none 0 0]:=rfl
theorem ty30_agg:ty30.isAgg=true:=by kernel_rfl
theorem kd_30:kd Ty 30 = .struct [(0,ty3),(1,ty25),(2,ty26),(3,ty3),(4,ty27),(5,ty28)]:=by kernel_rfl
theorem ok42:TyOk Tryd.prog 42 ty42:=TyOk.of (by kernel_rfl) (by kernel_rfl)
theorem Ty_42:Ty 42=some ty42:=by kernel_rfl
theorem ty42_size:ty42.size=3:=rfl
theorem ty42_bytes:ty42.bytes=40:=rfl
theorem ty42_zero:ty42.zero=[.int .i64 0,.int .i64 0,.slice none 0 0]:=rfl
theorem ty42_agg:ty42.isAgg=true:=by kernel_rfl
theorem kd_42:kd Ty 42 = .struct [(0,ty3),(1,ty3),(2,ty26)]:=by kernel_rfl
theorem ok45:TyOk Tryd.prog 45 ty45:=TyOk.of (by kernel_rfl) (by kernel_rfl)
theorem Ty_45:Ty 45=some ty45:=by kernel_rfl
theorem ty45_size:ty45.size=1:=rfl
theorem ty45_bytes:ty45.bytes=8:=rfl
theorem ty45_zero:ty45.zero=[.int .u64 0]:=rfl
theorem ty45_agg:ty45.isAgg=false:=by kernel_rfl
theorem kd_45:kd Ty 45 = .int .u64:=by kernel_rfl
theorem ok47:TyOk Tryd.prog 47 ty47:=TyOk.of (by kernel_rfl) (by kernel_rfl)
theorem Ty_47:Ty 47=some ty47:=by kernel_rfl
theorem ty47_size:ty47.size=3:=rfl
theorem ty47_bytes:ty47.bytes=40:=rfl
theorem ty47_zero:ty47.zero=[.slice none 0 0,.int .i64 0,.int .u64 0]:=rfl
theorem ty47_agg:ty47.isAgg=true:=by kernel_rfl
theorem kd_47:kd Ty 47 = .struct [(0,ty22),(1,ty3),(2,ty45)]:=by kernel_rfl
theorem ok61:TyOk Tryd.prog 61 ty61:=TyOk.of (by kernel_rfl) (by kernel_rfl)
theorem Ty_61:Ty 61=some ty61:=by kernel_rfl
theorem ty61_size:ty61.size=3:=rfl
theorem ty61_bytes:ty61.bytes=32:=rfl
theorem ty61_zero:ty61.zero=[.string ⟨#[]⟩,.int .i64 0,.int .i64 0]:=rfl
theorem ty61_agg:ty61.isAgg=true:=by kernel_rfl
theorem kd_61:kd Ty 61 = .struct [(0,ty9),(1,ty3),(2,ty3)]:=by kernel_rfl
theorem ok65:TyOk Tryd.prog 65 ty65:=TyOk.of (by kernel_rfl) (by kernel_rfl)
theorem Ty_65:Ty 65=some ty65:=by kernel_rfl
theorem ty65_size:ty65.size=2:=rfl
theorem ty65_bytes:ty65.bytes=24:=rfl
theorem ty65_zero:ty65.zero=[.string ⟨#[]⟩,.int .i64 0]:=rfl
theorem ty65_agg:ty65.isAgg=true:=by kernel_rfl
theorem kd_65:kd Ty 65 = .struct [(0,ty9),(1,ty3)]:=by kernel_rfl
theorem Ty_ok:TypesOk Tryd.prog Ty:=by
 have h:∀ p ∈ tyL,TyOk Tryd.prog p.1 p.2:=by
  refine List.forall_mem_cons.2 ⟨ok3,?_⟩
  refine List.forall_mem_cons.2 ⟨ok4,?_⟩
  refine List.forall_mem_cons.2 ⟨ok5,?_⟩
  refine List.forall_mem_cons.2 ⟨ok9,?_⟩
  refine List.forall_mem_cons.2 ⟨ok22,?_⟩
  refine List.forall_mem_cons.2 ⟨ok24,?_⟩
  refine List.forall_mem_cons.2 ⟨ok25,?_⟩
  refine List.forall_mem_cons.2 ⟨ok26,?_⟩
  refine List.forall_mem_cons.2 ⟨ok27,?_⟩
  refine List.forall_mem_cons.2 ⟨ok28,?_⟩
  refine List.forall_mem_cons.2 ⟨ok30,?_⟩
  refine List.forall_mem_cons.2 ⟨ok42,?_⟩
  refine List.forall_mem_cons.2 ⟨ok45,?_⟩
  refine List.forall_mem_cons.2 ⟨ok47,?_⟩
  refine List.forall_mem_cons.2 ⟨ok61,?_⟩
  refine List.forall_mem_cons.2 ⟨ok65,?_⟩
  simp
 intro t i hi
 unfold Ty at hi
 cases hf:tyL.find? (fun p=>p.1 == t) with
 | none=>simp[hf] at hi
 | some p=>
  simp only[hf,Option.map_some,Option.some.injEq] at hi
  have h1:=List.find?_some hf
  have h2:=h p (List.mem_of_find?_eq_some hf)
  simp only[beq_iff_eq] at h1
  rw[← h1,← hi]
  exact h2
attribute [simp] ty3_size ty4_size ty5_size ty9_size ty22_size ty24_size ty25_size ty26_size ty27_size ty28_size ty30_size ty42_size ty45_size ty47_size ty61_size ty65_size ty3_agg ty4_agg ty5_agg ty9_agg ty22_agg ty24_agg ty25_agg ty26_agg ty27_agg ty28_agg ty30_agg ty42_agg ty45_agg ty47_agg ty61_agg ty65_agg ty3_zero ty4_zero ty5_zero ty9_zero ty22_zero ty24_zero ty25_zero ty26_zero ty27_zero ty28_zero ty30_zero ty42_zero ty45_zero ty47_zero ty61_zero ty65_zero Ty_3 Ty_4 Ty_5 Ty_9 Ty_22 Ty_24 Ty_25 Ty_26 Ty_27 Ty_28 Ty_30 Ty_42 Ty_45 Ty_47 Ty_61 Ty_65 kd_3 kd_4 kd_5 kd_9 kd_22 kd_24 kd_25 kd_26 kd_27 kd_28 kd_30 kd_42 kd_45 kd_47 kd_61 kd_65 ty3_bytes ty4_bytes ty5_bytes ty9_bytes ty22_bytes ty24_bytes ty25_bytes ty26_bytes ty27_bytes ty28_bytes ty30_bytes ty42_bytes ty45_bytes ty47_bytes ty61_bytes ty65_bytes
instance:Inhabited Tabs:=⟨⟨fun _ _=>True,fun _ _ _=>trivial⟩⟩
end Go.Ab
/- Contracts of impl.within and (impl.Proc).kids, on abstract values; no conditions but a bound on the length. -/
namespace Go.Ab
open Go.Proofs
section
variable {f:FuncId} {N:Nat} {k:List Item} {ρ:Env} {H:Heap} {n:Nat} {Q:AVal→Heap→Nat→Prop} {id:Nat} {ops:List Oper} {y:Code}
theorem zE (h:∀ k':List Item,(∀ ρ H n,Runs Tryd.prog f N (.code y::k) ρ H n Q→Runs Tryd.prog f N k' ρ H n Q)→evalK Tryd.prog f N k' Q Ty ops.toArray ops ρ H n) (hN:ops.all (fun o=>dok N o.dst)=true:=by decide):Runs Tryd.prog f N (.code (.seq (.region id ops.toArray false) y)::k) ρ H n Q:=Runs.seqE Ty_ok hN h
theorem zF (h:∀ k':List Item,(∀ ρ H n,Runs Tryd.prog f N k ρ H n Q→Runs Tryd.prog f N k' ρ H n Q)→evalK Tryd.prog f N k' Q Ty ops.toArray ops ρ H n) (hN:ops.all (fun o=>dok N o.dst)=true:=by decide):Runs Tryd.prog f N (.code (.region id ops.toArray false)::k) ρ H n Q:=Runs.evalE Ty_ok hN h
end
def within (n lo hi:Int):Bool:=decide (lo≤n) && decide (n≤hi)
theorem within_ok (n lo hi:Int):PureC Tryd.prog 27 [int n,int lo,int hi] (fun r=>r=bool (within n lo hi)):=by
 refine PureC.of Tryd.func27 rfl Tryd.ntmps27 (by simp) fun Q hQ=>?_
 refine Runs.seqE Ty_ok (by decide) fun k' hk'=>?_
 simp
 refine hk' _ _ _ (Runs.seqE Ty_ok (by decide) fun k' hk'=>?_)
 simp
 by_cases h:lo≤n
 all_goals
  simp[h]
  refine hk' _ _ _ (Runs.ret Tryd.func27 (RetOk.one Tryd.results27) (hQ _ _ _ _ (ResOk.v _ _ _) ?_))
  simp[within,h]
structure AmbNode where
 kind:Int
 name:Str
 parent:Int
 deriving Inhabited,DecidableEq
abbrev Proc:=List AmbNode
set_option linter.unusedSimpArgs false
end Go.Ab
/- Contracts of impl.prefixWords and impl.nodeText. -/
namespace Go.Ab
open Go.Proofs
set_option linter.unusedSimpArgs false
theorem draws:Tryd.prog.follows .mixedOrders=true:=by kernel_rfl
theorem e27:Ent Tryd.prog 27:=Ent.of Tryd.func27 (by kernel_rfl) rfl
end Go.Ab
/- The abstract machine, part So: the library's sort of strings, laid on a slice of the caller's own. -/
namespace Go.Ab
open Go.Proofs Go.RowKit
set_option linter.unusedSectionVars false
end Go.Ab
/- The abstract machine, part Sx: regions that draw their order with one call whose result the caller owns; all else stands ahead of it or waits for it. -/
namespace Go.Ab
set_option linter.unusedSectionVars false
variable [Inhabited Tabs]
set_option linter.unusedSectionVars false
set_option linter.unusedVariables false
section
variable (P:Program) (N:Nat) (ops:Array Oper) (κ:Op→Nat) (cix:Nat)
end
section
variable {P:Program} {N:Nat} {ops:Array Oper} {κ:Op→Nat} {cix:Nat}
end
section
variable {P:Program} {f:FuncId} {N:Nat} {k:List Item} {ρ:Env} {H:Heap} {n:Nat} {Q:AVal→Heap→Nat→Prop} {κ:Op→Nat}
end
section
variable (P:Program) (f:FuncId) (N:Nat) (k:List Item) (Q:AVal→Heap→Nat→Prop) (Ty:Types) (κ:Op→Nat) (ops:Array Oper)
end
section
variable {P:Program} {f:FuncId} {N:Nat} {k:List Item} {Q:AVal→Heap→Nat→Prop} {Ty:Types} {κ:Op→Nat} {ops:Array Oper} {o:Oper} {l:List Oper} {ρ:Env} {H:Heap} {n:Nat} {c:Nat}
end
end Go.Ab
/- The abstract machine, part Sy: regions that draw their order, by what is known of the operations that are done. -/
namespace Go.Ab
set_option linter.unusedSectionVars false
variable [Inhabited Tabs]
set_option linter.unusedSectionVars false
set_option linter.unusedVariables false
section
variable {P:Program} {N:Nat} {ops:Array Oper}
end
section
variable {P:Program} {f:FuncId} {N:Nat} {k:List Item} {ρ:Env} {H:Heap} {n:Nat} {Q:AVal→Heap→Nat→Prop}
end
structure Reg where
 m:Nat
 c:Nat
 a:Nat
 st:Nat
 d:Nat
 B:List (Nat × AVal)
 F:List AVal→Nat→List (Nat × Nat × AVal)
 ent:List AVal→List OwnE
 ob0:Ob
 ob1:List AVal→Ob
 RG:List AVal→Prop
 onC:List Nat
 onA:List Nat
 H0:Heap
 n0:Nat
 K:List OwnE
 ids:List Id
section
variable {P:Program} {N:Nat} {ops:Array Oper} {g:Reg}
end
def gv (G:List AVal) (i:Nat):AVal:=G.getD i .undef
@[simp] theorem gv_zero (a : AVal) (l : List AVal) : gv (a :: l) 0 = a := rfl
@[simp] theorem gv_succ (a : AVal) (l : List AVal) (i : Nat) : gv (a :: l) (i + 1) = gv l i := by simp [gv]
theorem OpSem.callD2 {P:Program} {N:Nat} {ρ:Env} {H:Heap} {n:Nat} {d:Option Tmp} {g:Operand} {args:Array Operand} {ats:Array TypeId} {ty:TypeId} {pos:String} {af:Array Edge} {gu:Option (Nat × Bool)} {v:AVal} {f:FuncId} {xs args':List AVal}
  (h:PureC P f args' (fun r=>r=v)) (hent:Ent P f) (ha:ArgsOk H n xs args') (hg:ρ.ev g = .fn (.func f) [] []) (has:args.toList.map ρ.ev=xs) :
  OpSem P N ⟨d,.call ⟨.value g,args,ats⟩,ty,pos,af,gu⟩ (loc (.call ⟨.value g,args,ats⟩) ρ) H n (isV v H n):=OpSem.callD hg hent (has ▸ ha) h
end Go.Ab
/- The abstract machine, part Sz: one row of an own array taken apart: its slices lent to functions that turn them, its plain cells written. -/
namespace Go.Ab
set_option linter.unusedSectionVars false
variable [Inhabited Tabs]
set_option linter.unusedSectionVars false
set_option linter.unusedSimpArgs false
theorem rowsP.focus {R:List AVal→List AVal→List Id→Prop}:∀ {as1 bs:List (List AVal)} {S:List Id} {k:Nat},rowsP R as1 bs S→k<as1.length →
  ∃ A e B A' f B' S1 T S2,as1=A++e::B∧bs=A'++f::B'∧A.length=k∧A'.length=k∧rowsP R A A' S1∧R e f T∧rowsP R B B' S2∧S=S1++(T++S2)∧(∀ i ∈ S1,i ∉ T++S2)∧∀ i ∈ T,i ∉ S2
 | [],_,_,_,_,hk=>by simp at hk
 | _::_,[],_,_,h,_=>h.elim
 | a::as1,b::bs,S,0,h,_=>by
  obtain⟨T1,T2,h1,h2,h3,h4⟩:=h
  exact⟨[],a,as1,[],b,bs,[],T1,T2,rfl,rfl,rfl,rfl,rfl,h1,h2,h3,by simp,h4⟩
 | a::as1,b::bs,S,k+1,h,hk=>by
  obtain⟨T1,T2,h1,h2,rfl,h4⟩:=h
  obtain⟨A,e,B,A',f,B',S1,T,S2,rfl,rfl,l1,l2,r1,r2,r3,rfl,d1,d2⟩:=rowsP.focus h2 (by simpa using hk)
  refine⟨a::A,e,B,b::A',f,B',T1++S1,T,S2,rfl,rfl,by simp[l1],by simp[l2],⟨T1,S1,h1,r1,rfl,fun i hi hm=>h4 i hi (by simp[hm])⟩,r2,r3,by simp,fun i hi hm=>?_,d2⟩
  rcases List.mem_append.1 hi with hi | hi
  ·exact h4 i hi (by simp only[List.mem_append] at hm ⊢;exact .inr hm)
  ·exact d1 i hi hm
section
variable {H:Heap} {n:Nat} {K K1 K2:List OwnE} {ids:List Id} {l:List Sh} {v:AVal} {es:List (List AVal)} {q:Nat}
theorem Sep.unfront {x:OwnE} (h:Sep H n (x::(K1++K2)) ids):Sep H n (K1++x::K2) ids:=by
 have h1:Sep H n (K1++(K2++[x])) ids:=by
  have:=Sep.swap (K1:=[x]) (K2:=K1++K2) h
  simpa using this
 have h2:Sep H n (K2++x::K1) ids:=by
  have:=Sep.swap h1
  simpa using this
 have h3:Sep H n ((x::K2)++K1) ids:=by
  have:=Sep.front h2
  simpa using this
 exact Sep.swap h3
theorem zip3_append:∀ {l1 l2:List Sh} {r1 r2 b1 b2:List AVal},r1.length=l1.length→b1.length=l1.length→zip3 (l1++l2) (r1++r2) (b1++b2)=zip3 l1 r1 b1++zip3 l2 r2 b2
 | [],_,[],_,[],_,_,_=>rfl
 | t::l1,l2,a::r1,r2,b::b1,b2,h1,h2=>by simp only[List.cons_append,zip3,zip3_append (l1:=l1) (by simpa using h1) (by simpa using h2)]
 | [],_,_::_,_,_,_,h,_=>by simp at h
 | [],_,_,_,_::_,_,_,h=>by simp at h
 | _::_,_,[],_,_,_,h,_=>by simp at h
 | _::_,_,_,_,[],_,_,h=>by simp at h
theorem Sep.row {bs:List AVal} (h:Sep H n ((.s l,v,.list true es)::K) ids) (he:es[q]?=some bs) :
  ∃ id els row W,v = .arr id es.length 0 es.length∧H id=some ⟨l.length,els⟩∧els.length=es.length∧els[q]?=some row∧row.length=l.length∧bs.length=l.length∧id ∈ W∧(∀ i ∈ ids,i ∈ W)∧id ∉ ids∧Sep H n (zip3 l row bs) W ∧
   ∀ H1 n1 row' bs',Sep H1 n1 (zip3 l row' bs') W→row'.length=l.length→bs'.length=l.length→(∀ i ∈ W,i ≠ id→H1 i=H i)→H1 id=some ⟨l.length,els.set q row'⟩→n≤n1→Sep H1 n1 ((.s l,v,.list true (es.set q bs'))::K) ids:=by
 obtain⟨h0,S,h1,h2⟩:=h
 simp only[List.map_cons,Go.Ab.Row,Go.Ab.Tr] at h1
 obtain⟨S1,S2,h3,h4,rfl,h5⟩:=h1
 have hq:q<es.length:=(List.getElem?_eq_some_iff.1 he).1
 rcases h3 with ⟨rfl,hh,rfl⟩ | ⟨id,els,es',T,rfl,hh,q3,q4,q5,rfl⟩
 ·injection hh with _ hh
  subst hh
  simp at hq
 ·injection hh with _ hh
  subst hh
  have hel:=q4.len
  obtain⟨A,row,B,A',f,B',SA,SR,SB,rfl,rfl,lA,lA',rA,rR,rB,rfl,d1,d2⟩:=rowsP.focus (k:=q) q4 (by omega)
  have hf:f=bs:=by
   rw[List.getElem?_append_right (by omega),lA',Nat.sub_self] at he
   simpa using he
  subst hf
  have hrl:=rR.len
  obtain⟨z1,z2,z3⟩:=zip3_maps hrl.1 hrl.2
  simp only[List.mem_append,List.mem_cons,not_or] at h2 h5 q5 d1 d2
  refine⟨id,A++row::B,row,ids++(id::(SA++(SB++S2))),by simp only[hel],q3,hel,by rw[List.getElem?_append_right (by omega),lA,Nat.sub_self];rfl,hrl.1,hrl.2,by simp,fun i hi=>by simp[hi],(h2 id (.inl (.inl rfl))).2,?_,?_⟩
  ·refine⟨fun i hi=>?_,SR,by rw[z1,z2,z3];exact rR,fun i hi=>⟨(h2 i (.inl (.inr (.inr (.inl hi))))).1,?_⟩⟩
   ·simp only[List.mem_append,List.mem_cons] at hi
    rcases hi with hi | hi | hi | hi | hi
    ·exact h0 i hi
    ·exact (h2 i (.inl (.inl hi))).1
    ·exact (h2 i (.inl (.inr (.inl hi)))).1
    ·exact (h2 i (.inl (.inr (.inr (.inr hi))))).1
    ·exact (h2 i (.inr hi)).1
   ·simp only[List.mem_append,List.mem_cons,not_or]
    refine⟨(h2 i (.inl (.inr (.inr (.inl hi))))).2,?_,fun hm=>(d1 i hm).1 hi,fun hm=>d2 i hi hm,fun hm=>h5 i (.inr (.inr (.inl hi))) hm⟩
    rintro rfl
    exact q5.2.1 hi
  ·intro H1 n1 row' bs' hs lr lb hfr hid hn
   obtain⟨y1,y2,y3⟩:=zip3_maps lr lb
   obtain⟨k0,X,k1,k2⟩:=hs
   rw[y1,y2,y3] at k1
   simp only[List.mem_append,List.mem_cons,not_or] at k2 hfr
   have nid:∀ i,i ∈ SA∨i ∈ SB∨i ∈ S2→i ≠ id:=by
    rintro i (hi | hi | hi) rfl
    ·exact q5.1 hi
    ·exact q5.2.2 hi
    ·exact h5 i (.inl rfl) hi
   have fr:∀ i,i ∈ SA∨i ∈ SB∨i ∈ S2→H1 i=H i:=fun i hi=>hfr i (.inr (.inr hi)) (nid i hi)
   have hrows:rowsP (Row H1 l) (A++row'::B) (A'++bs'::B') (SA++(X++SB)):=by
    refine rowsP.append (rA.mono fun e f T hr hs=>hr.frame fun i hi=>fr i (.inl (hs i hi))) ⟨X,SB,k1,rB.mono fun e f T hr hs=>hr.frame fun i hi=>fr i (.inr (.inl (hs i hi))),rfl,fun i hi hm=>(k2 i hi).2.2.2.2.1 hm⟩ (fun i hi hm=>?_)
    rcases List.mem_append.1 hm with hm | hm
    ·exact (k2 i hm).2.2.2.1 hi
    ·exact (d1 i hi).2 hm
   have hset:(A++row::B).set q row'=A++row'::B:=by
    rw[List.set_append_right _ _ (by omega),lA,Nat.sub_self];rfl
   have hset':(A'++f::B').set q bs'=A'++bs'::B':=by
    rw[List.set_append_right _ _ (by omega),lA',Nat.sub_self];rfl
   rw[hset] at hid
   refine⟨fun i hi=>by have:=h0 i hi;omega,(id::(SA++(X++SB)))++S2,?_,fun i hi=>?_⟩
   ·simp only[List.map_cons,Go.Ab.Row,Go.Ab.Tr]
    refine⟨id::(SA++(X++SB)),S2,.inr ⟨id,A++row'::B,A'++bs'::B',SA++(X++SB),by simp,by rw[hset'],hid,hrows,?_,rfl⟩,h4.frame fun i hi=>fr i (.inr (.inr hi)),rfl,fun i hi hm=>?_⟩
    ·simp only[List.mem_append,not_or]
     exact⟨q5.1,fun hm=>(k2 id hm).2.2.1 rfl,q5.2.2⟩
    ·simp only[List.mem_cons,List.mem_append] at hi
     rcases hi with rfl | hi | hi | hi
     ·exact h5 _ (.inl rfl) hm
     ·exact h5 i (.inr (.inl hi)) hm
     ·exact (k2 i hi).2.2.2.2.2 hm
     ·exact h5 i (.inr (.inr (.inr hi))) hm
   ·simp only[List.mem_cons,List.mem_append] at hi
    rcases hi with (rfl | hi | hi | hi) | hi
    ·have:=h2 _ (.inl (.inl rfl));exact⟨by omega,this.2⟩
    ·have:=h2 i (.inl (.inr (.inl hi)));exact⟨by omega,this.2⟩
    ·exact⟨(k2 i hi).1,(k2 i hi).2.1⟩
    ·have:=h2 i (.inl (.inr (.inr (.inr hi))));exact⟨by omega,this.2⟩
    ·have:=h2 i (.inr hi);exact⟨by omega,this.2⟩
theorem Sep.setCell {i:TI} {lpre lpost:List Sh} {pre post:List AVal} {a:AVal} {b:Value} (h:Sep H n ((.s (lpre++.c::lpost),v,.list true es)::K) ids) (he:es[q]?=some (pre++a::post)) (hp:pre.length=lpre.length) (hi:i.size=1) (hb:Ab.one1 (.v b)=true) :
  ∃ id H',v = .arr id es.length 0 es.length∧storeF (some i) (.ptr id es.length q lpre.length) (some [.v b]) H=some H'∧Sep H' n ((.s (lpre++.c::lpost),v,.list true (es.set q (pre++.v b::post)))::K) ids∧∀ i ∈ ids,H' i=H i:=by
 obtain⟨id,els,row,W,h1,h2,h3,h4,h5,h6,h7,h8,h9,h10,h11⟩:=h.row he
 have hq:q<es.length:=(List.getElem?_eq_some_iff.1 he).1
 have hoff:lpre.length<row.length:=by rw[h5];simp
 have hw:Ob.write ⟨(lpre++.c::lpost).length,els⟩ q lpre.length [.v b]=⟨(lpre++.c::lpost).length,els.set q (row.take lpre.length++.v b::row.drop (lpre.length+1))⟩:=by
  simp[Ob.write,List.getD,h4,splice]
 have hrow:row=row.take lpre.length++row[lpre.length]::row.drop (lpre.length+1):=by
  rw[List.getElem_cons_drop,List.take_append_drop]
 have hl':(row.take lpre.length++.v b::row.drop (lpre.length+1)).length=(lpre++.c::lpost).length:=by
  rw[← h5];simp;omega
 refine⟨id,H.set id (Ob.write ⟨(lpre++.c::lpost).length,els⟩ q lpre.length [.v b]),h1,?_,?_,fun j hj=>Heap.get_set_ne _ _ (by rintro rfl;exact h9 hj)⟩
 ·simp only[storeF,live,h2,h3,↓reduceIte]
  rw[if_pos ⟨by simp[hi],by omega,by simp,by simp only[List.all_cons,List.all_nil,hb,Bool.and_true]⟩]
 ·refine h11 _ n _ _ ?_ hl' (by simpa using h6) (fun j _ hj=>Heap.get_set_ne _ _ hj) (by rw[hw,Heap.get_set_self]) (Nat.le_refl n)
  refine Sep.setVar ?_ h7
  rw[hrow] at h10
  rw[zip3_append (by simp;omega) hp] at h10 ⊢
  simp only[zip3] at h10 ⊢
  have:=Sep.front h10
  exact Sep.unfront (Sep.addScalar b (Sep.right (K1:=[_]) this))
theorem Sep.cAt {a:AVal} {b:Value} (h:Sep H n (K1++(.c,a,.v b)::K2) ids):a = .v b:=(Sep.scalar (Sep.front h)).1
theorem set_same {α:Type} {l:List α} {k:Nat} {x:α} (h:l[k]?=some x):l.set k x=l:=by
 obtain⟨hk,rfl⟩:=List.getElem?_eq_some_iff.1 h
 exact List.set_getElem_self hk
theorem at_some' {α:Type} [Inhabited α] {f:α→List AVal} {xs:List α} {i:Int} {x:α} {q:Nat} (hb:0≤i∧i<xs.length) (hx:x=at' xs i) (hq:q=i.toNat):(xs.map f)[q]?=some (f x):=by
 obtain⟨hlt,hg⟩:=at_get hb hx
 subst hq
 simp[hlt,hg]
theorem Sep.rowF {α:Type} [Inhabited α] {f:α→List AVal} {xs:List α} {x:α} {i:Int} (h:Sep H n ((.s l,v,.list true (xs.map f))::K) ids) (hb:0≤i∧i<xs.length) (hx:x=at' xs i) (hq:q=i.toNat) :
  ∃ id els row W,v = .arr id xs.length 0 xs.length∧H id=some ⟨l.length,els⟩∧els.length=xs.length∧els[q]?=some row∧row.length=l.length∧id ∈ W∧(∀ i ∈ ids,i ∈ W)∧id ∉ ids∧Sep H n (zip3 l row (f x)) W ∧
   ∀ H1 n1 y,Sep H1 n1 (zip3 l row (f y)) W→(f y).length=l.length→(∀ i ∈ W,H1 i=H i)→n≤n1→Sep H1 n1 ((.s l,v,.list true ((xs.set q y).map f))::K) ids:=by
 obtain⟨id,els,row,W,h1,h2,h3,h4,h5,h6,h7,h8,h9,h10,h11⟩:=h.row (at_some' hb hx hq)
 refine⟨id,els,row,W,by simpa using h1,h2,by simpa using h3,h4,h5,h7,h8,h9,h10,fun H1 n1 y k1 k2 k3 k4=>?_⟩
 rw[List.map_set]
 exact h11 H1 n1 row (f y) k1 h5 k2 (fun i hi _=>k3 i hi) (by rw[k3 id h7,h2,set_same h4]) k4
end
section
variable {P:Program} {f':FuncId} {N:Nat} {k:List Item} {Q:AVal→Heap→Nat→Prop} {Ty:Types} {ops:Array Oper} {L:List Oper} {ρ:Env} {H:Heap} {n:Nat} {K:List OwnE} {ids:List Id} {l:List Sh} {o:Oper}
variable {α:Type} [Inhabited α] {id:Id} {g q off:Nat} {ix:Int} {i:TI} {b:Value} {xs:List α} {f:α→List AVal} {x y:α}
theorem cell_store (lpre lpost:List Sh) (pre post:List AVal) {a:AVal} (h:Sep H n ((.s l,.arr id g 0 g,.list true (xs.map f))::K) ids) (hl:l=lpre++.c::lpost) (hi:i.size=1) (hb:0≤ix∧ix<xs.length) (hx:x=at' xs ix) (hq:q=ix.toNat) (hg:g=xs.length)
  (hf:f x=pre++a::post) (hy:f y=pre++.v b::post) (hp:pre.length=lpre.length) (ho:off=lpre.length) (h1:Ab.one1 (.v b)=true) :
  ∃ H',storeF (some i) (.ptr id g q off) (some [.v b]) H=some H'∧Sep H' n ((.s l,.arr id g 0 g,.list true ((xs.set q y).map f))::K) ids∧∀ i ∈ ids,H' i=H i:=by
 subst hl ho
 obtain⟨id',H',e,h2,h3,h4⟩:=Sep.setCell (i:=i) (b:=b) h ((at_some' hb hx hq).trans (congrArg some hf)) hp hi h1
 injection e with e1 e2 e3 e4
 subst e1
 rw[List.length_map] at h2
 subst hg
 refine⟨H',h2,?_,h4⟩
 rw[List.map_set,hy]
 exact h3
theorem bind_cell (lpre lpost:List Sh) (pre post:List AVal) {a:AVal} (h:Sep H n ((.s l,.arr id g 0 g,.list true (xs.map f))::K) ids) (hl:l=lpre++.c::lpost) (hi:i.size=1) (hb:0≤ix∧ix<xs.length) (hx:x=at' xs ix) (hq:q=ix.toNat) (hg:g=xs.length)
  (hf:f x=pre++a::post) (hy:f y=pre++.v b::post) (hp:pre.length=lpre.length) (ho:off=lpre.length) (h1:Ab.one1 (.v b)=true)
  (hc:∀ H',Sep H' n ((.s l,.arr id g 0 g,.list true ((xs.set q y).map f))::K) ids→(∀ i ∈ ids,H' i=H i)→evalK P f' N k Q Ty ops L (ρ.put o.dst .undef) H' n) :
  bindE P f' N k Q Ty ops (match storeF (some i) (.ptr id g q off) (some [.v b]) H with | some H'=>some (AVal.undef,H',n) | none=>none) o L ρ H n:=by
 obtain⟨H',e,h2,h3⟩:=cell_store (i:=i) (b:=b) (y:=y) lpre lpost pre post h hl hi hb hx hq hg hf hy hp ho h1
 rw[e]
 exact (bindE_some (v:=AVal.undef) (H':=H') (n':=n)).symm ▸ hc H' h2 h3
end
end Go.Ab
/- The abstract machine, part Sm: regions that draw their order and make arrays of the call's own out of told elements. -/
namespace Go.Ab
set_option linter.unusedSectionVars false
variable [Inhabited Tabs]
set_option linter.unusedSectionVars false
set_option linter.unusedSimpArgs false
set_option linter.unusedVariables false
def Stamp (H:Heap) (n:Nat):Prop:=∀ i o,H i=some o→i.1<n
def Ext (H H':Heap):Prop:=∀ i o,H i=some o→H' i=some o
theorem Stamp.set {H:Heap} {n d:Nat} {o:Ob} (h:Stamp H n):Stamp (H.set (n,d) o) (n+1):=fun i o' ho=>by
 simp only[Heap.set] at ho
 split at ho
 ·rename_i he;subst he;exact Nat.lt_succ_self _
 ·have:=h i o' ho;omega
theorem Ext.new {H:Heap} {n d:Nat} {o:Ob} (h:Stamp H n):Ext H (H.set (n,d) o):=fun i o' ho=>by
 rw[Heap.get_set_ne]
 ·exact ho
 ·rintro rfl
  have:=h _ _ ho
  simp at this
def kindX:Op→Nat
 | .buildSlice _ len _=>if len=0 then 2 else 3
 | op=>kindOp op
def ownF (Ty:Types) (d:Option Nat) (op:Op) (ρ:Env) (H:Heap) (n:Nat):Option (AVal × Heap × Nat):=
 match op with
 | .buildSlice t len ps=>match kd Ty t,d with
  | .slice j,some d=>
   if len ≠ 0∧len * j.size≤16777216∧j.size ≠ 0∧j.zero.length=j.size then
    (fillA (fun k=>some (k * j.size,j.size)) ((List.replicate len (j.zero.map AVal.v)).flatten) (ps.toList.map fun p=>(p.1,ρ.ev p.2))).map fun cs=>(.arr (n,d) len 0 len,H.set (n,d) ⟨j.size,chunks j.size len cs⟩,n+1)
   else none
  | _,_=>none
 | _=>none
section
variable {P:Program} {N:Nat} {Ty:Types} {ρ:Env} {H H':Heap} {n n':Nat} {d:Option Nat} {ty:TypeId} {pos:String} {af:Array Edge} {gu:Option (Nat × Bool)}
theorem step_buildOwn (hT:TypesOk P Ty) {t:TypeId} {j:TI} {ps:Array (Nat × Operand)} {len k:Nat} {cs:List AVal} (hkd:kd Ty t = .slice j) (h0:len ≠ 0) (h1:len * j.size≤16777216) (h2:j.size ≠ 0) (h3:j.zero.length=j.size)
  (hf:fillA (fun k=>some (k * j.size,j.size)) ((List.replicate len (j.zero.map AVal.v)).flatten) (ps.toList.map fun p=>(p.1,ρ.ev p.2))=some cs) :
  OpSem P N ⟨some k,.buildSlice t len ps,ty,pos,af,gu⟩ ρ H n fun v1 H1 n1=>v1 = .arr (n,k) len 0 len∧H1=H.set (n,k) ⟨j.size,chunks j.size len cs⟩∧n1=n+1:=by
 refine OpSem.of_value fun c a hH hn g r=>?_
 subst hH hn
 obtain⟨i,e,hi,hd,hj⟩:=kd_slice hkd
 have hde:=(hT t i hi).run_desc c.w
 have hsz:=(hT e j hj).run_size c.w
 obtain⟨zv,hz,hzc⟩:=(hT e j hj).run_zero c.w
 have hrep0:RepL c ((List.replicate len (j.zero.map AVal.v)).flatten) ((List.replicate len j.zero).flatten):=by
  have:(List.replicate len (j.zero.map AVal.v)).flatten=((List.replicate len j.zero).flatten).map .v:=by
   rw[List.map_flatten,List.map_replicate]
  rw[this]
  exact RepL.ofV c _
 obtain⟨vs',hr,hl⟩:=fill_ok r ps.toList _ _ cs hrep0 hf
 have hrun:(execOp a.eval ⟨some k,.buildSlice t len ps,ty,pos,af,gu⟩).run P c.w = .ok (.value (.slice (some ⟨c.w.heap.size,0,none⟩) len len)) { c.w with heap:=c.w.heap.push (.cells vs'.toArray e) }:=by
  have hlz:len * j.size ≠ 0:=Nat.mul_ne_zero h0 h2
  have hzr:=zero_rows (z:=j.zero) len (by omega)
  rw[h3] at hzr
  have hps:(ps.map fun (p:Nat × Operand)=>(p.1,a.eval p.2)).toList=ps.toList.map fun p=>(p.1,a.eval p.2):=by simp
  have hbig:¬ (16777216<len * j.size):=by omega
  simp only[execOp,Instr.buildSlice,Sem.run_bind,hde,hd,Result.andThen_ok,hsz]
  simp only[Nat.reducePow,gt_iff_lt,hbig,if_false,hlz,Sem.run_pure,Sem.run_bind,hz,Result.andThen_ok,hzc,hzr,hps,hr]
  simp[newRow]
 have hlen:cs.length=len * j.size:=by
  have:=step_buildSlice.fillA_length hf
  rw[this]
  simp[h3]
 have hcl:(chunks j.size len cs).length=len:=by simp[chunks]
 have hh:Holds c vs'.toArray ⟨j.size,chunks j.size len cs⟩:=by
  refine⟨by simp only[hcl,List.size_toArray];rw[← hl.1,hlen];exact Nat.le_refl _,fun q e' he=>?_⟩
  obtain⟨hp,hes,hq⟩:=chunks_get he hlen
  refine⟨hes,fun p y hy=>?_⟩
  obtain⟨hq1,hq2⟩:=hq p y hy
  have hlt:=(List.getElem?_eq_some_iff.1 hq2).1
  have hl1:=hl.1
  have hv:vs'[q * j.size+p]?=some (vs'[q * j.size+p]'(by omega)):=List.getElem?_eq_getElem (by omega)
  exact⟨_,by first | (simp;done) | simpa using hv,hl.2 _ _ _ hq2 hv⟩
 have hk2:=new_ob g k ⟨j.size,chunks j.size len cs⟩ vs'.toArray e hh
 refine⟨.arr (c.n,k) len 0 len,_,_,hrun,⟨rfl,?_,?_⟩,?_,hk2.2,hk2.1⟩
 ·rfl
 ·rfl
 ·refine .arr _ _ _ _ _ rfl (by simp) ?_ ?_
  ·intro o ho
   simp[Heap.set] at ho
   subst ho
   simp[hcl]
  ·intro o ho _
   simp[Heap.set] at ho
   subst ho
   refine⟨by omega,_,_,rfl,by simp,rfl,Nat.le_refl _,.inl (by simp),fun cl el fz hcl=>?_⟩
   simp at hcl
   obtain⟨rfl,_,_⟩:=hcl
   have:=hl.1
   simp;omega
theorem ownF_some {op:Op} {v:AVal} (h:ownF Ty d op ρ H n=some (v,H',n')):∃ t len ps j k cs,op = .buildSlice t len ps∧d=some k∧kd Ty t = .slice j∧(len ≠ 0∧len * j.size≤16777216∧j.size ≠ 0∧j.zero.length=j.size) ∧
  fillA (fun k=>some (k * j.size,j.size)) ((List.replicate len (j.zero.map AVal.v)).flatten) (ps.toList.map fun p=>(p.1,ρ.ev p.2))=some cs∧v = .arr (n,k) len 0 len∧H'=H.set (n,k) ⟨j.size,chunks j.size len cs⟩∧n'=n+1:=by
 cases op with
 | buildSlice t len ps=>
  simp only[ownF] at h
  split at h
  ·rename_i j k hk
   split at h
   ·rename_i hc
    simp only[Option.map_eq_some_iff,Prod.mk.injEq] at h
    obtain⟨cs,hf,rfl,rfl,rfl⟩:=h
    exact⟨t,len,ps,j,k,cs,rfl,rfl,hk,hc,hf,rfl,rfl,rfl⟩
   ·cases h
  ·cases h
 | _=>cases h
theorem ownF_ok (hT:TypesOk P Ty) {o:Oper} {v:AVal} (h:ownF Ty o.dst o.op ρ H n=some (v,H',n')):OpSem P N o ρ H n (isV v H' n')∧(Stamp H n→Stamp H' n'∧Ext H H'):=by
 obtain⟨d,op,ty,pos,af,gu⟩:=o
 obtain⟨t,len,ps,j,k,cs,rfl,rfl,hk,⟨h0,h1,h2,h3⟩,hf,rfl,rfl,rfl⟩:=ownF_some h
 exact⟨step_buildOwn hT hk h0 h1 h2 h3 hf,fun hs=>⟨hs.set,Ext.new hs⟩⟩
end
section
variable (P:Program) (N:Nat) (ops:Array Oper)
def StepX (o:Oper) (s s':AS):Prop:=
 (gok ops o s.1=some true∧∃ v,s'.1=s.1.put o.dst v∧(kindX o.op=0→s'.2=s.2∧∀ H n,OpSem P N o (loc o.op s.1) H n (isV v H n))∧(kindX o.op=1→s'.2=s.2∧∀ H n,Ext s.2.1 H→s.2.2≤n→OpSem P N o (loc o.op s.1) H n (isV v H n)) ∧
   (Stamp s.2.1 s.2.2→Stamp s'.2.1 s'.2.2∧(kindX o.op=3→Ext s.2.1 s'.2.1∧s.2.2≤s'.2.2))∧OpSem P N o (loc o.op s.1) s.2.1 s.2.2 (isV v s'.2.1 s'.2.2)) ∨
 (gok ops o s.1=some false∧s'=(s.1.put o.dst skv,s.2))
def RunX (R:AS→Prop):List Oper→AS→Prop
 | [],s=>R s
 | o::l,s=>∃ s',StepX P N ops o s s'∧RunX R l s'
end
section
variable {P:Program} {N:Nat} {ops:Array Oper}
end
section
variable {P:Program} {f:FuncId} {N:Nat} {k:List Item} {ρ:Env} {H:Heap} {n:Nat} {Q:AVal→Heap→Nat→Prop}
end
def stepM (Ty:Types) (M:List Nat) (d:Option Nat) (op:Op) (ρ:Env) (H:Heap) (n:Nat):Option (AVal × Heap × Nat):=
 match d with
 | some t=>if M.contains t then ownF Ty d op ρ H n else stepF Ty d op ρ H n
 | none=>stepF Ty d op ρ H n
section
variable (P:Program) (f:FuncId) (N:Nat) (k:List Item) (Q:AVal→Heap→Nat→Prop) (Ty:Types) (M:List Nat) (ops:Array Oper)
def RunXK (l:List Oper) (ρ:Env) (H:Heap) (n:Nat):Prop:=RunX P N ops (fun s=>Runs P f N k s.1 s.2.1 s.2.2 Q) l (ρ,H,n)
mutual
def evalM:List Oper→Env→Heap→Nat→Prop
 | [],ρ,H,n=>Runs P f N k ρ H n Q
 | o::l,ρ,H,n=>o.guard=none∧bindM (stepM Ty M o.dst o.op ρ H n) o l ρ H n
 termination_by l=>(l.length,0)
def bindM:Option (AVal × Heap × Nat)→Oper→List Oper→Env→Heap→Nat→Prop
 | some (v,H',n'),o,l,ρ,_,_=>evalM l (ρ.put o.dst v) H' n'
 | none,o,l,ρ,H,n=>RunXK P f N k Q ops (o::l) ρ H n
 termination_by _ _ l=>(l.length,1)
end
end
section
variable {P:Program} {f:FuncId} {N:Nat} {k:List Item} {Q:AVal→Heap→Nat→Prop} {Ty:Types} {M:List Nat} {ops:Array Oper} {o:Oper} {L:List Oper} {ρ:Env} {H:Heap} {n:Nat}
end
section
variable {P:Program} {f f':FuncId} {N:Nat} {k:List Item} {Q:AVal→Heap→Nat→Prop} {Ty:Types} {M:List Nat} {ops:Array Oper} {L:List Oper} {ρ:Env} {H H':Heap} {n n':Nat} {K K1 K2:List OwnE} {ids:List Id} {t:TypeId} {j:TI} {l:List Sh} {v:AVal} {es:List (List AVal)} {o:Oper}
end
end Go.Ab
