/- Merged texts (4 of 18) of the proof that ends in Cuy: Ty X P So Sx. -/
import Derived.Test.YtbikfokhjdjfpaaGreatDoorAbQcu3
import Derived.Test.YtbikfokhjdjfpaaGreatDoorProg
import Derived.KernelRfl
import Derived.Shelf.Sort.Plain
/- The seat's types: what the model's table says of each, as plain data. By program. -/
namespace Go.Ab
open Go.Proofs
theorem TyOk.of {P:Program} {t:TypeId} {s b:Nat} {z:List Value} (h:(P.underlying t).isSome=true) (h2:(P.info? t).map (fun i=>(i.size,i.bytes,i.zero.map Value.cells))=some (s,b,some z.toArray)):TyOk P t ⟨(P.underlying t).getD .invalid,s,b,z⟩:=by
 refine⟨?_,?_⟩
 ·cases hu:P.underlying t with
  | none=>simp[hu] at h
  | some d=>rfl
 cases hi:P.info? t with
 | none=>simp[hi] at h2
 | some info=>
  simp only[hi,Option.map_some,Option.some.injEq,Prod.mk.injEq,Option.map_eq_some_iff] at h2
  obtain⟨h3,h4,zv,h5,h6⟩:=h2
  exact⟨info,zv,rfl,h3,h4,h5,h6⟩
noncomputable def ty1:TI:=⟨(Tryz.prog.underlying 1).getD .invalid,1,8,[.nilFunc]⟩
noncomputable def ty2:TI:=⟨(Tryz.prog.underlying 2).getD .invalid,1,8,[.int .i64 0]⟩
noncomputable def ty3:TI:=⟨(Tryz.prog.underlying 3).getD .invalid,1,8,[.int .i64 0]⟩
noncomputable def ty4:TI:=⟨(Tryz.prog.underlying 4).getD .invalid,1,1,[.bool false]⟩
noncomputable def ty5:TI:=⟨(Tryz.prog.underlying 5).getD .invalid,1,1,[.int .u8 0]⟩
noncomputable def ty9:TI:=⟨(Tryz.prog.underlying 9).getD .invalid,1,16,[.string ⟨#[]⟩]⟩
noncomputable def ty21:TI:=⟨(Tryz.prog.underlying 21).getD .invalid,1,4,[.int .i32 0]⟩
noncomputable def ty22:TI:=⟨(Tryz.prog.underlying 22).getD .invalid,1,24,[.slice none 0 0]⟩
noncomputable def ty23:TI:=⟨(Tryz.prog.underlying 23).getD .invalid,1,24,[.slice none 0 0]⟩
noncomputable def ty24:TI:=⟨(Tryz.prog.underlying 24).getD .invalid,1,24,[.slice none 0 0]⟩
noncomputable def ty25:TI:=⟨(Tryz.prog.underlying 25).getD .invalid,1,24,[.slice none 0 0]⟩
noncomputable def ty26:TI:=⟨(Tryz.prog.underlying 26).getD .invalid,1,24,[.slice none 0 0]⟩
noncomputable def ty28:TI:=⟨(Tryz.prog.underlying 28).getD .invalid,6,112,[.int .i64 0,.slice none 0 0,.slice none 0 0,.int .i64 0,.slice none 0 0,.slice none 0 0]⟩
noncomputable def ty31:TI:=⟨(Tryz.prog.underlying 31).getD .invalid,1,24,[.slice none 0 0]⟩
noncomputable def ty32:TI:=⟨(Tryz.prog.underlying 32).getD .invalid,1,24,[.slice none 0 0]⟩
noncomputable def ty34:TI:=⟨(Tryz.prog.underlying 34).getD .invalid,6,112,[.int .i64 0,.slice none 0 0,.slice none 0 0,.int .i64 0,.slice none 0 0,.slice none 0 0]⟩
noncomputable def ty37:TI:=⟨(Tryz.prog.underlying 37).getD .invalid,1,24,[.slice none 0 0]⟩
noncomputable def ty63:TI:=⟨(Tryz.prog.underlying 63).getD .invalid,3,32,[.string ⟨#[]⟩,.int .i64 0,.int .i64 0]⟩
noncomputable def ty70:TI:=⟨(Tryz.prog.underlying 70).getD .invalid,3,32,[.string ⟨#[]⟩,.int .i64 0,.int .i64 0]⟩
noncomputable def ty72:TI:=⟨(Tryz.prog.underlying 72).getD .invalid,3,40,[.int .i64 0,.int .i64 0,.slice none 0 0]⟩
noncomputable def ty83:TI:=⟨(Tryz.prog.underlying 83).getD .invalid,1,24,[.slice none 0 0]⟩
noncomputable def ty86:TI:=⟨(Tryz.prog.underlying 86).getD .invalid,2,16,[.int .i64 0,.int .i64 0]⟩
noncomputable def ty91:TI:=⟨(Tryz.prog.underlying 91).getD .invalid,2,24,[.string ⟨#[]⟩,.int .i64 0]⟩
noncomputable def ty113:TI:=⟨(Tryz.prog.underlying 113).getD .invalid,3,40,[.int .i64 0,.int .i64 0,.slice none 0 0]⟩
noncomputable def ty115:TI:=⟨(Tryz.prog.underlying 115).getD .invalid,2,24,[.string ⟨#[]⟩,.int .i64 0]⟩
noncomputable def ty117:TI:=⟨(Tryz.prog.underlying 117).getD .invalid,1,24,[.slice none 0 0]⟩
noncomputable def ty133:TI:=⟨(Tryz.prog.underlying 133).getD .invalid,1,24,[.slice none 0 0]⟩
noncomputable def tyL:List (Nat × TI):=[(1,ty1),(2,ty2),(3,ty3),(4,ty4),(5,ty5),(9,ty9),(21,ty21),(22,ty22),(23,ty23),(24,ty24),(25,ty25),(26,ty26),(28,ty28),(31,ty31),(32,ty32),(34,ty34),(37,ty37),(63,ty63),(70,ty70),(72,ty72),(83,ty83),(86,ty86),(91,ty91),(113,ty113),(115,ty115),(117,ty117),(133,ty133)]
noncomputable def Ty:Types:=fun t=>(tyL.find? (fun p=>p.1 == t)).map (·.2)
theorem ok1:TyOk Tryz.prog 1 ty1:=TyOk.of (by kernel_rfl) (by kernel_rfl)
theorem ok2:TyOk Tryz.prog 2 ty2:=TyOk.of (by kernel_rfl) (by kernel_rfl)
theorem ok3:TyOk Tryz.prog 3 ty3:=TyOk.of (by kernel_rfl) (by kernel_rfl)
theorem Ty_3:Ty 3=some ty3:=by kernel_rfl
theorem ty3_size:ty3.size=1:=rfl
theorem ty3_bytes:ty3.bytes=8:=rfl
theorem ty3_zero:ty3.zero=[.int .i64 0]:=rfl
theorem ty3_agg:ty3.isAgg=false:=by kernel_rfl
theorem kd_3:kd Ty 3 = .int .i64:=by kernel_rfl
theorem ok4:TyOk Tryz.prog 4 ty4:=TyOk.of (by kernel_rfl) (by kernel_rfl)
theorem Ty_4:Ty 4=some ty4:=by kernel_rfl
theorem ty4_size:ty4.size=1:=rfl
theorem ty4_bytes:ty4.bytes=1:=rfl
theorem ty4_zero:ty4.zero=[.bool false]:=rfl
theorem ty4_agg:ty4.isAgg=false:=by kernel_rfl
theorem kd_4:kd Ty 4 = .bool:=by kernel_rfl
theorem ok5:TyOk Tryz.prog 5 ty5:=TyOk.of (by kernel_rfl) (by kernel_rfl)
theorem Ty_5:Ty 5=some ty5:=by kernel_rfl
theorem ty5_size:ty5.size=1:=rfl
theorem ty5_bytes:ty5.bytes=1:=rfl
theorem ty5_zero:ty5.zero=[.int .u8 0]:=rfl
theorem ty5_agg:ty5.isAgg=false:=by kernel_rfl
theorem kd_5:kd Ty 5 = .int .u8:=by kernel_rfl
theorem ok9:TyOk Tryz.prog 9 ty9:=TyOk.of (by kernel_rfl) (by kernel_rfl)
theorem Ty_9:Ty 9=some ty9:=by kernel_rfl
theorem ty9_size:ty9.size=1:=rfl
theorem ty9_bytes:ty9.bytes=16:=rfl
theorem ty9_zero:ty9.zero=[.string ⟨#[]⟩]:=rfl
theorem ty9_agg:ty9.isAgg=false:=by kernel_rfl
theorem kd_9:kd Ty 9 = .string:=by kernel_rfl
theorem ok21:TyOk Tryz.prog 21 ty21:=TyOk.of (by kernel_rfl) (by kernel_rfl)
theorem Ty_21:Ty 21=some ty21:=by kernel_rfl
theorem ty21_size:ty21.size=1:=rfl
theorem ty21_bytes:ty21.bytes=4:=rfl
theorem ty21_zero:ty21.zero=[.int .i32 0]:=rfl
theorem ty21_agg:ty21.isAgg=false:=by kernel_rfl
theorem kd_21:kd Ty 21 = .int .i32:=by kernel_rfl
theorem ok22:TyOk Tryz.prog 22 ty22:=TyOk.of (by kernel_rfl) (by kernel_rfl)
theorem Ty_22:Ty 22=some ty22:=by kernel_rfl
theorem ty22_size:ty22.size=1:=rfl
theorem ty22_bytes:ty22.bytes=24:=rfl
theorem ty22_zero:ty22.zero=[.slice none 0 0]:=rfl
theorem ty22_agg:ty22.isAgg=false:=by kernel_rfl
theorem kd_22:kd Ty 22 = .slice ty63:=by kernel_rfl
theorem ok23:TyOk Tryz.prog 23 ty23:=TyOk.of (by kernel_rfl) (by kernel_rfl)
theorem Ty_23:Ty 23=some ty23:=by kernel_rfl
theorem ty23_size:ty23.size=1:=rfl
theorem ty23_bytes:ty23.bytes=24:=rfl
theorem ty23_zero:ty23.zero=[.slice none 0 0]:=rfl
theorem ty23_agg:ty23.isAgg=false:=by kernel_rfl
theorem kd_23:kd Ty 23 = .slice ty113:=by kernel_rfl
theorem ok24:TyOk Tryz.prog 24 ty24:=TyOk.of (by kernel_rfl) (by kernel_rfl)
theorem Ty_24:Ty 24=some ty24:=by kernel_rfl
theorem ty24_size:ty24.size=1:=rfl
theorem ty24_bytes:ty24.bytes=24:=rfl
theorem ty24_zero:ty24.zero=[.slice none 0 0]:=rfl
theorem ty24_agg:ty24.isAgg=false:=by kernel_rfl
theorem kd_24:kd Ty 24 = .slice ty3:=by kernel_rfl
theorem ok25:TyOk Tryz.prog 25 ty25:=TyOk.of (by kernel_rfl) (by kernel_rfl)
theorem Ty_25:Ty 25=some ty25:=by kernel_rfl
theorem ty25_size:ty25.size=1:=rfl
theorem ty25_bytes:ty25.bytes=24:=rfl
theorem ty25_zero:ty25.zero=[.slice none 0 0]:=rfl
theorem ty25_agg:ty25.isAgg=false:=by kernel_rfl
theorem kd_25:kd Ty 25 = .slice ty9:=by kernel_rfl
theorem ok26:TyOk Tryz.prog 26 ty26:=TyOk.of (by kernel_rfl) (by kernel_rfl)
theorem Ty_26:Ty 26=some ty26:=by kernel_rfl
theorem ty26_size:ty26.size=1:=rfl
theorem ty26_bytes:ty26.bytes=24:=rfl
theorem ty26_zero:ty26.zero=[.slice none 0 0]:=rfl
theorem ty26_agg:ty26.isAgg=false:=by kernel_rfl
theorem kd_26:kd Ty 26 = .slice ty115:=by kernel_rfl
theorem ok28:TyOk Tryz.prog 28 ty28:=TyOk.of (by kernel_rfl) (by kernel_rfl)
theorem Ty_28:Ty 28=some ty28:=by kernel_rfl
theorem ty28_size:ty28.size=6:=rfl
theorem ty28_bytes:ty28.bytes=112:=rfl
theorem ty28_zero:ty28.zero=[.int .i64 0,.slice none 0 0,.slice none 0 0,.int .i64 0,.slice none 0 0,.slice none 0 0]:=rfl
theorem ty28_agg:ty28.isAgg=true:=by kernel_rfl
theorem kd_28:kd Ty 28 = .struct [(0,ty3),(1,ty23),(2,ty24),(3,ty3),(4,ty25),(5,ty26)]:=by kernel_rfl
theorem ok31:TyOk Tryz.prog 31 ty31:=TyOk.of (by kernel_rfl) (by kernel_rfl)
theorem Ty_31:Ty 31=some ty31:=by kernel_rfl
theorem ty31_size:ty31.size=1:=rfl
theorem ty31_bytes:ty31.bytes=24:=rfl
theorem ty31_zero:ty31.zero=[.slice none 0 0]:=rfl
theorem ty31_agg:ty31.isAgg=false:=by kernel_rfl
theorem kd_31:kd Ty 31 = .slice ty72:=by kernel_rfl
theorem ok32:TyOk Tryz.prog 32 ty32:=TyOk.of (by kernel_rfl) (by kernel_rfl)
theorem Ty_32:Ty 32=some ty32:=by kernel_rfl
theorem ty32_size:ty32.size=1:=rfl
theorem ty32_bytes:ty32.bytes=24:=rfl
theorem ty32_zero:ty32.zero=[.slice none 0 0]:=rfl
theorem ty32_agg:ty32.isAgg=false:=by kernel_rfl
theorem kd_32:kd Ty 32 = .slice ty91:=by kernel_rfl
theorem ok34:TyOk Tryz.prog 34 ty34:=TyOk.of (by kernel_rfl) (by kernel_rfl)
theorem Ty_34:Ty 34=some ty34:=by kernel_rfl
theorem ty34_size:ty34.size=6:=rfl
theorem ty34_bytes:ty34.bytes=112:=rfl
theorem ty34_zero:ty34.zero=[.int .i64 0,.slice none 0 0,.slice none 0 0,.int .i64 0,.slice none 0 0,.slice none 0 0]:=rfl
theorem ty34_agg:ty34.isAgg=true:=by kernel_rfl
theorem kd_34:kd Ty 34 = .struct [(0,ty3),(1,ty31),(2,ty24),(3,ty3),(4,ty25),(5,ty32)]:=by kernel_rfl
theorem ok37:TyOk Tryz.prog 37 ty37:=TyOk.of (by kernel_rfl) (by kernel_rfl)
theorem Ty_37:Ty 37=some ty37:=by kernel_rfl
theorem ty37_size:ty37.size=1:=rfl
theorem ty37_bytes:ty37.bytes=24:=rfl
theorem ty37_zero:ty37.zero=[.slice none 0 0]:=rfl
theorem ty37_agg:ty37.isAgg=false:=by kernel_rfl
theorem kd_37:kd Ty 37 = .slice ty70:=by kernel_rfl
theorem ok63:TyOk Tryz.prog 63 ty63:=TyOk.of (by kernel_rfl) (by kernel_rfl)
theorem Ty_63:Ty 63=some ty63:=by kernel_rfl
theorem ty63_size:ty63.size=3:=rfl
theorem ty63_bytes:ty63.bytes=32:=rfl
theorem ty63_zero:ty63.zero=[.string ⟨#[]⟩,.int .i64 0,.int .i64 0]:=rfl
theorem ty63_agg:ty63.isAgg=true:=by kernel_rfl
theorem kd_63:kd Ty 63 = .struct [(0,ty9),(1,ty3),(2,ty3)]:=by kernel_rfl
theorem ok70:TyOk Tryz.prog 70 ty70:=TyOk.of (by kernel_rfl) (by kernel_rfl)
theorem Ty_70:Ty 70=some ty70:=by kernel_rfl
theorem ty70_size:ty70.size=3:=rfl
theorem ty70_bytes:ty70.bytes=32:=rfl
theorem ty70_zero:ty70.zero=[.string ⟨#[]⟩,.int .i64 0,.int .i64 0]:=rfl
theorem ty70_agg:ty70.isAgg=true:=by kernel_rfl
theorem kd_70:kd Ty 70 = .struct [(0,ty9),(1,ty3),(2,ty3)]:=by kernel_rfl
theorem ok72:TyOk Tryz.prog 72 ty72:=TyOk.of (by kernel_rfl) (by kernel_rfl)
theorem Ty_72:Ty 72=some ty72:=by kernel_rfl
theorem ty72_size:ty72.size=3:=rfl
theorem ty72_bytes:ty72.bytes=40:=rfl
theorem ty72_zero:ty72.zero=[.int .i64 0,.int .i64 0,.slice none 0 0]:=rfl
theorem ty72_agg:ty72.isAgg=true:=by kernel_rfl
theorem kd_72:kd Ty 72 = .struct [(0,ty3),(1,ty3),(2,ty24)]:=by kernel_rfl
theorem ok83:TyOk Tryz.prog 83 ty83:=TyOk.of (by kernel_rfl) (by kernel_rfl)
theorem Ty_83:Ty 83=some ty83:=by kernel_rfl
theorem ty83_size:ty83.size=1:=rfl
theorem ty83_bytes:ty83.bytes=24:=rfl
theorem ty83_zero:ty83.zero=[.slice none 0 0]:=rfl
theorem ty83_agg:ty83.isAgg=false:=by kernel_rfl
theorem kd_83:kd Ty 83 = .slice ty86:=by kernel_rfl
theorem ok86:TyOk Tryz.prog 86 ty86:=TyOk.of (by kernel_rfl) (by kernel_rfl)
theorem Ty_86:Ty 86=some ty86:=by kernel_rfl
theorem ty86_size:ty86.size=2:=rfl
theorem ty86_bytes:ty86.bytes=16:=rfl
theorem ty86_zero:ty86.zero=[.int .i64 0,.int .i64 0]:=rfl
theorem ty86_agg:ty86.isAgg=true:=by kernel_rfl
theorem kd_86:kd Ty 86 = .arr 2 ty3:=by kernel_rfl
theorem ok91:TyOk Tryz.prog 91 ty91:=TyOk.of (by kernel_rfl) (by kernel_rfl)
theorem Ty_91:Ty 91=some ty91:=by kernel_rfl
theorem ty91_size:ty91.size=2:=rfl
theorem ty91_bytes:ty91.bytes=24:=rfl
theorem ty91_zero:ty91.zero=[.string ⟨#[]⟩,.int .i64 0]:=rfl
theorem ty91_agg:ty91.isAgg=true:=by kernel_rfl
theorem kd_91:kd Ty 91 = .struct [(0,ty9),(1,ty3)]:=by kernel_rfl
theorem ok113:TyOk Tryz.prog 113 ty113:=TyOk.of (by kernel_rfl) (by kernel_rfl)
theorem Ty_113:Ty 113=some ty113:=by kernel_rfl
theorem ty113_size:ty113.size=3:=rfl
theorem ty113_bytes:ty113.bytes=40:=rfl
theorem ty113_zero:ty113.zero=[.int .i64 0,.int .i64 0,.slice none 0 0]:=rfl
theorem ty113_agg:ty113.isAgg=true:=by kernel_rfl
theorem kd_113:kd Ty 113 = .struct [(0,ty3),(1,ty3),(2,ty24)]:=by kernel_rfl
theorem ok115:TyOk Tryz.prog 115 ty115:=TyOk.of (by kernel_rfl) (by kernel_rfl)
theorem Ty_115:Ty 115=some ty115:=by kernel_rfl
theorem ty115_size:ty115.size=2:=rfl
theorem ty115_bytes:ty115.bytes=24:=rfl
theorem ty115_zero:ty115.zero=[.string ⟨#[]⟩,.int .i64 0]:=rfl
theorem ty115_agg:ty115.isAgg=true:=by kernel_rfl
theorem kd_115:kd Ty 115 = .struct [(0,ty9),(1,ty3)]:=by kernel_rfl
theorem ok117:TyOk Tryz.prog 117 ty117:=TyOk.of (by kernel_rfl) (by kernel_rfl)
theorem Ty_117:Ty 117=some ty117:=by kernel_rfl
theorem ty117_size:ty117.size=1:=rfl
theorem ty117_bytes:ty117.bytes=24:=rfl
theorem ty117_zero:ty117.zero=[.slice none 0 0]:=rfl
theorem ty117_agg:ty117.isAgg=false:=by kernel_rfl
theorem kd_117:kd Ty 117 = .slice ty4:=by kernel_rfl
theorem ok133:TyOk Tryz.prog 133 ty133:=TyOk.of (by kernel_rfl) (by kernel_rfl)
theorem Ty_133:Ty 133=some ty133:=by kernel_rfl
theorem ty133_size:ty133.size=1:=rfl
theorem ty133_bytes:ty133.bytes=24:=rfl
theorem ty133_zero:ty133.zero=[.slice none 0 0]:=rfl
theorem ty133_agg:ty133.isAgg=false:=by kernel_rfl
theorem kd_133:kd Ty 133 = .slice ty5:=by kernel_rfl
theorem Ty_ok:TypesOk Tryz.prog Ty:=by
 have h:∀ p ∈ tyL,TyOk Tryz.prog p.1 p.2:=by
  refine List.forall_mem_cons.2 ⟨ok1,?_⟩
  refine List.forall_mem_cons.2 ⟨ok2,?_⟩
  refine List.forall_mem_cons.2 ⟨ok3,?_⟩
  refine List.forall_mem_cons.2 ⟨ok4,?_⟩
  refine List.forall_mem_cons.2 ⟨ok5,?_⟩
  refine List.forall_mem_cons.2 ⟨ok9,?_⟩
  refine List.forall_mem_cons.2 ⟨ok21,?_⟩
  refine List.forall_mem_cons.2 ⟨ok22,?_⟩
  refine List.forall_mem_cons.2 ⟨ok23,?_⟩
  refine List.forall_mem_cons.2 ⟨ok24,?_⟩
  refine List.forall_mem_cons.2 ⟨ok25,?_⟩
  refine List.forall_mem_cons.2 ⟨ok26,?_⟩
  refine List.forall_mem_cons.2 ⟨ok28,?_⟩
  refine List.forall_mem_cons.2 ⟨ok31,?_⟩
  refine List.forall_mem_cons.2 ⟨ok32,?_⟩
  refine List.forall_mem_cons.2 ⟨ok34,?_⟩
  refine List.forall_mem_cons.2 ⟨ok37,?_⟩
  refine List.forall_mem_cons.2 ⟨ok63,?_⟩
  refine List.forall_mem_cons.2 ⟨ok70,?_⟩
  refine List.forall_mem_cons.2 ⟨ok72,?_⟩
  refine List.forall_mem_cons.2 ⟨ok83,?_⟩
  refine List.forall_mem_cons.2 ⟨ok86,?_⟩
  refine List.forall_mem_cons.2 ⟨ok91,?_⟩
  refine List.forall_mem_cons.2 ⟨ok113,?_⟩
  refine List.forall_mem_cons.2 ⟨ok115,?_⟩
  refine List.forall_mem_cons.2 ⟨ok117,?_⟩
  refine List.forall_mem_cons.2 ⟨ok133,?_⟩
  simp
 intro t i hi
 unfold Ty at hi
 cases hf:tyL.find? (fun p=>p.1 == t) with
 | none=>simp[hf] at hi
 | some p=>
  simp only[hf,Option.map_some,Option.some.injEq] at hi
  have h1:=List.find?_some hf
  have h2:=h p (List.mem_of_find?_eq_some hf)
  simp only[beq_iff_eq] at h1
  rw[← h1,← hi]
  exact h2
attribute [simp] ty3_size ty4_size ty5_size ty9_size ty21_size ty22_size ty23_size ty24_size ty25_size ty26_size ty28_size ty31_size ty32_size ty34_size ty37_size ty63_size ty70_size ty72_size ty83_size ty86_size ty91_size ty113_size ty115_size ty117_size ty133_size ty3_agg ty4_agg ty5_agg ty9_agg ty21_agg ty22_agg ty23_agg ty24_agg ty25_agg ty26_agg ty28_agg ty31_agg ty32_agg ty34_agg ty37_agg ty63_agg ty70_agg ty72_agg ty83_agg ty86_agg ty91_agg ty113_agg ty115_agg ty117_agg ty133_agg ty3_zero ty4_zero ty5_zero ty9_zero ty21_zero ty22_zero ty23_zero ty24_zero ty25_zero ty26_zero ty28_zero ty31_zero ty32_zero ty34_zero ty37_zero ty63_zero ty70_zero ty72_zero ty83_zero ty86_zero ty91_zero ty113_zero ty115_zero ty117_zero ty133_zero Ty_3 Ty_4 Ty_5 Ty_9 Ty_21 Ty_22 Ty_23 Ty_24 Ty_25 Ty_26 Ty_28 Ty_31 Ty_32 Ty_34 Ty_37 Ty_63 Ty_70 Ty_72 Ty_83 Ty_86 Ty_91 Ty_113 Ty_115 Ty_117 Ty_133 kd_3 kd_4 kd_5 kd_9 kd_21 kd_22 kd_23 kd_24 kd_25 kd_26 kd_28 kd_31 kd_32 kd_34 kd_37 kd_63 kd_70 kd_72 kd_83 kd_86 kd_91 kd_113 kd_115 kd_117 kd_133 ty3_bytes ty4_bytes ty5_bytes ty9_bytes ty21_bytes ty22_bytes ty23_bytes ty24_bytes ty25_bytes ty26_bytes ty28_bytes ty31_bytes ty32_bytes ty34_bytes ty37_bytes ty63_bytes ty70_bytes ty72_bytes ty83_bytes ty86_bytes ty91_bytes ty113_bytes ty115_bytes ty117_bytes ty133_bytes
end Go.Ab
/- Contracts of impl.within and (impl.Proc).kids, on abstract values; no conditions but a bound on the length. -/
namespace Go.Ab
open Go.Proofs
section
variable {f:FuncId} {N:Nat} {k:List Item} {ρ:Env} {H:Heap} {n:Nat} {Q:AVal→Heap→Nat→Prop} {id:Nat} {ops:List Oper} {y:Code}
theorem zE (h:∀ k':List Item,(∀ ρ H n,Runs Tryz.prog f N (.code y::k) ρ H n Q→Runs Tryz.prog f N k' ρ H n Q)→evalK Tryz.prog f N k' Q Ty ops.toArray ops ρ H n) (hN:ops.all (fun o=>dok N o.dst)=true:=by decide):Runs Tryz.prog f N (.code (.seq (.region id ops.toArray false) y)::k) ρ H n Q:=Runs.seqE Ty_ok hN h
theorem zF (h:∀ k':List Item,(∀ ρ H n,Runs Tryz.prog f N k ρ H n Q→Runs Tryz.prog f N k' ρ H n Q)→evalK Tryz.prog f N k' Q Ty ops.toArray ops ρ H n) (hN:ops.all (fun o=>dok N o.dst)=true:=by decide):Runs Tryz.prog f N (.code (.region id ops.toArray false)::k) ρ H n Q:=Runs.evalE Ty_ok hN h
end
def within (n lo hi:Int):Bool:=decide (lo≤n) && decide (n≤hi)
theorem within_ok (n lo hi:Int):PureC Tryz.prog 109 [int n,int lo,int hi] (fun r=>r=bool (within n lo hi)):=by
 refine PureC.of Tryz.func109 rfl Tryz.ntmps109 (by simp) fun Q hQ=>?_
 refine Runs.seqE Ty_ok (by decide) fun k' hk'=>?_
 simp
 refine hk' _ _ _ (Runs.seqE Ty_ok (by decide) fun k' hk'=>?_)
 simp
 by_cases h:lo≤n
 all_goals
  simp[h]
  refine hk' _ _ _ (Runs.ret Tryz.func109 (RetOk.one Tryz.results109) (hQ _ _ _ _ (ResOk.v _ _ _) ?_))
  simp[within,h]
structure AmbNode where
 kind:Int
 name:Str
 parent:Int
 deriving Inhabited,DecidableEq
abbrev Proc:=List AmbNode
def AmbNode.cells (x:AmbNode):List AVal:=[int x.kind,str x.name,int x.parent]
set_option linter.unusedSimpArgs false
end Go.Ab
/- Contracts of impl.prefixWords and impl.nodeText. -/
namespace Go.Ab
open Go.Proofs
set_option linter.unusedSimpArgs false
theorem draws:Tryz.prog.follows .mixedOrders=true:=by kernel_rfl
theorem e109:Ent Tryz.prog 109:=Ent.of Tryz.func109 (by kernel_rfl) rfl
def encStrs (t:Bool) (l:List Str):AVal:=.list t (l.map fun s=>[str s])
end Go.Ab
/- The abstract machine, part So: the library's sort of strings, laid on a slice of the caller's own. -/
namespace Go.Ab
open Go.Proofs Go.RowKit
set_option linter.unusedSectionVars false
theorem putCells_get {α:Type} {enc:α→Value} [Inhabited α] {off:Nat} {d:Array α} {cl:Array Value} (k:Nat) :
  (Sort.putCells enc off d cl)[k]?=(cl[k]?).map fun x=>if off≤k∧k<off+d.size then enc d[k - off]! else x:=by
 simp only[Sort.putCells,Array.getElem?_mapIdx]
theorem sort_world {c:Ctx} (g:Good c) {id:Id} {ss ss':List Str} (ho:c.H id=some ⟨1,ss.map fun s=>[str s]⟩) (hl:ss'.length=ss.length) (off:Nat) (hoff:off=0∨ss'=[]) (m:Nat) (os:Array Obj) :
  let c':Ctx:={ c with H:=c.H.set id ⟨1,ss'.map fun s=>[str s]⟩,w:=Sort.grow (Sort.putRow encStr (Sort.ahead c.w m) (c.β id) off ss'.toArray) os }
  Keeps c c'∧Good c':=by
 intro c'
 obtain⟨hB,cl,el,hh,hsz,hel⟩:=g.obj id _ ho
 simp only[List.length_map,Nat.mul_one] at hsz
 have hnew:(Sort.putRow encStr (Sort.ahead c.w m) (c.β id) off ss'.toArray).heap[c.β id]?=some (.cells (Sort.putCells encStr off ss'.toArray cl) el (0,0)):=by
  simp only[Sort.putRow,Sort.mapBlock,Sort.ahead,Array.getElem?_modify,hh]
  simp[Sort.onCells]
 have hoth:∀ k,k ≠ c.β id→(Sort.putRow encStr (Sort.ahead c.w m) (c.β id) off ss'.toArray).heap[k]?=c.w.heap[k]?:=fun k hk=>by
  simp only[Sort.putRow,Sort.mapBlock,Sort.ahead,Array.getElem?_modify]
  rw[if_neg (Ne.symm hk)]
 obtain⟨k1,g1⟩:=upd_same g ho ⟨1,ss'.map fun s=>[str s]⟩ (Sort.putRow encStr (Sort.ahead c.w m) (c.β id) off ss'.toArray) cl (Sort.putCells encStr off ss'.toArray cl) el el ⟨rfl,rfl,rfl⟩ (by simp[Sort.ahead]) hh hoth hnew
  (by simp[Sort.putCells]) rfl (by simp[hl]) (by
   refine⟨by simp[Sort.putCells];omega,fun i e he=>?_⟩
   rw[List.getElem?_map] at he
   obtain⟨s,hs,rfl⟩:=Option.map_eq_some_iff.1 he
   refine⟨rfl,fun j a ha=>?_⟩
   have hi:i<ss'.length:=(List.getElem?_eq_some_iff.1 hs).1
   have ho0:off=0:=hoff.elim (fun h=>h) fun h=>by subst h;simp at hi
   subst ho0
   match j,ha with
   | 0,ha=>
    simp only[List.getElem?_cons_zero,Option.some.injEq] at ha
    subst ha
    refine⟨encStr s,?_,.v _⟩
    rw[putCells_get]
    have hic:i<cl.size:=by omega
    simp only[Nat.mul_one,Nat.add_zero,Array.getElem?_eq_getElem hic,Option.map_some,Nat.zero_le,true_and,Nat.zero_add,Nat.sub_zero,List.size_toArray,hi,if_true,Option.some.injEq]
    have:ss'.toArray[i]! = s:=by
     obtain⟨h1,h2⟩:=List.getElem?_eq_some_iff.1 hs
     simp[h1,h2]
    rw[this]
   | j+1,ha=>simp at ha)
 obtain⟨k2,g2⟩:=more_blocks g1 c'.w ⟨rfl,rfl,rfl⟩ (by simp[c']) fun k hk=>Sort.heap_grow_old _ _ hk
 exact⟨k1.trans k2,g2⟩
theorem rows_cells {H:Heap} {l:List Sh} (hf:∀ t ∈ l,t = .c):∀ {as1' bs:List (List AVal)} {S:List Id},rowsP (Row H l) as1' bs S→as1'=bs∧S=[]:=by
 intro as1'
 induction as1' with
 | nil=>intro bs S hr;match bs,hr with
  | [],h=>exact⟨rfl,h⟩
  | _::_,hr=>exact hr.elim
 | cons a _ ih=>
  intro bs S hr
  match bs,hr with
  | b::bs,⟨_,_,q1,q2,q3,_⟩=>
   obtain⟨rfl,rfl,_⟩:=q1.fill hf
   obtain⟨rfl,rfl⟩:=ih q2
   exact⟨rfl,q3⟩
  | [],hr=>exact hr.elim
theorem MutS.sort {P:Program} {f:FuncId} {ss:List Str} (hlen:ss.length<4611686018427387904)
  (hs:∀ (blk off cap:Nat) (w:World),Sort.Holds encStr w blk off ss.toArray→blk<w.heap.size→Calls P f #[.slice (some ⟨blk,off,none⟩) ss.length cap] w fun e w'=>
   e = .returned (.tuple #[])∧∃ n os,w'=Sort.grow (Sort.putRow encStr (Sort.ahead w n) blk off (ss.mergeSort fun x y=>decide (x≤y)).toArray) os)
  (hnil:∀ w:World,Calls P f #[.slice none 0 0] w fun e w'=>e = .returned (.tuple #[])∧Below w.heap.size w w') :
  MutS P f (fun v=>[v]) (.s [.c]) (encStrs true ss) (fun e r=>e=encStrs true (ss.mergeSort fun x y=>decide (x≤y))∧r = .tup []):=by
 intro H n v K ids hsep c xs hH hn g r
 subst hH hn
 obtain⟨x,rfl,hx⟩:∃ x,xs=[x]∧Rep c v x:=by
  obtain⟨hl,hr⟩:=r
  match xs,hl with
  | [x],_=>exact⟨x,rfl,hr 0 v x rfl rfl⟩
 obtain⟨h0,S,h1,h2⟩:=hsep
 simp only[List.map_cons,Row,Tr] at h1
 obtain⟨S1,S2,h3,h4,rfl,h5⟩:=h1
 rcases h3 with ⟨rfl,e,rfl⟩ | ⟨id,els,es',T,rfl,he,q3,q4,q5,rfl⟩
 ·have hss:ss=[]:=by simpa[encStrs] using e
  subst hss
  rw[hx.v_inv]
  refine (hnil c.w).mono ?_
  rintro e w' ⟨rfl,hb⟩
  obtain⟨hk,hg⟩:=more_blocks g w' ⟨hb.os,hb.tape,hb.output⟩ hb.size hb.block
  refine⟨_,.tup [],{ c with w:=w' },rfl,rfl,⟨_,⟨rfl,rfl⟩,⟨h0,_,?_,h2⟩,fun _ _=>rfl,Nat.le_refl _⟩,.tup [] [] rfl (by simp),hg,hk⟩
  simp only[List.map_cons,Row,Tr]
  exact⟨[],S2,.inl (by simp[encStrs]),h4,rfl,by simp⟩
 ·simp only[encStrs,AVal.list.injEq,true_and] at he
  subst he
  obtain⟨rfl,rfl⟩:=rows_cells (by simp) q4
  have hm:(ss.mergeSort fun x y=>decide (x≤y)).length=ss.length:=List.length_mergeSort ss
  have q3':c.H id=some ⟨1,ss.map fun s=>[str s]⟩:=q3
  have hcell:∀ i s,ss[i]?=some s→c.w.cell? ⟨c.β id,i,none⟩=some (encStr s):=fun i s hi=>by
   obtain⟨x,h1,h2⟩:=g.cell q3' (i:=i) (j:=0) (e:=[str s]) (a:=str s) (by rw[List.getElem?_map,hi];rfl) rfl
   rw[h2.v_inv] at h1
   simpa using h1
  cases hx with
  | arr _ _ _ _ _ _ hn hg h=>
   obtain⟨hle,a,cap,rfl,hab,hsp,hlc,hoff,hcl⟩:=h _ q3' (by simp)
   obtain⟨bk,off,sp⟩:=a
   simp only at hab hsp
   subst hab hsp
   have hz:off=0∨ss=[]:=by
    rcases hoff with h | h
    ·left;simpa using h
    ·right;simpa[h] using hlc
   have hz':off=0∨(ss.mergeSort fun x y=>decide (x≤y))=[]:=hz.imp_right fun h=>by subst h;simp
   have hbk:c.β id<c.w.heap.size:=g.lt q3'
   have key:=hs (c.β id) off cap c.w (fun j hj=>by
    have hj':j<ss.length:=by simpa using hj
    have h0:off=0:=hz.elim (fun h=>h) fun h=>by subst h;simp at hj'
    subst h0
    refine⟨?_,g.frozen q3' _⟩
    rw[Nat.zero_add,hcell j ss[j] (List.getElem?_eq_getElem hj')]
    simp[hj']) hbk
   simp only[List.length_map] at *
   refine key.mono ?_
   rintro e w' ⟨rfl,m,os,rfl⟩
   obtain⟨hk,hg'⟩:=sort_world g q3' hm off hz' m os
   refine⟨_,.tup [],{ c with H:=c.H.set id ⟨1,(ss.mergeSort fun x y=>decide (x≤y)).map fun s=>[str s]⟩,w:=Sort.grow (Sort.putRow encStr (Sort.ahead c.w m) (c.β id) off (ss.mergeSort fun x y=>decide (x≤y)).toArray) os },rfl,rfl,⟨_,⟨rfl,rfl⟩,⟨h0,id::S2,?_,?_⟩,fun i hi=>?_,Nat.le_refl _⟩,.tup [] [] rfl (by simp),hg',hk⟩
   ·simp only[List.map_cons,Row,Tr]
    refine⟨[id],S2,.inr ⟨id,(ss.mergeSort fun x y=>decide (x≤y)).map fun s=>[str s],(ss.mergeSort fun x y=>decide (x≤y)).map fun s=>[str s],[],by simp[hm],rfl,?_,?_,by simp,rfl⟩,h4.frame fun i hi=>?_,rfl,?_⟩
    ·exact Heap.get_set_self _ _ _
    ·exact rowsP.flats (by simp[str,flat]) (by simp)
    ·exact Heap.get_set_ne _ _ (by rintro rfl;exact h5 i (by simp) hi)
    ·intro i hi;exact h5 i (by simpa using hi)
   ·intro i hi;exact h2 i (by simpa using hi)
   ·exact Heap.get_set_ne _ _ (by rintro rfl;exact (h2 i (by simp)).2 hi)
end Go.Ab
/- The abstract machine, part Sx: regions that draw their order with one call whose result the caller owns; all else stands ahead of it or waits for it. -/
namespace Go.Ab
set_option linter.unusedSectionVars false
set_option linter.unusedVariables false
section
variable (P:Program) (N:Nat) (ops:Array Oper) (κ:Op→Nat) (cix:Nat)
end
section
variable {P:Program} {N:Nat} {ops:Array Oper} {κ:Op→Nat} {cix:Nat}
end
section
variable {P:Program} {f:FuncId} {N:Nat} {k:List Item} {ρ:Env} {H:Heap} {n:Nat} {Q:AVal→Heap→Nat→Prop} {κ:Op→Nat}
end
section
variable (P:Program) (f:FuncId) (N:Nat) (k:List Item) (Q:AVal→Heap→Nat→Prop) (Ty:Types) (κ:Op→Nat) (ops:Array Oper)
def evalX:List Oper→Env→Heap→Nat→Prop
 | [],ρ,H,n=>Runs P f N k ρ H n Q
 | o::l,ρ,H,n=>o.guard=none∧match stepF Ty o.dst o.op ρ H n with
  | some (v,H',n')=>evalX l (ρ.put o.dst v) H' n'
  | none=>False
def evalB:Nat→List Oper→Env→Heap→Nat→Prop
 | _,[],_,_,_=>False
 | 0,o::l,ρ,H,n=>o.guard=none∧∃ post:AVal→Heap→Nat→Prop,OpSem P N o (loc o.op ρ) H n post∧∀ v H' n',post v H' n'→evalX P f N k Q Ty l (ρ.put o.dst v) H' n'
 | c+1,o::l,ρ,H,n=>∃ s',StepD P N ops κ o (ρ,H,n) s'∧evalB c l s'.1 s'.2.1 s'.2.2
end
section
variable {P:Program} {f:FuncId} {N:Nat} {k:List Item} {Q:AVal→Heap→Nat→Prop} {Ty:Types} {κ:Op→Nat} {ops:Array Oper} {o:Oper} {l:List Oper} {ρ:Env} {H:Heap} {n:Nat} {c:Nat}
theorem evalB.step (hT:TypesOk P Ty) (hκ:KOk κ) {v:AVal} {H':Heap} {n':Nat} (hg:o.guard=none) (hs:stepF Ty o.dst o.op ρ H n=some (v,H',n')) (h:evalB P f N k Q Ty κ ops c l (ρ.put o.dst v) H' n'):evalB P f N k Q Ty κ ops (c+1) (o::l) ρ H n:=
 ⟨_,StepD.of_step hT hκ (by simp[gok,hg]) hs,h⟩
theorem evalB.callA (hT:TypesOk P Ty) (hκ:KOk κ) {d:Option Tmp} {g:Operand} {args:Array Operand} {ats:Array TypeId} {ty:TypeId} {pos:String} {af:Array Edge} {v:AVal} {f':FuncId} {as1 args':List AVal}
  (h:PureC P f' args' (fun r=>r=v)) (hent:Ent P f') (ha:ArgsOk H n as1 args') (h0:κ (.call ⟨.value g,args,ats⟩) ≠ 0) (hg:ρ.ev g = .fn (.func f') [] []) (has:args.toList.map ρ.ev=as1)
  (hk:evalB P f N k Q Ty κ ops c l (ρ.put d v) H n):evalB P f N k Q Ty κ ops (c+1) (⟨d,.call ⟨.value g,args,ats⟩,ty,pos,af,none⟩::l) ρ H n:=
 ⟨(ρ.put d v,H,n),.inl ⟨by simp[gok],v,rfl,fun h=>absurd h h0,fun _=>rfl,OpSem.callD hg hent (has ▸ ha) h⟩,hk⟩
theorem loc_args {d:Operand} {args:Array Operand} {ats:Array TypeId}:args.toList.map (loc (.call ⟨.value d,args,ats⟩) ρ).ev=args.toList.map ρ.ev∧(loc (.call ⟨.value d,args,ats⟩) ρ).ev d=ρ.ev d:=
 ⟨List.map_congr_left fun x hx=>loc_ev (by simp[Op.operands,Call.operands];exact .inr (by simpa using hx)),loc_ev (by simp[Op.operands,Call.operands])⟩
end
end Go.Ab
