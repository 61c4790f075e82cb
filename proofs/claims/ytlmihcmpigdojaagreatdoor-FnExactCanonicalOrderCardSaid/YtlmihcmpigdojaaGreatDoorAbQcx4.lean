/- Merged texts (4 of 14) of the proof that ends in Cxy: Ty X P So Sx Sy. -/
import Derived.Test.YtlmihcmpigdojaaGreatDoorAbQcx3
import Derived.Test.YtlmihcmpigdojaaGreatDoorProg
import Derived.KernelRfl
import Derived.Shelf.Sort.Plain
/- The seat's types: what the model's table says of each, as plain data. By program. -/
namespace Go.Ab
open Go.Proofs
theorem TyOk.of {P:Program} {t:TypeId} {s b:Nat} {z:List Value} (h:(P.underlying t).isSome=true) (h2:(P.info? t).map (fun i=>(i.size,i.bytes,i.zero.map Value.cells))=some (s,b,some z.toArray)):TyOk P t ⟨(P.underlying t).getD .invalid,s,b,z⟩:=by
 refine⟨?_,?_⟩
 ·cases hu:P.underlying t with
  | none=>simp[hu] at h
  | some d=>rfl
 cases hi:P.info? t with
 | none=>simp[hi] at h2
 | some info=>
  simp only[hi,Option.map_some,Option.some.injEq,Prod.mk.injEq,Option.map_eq_some_iff] at h2
  obtain⟨h3,h4,zv,h5,h6⟩:=h2
  exact⟨info,zv,rfl,h3,h4,h5,h6⟩
noncomputable def ty3:TI:=⟨(Tryz.prog.underlying 3).getD .invalid,1,8,[.int .i64 0]⟩
noncomputable def ty4:TI:=⟨(Tryz.prog.underlying 4).getD .invalid,1,1,[.bool false]⟩
noncomputable def ty5:TI:=⟨(Tryz.prog.underlying 5).getD .invalid,1,1,[.int .u8 0]⟩
noncomputable def ty9:TI:=⟨(Tryz.prog.underlying 9).getD .invalid,1,16,[.string ⟨#[]⟩]⟩
noncomputable def ty22:TI:=⟨(Tryz.prog.underlying 22).getD .invalid,1,24,[.slice none 0 0]⟩
noncomputable def ty23:TI:=⟨(Tryz.prog.underlying 23).getD .invalid,1,24,[.slice none 0 0]⟩
noncomputable def ty24:TI:=⟨(Tryz.prog.underlying 24).getD .invalid,1,24,[.slice none 0 0]⟩
noncomputable def ty25:TI:=⟨(Tryz.prog.underlying 25).getD .invalid,1,24,[.slice none 0 0]⟩
noncomputable def ty26:TI:=⟨(Tryz.prog.underlying 26).getD .invalid,1,24,[.slice none 0 0]⟩
noncomputable def ty28:TI:=⟨(Tryz.prog.underlying 28).getD .invalid,6,112,[.int .i64 0,.slice none 0 0,.slice none 0 0,.int .i64 0,.slice none 0 0,.slice none 0 0]⟩
noncomputable def ty33:TI:=⟨(Tryz.prog.underlying 33).getD .invalid,1,24,[.slice none 0 0]⟩
noncomputable def ty35:TI:=⟨(Tryz.prog.underlying 35).getD .invalid,1,24,[.slice none 0 0]⟩
noncomputable def ty36:TI:=⟨(Tryz.prog.underlying 36).getD .invalid,1,24,[.slice none 0 0]⟩
noncomputable def ty38:TI:=⟨(Tryz.prog.underlying 38).getD .invalid,6,112,[.int .i64 0,.slice none 0 0,.slice none 0 0,.int .i64 0,.slice none 0 0,.slice none 0 0]⟩
noncomputable def ty54:TI:=⟨(Tryz.prog.underlying 54).getD .invalid,3,32,[.string ⟨#[]⟩,.int .i64 0,.int .i64 0]⟩
noncomputable def ty61:TI:=⟨(Tryz.prog.underlying 61).getD .invalid,3,32,[.string ⟨#[]⟩,.int .i64 0,.int .i64 0]⟩
noncomputable def ty76:TI:=⟨(Tryz.prog.underlying 76).getD .invalid,9,184,[.int .i64 0,.slice none 0 0,.slice none 0 0,.int .i64 0,.slice none 0 0,.slice none 0 0,.slice none 0 0,.slice none 0 0,.slice none 0 0]⟩
noncomputable def ty85:TI:=⟨(Tryz.prog.underlying 85).getD .invalid,3,40,[.int .i64 0,.int .i64 0,.slice none 0 0]⟩
noncomputable def ty88:TI:=⟨(Tryz.prog.underlying 88).getD .invalid,2,24,[.string ⟨#[]⟩,.int .i64 0]⟩
noncomputable def ty96:TI:=⟨(Tryz.prog.underlying 96).getD .invalid,2,24,[.string ⟨#[]⟩,.int .i64 0]⟩
noncomputable def ty99:TI:=⟨(Tryz.prog.underlying 99).getD .invalid,3,40,[.int .i64 0,.int .i64 0,.slice none 0 0]⟩
noncomputable def ty113:TI:=⟨(Tryz.prog.underlying 113).getD .invalid,1,24,[.slice none 0 0]⟩
noncomputable def ty116:TI:=⟨(Tryz.prog.underlying 116).getD .invalid,10,208,[.slice none 0 0,.int .i64 0,.slice none 0 0,.slice none 0 0,.int .i64 0,.slice none 0 0,.slice none 0 0,.slice none 0 0,.slice none 0 0,.slice none 0 0]⟩
noncomputable def ty117:TI:=⟨(Tryz.prog.underlying 117).getD .invalid,1,24,[.slice none 0 0]⟩
noncomputable def ty149:TI:=⟨(Tryz.prog.underlying 149).getD .invalid,1,8,[.int .u64 0]⟩
noncomputable def tyL:List (Nat × TI):=[(3,ty3),(4,ty4),(5,ty5),(9,ty9),(22,ty22),(23,ty23),(24,ty24),(25,ty25),(26,ty26),(28,ty28),(33,ty33),(35,ty35),(36,ty36),(38,ty38),(54,ty54),(61,ty61),(76,ty76),(85,ty85),(88,ty88),(96,ty96),(99,ty99),(113,ty113),(116,ty116),(117,ty117),(149,ty149)]
noncomputable def Ty:Types:=fun t=>(tyL.find? (fun p=>p.1 == t)).map (·.2)
theorem ok3:TyOk Tryz.prog 3 ty3:=TyOk.of (by kernel_rfl) (by kernel_rfl)
theorem Ty_3:Ty 3=some ty3:=by kernel_rfl
theorem ty3_size:ty3.size=1:=rfl
theorem ty3_bytes:ty3.bytes=8:=rfl
theorem ty3_zero:ty3.zero=[.int .i64 0]:=rfl
theorem ty3_agg:ty3.isAgg=false:=by kernel_rfl
theorem kd_3:kd Ty 3 = .int .i64:=by kernel_rfl
theorem ok4:TyOk Tryz.prog 4 ty4:=TyOk.of (by kernel_rfl) (by kernel_rfl)
theorem Ty_4:Ty 4=some ty4:=by kernel_rfl
theorem ty4_size:ty4.size=1:=rfl
theorem ty4_bytes:ty4.bytes=1:=rfl
theorem ty4_zero:ty4.zero=[.bool false]:=rfl
theorem ty4_agg:ty4.isAgg=false:=by kernel_rfl
theorem kd_4:kd Ty 4 = .bool:=by kernel_rfl
theorem ok5:TyOk Tryz.prog 5 ty5:=TyOk.of (by kernel_rfl) (by kernel_rfl)
theorem Ty_5:Ty 5=some ty5:=by kernel_rfl
theorem ty5_size:ty5.size=1:=rfl
theorem ty5_bytes:ty5.bytes=1:=rfl
theorem ty5_zero:ty5.zero=[.int .u8 0]:=rfl
theorem ty5_agg:ty5.isAgg=false:=by kernel_rfl
theorem kd_5:kd Ty 5 = .int .u8:=by kernel_rfl
theorem ok9:TyOk Tryz.prog 9 ty9:=TyOk.of (by kernel_rfl) (by kernel_rfl)
theorem Ty_9:Ty 9=some ty9:=by kernel_rfl
theorem ty9_size:ty9.size=1:=rfl
theorem ty9_bytes:ty9.bytes=16:=rfl
theorem ty9_zero:ty9.zero=[.string ⟨#[]⟩]:=rfl
theorem ty9_agg:ty9.isAgg=false:=by kernel_rfl
theorem kd_9:kd Ty 9 = .string:=by kernel_rfl
theorem ok22:TyOk Tryz.prog 22 ty22:=TyOk.of (by kernel_rfl) (by kernel_rfl)
theorem Ty_22:Ty 22=some ty22:=by kernel_rfl
theorem ty22_size:ty22.size=1:=rfl
theorem ty22_bytes:ty22.bytes=24:=rfl
theorem ty22_zero:ty22.zero=[.slice none 0 0]:=rfl
theorem ty22_agg:ty22.isAgg=false:=by kernel_rfl
theorem kd_22:kd Ty 22 = .slice ty54:=by kernel_rfl
theorem ok23:TyOk Tryz.prog 23 ty23:=TyOk.of (by kernel_rfl) (by kernel_rfl)
theorem Ty_23:Ty 23=some ty23:=by kernel_rfl
theorem ty23_size:ty23.size=1:=rfl
theorem ty23_bytes:ty23.bytes=24:=rfl
theorem ty23_zero:ty23.zero=[.slice none 0 0]:=rfl
theorem ty23_agg:ty23.isAgg=false:=by kernel_rfl
theorem kd_23:kd Ty 23 = .slice ty85:=by kernel_rfl
theorem ok24:TyOk Tryz.prog 24 ty24:=TyOk.of (by kernel_rfl) (by kernel_rfl)
theorem Ty_24:Ty 24=some ty24:=by kernel_rfl
theorem ty24_size:ty24.size=1:=rfl
theorem ty24_bytes:ty24.bytes=24:=rfl
theorem ty24_zero:ty24.zero=[.slice none 0 0]:=rfl
theorem ty24_agg:ty24.isAgg=false:=by kernel_rfl
theorem kd_24:kd Ty 24 = .slice ty3:=by kernel_rfl
theorem ok25:TyOk Tryz.prog 25 ty25:=TyOk.of (by kernel_rfl) (by kernel_rfl)
theorem Ty_25:Ty 25=some ty25:=by kernel_rfl
theorem ty25_size:ty25.size=1:=rfl
theorem ty25_bytes:ty25.bytes=24:=rfl
theorem ty25_zero:ty25.zero=[.slice none 0 0]:=rfl
theorem ty25_agg:ty25.isAgg=false:=by kernel_rfl
theorem kd_25:kd Ty 25 = .slice ty9:=by kernel_rfl
theorem ok26:TyOk Tryz.prog 26 ty26:=TyOk.of (by kernel_rfl) (by kernel_rfl)
theorem Ty_26:Ty 26=some ty26:=by kernel_rfl
theorem ty26_size:ty26.size=1:=rfl
theorem ty26_bytes:ty26.bytes=24:=rfl
theorem ty26_zero:ty26.zero=[.slice none 0 0]:=rfl
theorem ty26_agg:ty26.isAgg=false:=by kernel_rfl
theorem kd_26:kd Ty 26 = .slice ty88:=by kernel_rfl
theorem ok28:TyOk Tryz.prog 28 ty28:=TyOk.of (by kernel_rfl) (by kernel_rfl)
theorem Ty_28:Ty 28=some ty28:=by kernel_rfl
theorem ty28_size:ty28.size=6:=rfl
theorem ty28_bytes:ty28.bytes=112:=rfl
theorem ty28_zero:ty28.zero=[.int .i64 0,.slice none 0 0,.slice none 0 0,.int .i64 0,.slice none 0 0,.slice none 0 0]:=rfl
theorem ty28_agg:ty28.isAgg=true:=by kernel_rfl
theorem kd_28:kd Ty 28 = .struct [(0,ty3),(1,ty23),(2,ty24),(3,ty3),(4,ty25),(5,ty26)]:=by kernel_rfl
theorem ok33:TyOk Tryz.prog 33 ty33:=TyOk.of (by kernel_rfl) (by kernel_rfl)
theorem Ty_33:Ty 33=some ty33:=by kernel_rfl
theorem ty33_size:ty33.size=1:=rfl
theorem ty33_bytes:ty33.bytes=24:=rfl
theorem ty33_zero:ty33.zero=[.slice none 0 0]:=rfl
theorem ty33_agg:ty33.isAgg=false:=by kernel_rfl
theorem kd_33:kd Ty 33 = .slice ty61:=by kernel_rfl
theorem ok35:TyOk Tryz.prog 35 ty35:=TyOk.of (by kernel_rfl) (by kernel_rfl)
theorem Ty_35:Ty 35=some ty35:=by kernel_rfl
theorem ty35_size:ty35.size=1:=rfl
theorem ty35_bytes:ty35.bytes=24:=rfl
theorem ty35_zero:ty35.zero=[.slice none 0 0]:=rfl
theorem ty35_agg:ty35.isAgg=false:=by kernel_rfl
theorem kd_35:kd Ty 35 = .slice ty99:=by kernel_rfl
theorem ok36:TyOk Tryz.prog 36 ty36:=TyOk.of (by kernel_rfl) (by kernel_rfl)
theorem Ty_36:Ty 36=some ty36:=by kernel_rfl
theorem ty36_size:ty36.size=1:=rfl
theorem ty36_bytes:ty36.bytes=24:=rfl
theorem ty36_zero:ty36.zero=[.slice none 0 0]:=rfl
theorem ty36_agg:ty36.isAgg=false:=by kernel_rfl
theorem kd_36:kd Ty 36 = .slice ty96:=by kernel_rfl
theorem ok38:TyOk Tryz.prog 38 ty38:=TyOk.of (by kernel_rfl) (by kernel_rfl)
theorem Ty_38:Ty 38=some ty38:=by kernel_rfl
theorem ty38_size:ty38.size=6:=rfl
theorem ty38_bytes:ty38.bytes=112:=rfl
theorem ty38_zero:ty38.zero=[.int .i64 0,.slice none 0 0,.slice none 0 0,.int .i64 0,.slice none 0 0,.slice none 0 0]:=rfl
theorem ty38_agg:ty38.isAgg=true:=by kernel_rfl
theorem kd_38:kd Ty 38 = .struct [(0,ty3),(1,ty35),(2,ty24),(3,ty3),(4,ty25),(5,ty36)]:=by kernel_rfl
theorem ok54:TyOk Tryz.prog 54 ty54:=TyOk.of (by kernel_rfl) (by kernel_rfl)
theorem Ty_54:Ty 54=some ty54:=by kernel_rfl
theorem ty54_size:ty54.size=3:=rfl
theorem ty54_bytes:ty54.bytes=32:=rfl
theorem ty54_zero:ty54.zero=[.string ⟨#[]⟩,.int .i64 0,.int .i64 0]:=rfl
theorem ty54_agg:ty54.isAgg=true:=by kernel_rfl
theorem kd_54:kd Ty 54 = .struct [(0,ty9),(1,ty3),(2,ty3)]:=by kernel_rfl
theorem ok61:TyOk Tryz.prog 61 ty61:=TyOk.of (by kernel_rfl) (by kernel_rfl)
theorem Ty_61:Ty 61=some ty61:=by kernel_rfl
theorem ty61_size:ty61.size=3:=rfl
theorem ty61_bytes:ty61.bytes=32:=rfl
theorem ty61_zero:ty61.zero=[.string ⟨#[]⟩,.int .i64 0,.int .i64 0]:=rfl
theorem ty61_agg:ty61.isAgg=true:=by kernel_rfl
theorem kd_61:kd Ty 61 = .struct [(0,ty9),(1,ty3),(2,ty3)]:=by kernel_rfl
theorem ok76:TyOk Tryz.prog 76 ty76:=TyOk.of (by kernel_rfl) (by kernel_rfl)
theorem Ty_76:Ty 76=some ty76:=by kernel_rfl
theorem ty76_size:ty76.size=9:=rfl
theorem ty76_bytes:ty76.bytes=184:=rfl
theorem ty76_zero:ty76.zero=[.int .i64 0,.slice none 0 0,.slice none 0 0,.int .i64 0,.slice none 0 0,.slice none 0 0,.slice none 0 0,.slice none 0 0,.slice none 0 0]:=rfl
theorem ty76_agg:ty76.isAgg=true:=by kernel_rfl
theorem kd_76:kd Ty 76 = .struct [(0,ty38),(6,ty24),(7,ty24),(8,ty24)]:=by kernel_rfl
theorem ok85:TyOk Tryz.prog 85 ty85:=TyOk.of (by kernel_rfl) (by kernel_rfl)
theorem Ty_85:Ty 85=some ty85:=by kernel_rfl
theorem ty85_size:ty85.size=3:=rfl
theorem ty85_bytes:ty85.bytes=40:=rfl
theorem ty85_zero:ty85.zero=[.int .i64 0,.int .i64 0,.slice none 0 0]:=rfl
theorem ty85_agg:ty85.isAgg=true:=by kernel_rfl
theorem kd_85:kd Ty 85 = .struct [(0,ty3),(1,ty3),(2,ty24)]:=by kernel_rfl
theorem ok88:TyOk Tryz.prog 88 ty88:=TyOk.of (by kernel_rfl) (by kernel_rfl)
theorem Ty_88:Ty 88=some ty88:=by kernel_rfl
theorem ty88_size:ty88.size=2:=rfl
theorem ty88_bytes:ty88.bytes=24:=rfl
theorem ty88_zero:ty88.zero=[.string ⟨#[]⟩,.int .i64 0]:=rfl
theorem ty88_agg:ty88.isAgg=true:=by kernel_rfl
theorem kd_88:kd Ty 88 = .struct [(0,ty9),(1,ty3)]:=by kernel_rfl
theorem ok96:TyOk Tryz.prog 96 ty96:=TyOk.of (by kernel_rfl) (by kernel_rfl)
theorem Ty_96:Ty 96=some ty96:=by kernel_rfl
theorem ty96_size:ty96.size=2:=rfl
theorem ty96_bytes:ty96.bytes=24:=rfl
theorem ty96_zero:ty96.zero=[.string ⟨#[]⟩,.int .i64 0]:=rfl
theorem ty96_agg:ty96.isAgg=true:=by kernel_rfl
theorem kd_96:kd Ty 96 = .struct [(0,ty9),(1,ty3)]:=by kernel_rfl
theorem ok99:TyOk Tryz.prog 99 ty99:=TyOk.of (by kernel_rfl) (by kernel_rfl)
theorem Ty_99:Ty 99=some ty99:=by kernel_rfl
theorem ty99_size:ty99.size=3:=rfl
theorem ty99_bytes:ty99.bytes=40:=rfl
theorem ty99_zero:ty99.zero=[.int .i64 0,.int .i64 0,.slice none 0 0]:=rfl
theorem ty99_agg:ty99.isAgg=true:=by kernel_rfl
theorem kd_99:kd Ty 99 = .struct [(0,ty3),(1,ty3),(2,ty24)]:=by kernel_rfl
theorem ok113:TyOk Tryz.prog 113 ty113:=TyOk.of (by kernel_rfl) (by kernel_rfl)
theorem Ty_113:Ty 113=some ty113:=by kernel_rfl
theorem ty113_size:ty113.size=1:=rfl
theorem ty113_bytes:ty113.bytes=24:=rfl
theorem ty113_zero:ty113.zero=[.slice none 0 0]:=rfl
theorem ty113_agg:ty113.isAgg=false:=by kernel_rfl
theorem kd_113:kd Ty 113 = .slice ty5:=by kernel_rfl
theorem ok116:TyOk Tryz.prog 116 ty116:=TyOk.of (by kernel_rfl) (by kernel_rfl)
theorem Ty_116:Ty 116=some ty116:=by kernel_rfl
theorem ty116_size:ty116.size=10:=rfl
theorem ty116_bytes:ty116.bytes=208:=rfl
theorem ty116_zero:ty116.zero=[.slice none 0 0,.int .i64 0,.slice none 0 0,.slice none 0 0,.int .i64 0,.slice none 0 0,.slice none 0 0,.slice none 0 0,.slice none 0 0,.slice none 0 0]:=rfl
theorem ty116_agg:ty116.isAgg=true:=by kernel_rfl
theorem kd_116:kd Ty 116 = .struct [(0,ty24),(1,ty76)]:=by kernel_rfl
theorem ok117:TyOk Tryz.prog 117 ty117:=TyOk.of (by kernel_rfl) (by kernel_rfl)
theorem Ty_117:Ty 117=some ty117:=by kernel_rfl
theorem ty117_size:ty117.size=1:=rfl
theorem ty117_bytes:ty117.bytes=24:=rfl
theorem ty117_zero:ty117.zero=[.slice none 0 0]:=rfl
theorem ty117_agg:ty117.isAgg=false:=by kernel_rfl
theorem kd_117:kd Ty 117 = .slice ty116:=by kernel_rfl
theorem ok149:TyOk Tryz.prog 149 ty149:=TyOk.of (by kernel_rfl) (by kernel_rfl)
theorem Ty_149:Ty 149=some ty149:=by kernel_rfl
theorem ty149_size:ty149.size=1:=rfl
theorem ty149_bytes:ty149.bytes=8:=rfl
theorem ty149_zero:ty149.zero=[.int .u64 0]:=rfl
theorem ty149_agg:ty149.isAgg=false:=by kernel_rfl
theorem kd_149:kd Ty 149 = .int .u64:=by kernel_rfl
theorem Ty_ok:TypesOk Tryz.prog Ty:=by
 have h:∀ p ∈ tyL,TyOk Tryz.prog p.1 p.2:=by
  refine List.forall_mem_cons.2 ⟨ok3,?_⟩
  refine List.forall_mem_cons.2 ⟨ok4,?_⟩
  refine List.forall_mem_cons.2 ⟨ok5,?_⟩
  refine List.forall_mem_cons.2 ⟨ok9,?_⟩
  refine List.forall_mem_cons.2 ⟨ok22,?_⟩
  refine List.forall_mem_cons.2 ⟨ok23,?_⟩
  refine List.forall_mem_cons.2 ⟨ok24,?_⟩
  refine List.forall_mem_cons.2 ⟨ok25,?_⟩
  refine List.forall_mem_cons.2 ⟨ok26,?_⟩
  refine List.forall_mem_cons.2 ⟨ok28,?_⟩
  refine List.forall_mem_cons.2 ⟨ok33,?_⟩
  refine List.forall_mem_cons.2 ⟨ok35,?_⟩
  refine List.forall_mem_cons.2 ⟨ok36,?_⟩
  refine List.forall_mem_cons.2 ⟨ok38,?_⟩
  refine List.forall_mem_cons.2 ⟨ok54,?_⟩
  refine List.forall_mem_cons.2 ⟨ok61,?_⟩
  refine List.forall_mem_cons.2 ⟨ok76,?_⟩
  refine List.forall_mem_cons.2 ⟨ok85,?_⟩
  refine List.forall_mem_cons.2 ⟨ok88,?_⟩
  refine List.forall_mem_cons.2 ⟨ok96,?_⟩
  refine List.forall_mem_cons.2 ⟨ok99,?_⟩
  refine List.forall_mem_cons.2 ⟨ok113,?_⟩
  refine List.forall_mem_cons.2 ⟨ok116,?_⟩
  refine List.forall_mem_cons.2 ⟨ok117,?_⟩
  refine List.forall_mem_cons.2 ⟨ok149,?_⟩
  simp
 intro t i hi
 unfold Ty at hi
 cases hf:tyL.find? (fun p=>p.1 == t) with
 | none=>simp[hf] at hi
 | some p=>
  simp only[hf,Option.map_some,Option.some.injEq] at hi
  have h1:=List.find?_some hf
  have h2:=h p (List.mem_of_find?_eq_some hf)
  simp only[beq_iff_eq] at h1
  rw[← h1,← hi]
  exact h2
attribute [simp] ty3_size ty4_size ty5_size ty9_size ty22_size ty23_size ty24_size ty25_size ty26_size ty28_size ty33_size ty35_size ty36_size ty38_size ty54_size ty61_size ty76_size ty85_size ty88_size ty96_size ty99_size ty113_size ty116_size ty117_size ty149_size ty3_agg ty4_agg ty5_agg ty9_agg ty22_agg ty23_agg ty24_agg ty25_agg ty26_agg ty28_agg ty33_agg ty35_agg ty36_agg ty38_agg ty54_agg ty61_agg ty76_agg ty85_agg ty88_agg ty96_agg ty99_agg ty113_agg ty116_agg ty117_agg ty149_agg ty3_zero ty4_zero ty5_zero ty9_zero ty22_zero ty23_zero ty24_zero ty25_zero ty26_zero ty28_zero ty33_zero ty35_zero ty36_zero ty38_zero ty54_zero ty61_zero ty76_zero ty85_zero ty88_zero ty96_zero ty99_zero ty113_zero ty116_zero ty117_zero ty149_zero Ty_3 Ty_4 Ty_5 Ty_9 Ty_22 Ty_23 Ty_24 Ty_25 Ty_26 Ty_28 Ty_33 Ty_35 Ty_36 Ty_38 Ty_54 Ty_61 Ty_76 Ty_85 Ty_88 Ty_96 Ty_99 Ty_113 Ty_116 Ty_117 Ty_149 kd_3 kd_4 kd_5 kd_9 kd_22 kd_23 kd_24 kd_25 kd_26 kd_28 kd_33 kd_35 kd_36 kd_38 kd_54 kd_61 kd_76 kd_85 kd_88 kd_96 kd_99 kd_113 kd_116 kd_117 kd_149 ty3_bytes ty4_bytes ty5_bytes ty9_bytes ty22_bytes ty23_bytes ty24_bytes ty25_bytes ty26_bytes ty28_bytes ty33_bytes ty35_bytes ty36_bytes ty38_bytes ty54_bytes ty61_bytes ty76_bytes ty85_bytes ty88_bytes ty96_bytes ty99_bytes ty113_bytes ty116_bytes ty117_bytes ty149_bytes
end Go.Ab
/- Contracts of impl.within and (impl.Proc).kids, on abstract values; no conditions but a bound on the length. -/
namespace Go.Ab
open Go.Proofs
section
variable {f:FuncId} {N:Nat} {k:List Item} {ρ:Env} {H:Heap} {n:Nat} {Q:AVal→Heap→Nat→Prop} {id:Nat} {ops:List Oper} {y:Code}
theorem zE (h:∀ k':List Item,(∀ ρ H n,Runs Tryz.prog f N (.code y::k) ρ H n Q→Runs Tryz.prog f N k' ρ H n Q)→evalK Tryz.prog f N k' Q Ty ops.toArray ops ρ H n) (hN:ops.all (fun o=>dok N o.dst)=true:=by decide):Runs Tryz.prog f N (.code (.seq (.region id ops.toArray false) y)::k) ρ H n Q:=Runs.seqE Ty_ok hN h
theorem zF (h:∀ k':List Item,(∀ ρ H n,Runs Tryz.prog f N k ρ H n Q→Runs Tryz.prog f N k' ρ H n Q)→evalK Tryz.prog f N k' Q Ty ops.toArray ops ρ H n) (hN:ops.all (fun o=>dok N o.dst)=true:=by decide):Runs Tryz.prog f N (.code (.region id ops.toArray false)::k) ρ H n Q:=Runs.evalE Ty_ok hN h
end
def within (n lo hi:Int):Bool:=decide (lo≤n) && decide (n≤hi)
theorem within_ok (n lo hi:Int):PureC Tryz.prog 82 [int n,int lo,int hi] (fun r=>r=bool (within n lo hi)):=by
 refine PureC.of Tryz.func82 rfl Tryz.ntmps82 (by simp) fun Q hQ=>?_
 refine Runs.seqE Ty_ok (by decide) fun k' hk'=>?_
 simp
 refine hk' _ _ _ (Runs.seqE Ty_ok (by decide) fun k' hk'=>?_)
 simp
 by_cases h:lo≤n
 all_goals
  simp[h]
  refine hk' _ _ _ (Runs.ret Tryz.func82 (RetOk.one Tryz.results82) (hQ _ _ _ _ (ResOk.v _ _ _) ?_))
  simp[within,h]
structure AmbNode where
 kind:Int
 name:Str
 parent:Int
 deriving Inhabited,DecidableEq
abbrev Proc:=List AmbNode
set_option linter.unusedSimpArgs false
end Go.Ab
/- Contracts of impl.prefixWords and impl.nodeText. -/
namespace Go.Ab
open Go.Proofs
set_option linter.unusedSimpArgs false
theorem draws:Tryz.prog.follows .mixedOrders=true:=by kernel_rfl
theorem e82:Ent Tryz.prog 82:=Ent.of Tryz.func82 (by kernel_rfl) rfl
end Go.Ab
/- The abstract machine, part So: the library's sort of strings, laid on a slice of the caller's own. -/
namespace Go.Ab
open Go.Proofs Go.RowKit
set_option linter.unusedSectionVars false
end Go.Ab
/- The abstract machine, part Sx: regions that draw their order with one call whose result the caller owns; all else stands ahead of it or waits for it. -/
namespace Go.Ab
set_option linter.unusedSectionVars false
set_option linter.unusedVariables false
section
variable (P:Program) (N:Nat) (ops:Array Oper) (κ:Op→Nat) (cix:Nat)
end
section
variable {P:Program} {N:Nat} {ops:Array Oper} {κ:Op→Nat} {cix:Nat}
end
section
variable {P:Program} {f:FuncId} {N:Nat} {k:List Item} {ρ:Env} {H:Heap} {n:Nat} {Q:AVal→Heap→Nat→Prop} {κ:Op→Nat}
end
section
variable (P:Program) (f:FuncId) (N:Nat) (k:List Item) (Q:AVal→Heap→Nat→Prop) (Ty:Types) (κ:Op→Nat) (ops:Array Oper)
end
section
variable {P:Program} {f:FuncId} {N:Nat} {k:List Item} {Q:AVal→Heap→Nat→Prop} {Ty:Types} {κ:Op→Nat} {ops:Array Oper} {o:Oper} {l:List Oper} {ρ:Env} {H:Heap} {n:Nat} {c:Nat}
end
end Go.Ab
/- The abstract machine, part Sy: regions that draw their order, by what is known of the operations that are done. -/
namespace Go.Ab
set_option linter.unusedSectionVars false
set_option linter.unusedVariables false
section
variable {P:Program} {N:Nat} {ops:Array Oper}
end
section
variable {P:Program} {f:FuncId} {N:Nat} {k:List Item} {ρ:Env} {H:Heap} {n:Nat} {Q:AVal→Heap→Nat→Prop}
end
structure Reg where
 m:Nat
 c:Nat
 a:Nat
 st:Nat
 d:Nat
 B:List (Nat × AVal)
 F:List AVal→Nat→List (Nat × Nat × AVal)
 ent:List AVal→List OwnE
 ob0:Ob
 ob1:List AVal→Ob
 RG:List AVal→Prop
 onC:List Nat
 onA:List Nat
 H0:Heap
 n0:Nat
 K:List OwnE
 ids:List Id
section
variable {P:Program} {N:Nat} {ops:Array Oper} {g:Reg}
end
def gv (G:List AVal) (i:Nat):AVal:=G.getD i .undef
@[simp] theorem gv_zero (a : AVal) (l : List AVal) : gv (a :: l) 0 = a := rfl
@[simp] theorem gv_succ (a : AVal) (l : List AVal) (i : Nat) : gv (a :: l) (i + 1) = gv l i := by simp [gv]
end Go.Ab
