/- Merged texts (4 of 15) of the proof that ends in Lly: Ty X P So Sx. -/
import Derived.Test.YtbpdcoahefnnkaaGreatDoorAbQll3
import Derived.Test.YtbpdcoahefnnkaaGreatDoorProg
import Derived.KernelRfl
import Derived.Shelf.Sort.Plain
/- The seat's types: what the model's table says of each, as plain data. By program. -/
namespace Go.Ab
open Go.Proofs
theorem TyOk.of {P:Program} {t:TypeId} {s b:Nat} {z:List Value} (h:(P.underlying t).isSome=true) (h2:(P.info? t).map (fun i=>(i.size,i.bytes,i.zero.map Value.cells))=some (s,b,some z.toArray)):TyOk P t ⟨(P.underlying t).getD .invalid,s,b,z⟩:=by
 refine⟨?_,?_⟩
 ·cases hu:P.underlying t with
  | none=>simp[hu] at h
  | some d=>rfl
 cases hi:P.info? t with
 | none=>simp[hi] at h2
 | some info=>
  simp only[hi,Option.map_some,Option.some.injEq,Prod.mk.injEq,Option.map_eq_some_iff] at h2
  obtain⟨h3,h4,zv,h5,h6⟩:=h2
  exact⟨info,zv,rfl,h3,h4,h5,h6⟩
noncomputable def ty3:TI:=⟨(Tryz.prog.underlying 3).getD .invalid,1,8,[.int .i64 0]⟩
noncomputable def ty4:TI:=⟨(Tryz.prog.underlying 4).getD .invalid,1,1,[.bool false]⟩
noncomputable def ty5:TI:=⟨(Tryz.prog.underlying 5).getD .invalid,1,1,[.int .u8 0]⟩
noncomputable def ty9:TI:=⟨(Tryz.prog.underlying 9).getD .invalid,1,16,[.string ⟨#[]⟩]⟩
noncomputable def ty21:TI:=⟨(Tryz.prog.underlying 21).getD .invalid,1,4,[.int .i32 0]⟩
noncomputable def ty22:TI:=⟨(Tryz.prog.underlying 22).getD .invalid,1,24,[.slice none 0 0]⟩
noncomputable def ty23:TI:=⟨(Tryz.prog.underlying 23).getD .invalid,1,24,[.slice none 0 0]⟩
noncomputable def ty24:TI:=⟨(Tryz.prog.underlying 24).getD .invalid,1,24,[.slice none 0 0]⟩
noncomputable def ty25:TI:=⟨(Tryz.prog.underlying 25).getD .invalid,1,24,[.slice none 0 0]⟩
noncomputable def ty26:TI:=⟨(Tryz.prog.underlying 26).getD .invalid,1,24,[.slice none 0 0]⟩
noncomputable def ty28:TI:=⟨(Tryz.prog.underlying 28).getD .invalid,6,112,[.int .i64 0,.slice none 0 0,.slice none 0 0,.int .i64 0,.slice none 0 0,.slice none 0 0]⟩
noncomputable def ty34:TI:=⟨(Tryz.prog.underlying 34).getD .invalid,2,48,[.slice none 0 0,.slice none 0 0]⟩
noncomputable def ty42:TI:=⟨(Tryz.prog.underlying 42).getD .invalid,1,24,[.slice none 0 0]⟩
noncomputable def ty44:TI:=⟨(Tryz.prog.underlying 44).getD .invalid,1,24,[.slice none 0 0]⟩
noncomputable def ty45:TI:=⟨(Tryz.prog.underlying 45).getD .invalid,1,24,[.slice none 0 0]⟩
noncomputable def ty47:TI:=⟨(Tryz.prog.underlying 47).getD .invalid,6,112,[.int .i64 0,.slice none 0 0,.slice none 0 0,.int .i64 0,.slice none 0 0,.slice none 0 0]⟩
noncomputable def ty55:TI:=⟨(Tryz.prog.underlying 55).getD .invalid,2,48,[.slice none 0 0,.slice none 0 0]⟩
noncomputable def ty89:TI:=⟨(Tryz.prog.underlying 89).getD .invalid,3,32,[.string ⟨#[]⟩,.int .i64 0,.int .i64 0]⟩
noncomputable def ty96:TI:=⟨(Tryz.prog.underlying 96).getD .invalid,3,32,[.string ⟨#[]⟩,.int .i64 0,.int .i64 0]⟩
noncomputable def ty127:TI:=⟨(Tryz.prog.underlying 127).getD .invalid,3,40,[.int .i64 0,.int .i64 0,.slice none 0 0]⟩
noncomputable def ty130:TI:=⟨(Tryz.prog.underlying 130).getD .invalid,2,24,[.string ⟨#[]⟩,.int .i64 0]⟩
noncomputable def ty136:TI:=⟨(Tryz.prog.underlying 136).getD .invalid,3,40,[.int .i64 0,.int .i64 0,.slice none 0 0]⟩
noncomputable def ty138:TI:=⟨(Tryz.prog.underlying 138).getD .invalid,2,24,[.string ⟨#[]⟩,.int .i64 0]⟩
noncomputable def ty163:TI:=⟨(Tryz.prog.underlying 163).getD .invalid,1,24,[.slice none 0 0]⟩
noncomputable def ty164:TI:=⟨(Tryz.prog.underlying 164).getD .invalid,1,24,[.slice none 0 0]⟩
noncomputable def ty186:TI:=⟨(Tryz.prog.underlying 186).getD .invalid,1,24,[.slice none 0 0]⟩
noncomputable def ty191:TI:=⟨(Tryz.prog.underlying 191).getD .invalid,2,16,[.int .i64 0,.int .i64 0]⟩
noncomputable def ty194:TI:=⟨(Tryz.prog.underlying 194).getD .invalid,1,8,[.int .u64 0]⟩
noncomputable def tyL:List (Nat × TI):=[(3,ty3),(4,ty4),(5,ty5),(9,ty9),(21,ty21),(22,ty22),(23,ty23),(24,ty24),(25,ty25),(26,ty26),(28,ty28),(34,ty34),(42,ty42),(44,ty44),(45,ty45),(47,ty47),(55,ty55),(89,ty89),(96,ty96),(127,ty127),(130,ty130),(136,ty136),(138,ty138),(163,ty163),(164,ty164),(186,ty186),(191,ty191),(194,ty194)]
noncomputable def Ty:Types:=fun t=>(tyL.find? (fun p=>p.1 == t)).map (·.2)
theorem ok3:TyOk Tryz.prog 3 ty3:=TyOk.of (by kernel_rfl) (by kernel_rfl)
theorem Ty_3:Ty 3=some ty3:=by kernel_rfl
theorem ty3_size:ty3.size=1:=rfl
theorem ty3_bytes:ty3.bytes=8:=rfl
theorem ty3_zero:ty3.zero=[.int .i64 0]:=rfl
theorem ty3_agg:ty3.isAgg=false:=by kernel_rfl
theorem kd_3:kd Ty 3 = .int .i64:=by kernel_rfl
theorem ok4:TyOk Tryz.prog 4 ty4:=TyOk.of (by kernel_rfl) (by kernel_rfl)
theorem Ty_4:Ty 4=some ty4:=by kernel_rfl
theorem ty4_size:ty4.size=1:=rfl
theorem ty4_bytes:ty4.bytes=1:=rfl
theorem ty4_zero:ty4.zero=[.bool false]:=rfl
theorem ty4_agg:ty4.isAgg=false:=by kernel_rfl
theorem kd_4:kd Ty 4 = .bool:=by kernel_rfl
theorem ok5:TyOk Tryz.prog 5 ty5:=TyOk.of (by kernel_rfl) (by kernel_rfl)
theorem Ty_5:Ty 5=some ty5:=by kernel_rfl
theorem ty5_size:ty5.size=1:=rfl
theorem ty5_bytes:ty5.bytes=1:=rfl
theorem ty5_zero:ty5.zero=[.int .u8 0]:=rfl
theorem ty5_agg:ty5.isAgg=false:=by kernel_rfl
theorem kd_5:kd Ty 5 = .int .u8:=by kernel_rfl
theorem ok9:TyOk Tryz.prog 9 ty9:=TyOk.of (by kernel_rfl) (by kernel_rfl)
theorem Ty_9:Ty 9=some ty9:=by kernel_rfl
theorem ty9_size:ty9.size=1:=rfl
theorem ty9_bytes:ty9.bytes=16:=rfl
theorem ty9_zero:ty9.zero=[.string ⟨#[]⟩]:=rfl
theorem ty9_agg:ty9.isAgg=false:=by kernel_rfl
theorem kd_9:kd Ty 9 = .string:=by kernel_rfl
theorem ok21:TyOk Tryz.prog 21 ty21:=TyOk.of (by kernel_rfl) (by kernel_rfl)
theorem Ty_21:Ty 21=some ty21:=by kernel_rfl
theorem ty21_size:ty21.size=1:=rfl
theorem ty21_bytes:ty21.bytes=4:=rfl
theorem ty21_zero:ty21.zero=[.int .i32 0]:=rfl
theorem ty21_agg:ty21.isAgg=false:=by kernel_rfl
theorem kd_21:kd Ty 21 = .int .i32:=by kernel_rfl
theorem ok22:TyOk Tryz.prog 22 ty22:=TyOk.of (by kernel_rfl) (by kernel_rfl)
theorem Ty_22:Ty 22=some ty22:=by kernel_rfl
theorem ty22_size:ty22.size=1:=rfl
theorem ty22_bytes:ty22.bytes=24:=rfl
theorem ty22_zero:ty22.zero=[.slice none 0 0]:=rfl
theorem ty22_agg:ty22.isAgg=false:=by kernel_rfl
theorem kd_22:kd Ty 22 = .slice ty89:=by kernel_rfl
theorem ok23:TyOk Tryz.prog 23 ty23:=TyOk.of (by kernel_rfl) (by kernel_rfl)
theorem Ty_23:Ty 23=some ty23:=by kernel_rfl
theorem ty23_size:ty23.size=1:=rfl
theorem ty23_bytes:ty23.bytes=24:=rfl
theorem ty23_zero:ty23.zero=[.slice none 0 0]:=rfl
theorem ty23_agg:ty23.isAgg=false:=by kernel_rfl
theorem kd_23:kd Ty 23 = .slice ty127:=by kernel_rfl
theorem ok24:TyOk Tryz.prog 24 ty24:=TyOk.of (by kernel_rfl) (by kernel_rfl)
theorem Ty_24:Ty 24=some ty24:=by kernel_rfl
theorem ty24_size:ty24.size=1:=rfl
theorem ty24_bytes:ty24.bytes=24:=rfl
theorem ty24_zero:ty24.zero=[.slice none 0 0]:=rfl
theorem ty24_agg:ty24.isAgg=false:=by kernel_rfl
theorem kd_24:kd Ty 24 = .slice ty3:=by kernel_rfl
theorem ok25:TyOk Tryz.prog 25 ty25:=TyOk.of (by kernel_rfl) (by kernel_rfl)
theorem Ty_25:Ty 25=some ty25:=by kernel_rfl
theorem ty25_size:ty25.size=1:=rfl
theorem ty25_bytes:ty25.bytes=24:=rfl
theorem ty25_zero:ty25.zero=[.slice none 0 0]:=rfl
theorem ty25_agg:ty25.isAgg=false:=by kernel_rfl
theorem kd_25:kd Ty 25 = .slice ty9:=by kernel_rfl
theorem ok26:TyOk Tryz.prog 26 ty26:=TyOk.of (by kernel_rfl) (by kernel_rfl)
theorem Ty_26:Ty 26=some ty26:=by kernel_rfl
theorem ty26_size:ty26.size=1:=rfl
theorem ty26_bytes:ty26.bytes=24:=rfl
theorem ty26_zero:ty26.zero=[.slice none 0 0]:=rfl
theorem ty26_agg:ty26.isAgg=false:=by kernel_rfl
theorem kd_26:kd Ty 26 = .slice ty130:=by kernel_rfl
theorem ok28:TyOk Tryz.prog 28 ty28:=TyOk.of (by kernel_rfl) (by kernel_rfl)
theorem Ty_28:Ty 28=some ty28:=by kernel_rfl
theorem ty28_size:ty28.size=6:=rfl
theorem ty28_bytes:ty28.bytes=112:=rfl
theorem ty28_zero:ty28.zero=[.int .i64 0,.slice none 0 0,.slice none 0 0,.int .i64 0,.slice none 0 0,.slice none 0 0]:=rfl
theorem ty28_agg:ty28.isAgg=true:=by kernel_rfl
theorem kd_28:kd Ty 28 = .struct [(0,ty3),(1,ty23),(2,ty24),(3,ty3),(4,ty25),(5,ty26)]:=by kernel_rfl
theorem ok34:TyOk Tryz.prog 34 ty34:=TyOk.of (by kernel_rfl) (by kernel_rfl)
theorem Ty_34:Ty 34=some ty34:=by kernel_rfl
theorem ty34_size:ty34.size=2:=rfl
theorem ty34_bytes:ty34.bytes=48:=rfl
theorem ty34_zero:ty34.zero=[.slice none 0 0,.slice none 0 0]:=rfl
theorem ty34_agg:ty34.isAgg=true:=by kernel_rfl
theorem kd_34:kd Ty 34 = .struct [(0,ty24),(1,ty24)]:=by kernel_rfl
theorem ok42:TyOk Tryz.prog 42 ty42:=TyOk.of (by kernel_rfl) (by kernel_rfl)
theorem Ty_42:Ty 42=some ty42:=by kernel_rfl
theorem ty42_size:ty42.size=1:=rfl
theorem ty42_bytes:ty42.bytes=24:=rfl
theorem ty42_zero:ty42.zero=[.slice none 0 0]:=rfl
theorem ty42_agg:ty42.isAgg=false:=by kernel_rfl
theorem kd_42:kd Ty 42 = .slice ty96:=by kernel_rfl
theorem ok44:TyOk Tryz.prog 44 ty44:=TyOk.of (by kernel_rfl) (by kernel_rfl)
theorem Ty_44:Ty 44=some ty44:=by kernel_rfl
theorem ty44_size:ty44.size=1:=rfl
theorem ty44_bytes:ty44.bytes=24:=rfl
theorem ty44_zero:ty44.zero=[.slice none 0 0]:=rfl
theorem ty44_agg:ty44.isAgg=false:=by kernel_rfl
theorem kd_44:kd Ty 44 = .slice ty136:=by kernel_rfl
theorem ok45:TyOk Tryz.prog 45 ty45:=TyOk.of (by kernel_rfl) (by kernel_rfl)
theorem Ty_45:Ty 45=some ty45:=by kernel_rfl
theorem ty45_size:ty45.size=1:=rfl
theorem ty45_bytes:ty45.bytes=24:=rfl
theorem ty45_zero:ty45.zero=[.slice none 0 0]:=rfl
theorem ty45_agg:ty45.isAgg=false:=by kernel_rfl
theorem kd_45:kd Ty 45 = .slice ty138:=by kernel_rfl
theorem ok47:TyOk Tryz.prog 47 ty47:=TyOk.of (by kernel_rfl) (by kernel_rfl)
theorem Ty_47:Ty 47=some ty47:=by kernel_rfl
theorem ty47_size:ty47.size=6:=rfl
theorem ty47_bytes:ty47.bytes=112:=rfl
theorem ty47_zero:ty47.zero=[.int .i64 0,.slice none 0 0,.slice none 0 0,.int .i64 0,.slice none 0 0,.slice none 0 0]:=rfl
theorem ty47_agg:ty47.isAgg=true:=by kernel_rfl
theorem kd_47:kd Ty 47 = .struct [(0,ty3),(1,ty44),(2,ty24),(3,ty3),(4,ty25),(5,ty45)]:=by kernel_rfl
theorem ok55:TyOk Tryz.prog 55 ty55:=TyOk.of (by kernel_rfl) (by kernel_rfl)
theorem Ty_55:Ty 55=some ty55:=by kernel_rfl
theorem ty55_size:ty55.size=2:=rfl
theorem ty55_bytes:ty55.bytes=48:=rfl
theorem ty55_zero:ty55.zero=[.slice none 0 0,.slice none 0 0]:=rfl
theorem ty55_agg:ty55.isAgg=true:=by kernel_rfl
theorem kd_55:kd Ty 55 = .struct [(0,ty24),(1,ty24)]:=by kernel_rfl
theorem ok89:TyOk Tryz.prog 89 ty89:=TyOk.of (by kernel_rfl) (by kernel_rfl)
theorem Ty_89:Ty 89=some ty89:=by kernel_rfl
theorem ty89_size:ty89.size=3:=rfl
theorem ty89_bytes:ty89.bytes=32:=rfl
theorem ty89_zero:ty89.zero=[.string ⟨#[]⟩,.int .i64 0,.int .i64 0]:=rfl
theorem ty89_agg:ty89.isAgg=true:=by kernel_rfl
theorem kd_89:kd Ty 89 = .struct [(0,ty9),(1,ty3),(2,ty3)]:=by kernel_rfl
theorem ok96:TyOk Tryz.prog 96 ty96:=TyOk.of (by kernel_rfl) (by kernel_rfl)
theorem Ty_96:Ty 96=some ty96:=by kernel_rfl
theorem ty96_size:ty96.size=3:=rfl
theorem ty96_bytes:ty96.bytes=32:=rfl
theorem ty96_zero:ty96.zero=[.string ⟨#[]⟩,.int .i64 0,.int .i64 0]:=rfl
theorem ty96_agg:ty96.isAgg=true:=by kernel_rfl
theorem kd_96:kd Ty 96 = .struct [(0,ty9),(1,ty3),(2,ty3)]:=by kernel_rfl
theorem ok127:TyOk Tryz.prog 127 ty127:=TyOk.of (by kernel_rfl) (by kernel_rfl)
theorem Ty_127:Ty 127=some ty127:=by kernel_rfl
theorem ty127_size:ty127.size=3:=rfl
theorem ty127_bytes:ty127.bytes=40:=rfl
theorem ty127_zero:ty127.zero=[.int .i64 0,.int .i64 0,.slice none 0 0]:=rfl
theorem ty127_agg:ty127.isAgg=true:=by kernel_rfl
theorem kd_127:kd Ty 127 = .struct [(0,ty3),(1,ty3),(2,ty24)]:=by kernel_rfl
theorem ok130:TyOk Tryz.prog 130 ty130:=TyOk.of (by kernel_rfl) (by kernel_rfl)
theorem Ty_130:Ty 130=some ty130:=by kernel_rfl
theorem ty130_size:ty130.size=2:=rfl
theorem ty130_bytes:ty130.bytes=24:=rfl
theorem ty130_zero:ty130.zero=[.string ⟨#[]⟩,.int .i64 0]:=rfl
theorem ty130_agg:ty130.isAgg=true:=by kernel_rfl
theorem kd_130:kd Ty 130 = .struct [(0,ty9),(1,ty3)]:=by kernel_rfl
theorem ok136:TyOk Tryz.prog 136 ty136:=TyOk.of (by kernel_rfl) (by kernel_rfl)
theorem Ty_136:Ty 136=some ty136:=by kernel_rfl
theorem ty136_size:ty136.size=3:=rfl
theorem ty136_bytes:ty136.bytes=40:=rfl
theorem ty136_zero:ty136.zero=[.int .i64 0,.int .i64 0,.slice none 0 0]:=rfl
theorem ty136_agg:ty136.isAgg=true:=by kernel_rfl
theorem kd_136:kd Ty 136 = .struct [(0,ty3),(1,ty3),(2,ty24)]:=by kernel_rfl
theorem ok138:TyOk Tryz.prog 138 ty138:=TyOk.of (by kernel_rfl) (by kernel_rfl)
theorem Ty_138:Ty 138=some ty138:=by kernel_rfl
theorem ty138_size:ty138.size=2:=rfl
theorem ty138_bytes:ty138.bytes=24:=rfl
theorem ty138_zero:ty138.zero=[.string ⟨#[]⟩,.int .i64 0]:=rfl
theorem ty138_agg:ty138.isAgg=true:=by kernel_rfl
theorem kd_138:kd Ty 138 = .struct [(0,ty9),(1,ty3)]:=by kernel_rfl
theorem ok163:TyOk Tryz.prog 163 ty163:=TyOk.of (by kernel_rfl) (by kernel_rfl)
theorem Ty_163:Ty 163=some ty163:=by kernel_rfl
theorem ty163_size:ty163.size=1:=rfl
theorem ty163_bytes:ty163.bytes=24:=rfl
theorem ty163_zero:ty163.zero=[.slice none 0 0]:=rfl
theorem ty163_agg:ty163.isAgg=false:=by kernel_rfl
theorem kd_163:kd Ty 163 = .slice ty5:=by kernel_rfl
theorem ok164:TyOk Tryz.prog 164 ty164:=TyOk.of (by kernel_rfl) (by kernel_rfl)
theorem Ty_164:Ty 164=some ty164:=by kernel_rfl
theorem ty164_size:ty164.size=1:=rfl
theorem ty164_bytes:ty164.bytes=24:=rfl
theorem ty164_zero:ty164.zero=[.slice none 0 0]:=rfl
theorem ty164_agg:ty164.isAgg=false:=by kernel_rfl
theorem kd_164:kd Ty 164 = .slice ty4:=by kernel_rfl
theorem ok186:TyOk Tryz.prog 186 ty186:=TyOk.of (by kernel_rfl) (by kernel_rfl)
theorem Ty_186:Ty 186=some ty186:=by kernel_rfl
theorem ty186_size:ty186.size=1:=rfl
theorem ty186_bytes:ty186.bytes=24:=rfl
theorem ty186_zero:ty186.zero=[.slice none 0 0]:=rfl
theorem ty186_agg:ty186.isAgg=false:=by kernel_rfl
theorem kd_186:kd Ty 186 = .slice ty191:=by kernel_rfl
theorem ok191:TyOk Tryz.prog 191 ty191:=TyOk.of (by kernel_rfl) (by kernel_rfl)
theorem Ty_191:Ty 191=some ty191:=by kernel_rfl
theorem ty191_size:ty191.size=2:=rfl
theorem ty191_bytes:ty191.bytes=16:=rfl
theorem ty191_zero:ty191.zero=[.int .i64 0,.int .i64 0]:=rfl
theorem ty191_agg:ty191.isAgg=true:=by kernel_rfl
theorem kd_191:kd Ty 191 = .arr 2 ty3:=by kernel_rfl
theorem ok194:TyOk Tryz.prog 194 ty194:=TyOk.of (by kernel_rfl) (by kernel_rfl)
theorem Ty_194:Ty 194=some ty194:=by kernel_rfl
theorem ty194_size:ty194.size=1:=rfl
theorem ty194_bytes:ty194.bytes=8:=rfl
theorem ty194_zero:ty194.zero=[.int .u64 0]:=rfl
theorem ty194_agg:ty194.isAgg=false:=by kernel_rfl
theorem kd_194:kd Ty 194 = .int .u64:=by kernel_rfl
theorem Ty_ok:TypesOk Tryz.prog Ty:=by
 have h:∀ p ∈ tyL,TyOk Tryz.prog p.1 p.2:=by
  refine List.forall_mem_cons.2 ⟨ok3,?_⟩
  refine List.forall_mem_cons.2 ⟨ok4,?_⟩
  refine List.forall_mem_cons.2 ⟨ok5,?_⟩
  refine List.forall_mem_cons.2 ⟨ok9,?_⟩
  refine List.forall_mem_cons.2 ⟨ok21,?_⟩
  refine List.forall_mem_cons.2 ⟨ok22,?_⟩
  refine List.forall_mem_cons.2 ⟨ok23,?_⟩
  refine List.forall_mem_cons.2 ⟨ok24,?_⟩
  refine List.forall_mem_cons.2 ⟨ok25,?_⟩
  refine List.forall_mem_cons.2 ⟨ok26,?_⟩
  refine List.forall_mem_cons.2 ⟨ok28,?_⟩
  refine List.forall_mem_cons.2 ⟨ok34,?_⟩
  refine List.forall_mem_cons.2 ⟨ok42,?_⟩
  refine List.forall_mem_cons.2 ⟨ok44,?_⟩
  refine List.forall_mem_cons.2 ⟨ok45,?_⟩
  refine List.forall_mem_cons.2 ⟨ok47,?_⟩
  refine List.forall_mem_cons.2 ⟨ok55,?_⟩
  refine List.forall_mem_cons.2 ⟨ok89,?_⟩
  refine List.forall_mem_cons.2 ⟨ok96,?_⟩
  refine List.forall_mem_cons.2 ⟨ok127,?_⟩
  refine List.forall_mem_cons.2 ⟨ok130,?_⟩
  refine List.forall_mem_cons.2 ⟨ok136,?_⟩
  refine List.forall_mem_cons.2 ⟨ok138,?_⟩
  refine List.forall_mem_cons.2 ⟨ok163,?_⟩
  refine List.forall_mem_cons.2 ⟨ok164,?_⟩
  refine List.forall_mem_cons.2 ⟨ok186,?_⟩
  refine List.forall_mem_cons.2 ⟨ok191,?_⟩
  refine List.forall_mem_cons.2 ⟨ok194,?_⟩
  simp
 intro t i hi
 unfold Ty at hi
 cases hf:tyL.find? (fun p=>p.1 == t) with
 | none=>simp[hf] at hi
 | some p=>
  simp only[hf,Option.map_some,Option.some.injEq] at hi
  have h1:=List.find?_some hf
  have h2:=h p (List.mem_of_find?_eq_some hf)
  simp only[beq_iff_eq] at h1
  rw[← h1,← hi]
  exact h2
attribute [simp] ty3_size ty4_size ty5_size ty9_size ty21_size ty22_size ty23_size ty24_size ty25_size ty26_size ty28_size ty34_size ty42_size ty44_size ty45_size ty47_size ty55_size ty89_size ty96_size ty127_size ty130_size ty136_size ty138_size ty163_size ty164_size ty186_size ty191_size ty194_size ty3_agg ty4_agg ty5_agg ty9_agg ty21_agg ty22_agg ty23_agg ty24_agg ty25_agg ty26_agg ty28_agg ty34_agg ty42_agg ty44_agg ty45_agg ty47_agg ty55_agg ty89_agg ty96_agg ty127_agg ty130_agg ty136_agg ty138_agg ty163_agg ty164_agg ty186_agg ty191_agg ty194_agg ty3_zero ty4_zero ty5_zero ty9_zero ty21_zero ty22_zero ty23_zero ty24_zero ty25_zero ty26_zero ty28_zero ty34_zero ty42_zero ty44_zero ty45_zero ty47_zero ty55_zero ty89_zero ty96_zero ty127_zero ty130_zero ty136_zero ty138_zero ty163_zero ty164_zero ty186_zero ty191_zero ty194_zero Ty_3 Ty_4 Ty_5 Ty_9 Ty_21 Ty_22 Ty_23 Ty_24 Ty_25 Ty_26 Ty_28 Ty_34 Ty_42 Ty_44 Ty_45 Ty_47 Ty_55 Ty_89 Ty_96 Ty_127 Ty_130 Ty_136 Ty_138 Ty_163 Ty_164 Ty_186 Ty_191 Ty_194 kd_3 kd_4 kd_5 kd_9 kd_21 kd_22 kd_23 kd_24 kd_25 kd_26 kd_28 kd_34 kd_42 kd_44 kd_45 kd_47 kd_55 kd_89 kd_96 kd_127 kd_130 kd_136 kd_138 kd_163 kd_164 kd_186 kd_191 kd_194 ty3_bytes ty4_bytes ty5_bytes ty9_bytes ty21_bytes ty22_bytes ty23_bytes ty24_bytes ty25_bytes ty26_bytes ty28_bytes ty34_bytes ty42_bytes ty44_bytes ty45_bytes ty47_bytes ty55_bytes ty89_bytes ty96_bytes ty127_bytes ty130_bytes ty136_bytes ty138_bytes ty163_bytes ty164_bytes ty186_bytes ty191_bytes ty194_bytes
end Go.Ab
/- Contracts of impl.within and (impl.Proc).kids, on abstract values; no conditions but a bound on the length. -/
namespace Go.Ab
open Go.Proofs
section
variable {f:FuncId} {N:Nat} {k:List Item} {ρ:Env} {H:Heap} {n:Nat} {Q:AVal→Heap→Nat→Prop} {id:Nat} {ops:List Oper} {y:Code}
theorem zE (h:∀ k':List Item,(∀ ρ H n,Runs Tryz.prog f N (.code y::k) ρ H n Q→Runs Tryz.prog f N k' ρ H n Q)→evalK Tryz.prog f N k' Q Ty ops.toArray ops ρ H n) (hN:ops.all (fun o=>dok N o.dst)=true:=by decide):Runs Tryz.prog f N (.code (.seq (.region id ops.toArray false) y)::k) ρ H n Q:=Runs.seqE Ty_ok hN h
theorem zF (h:∀ k':List Item,(∀ ρ H n,Runs Tryz.prog f N k ρ H n Q→Runs Tryz.prog f N k' ρ H n Q)→evalK Tryz.prog f N k' Q Ty ops.toArray ops ρ H n) (hN:ops.all (fun o=>dok N o.dst)=true:=by decide):Runs Tryz.prog f N (.code (.region id ops.toArray false)::k) ρ H n Q:=Runs.evalE Ty_ok hN h
end
def within (n lo hi:Int):Bool:=decide (lo≤n) && decide (n≤hi)
theorem within_ok (n lo hi:Int):PureC Tryz.prog 101 [int n,int lo,int hi] (fun r=>r=bool (within n lo hi)):=by
 refine PureC.of Tryz.func101 rfl Tryz.ntmps101 (by simp) fun Q hQ=>?_
 refine Runs.seqE Ty_ok (by decide) fun k' hk'=>?_
 simp
 refine hk' _ _ _ (Runs.seqE Ty_ok (by decide) fun k' hk'=>?_)
 simp
 by_cases h:lo≤n
 all_goals
  simp[h]
  refine hk' _ _ _ (Runs.ret Tryz.func101 (RetOk.one Tryz.results101) (hQ _ _ _ _ (ResOk.v _ _ _) ?_))
  simp[within,h]
structure AmbNode where
 kind:Int
 name:Str
 parent:Int
 deriving Inhabited,DecidableEq
abbrev Proc:=List AmbNode
def AmbNode.cells (x:AmbNode):List AVal:=[int x.kind,str x.name,int x.parent]
set_option linter.unusedSimpArgs false
end Go.Ab
/- Contracts of impl.prefixWords and impl.nodeText. -/
namespace Go.Ab
open Go.Proofs
set_option linter.unusedSimpArgs false
theorem draws:Tryz.prog.follows .mixedOrders=true:=by kernel_rfl
theorem e101:Ent Tryz.prog 101:=Ent.of Tryz.func101 (by kernel_rfl) rfl
def encStrs (t:Bool) (l:List Str):AVal:=.list t (l.map fun s=>[str s])
end Go.Ab
/- The abstract machine, part So: the library's sort of strings, laid on a slice of the caller's own. -/
namespace Go.Ab
open Go.Proofs Go.RowKit
set_option linter.unusedSectionVars false
theorem putCells_get {α:Type} {enc:α→Value} [Inhabited α] {off:Nat} {d:Array α} {cl:Array Value} (k:Nat) :
  (Sort.putCells enc off d cl)[k]?=(cl[k]?).map fun x=>if off≤k∧k<off+d.size then enc d[k - off]! else x:=by
 simp only[Sort.putCells,Array.getElem?_mapIdx]
theorem sort_world {c:Ctx} (g:Good c) {id:Id} {ss ss':List Str} (ho:c.H id=some ⟨1,ss.map fun s=>[str s]⟩) (hl:ss'.length=ss.length) (off:Nat) (hoff:off=0∨ss'=[]) (m:Nat) (os:Array Obj) :
  let c':Ctx:={ c with H:=c.H.set id ⟨1,ss'.map fun s=>[str s]⟩,w:=Sort.grow (Sort.putRow encStr (Sort.ahead c.w m) (c.β id) off ss'.toArray) os }
  Keeps c c'∧Good c':=by
 intro c'
 obtain⟨hB,cl,el,hh,hsz,hel⟩:=g.obj id _ ho
 simp only[List.length_map,Nat.mul_one] at hsz
 have hnew:(Sort.putRow encStr (Sort.ahead c.w m) (c.β id) off ss'.toArray).heap[c.β id]?=some (.cells (Sort.putCells encStr off ss'.toArray cl) el (0,0)):=by
  simp only[Sort.putRow,Sort.mapBlock,Sort.ahead,Array.getElem?_modify,hh]
  simp[Sort.onCells]
 have hoth:∀ k,k ≠ c.β id→(Sort.putRow encStr (Sort.ahead c.w m) (c.β id) off ss'.toArray).heap[k]?=c.w.heap[k]?:=fun k hk=>by
  simp only[Sort.putRow,Sort.mapBlock,Sort.ahead,Array.getElem?_modify]
  rw[if_neg (Ne.symm hk)]
 obtain⟨k1,g1⟩:=upd_same g ho ⟨1,ss'.map fun s=>[str s]⟩ (Sort.putRow encStr (Sort.ahead c.w m) (c.β id) off ss'.toArray) cl (Sort.putCells encStr off ss'.toArray cl) el el ⟨rfl,rfl,rfl⟩ (by simp[Sort.ahead]) hh hoth hnew
  (by simp[Sort.putCells]) rfl (by simp[hl]) (by
   refine⟨by simp[Sort.putCells];omega,fun i e he=>?_⟩
   rw[List.getElem?_map] at he
   obtain⟨s,hs,rfl⟩:=Option.map_eq_some_iff.1 he
   refine⟨rfl,fun j a ha=>?_⟩
   have hi:i<ss'.length:=(List.getElem?_eq_some_iff.1 hs).1
   have ho0:off=0:=hoff.elim (fun h=>h) fun h=>by subst h;simp at hi
   subst ho0
   match j,ha with
   | 0,ha=>
    simp only[List.getElem?_cons_zero,Option.some.injEq] at ha
    subst ha
    refine⟨encStr s,?_,.v _⟩
    rw[putCells_get]
    have hic:i<cl.size:=by omega
    simp only[Nat.mul_one,Nat.add_zero,Array.getElem?_eq_getElem hic,Option.map_some,Nat.zero_le,true_and,Nat.zero_add,Nat.sub_zero,List.size_toArray,hi,if_true,Option.some.injEq]
    have:ss'.toArray[i]! = s:=by
     obtain⟨h1,h2⟩:=List.getElem?_eq_some_iff.1 hs
     simp[h1,h2]
    rw[this]
   | j+1,ha=>simp at ha)
 obtain⟨k2,g2⟩:=more_blocks g1 c'.w ⟨rfl,rfl,rfl⟩ (by simp[c']) fun k hk=>Sort.heap_grow_old _ _ hk
 exact⟨k1.trans k2,g2⟩
theorem rows_cells {H:Heap} {l:List Sh} (hf:∀ t ∈ l,t = .c):∀ {as1' bs:List (List AVal)} {S:List Id},rowsP (Row H l) as1' bs S→as1'=bs∧S=[]:=by
 intro as1'
 induction as1' with
 | nil=>intro bs S hr;match bs,hr with
  | [],h=>exact⟨rfl,h⟩
  | _::_,hr=>exact hr.elim
 | cons a _ ih=>
  intro bs S hr
  match bs,hr with
  | b::bs,⟨_,_,q1,q2,q3,_⟩=>
   obtain⟨rfl,rfl,_⟩:=q1.fill hf
   obtain⟨rfl,rfl⟩:=ih q2
   exact⟨rfl,q3⟩
  | [],hr=>exact hr.elim
end Go.Ab
/- The abstract machine, part Sx: regions that draw their order with one call whose result the caller owns; all else stands ahead of it or waits for it. -/
namespace Go.Ab
set_option linter.unusedSectionVars false
set_option linter.unusedVariables false
section
variable (P:Program) (N:Nat) (ops:Array Oper) (κ:Op→Nat) (cix:Nat)
end
section
variable {P:Program} {N:Nat} {ops:Array Oper} {κ:Op→Nat} {cix:Nat}
end
section
variable {P:Program} {f:FuncId} {N:Nat} {k:List Item} {ρ:Env} {H:Heap} {n:Nat} {Q:AVal→Heap→Nat→Prop} {κ:Op→Nat}
end
section
variable (P:Program) (f:FuncId) (N:Nat) (k:List Item) (Q:AVal→Heap→Nat→Prop) (Ty:Types) (κ:Op→Nat) (ops:Array Oper)
def evalX:List Oper→Env→Heap→Nat→Prop
 | [],ρ,H,n=>Runs P f N k ρ H n Q
 | o::l,ρ,H,n=>o.guard=none∧match stepF Ty o.dst o.op ρ H n with
  | some (v,H',n')=>evalX l (ρ.put o.dst v) H' n'
  | none=>False
def evalB:Nat→List Oper→Env→Heap→Nat→Prop
 | _,[],_,_,_=>False
 | 0,o::l,ρ,H,n=>o.guard=none∧∃ post:AVal→Heap→Nat→Prop,OpSem P N o (loc o.op ρ) H n post∧∀ v H' n',post v H' n'→evalX P f N k Q Ty l (ρ.put o.dst v) H' n'
 | c+1,o::l,ρ,H,n=>∃ s',StepD P N ops κ o (ρ,H,n) s'∧evalB c l s'.1 s'.2.1 s'.2.2
end
section
variable {P:Program} {f:FuncId} {N:Nat} {k:List Item} {Q:AVal→Heap→Nat→Prop} {Ty:Types} {κ:Op→Nat} {ops:Array Oper} {o:Oper} {l:List Oper} {ρ:Env} {H:Heap} {n:Nat} {c:Nat}
theorem evalB.step (hT:TypesOk P Ty) (hκ:KOk κ) {v:AVal} {H':Heap} {n':Nat} (hg:o.guard=none) (hs:stepF Ty o.dst o.op ρ H n=some (v,H',n')) (h:evalB P f N k Q Ty κ ops c l (ρ.put o.dst v) H' n'):evalB P f N k Q Ty κ ops (c+1) (o::l) ρ H n:=
 ⟨_,StepD.of_step hT hκ (by simp[gok,hg]) hs,h⟩
theorem loc_args {d:Operand} {args:Array Operand} {ats:Array TypeId}:args.toList.map (loc (.call ⟨.value d,args,ats⟩) ρ).ev=args.toList.map ρ.ev∧(loc (.call ⟨.value d,args,ats⟩) ρ).ev d=ρ.ev d:=
 ⟨List.map_congr_left fun x hx=>loc_ev (by simp[Op.operands,Call.operands];exact .inr (by simpa using hx)),loc_ev (by simp[Op.operands,Call.operands])⟩
theorem evalB.callW {K:List OwnE} {ids:List Id} {d:Option Tmp} {g:Operand} {args:Array Operand} {ats:Array TypeId} {ty:TypeId} {pos:String} {af:Array Edge} {R:AVal→Prop} {f':FuncId} {as1 args':List AVal} {sh:Sh}
  (h:OwnS P f' args' sh R) (hent:Ent P f') (ha:ArgsOk H n as1 args') (hs:Sep H n K ids) (hg:ρ.ev g = .fn (.func f') [] []) (has:args.toList.map ρ.ev=as1)
  (hk:∀ v H1 n1 r,Sep H1 n1 ((sh,v,r)::K) ids→R r→n≤n1→(∀ i ∈ ids,H1 i=H i)→evalX P f N k Q Ty l (ρ.put d v) H1 n1) :
  evalB P f N k Q Ty κ ops 0 (⟨d,.call ⟨.value g,args,ats⟩,ty,pos,af,none⟩::l) ρ H n:=
 ⟨rfl,_,OpSem.callW (by rw[loc_args.2];exact hg) hent (by rw[loc_args.1,has];exact ha) h hs,fun v H' n' ⟨r,h1,h2,h3,h4⟩=>hk v H' n' r h1 h2 h3 h4⟩
end
end Go.Ab
