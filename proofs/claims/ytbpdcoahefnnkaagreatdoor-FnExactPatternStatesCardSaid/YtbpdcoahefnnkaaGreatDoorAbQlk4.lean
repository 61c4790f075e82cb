/- Merged texts (4 of 16) of the proof that ends in Lky: Ty X P So Sx. -/
import Derived.Test.YtbpdcoahefnnkaaGreatDoorAbQlk3
import Derived.Test.YtbpdcoahefnnkaaGreatDoorProg
import Derived.KernelRfl
import Derived.Shelf.Sort.Plain
/- The seat's types: what the model's table says of each, as plain data. By program. -/
namespace Go.Ab
open Go.Proofs
theorem TyOk.of {P:Program} {t:TypeId} {s b:Nat} {z:List Value} (h:(P.underlying t).isSome=true) (h2:(P.info? t).map (fun i=>(i.size,i.bytes,i.zero.map Value.cells))=some (s,b,some z.toArray)):TyOk P t ⟨(P.underlying t).getD .invalid,s,b,z⟩:=by
 refine⟨?_,?_⟩
 ·cases hu:P.underlying t with
  | none=>simp[hu] at h
  | some d=>rfl
 cases hi:P.info? t with
 | none=>simp[hi] at h2
 | some info=>
  simp only[hi,Option.map_some,Option.some.injEq,Prod.mk.injEq,Option.map_eq_some_iff] at h2
  obtain⟨h3,h4,zv,h5,h6⟩:=h2
  exact⟨info,zv,rfl,h3,h4,h5,h6⟩
noncomputable def ty3:TI:=⟨(Tryz.prog.underlying 3).getD .invalid,1,8,[.int .i64 0]⟩
noncomputable def ty4:TI:=⟨(Tryz.prog.underlying 4).getD .invalid,1,1,[.bool false]⟩
noncomputable def ty5:TI:=⟨(Tryz.prog.underlying 5).getD .invalid,1,1,[.int .u8 0]⟩
noncomputable def ty9:TI:=⟨(Tryz.prog.underlying 9).getD .invalid,1,16,[.string ⟨#[]⟩]⟩
noncomputable def ty22:TI:=⟨(Tryz.prog.underlying 22).getD .invalid,1,24,[.slice none 0 0]⟩
noncomputable def ty23:TI:=⟨(Tryz.prog.underlying 23).getD .invalid,1,24,[.slice none 0 0]⟩
noncomputable def ty24:TI:=⟨(Tryz.prog.underlying 24).getD .invalid,1,24,[.slice none 0 0]⟩
noncomputable def ty25:TI:=⟨(Tryz.prog.underlying 25).getD .invalid,1,24,[.slice none 0 0]⟩
noncomputable def ty26:TI:=⟨(Tryz.prog.underlying 26).getD .invalid,1,24,[.slice none 0 0]⟩
noncomputable def ty28:TI:=⟨(Tryz.prog.underlying 28).getD .invalid,6,112,[.int .i64 0,.slice none 0 0,.slice none 0 0,.int .i64 0,.slice none 0 0,.slice none 0 0]⟩
noncomputable def ty42:TI:=⟨(Tryz.prog.underlying 42).getD .invalid,1,24,[.slice none 0 0]⟩
noncomputable def ty44:TI:=⟨(Tryz.prog.underlying 44).getD .invalid,1,24,[.slice none 0 0]⟩
noncomputable def ty45:TI:=⟨(Tryz.prog.underlying 45).getD .invalid,1,24,[.slice none 0 0]⟩
noncomputable def ty47:TI:=⟨(Tryz.prog.underlying 47).getD .invalid,6,112,[.int .i64 0,.slice none 0 0,.slice none 0 0,.int .i64 0,.slice none 0 0,.slice none 0 0]⟩
noncomputable def ty55:TI:=⟨(Tryz.prog.underlying 55).getD .invalid,2,48,[.slice none 0 0,.slice none 0 0]⟩
noncomputable def ty63:TI:=⟨(Tryz.prog.underlying 63).getD .invalid,1,24,[.slice none 0 0]⟩
noncomputable def ty64:TI:=⟨(Tryz.prog.underlying 64).getD .invalid,1,24,[.slice none 0 0]⟩
noncomputable def ty66:TI:=⟨(Tryz.prog.underlying 66).getD .invalid,2,48,[.slice none 0 0,.slice none 0 0]⟩
noncomputable def ty70:TI:=⟨(Tryz.prog.underlying 70).getD .invalid,1,24,[.slice none 0 0]⟩
noncomputable def ty72:TI:=⟨(Tryz.prog.underlying 72).getD .invalid,2,48,[.slice none 0 0,.slice none 0 0]⟩
noncomputable def ty89:TI:=⟨(Tryz.prog.underlying 89).getD .invalid,3,32,[.string ⟨#[]⟩,.int .i64 0,.int .i64 0]⟩
noncomputable def ty96:TI:=⟨(Tryz.prog.underlying 96).getD .invalid,3,32,[.string ⟨#[]⟩,.int .i64 0,.int .i64 0]⟩
noncomputable def ty110:TI:=⟨(Tryz.prog.underlying 110).getD .invalid,1,24,[.slice none 0 0]⟩
noncomputable def ty127:TI:=⟨(Tryz.prog.underlying 127).getD .invalid,3,40,[.int .i64 0,.int .i64 0,.slice none 0 0]⟩
noncomputable def ty130:TI:=⟨(Tryz.prog.underlying 130).getD .invalid,2,24,[.string ⟨#[]⟩,.int .i64 0]⟩
noncomputable def ty136:TI:=⟨(Tryz.prog.underlying 136).getD .invalid,3,40,[.int .i64 0,.int .i64 0,.slice none 0 0]⟩
noncomputable def ty138:TI:=⟨(Tryz.prog.underlying 138).getD .invalid,2,24,[.string ⟨#[]⟩,.int .i64 0]⟩
noncomputable def ty145:TI:=⟨(Tryz.prog.underlying 145).getD .invalid,3,24,[.int .i64 0,.int .i64 0,.int .i64 0]⟩
noncomputable def ty163:TI:=⟨(Tryz.prog.underlying 163).getD .invalid,1,24,[.slice none 0 0]⟩
noncomputable def ty186:TI:=⟨(Tryz.prog.underlying 186).getD .invalid,1,24,[.slice none 0 0]⟩
noncomputable def ty191:TI:=⟨(Tryz.prog.underlying 191).getD .invalid,2,16,[.int .i64 0,.int .i64 0]⟩
noncomputable def ty194:TI:=⟨(Tryz.prog.underlying 194).getD .invalid,1,8,[.int .u64 0]⟩
noncomputable def tyL:List (Nat × TI):=[(3,ty3),(4,ty4),(5,ty5),(9,ty9),(22,ty22),(23,ty23),(24,ty24),(25,ty25),(26,ty26),(28,ty28),(42,ty42),(44,ty44),(45,ty45),(47,ty47),(55,ty55),(63,ty63),(64,ty64),(66,ty66),(70,ty70),(72,ty72),(89,ty89),(96,ty96),(110,ty110),(127,ty127),(130,ty130),(136,ty136),(138,ty138),(145,ty145),(163,ty163),(186,ty186),(191,ty191),(194,ty194)]
noncomputable def Ty:Types:=fun t=>(tyL.find? (fun p=>p.1 == t)).map (·.2)
theorem ok3:TyOk Tryz.prog 3 ty3:=TyOk.of (by kernel_rfl) (by kernel_rfl)
theorem Ty_3:Ty 3=some ty3:=by kernel_rfl
theorem ty3_size:ty3.size=1:=rfl
theorem ty3_bytes:ty3.bytes=8:=rfl
theorem ty3_zero:ty3.zero=[.int .i64 0]:=rfl
theorem ty3_agg:ty3.isAgg=false:=by kernel_rfl
theorem kd_3:kd Ty 3 = .int .i64:=by kernel_rfl
theorem ok4:TyOk Tryz.prog 4 ty4:=TyOk.of (by kernel_rfl) (by kernel_rfl)
theorem Ty_4:Ty 4=some ty4:=by kernel_rfl
theorem ty4_size:ty4.size=1:=rfl
theorem ty4_bytes:ty4.bytes=1:=rfl
theorem ty4_zero:ty4.zero=[.bool false]:=rfl
theorem ty4_agg:ty4.isAgg=false:=by kernel_rfl
theorem kd_4:kd Ty 4 = .bool:=by kernel_rfl
theorem ok5:TyOk Tryz.prog 5 ty5:=TyOk.of (by kernel_rfl) (by kernel_rfl)
theorem Ty_5:Ty 5=some ty5:=by kernel_rfl
theorem ty5_size:ty5.size=1:=rfl
theorem ty5_bytes:ty5.bytes=1:=rfl
theorem ty5_zero:ty5.zero=[.int .u8 0]:=rfl
theorem ty5_agg:ty5.isAgg=false:=by kernel_rfl
theorem kd_5:kd Ty 5 = .int .u8:=by kernel_rfl
theorem ok9:TyOk Tryz.prog 9 ty9:=TyOk.of (by kernel_rfl) (by kernel_rfl)
theorem Ty_9:Ty 9=some ty9:=by kernel_rfl
theorem ty9_size:ty9.size=1:=rfl
theorem ty9_bytes:ty9.bytes=16:=rfl
theorem ty9_zero:ty9.zero=[.string ⟨#[]⟩]:=rfl
theorem ty9_agg:ty9.isAgg=false:=by kernel_rfl
theorem kd_9:kd Ty 9 = .string:=by kernel_rfl
theorem ok22:TyOk Tryz.prog 22 ty22:=TyOk.of (by kernel_rfl) (by kernel_rfl)
theorem Ty_22:Ty 22=some ty22:=by kernel_rfl
theorem ty22_size:ty22.size=1:=rfl
theorem ty22_bytes:ty22.bytes=24:=rfl
theorem ty22_zero:ty22.zero=[.slice none 0 0]:=rfl
theorem ty22_agg:ty22.isAgg=false:=by kernel_rfl
theorem kd_22:kd Ty 22 = .slice ty89:=by kernel_rfl
theorem ok23:TyOk Tryz.prog 23 ty23:=TyOk.of (by kernel_rfl) (by kernel_rfl)
theorem Ty_23:Ty 23=some ty23:=by kernel_rfl
theorem ty23_size:ty23.size=1:=rfl
theorem ty23_bytes:ty23.bytes=24:=rfl
theorem ty23_zero:ty23.zero=[.slice none 0 0]:=rfl
theorem ty23_agg:ty23.isAgg=false:=by kernel_rfl
theorem kd_23:kd Ty 23 = .slice ty127:=by kernel_rfl
theorem ok24:TyOk Tryz.prog 24 ty24:=TyOk.of (by kernel_rfl) (by kernel_rfl)
theorem Ty_24:Ty 24=some ty24:=by kernel_rfl
theorem ty24_size:ty24.size=1:=rfl
theorem ty24_bytes:ty24.bytes=24:=rfl
theorem ty24_zero:ty24.zero=[.slice none 0 0]:=rfl
theorem ty24_agg:ty24.isAgg=false:=by kernel_rfl
theorem kd_24:kd Ty 24 = .slice ty3:=by kernel_rfl
theorem ok25:TyOk Tryz.prog 25 ty25:=TyOk.of (by kernel_rfl) (by kernel_rfl)
theorem Ty_25:Ty 25=some ty25:=by kernel_rfl
theorem ty25_size:ty25.size=1:=rfl
theorem ty25_bytes:ty25.bytes=24:=rfl
theorem ty25_zero:ty25.zero=[.slice none 0 0]:=rfl
theorem ty25_agg:ty25.isAgg=false:=by kernel_rfl
theorem kd_25:kd Ty 25 = .slice ty9:=by kernel_rfl
theorem ok26:TyOk Tryz.prog 26 ty26:=TyOk.of (by kernel_rfl) (by kernel_rfl)
theorem Ty_26:Ty 26=some ty26:=by kernel_rfl
theorem ty26_size:ty26.size=1:=rfl
theorem ty26_bytes:ty26.bytes=24:=rfl
theorem ty26_zero:ty26.zero=[.slice none 0 0]:=rfl
theorem ty26_agg:ty26.isAgg=false:=by kernel_rfl
theorem kd_26:kd Ty 26 = .slice ty130:=by kernel_rfl
theorem ok28:TyOk Tryz.prog 28 ty28:=TyOk.of (by kernel_rfl) (by kernel_rfl)
theorem Ty_28:Ty 28=some ty28:=by kernel_rfl
theorem ty28_size:ty28.size=6:=rfl
theorem ty28_bytes:ty28.bytes=112:=rfl
theorem ty28_zero:ty28.zero=[.int .i64 0,.slice none 0 0,.slice none 0 0,.int .i64 0,.slice none 0 0,.slice none 0 0]:=rfl
theorem ty28_agg:ty28.isAgg=true:=by kernel_rfl
theorem kd_28:kd Ty 28 = .struct [(0,ty3),(1,ty23),(2,ty24),(3,ty3),(4,ty25),(5,ty26)]:=by kernel_rfl
theorem ok42:TyOk Tryz.prog 42 ty42:=TyOk.of (by kernel_rfl) (by kernel_rfl)
theorem Ty_42:Ty 42=some ty42:=by kernel_rfl
theorem ty42_size:ty42.size=1:=rfl
theorem ty42_bytes:ty42.bytes=24:=rfl
theorem ty42_zero:ty42.zero=[.slice none 0 0]:=rfl
theorem ty42_agg:ty42.isAgg=false:=by kernel_rfl
theorem kd_42:kd Ty 42 = .slice ty96:=by kernel_rfl
theorem ok44:TyOk Tryz.prog 44 ty44:=TyOk.of (by kernel_rfl) (by kernel_rfl)
theorem Ty_44:Ty 44=some ty44:=by kernel_rfl
theorem ty44_size:ty44.size=1:=rfl
theorem ty44_bytes:ty44.bytes=24:=rfl
theorem ty44_zero:ty44.zero=[.slice none 0 0]:=rfl
theorem ty44_agg:ty44.isAgg=false:=by kernel_rfl
theorem kd_44:kd Ty 44 = .slice ty136:=by kernel_rfl
theorem ok45:TyOk Tryz.prog 45 ty45:=TyOk.of (by kernel_rfl) (by kernel_rfl)
theorem Ty_45:Ty 45=some ty45:=by kernel_rfl
theorem ty45_size:ty45.size=1:=rfl
theorem ty45_bytes:ty45.bytes=24:=rfl
theorem ty45_zero:ty45.zero=[.slice none 0 0]:=rfl
theorem ty45_agg:ty45.isAgg=false:=by kernel_rfl
theorem kd_45:kd Ty 45 = .slice ty138:=by kernel_rfl
theorem ok47:TyOk Tryz.prog 47 ty47:=TyOk.of (by kernel_rfl) (by kernel_rfl)
theorem Ty_47:Ty 47=some ty47:=by kernel_rfl
theorem ty47_size:ty47.size=6:=rfl
theorem ty47_bytes:ty47.bytes=112:=rfl
theorem ty47_zero:ty47.zero=[.int .i64 0,.slice none 0 0,.slice none 0 0,.int .i64 0,.slice none 0 0,.slice none 0 0]:=rfl
theorem ty47_agg:ty47.isAgg=true:=by kernel_rfl
theorem kd_47:kd Ty 47 = .struct [(0,ty3),(1,ty44),(2,ty24),(3,ty3),(4,ty25),(5,ty45)]:=by kernel_rfl
theorem ok55:TyOk Tryz.prog 55 ty55:=TyOk.of (by kernel_rfl) (by kernel_rfl)
theorem Ty_55:Ty 55=some ty55:=by kernel_rfl
theorem ty55_size:ty55.size=2:=rfl
theorem ty55_bytes:ty55.bytes=48:=rfl
theorem ty55_zero:ty55.zero=[.slice none 0 0,.slice none 0 0]:=rfl
theorem ty55_agg:ty55.isAgg=true:=by kernel_rfl
theorem kd_55:kd Ty 55 = .struct [(0,ty24),(1,ty24)]:=by kernel_rfl
theorem ok63:TyOk Tryz.prog 63 ty63:=TyOk.of (by kernel_rfl) (by kernel_rfl)
theorem Ty_63:Ty 63=some ty63:=by kernel_rfl
theorem ty63_size:ty63.size=1:=rfl
theorem ty63_bytes:ty63.bytes=24:=rfl
theorem ty63_zero:ty63.zero=[.slice none 0 0]:=rfl
theorem ty63_agg:ty63.isAgg=false:=by kernel_rfl
theorem kd_63:kd Ty 63 = .slice ty28:=by kernel_rfl
theorem ok64:TyOk Tryz.prog 64 ty64:=TyOk.of (by kernel_rfl) (by kernel_rfl)
theorem Ty_64:Ty 64=some ty64:=by kernel_rfl
theorem ty64_size:ty64.size=1:=rfl
theorem ty64_bytes:ty64.bytes=24:=rfl
theorem ty64_zero:ty64.zero=[.slice none 0 0]:=rfl
theorem ty64_agg:ty64.isAgg=false:=by kernel_rfl
theorem kd_64:kd Ty 64 = .slice ty145:=by kernel_rfl
theorem ok66:TyOk Tryz.prog 66 ty66:=TyOk.of (by kernel_rfl) (by kernel_rfl)
theorem Ty_66:Ty 66=some ty66:=by kernel_rfl
theorem ty66_size:ty66.size=2:=rfl
theorem ty66_bytes:ty66.bytes=48:=rfl
theorem ty66_zero:ty66.zero=[.slice none 0 0,.slice none 0 0]:=rfl
theorem ty66_agg:ty66.isAgg=true:=by kernel_rfl
theorem kd_66:kd Ty 66 = .struct [(0,ty63),(1,ty64)]:=by kernel_rfl
theorem ok70:TyOk Tryz.prog 70 ty70:=TyOk.of (by kernel_rfl) (by kernel_rfl)
theorem Ty_70:Ty 70=some ty70:=by kernel_rfl
theorem ty70_size:ty70.size=1:=rfl
theorem ty70_bytes:ty70.bytes=24:=rfl
theorem ty70_zero:ty70.zero=[.slice none 0 0]:=rfl
theorem ty70_agg:ty70.isAgg=false:=by kernel_rfl
theorem kd_70:kd Ty 70 = .slice ty47:=by kernel_rfl
theorem ok72:TyOk Tryz.prog 72 ty72:=TyOk.of (by kernel_rfl) (by kernel_rfl)
theorem Ty_72:Ty 72=some ty72:=by kernel_rfl
theorem ty72_size:ty72.size=2:=rfl
theorem ty72_bytes:ty72.bytes=48:=rfl
theorem ty72_zero:ty72.zero=[.slice none 0 0,.slice none 0 0]:=rfl
theorem ty72_agg:ty72.isAgg=true:=by kernel_rfl
theorem kd_72:kd Ty 72 = .struct [(0,ty70),(1,ty64)]:=by kernel_rfl
theorem ok89:TyOk Tryz.prog 89 ty89:=TyOk.of (by kernel_rfl) (by kernel_rfl)
theorem Ty_89:Ty 89=some ty89:=by kernel_rfl
theorem ty89_size:ty89.size=3:=rfl
theorem ty89_bytes:ty89.bytes=32:=rfl
theorem ty89_zero:ty89.zero=[.string ⟨#[]⟩,.int .i64 0,.int .i64 0]:=rfl
theorem ty89_agg:ty89.isAgg=true:=by kernel_rfl
theorem kd_89:kd Ty 89 = .struct [(0,ty9),(1,ty3),(2,ty3)]:=by kernel_rfl
theorem ok96:TyOk Tryz.prog 96 ty96:=TyOk.of (by kernel_rfl) (by kernel_rfl)
theorem Ty_96:Ty 96=some ty96:=by kernel_rfl
theorem ty96_size:ty96.size=3:=rfl
theorem ty96_bytes:ty96.bytes=32:=rfl
theorem ty96_zero:ty96.zero=[.string ⟨#[]⟩,.int .i64 0,.int .i64 0]:=rfl
theorem ty96_agg:ty96.isAgg=true:=by kernel_rfl
theorem kd_96:kd Ty 96 = .struct [(0,ty9),(1,ty3),(2,ty3)]:=by kernel_rfl
theorem ok110:TyOk Tryz.prog 110 ty110:=TyOk.of (by kernel_rfl) (by kernel_rfl)
theorem Ty_110:Ty 110=some ty110:=by kernel_rfl
theorem ty110_size:ty110.size=1:=rfl
theorem ty110_bytes:ty110.bytes=24:=rfl
theorem ty110_zero:ty110.zero=[.slice none 0 0]:=rfl
theorem ty110_agg:ty110.isAgg=false:=by kernel_rfl
theorem kd_110:kd Ty 110 = .slice ty55:=by kernel_rfl
theorem ok127:TyOk Tryz.prog 127 ty127:=TyOk.of (by kernel_rfl) (by kernel_rfl)
theorem Ty_127:Ty 127=some ty127:=by kernel_rfl
theorem ty127_size:ty127.size=3:=rfl
theorem ty127_bytes:ty127.bytes=40:=rfl
theorem ty127_zero:ty127.zero=[.int .i64 0,.int .i64 0,.slice none 0 0]:=rfl
theorem ty127_agg:ty127.isAgg=true:=by kernel_rfl
theorem kd_127:kd Ty 127 = .struct [(0,ty3),(1,ty3),(2,ty24)]:=by kernel_rfl
theorem ok130:TyOk Tryz.prog 130 ty130:=TyOk.of (by kernel_rfl) (by kernel_rfl)
theorem Ty_130:Ty 130=some ty130:=by kernel_rfl
theorem ty130_size:ty130.size=2:=rfl
theorem ty130_bytes:ty130.bytes=24:=rfl
theorem ty130_zero:ty130.zero=[.string ⟨#[]⟩,.int .i64 0]:=rfl
theorem ty130_agg:ty130.isAgg=true:=by kernel_rfl
theorem kd_130:kd Ty 130 = .struct [(0,ty9),(1,ty3)]:=by kernel_rfl
theorem ok136:TyOk Tryz.prog 136 ty136:=TyOk.of (by kernel_rfl) (by kernel_rfl)
theorem Ty_136:Ty 136=some ty136:=by kernel_rfl
theorem ty136_size:ty136.size=3:=rfl
theorem ty136_bytes:ty136.bytes=40:=rfl
theorem ty136_zero:ty136.zero=[.int .i64 0,.int .i64 0,.slice none 0 0]:=rfl
theorem ty136_agg:ty136.isAgg=true:=by kernel_rfl
theorem kd_136:kd Ty 136 = .struct [(0,ty3),(1,ty3),(2,ty24)]:=by kernel_rfl
theorem ok138:TyOk Tryz.prog 138 ty138:=TyOk.of (by kernel_rfl) (by kernel_rfl)
theorem Ty_138:Ty 138=some ty138:=by kernel_rfl
theorem ty138_size:ty138.size=2:=rfl
theorem ty138_bytes:ty138.bytes=24:=rfl
theorem ty138_zero:ty138.zero=[.string ⟨#[]⟩,.int .i64 0]:=rfl
theorem ty138_agg:ty138.isAgg=true:=by kernel_rfl
theorem kd_138:kd Ty 138 = .struct [(0,ty9),(1,ty3)]:=by kernel_rfl
theorem ok145:TyOk Tryz.prog 145 ty145:=TyOk.of (by kernel_rfl) (by kernel_rfl)
theorem Ty_145:Ty 145=some ty145:=by kernel_rfl
theorem ty145_size:ty145.size=3:=rfl
theorem ty145_bytes:ty145.bytes=24:=rfl
theorem ty145_zero:ty145.zero=[.int .i64 0,.int .i64 0,.int .i64 0]:=rfl
theorem ty145_agg:ty145.isAgg=true:=by kernel_rfl
theorem kd_145:kd Ty 145 = .arr 3 ty3:=by kernel_rfl
theorem ok163:TyOk Tryz.prog 163 ty163:=TyOk.of (by kernel_rfl) (by kernel_rfl)
theorem Ty_163:Ty 163=some ty163:=by kernel_rfl
theorem ty163_size:ty163.size=1:=rfl
theorem ty163_bytes:ty163.bytes=24:=rfl
theorem ty163_zero:ty163.zero=[.slice none 0 0]:=rfl
theorem ty163_agg:ty163.isAgg=false:=by kernel_rfl
theorem kd_163:kd Ty 163 = .slice ty5:=by kernel_rfl
theorem ok186:TyOk Tryz.prog 186 ty186:=TyOk.of (by kernel_rfl) (by kernel_rfl)
theorem Ty_186:Ty 186=some ty186:=by kernel_rfl
theorem ty186_size:ty186.size=1:=rfl
theorem ty186_bytes:ty186.bytes=24:=rfl
theorem ty186_zero:ty186.zero=[.slice none 0 0]:=rfl
theorem ty186_agg:ty186.isAgg=false:=by kernel_rfl
theorem kd_186:kd Ty 186 = .slice ty191:=by kernel_rfl
theorem ok191:TyOk Tryz.prog 191 ty191:=TyOk.of (by kernel_rfl) (by kernel_rfl)
theorem Ty_191:Ty 191=some ty191:=by kernel_rfl
theorem ty191_size:ty191.size=2:=rfl
theorem ty191_bytes:ty191.bytes=16:=rfl
theorem ty191_zero:ty191.zero=[.int .i64 0,.int .i64 0]:=rfl
theorem ty191_agg:ty191.isAgg=true:=by kernel_rfl
theorem kd_191:kd Ty 191 = .arr 2 ty3:=by kernel_rfl
theorem ok194:TyOk Tryz.prog 194 ty194:=TyOk.of (by kernel_rfl) (by kernel_rfl)
theorem Ty_194:Ty 194=some ty194:=by kernel_rfl
theorem ty194_size:ty194.size=1:=rfl
theorem ty194_bytes:ty194.bytes=8:=rfl
theorem ty194_zero:ty194.zero=[.int .u64 0]:=rfl
theorem ty194_agg:ty194.isAgg=false:=by kernel_rfl
theorem kd_194:kd Ty 194 = .int .u64:=by kernel_rfl
theorem Ty_ok:TypesOk Tryz.prog Ty:=by
 have h:∀ p ∈ tyL,TyOk Tryz.prog p.1 p.2:=by
  refine List.forall_mem_cons.2 ⟨ok3,?_⟩
  refine List.forall_mem_cons.2 ⟨ok4,?_⟩
  refine List.forall_mem_cons.2 ⟨ok5,?_⟩
  refine List.forall_mem_cons.2 ⟨ok9,?_⟩
  refine List.forall_mem_cons.2 ⟨ok22,?_⟩
  refine List.forall_mem_cons.2 ⟨ok23,?_⟩
  refine List.forall_mem_cons.2 ⟨ok24,?_⟩
  refine List.forall_mem_cons.2 ⟨ok25,?_⟩
  refine List.forall_mem_cons.2 ⟨ok26,?_⟩
  refine List.forall_mem_cons.2 ⟨ok28,?_⟩
  refine List.forall_mem_cons.2 ⟨ok42,?_⟩
  refine List.forall_mem_cons.2 ⟨ok44,?_⟩
  refine List.forall_mem_cons.2 ⟨ok45,?_⟩
  refine List.forall_mem_cons.2 ⟨ok47,?_⟩
  refine List.forall_mem_cons.2 ⟨ok55,?_⟩
  refine List.forall_mem_cons.2 ⟨ok63,?_⟩
  refine List.forall_mem_cons.2 ⟨ok64,?_⟩
  refine List.forall_mem_cons.2 ⟨ok66,?_⟩
  refine List.forall_mem_cons.2 ⟨ok70,?_⟩
  refine List.forall_mem_cons.2 ⟨ok72,?_⟩
  refine List.forall_mem_cons.2 ⟨ok89,?_⟩
  refine List.forall_mem_cons.2 ⟨ok96,?_⟩
  refine List.forall_mem_cons.2 ⟨ok110,?_⟩
  refine List.forall_mem_cons.2 ⟨ok127,?_⟩
  refine List.forall_mem_cons.2 ⟨ok130,?_⟩
  refine List.forall_mem_cons.2 ⟨ok136,?_⟩
  refine List.forall_mem_cons.2 ⟨ok138,?_⟩
  refine List.forall_mem_cons.2 ⟨ok145,?_⟩
  refine List.forall_mem_cons.2 ⟨ok163,?_⟩
  refine List.forall_mem_cons.2 ⟨ok186,?_⟩
  refine List.forall_mem_cons.2 ⟨ok191,?_⟩
  refine List.forall_mem_cons.2 ⟨ok194,?_⟩
  simp
 intro t i hi
 unfold Ty at hi
 cases hf:tyL.find? (fun p=>p.1 == t) with
 | none=>simp[hf] at hi
 | some p=>
  simp only[hf,Option.map_some,Option.some.injEq] at hi
  have h1:=List.find?_some hf
  have h2:=h p (List.mem_of_find?_eq_some hf)
  simp only[beq_iff_eq] at h1
  rw[← h1,← hi]
  exact h2
attribute [simp] ty3_size ty4_size ty5_size ty9_size ty22_size ty23_size ty24_size ty25_size ty26_size ty28_size ty42_size ty44_size ty45_size ty47_size ty55_size ty63_size ty64_size ty66_size ty70_size ty72_size ty89_size ty96_size ty110_size ty127_size ty130_size ty136_size ty138_size ty145_size ty163_size ty186_size ty191_size ty194_size ty3_agg ty4_agg ty5_agg ty9_agg ty22_agg ty23_agg ty24_agg ty25_agg ty26_agg ty28_agg ty42_agg ty44_agg ty45_agg ty47_agg ty55_agg ty63_agg ty64_agg ty66_agg ty70_agg ty72_agg ty89_agg ty96_agg ty110_agg ty127_agg ty130_agg ty136_agg ty138_agg ty145_agg ty163_agg ty186_agg ty191_agg ty194_agg ty3_zero ty4_zero ty5_zero ty9_zero ty22_zero ty23_zero ty24_zero ty25_zero ty26_zero ty28_zero ty42_zero ty44_zero ty45_zero ty47_zero ty55_zero ty63_zero ty64_zero ty66_zero ty70_zero ty72_zero ty89_zero ty96_zero ty110_zero ty127_zero ty130_zero ty136_zero ty138_zero ty145_zero ty163_zero ty186_zero ty191_zero ty194_zero Ty_3 Ty_4 Ty_5 Ty_9 Ty_22 Ty_23 Ty_24 Ty_25 Ty_26 Ty_28 Ty_42 Ty_44 Ty_45 Ty_47 Ty_55 Ty_63 Ty_64 Ty_66 Ty_70 Ty_72 Ty_89 Ty_96 Ty_110 Ty_127 Ty_130 Ty_136 Ty_138 Ty_145 Ty_163 Ty_186 Ty_191 Ty_194 kd_3 kd_4 kd_5 kd_9 kd_22 kd_23 kd_24 kd_25 kd_26 kd_28 kd_42 kd_44 kd_45 kd_47 kd_55 kd_63 kd_64 kd_66 kd_70 kd_72 kd_89 kd_96 kd_110 kd_127 kd_130 kd_136 kd_138 kd_145 kd_163 kd_186 kd_191 kd_194 ty3_bytes ty4_bytes ty5_bytes ty9_bytes ty22_bytes ty23_bytes ty24_bytes ty25_bytes ty26_bytes ty28_bytes ty42_bytes ty44_bytes ty45_bytes ty47_bytes ty55_bytes ty63_bytes ty64_bytes ty66_bytes ty70_bytes ty72_bytes ty89_bytes ty96_bytes ty110_bytes ty127_bytes ty130_bytes ty136_bytes ty138_bytes ty145_bytes ty163_bytes ty186_bytes ty191_bytes ty194_bytes
end Go.Ab
/- Contracts of impl.within and (impl.Proc).kids, on abstract values; no conditions but a bound on the length. -/
namespace Go.Ab
open Go.Proofs
section
variable {f:FuncId} {N:Nat} {k:List Item} {ρ:Env} {H:Heap} {n:Nat} {Q:AVal→Heap→Nat→Prop} {id:Nat} {ops:List Oper} {y:Code}
theorem zE (h:∀ k':List Item,(∀ ρ H n,Runs Tryz.prog f N (.code y::k) ρ H n Q→Runs Tryz.prog f N k' ρ H n Q)→evalK Tryz.prog f N k' Q Ty ops.toArray ops ρ H n) (hN:ops.all (fun o=>dok N o.dst)=true:=by decide):Runs Tryz.prog f N (.code (.seq (.region id ops.toArray false) y)::k) ρ H n Q:=Runs.seqE Ty_ok hN h
theorem zF (h:∀ k':List Item,(∀ ρ H n,Runs Tryz.prog f N k ρ H n Q→Runs Tryz.prog f N k' ρ H n Q)→evalK Tryz.prog f N k' Q Ty ops.toArray ops ρ H n) (hN:ops.all (fun o=>dok N o.dst)=true:=by decide):Runs Tryz.prog f N (.code (.region id ops.toArray false)::k) ρ H n Q:=Runs.evalE Ty_ok hN h
end
def within (n lo hi:Int):Bool:=decide (lo≤n) && decide (n≤hi)
theorem within_ok (n lo hi:Int):PureC Tryz.prog 101 [int n,int lo,int hi] (fun r=>r=bool (within n lo hi)):=by
 refine PureC.of Tryz.func101 rfl Tryz.ntmps101 (by simp) fun Q hQ=>?_
 refine Runs.seqE Ty_ok (by decide) fun k' hk'=>?_
 simp
 refine hk' _ _ _ (Runs.seqE Ty_ok (by decide) fun k' hk'=>?_)
 simp
 by_cases h:lo≤n
 all_goals
  simp[h]
  refine hk' _ _ _ (Runs.ret Tryz.func101 (RetOk.one Tryz.results101) (hQ _ _ _ _ (ResOk.v _ _ _) ?_))
  simp[within,h]
structure AmbNode where
 kind:Int
 name:Str
 parent:Int
 deriving Inhabited,DecidableEq
abbrev Proc:=List AmbNode
set_option linter.unusedSimpArgs false
end Go.Ab
/- Contracts of impl.prefixWords and impl.nodeText. -/
namespace Go.Ab
open Go.Proofs
set_option linter.unusedSimpArgs false
theorem draws:Tryz.prog.follows .mixedOrders=true:=by kernel_rfl
theorem e101:Ent Tryz.prog 101:=Ent.of Tryz.func101 (by kernel_rfl) rfl
end Go.Ab
/- The abstract machine, part So: the library's sort of strings, laid on a slice of the caller's own. -/
namespace Go.Ab
open Go.Proofs Go.RowKit
set_option linter.unusedSectionVars false
end Go.Ab
/- The abstract machine, part Sx: regions that draw their order with one call whose result the caller owns; all else stands ahead of it or waits for it. -/
namespace Go.Ab
set_option linter.unusedSectionVars false
set_option linter.unusedVariables false
section
variable (P:Program) (N:Nat) (ops:Array Oper) (κ:Op→Nat) (cix:Nat)
end
section
variable {P:Program} {N:Nat} {ops:Array Oper} {κ:Op→Nat} {cix:Nat}
end
section
variable {P:Program} {f:FuncId} {N:Nat} {k:List Item} {ρ:Env} {H:Heap} {n:Nat} {Q:AVal→Heap→Nat→Prop} {κ:Op→Nat}
end
section
variable (P:Program) (f:FuncId) (N:Nat) (k:List Item) (Q:AVal→Heap→Nat→Prop) (Ty:Types) (κ:Op→Nat) (ops:Array Oper)
def evalX:List Oper→Env→Heap→Nat→Prop
 | [],ρ,H,n=>Runs P f N k ρ H n Q
 | o::l,ρ,H,n=>o.guard=none∧match stepF Ty o.dst o.op ρ H n with
  | some (v,H',n')=>evalX l (ρ.put o.dst v) H' n'
  | none=>False
def evalB:Nat→List Oper→Env→Heap→Nat→Prop
 | _,[],_,_,_=>False
 | 0,o::l,ρ,H,n=>o.guard=none∧∃ post:AVal→Heap→Nat→Prop,OpSem P N o (loc o.op ρ) H n post∧∀ v H' n',post v H' n'→evalX P f N k Q Ty l (ρ.put o.dst v) H' n'
 | c+1,o::l,ρ,H,n=>∃ s',StepD P N ops κ o (ρ,H,n) s'∧evalB c l s'.1 s'.2.1 s'.2.2
end
section
variable {P:Program} {f:FuncId} {N:Nat} {k:List Item} {Q:AVal→Heap→Nat→Prop} {Ty:Types} {κ:Op→Nat} {ops:Array Oper} {o:Oper} {l:List Oper} {ρ:Env} {H:Heap} {n:Nat} {c:Nat}
theorem loc_args {d:Operand} {args:Array Operand} {ats:Array TypeId}:args.toList.map (loc (.call ⟨.value d,args,ats⟩) ρ).ev=args.toList.map ρ.ev∧(loc (.call ⟨.value d,args,ats⟩) ρ).ev d=ρ.ev d:=
 ⟨List.map_congr_left fun x hx=>loc_ev (by simp[Op.operands,Call.operands];exact .inr (by simpa using hx)),loc_ev (by simp[Op.operands,Call.operands])⟩
theorem evalB.callW {K:List OwnE} {ids:List Id} {d:Option Tmp} {g:Operand} {args:Array Operand} {ats:Array TypeId} {ty:TypeId} {pos:String} {af:Array Edge} {R:AVal→Prop} {f':FuncId} {as1 args':List AVal} {sh:Sh}
  (h:OwnS P f' args' sh R) (hent:Ent P f') (ha:ArgsOk H n as1 args') (hs:Sep H n K ids) (hg:ρ.ev g = .fn (.func f') [] []) (has:args.toList.map ρ.ev=as1)
  (hk:∀ v H1 n1 r,Sep H1 n1 ((sh,v,r)::K) ids→R r→n≤n1→(∀ i ∈ ids,H1 i=H i)→evalX P f N k Q Ty l (ρ.put d v) H1 n1) :
  evalB P f N k Q Ty κ ops 0 (⟨d,.call ⟨.value g,args,ats⟩,ty,pos,af,none⟩::l) ρ H n:=
 ⟨rfl,_,OpSem.callW (by rw[loc_args.2];exact hg) hent (by rw[loc_args.1,has];exact ha) h hs,fun v H' n' ⟨r,h1,h2,h3,h4⟩=>hk v H' n' r h1 h2 h3 h4⟩
end
end Go.Ab
