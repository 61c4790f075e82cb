/- Merged texts (4 of 17) of the proof that ends in Icy: Ty X P So Sx. -/
import Derived.Test.YtkocdlgoncmdbaaGreatDoorAbQic3
import Derived.Test.YtkocdlgoncmdbaaGreatDoorProg
import Derived.KernelRfl
import Derived.Shelf.Sort.Plain
/- The seat's types: what the model's table says of each, as plain data. By program. -/
namespace Go.Ab
open Go.Proofs
theorem TyOk.of {P:Program} {t:TypeId} {s b:Nat} {z:List Value} (h:(P.underlying t).isSome=true) (h2:(P.info? t).map (fun i=>(i.size,i.bytes,i.zero.map Value.cells))=some (s,b,some z.toArray)):TyOk P t ⟨(P.underlying t).getD .invalid,s,b,z⟩:=by
 refine⟨?_,?_⟩
 ·cases hu:P.underlying t with
  | none=>simp[hu] at h
  | some d=>rfl
 cases hi:P.info? t with
 | none=>simp[hi] at h2
 | some info=>
  simp only[hi,Option.map_some,Option.some.injEq,Prod.mk.injEq,Option.map_eq_some_iff] at h2
  obtain⟨h3,h4,zv,h5,h6⟩:=h2
  exact⟨info,zv,rfl,h3,h4,h5,h6⟩
noncomputable def ty3:TI:=⟨(Tryz.prog.underlying 3).getD .invalid,1,8,[.int .i64 0]⟩
noncomputable def ty4:TI:=⟨(Tryz.prog.underlying 4).getD .invalid,1,1,[.bool false]⟩
noncomputable def ty9:TI:=⟨(Tryz.prog.underlying 9).getD .invalid,1,16,[.string ⟨#[]⟩]⟩
noncomputable def ty22:TI:=⟨(Tryz.prog.underlying 22).getD .invalid,1,24,[.slice none 0 0]⟩
noncomputable def ty23:TI:=⟨(Tryz.prog.underlying 23).getD .invalid,1,24,[.slice none 0 0]⟩
noncomputable def ty24:TI:=⟨(Tryz.prog.underlying 24).getD .invalid,1,24,[.slice none 0 0]⟩
noncomputable def ty25:TI:=⟨(Tryz.prog.underlying 25).getD .invalid,1,24,[.slice none 0 0]⟩
noncomputable def ty26:TI:=⟨(Tryz.prog.underlying 26).getD .invalid,1,24,[.slice none 0 0]⟩
noncomputable def ty28:TI:=⟨(Tryz.prog.underlying 28).getD .invalid,6,112,[.int .i64 0,.slice none 0 0,.slice none 0 0,.int .i64 0,.slice none 0 0,.slice none 0 0]⟩
noncomputable def ty32:TI:=⟨(Tryz.prog.underlying 32).getD .invalid,1,24,[.slice none 0 0]⟩
noncomputable def ty34:TI:=⟨(Tryz.prog.underlying 34).getD .invalid,1,24,[.slice none 0 0]⟩
noncomputable def ty35:TI:=⟨(Tryz.prog.underlying 35).getD .invalid,1,24,[.slice none 0 0]⟩
noncomputable def ty37:TI:=⟨(Tryz.prog.underlying 37).getD .invalid,6,112,[.int .i64 0,.slice none 0 0,.slice none 0 0,.int .i64 0,.slice none 0 0,.slice none 0 0]⟩
noncomputable def ty62:TI:=⟨(Tryz.prog.underlying 62).getD .invalid,3,32,[.string ⟨#[]⟩,.int .i64 0,.int .i64 0]⟩
noncomputable def ty68:TI:=⟨(Tryz.prog.underlying 68).getD .invalid,3,32,[.string ⟨#[]⟩,.int .i64 0,.int .i64 0]⟩
noncomputable def ty96:TI:=⟨(Tryz.prog.underlying 96).getD .invalid,3,40,[.int .i64 0,.int .i64 0,.slice none 0 0]⟩
noncomputable def ty99:TI:=⟨(Tryz.prog.underlying 99).getD .invalid,2,24,[.string ⟨#[]⟩,.int .i64 0]⟩
noncomputable def ty107:TI:=⟨(Tryz.prog.underlying 107).getD .invalid,2,24,[.string ⟨#[]⟩,.int .i64 0]⟩
noncomputable def ty108:TI:=⟨(Tryz.prog.underlying 108).getD .invalid,3,40,[.int .i64 0,.int .i64 0,.slice none 0 0]⟩
noncomputable def ty124:TI:=⟨(Tryz.prog.underlying 124).getD .invalid,9,184,[.int .i64 0,.slice none 0 0,.slice none 0 0,.int .i64 0,.slice none 0 0,.slice none 0 0,.slice none 0 0,.slice none 0 0,.slice none 0 0]⟩
noncomputable def ty155:TI:=⟨(Tryz.prog.underlying 155).getD .invalid,10,208,[.slice none 0 0,.int .i64 0,.slice none 0 0,.slice none 0 0,.int .i64 0,.slice none 0 0,.slice none 0 0,.slice none 0 0,.slice none 0 0,.slice none 0 0]⟩
noncomputable def ty156:TI:=⟨(Tryz.prog.underlying 156).getD .invalid,1,24,[.slice none 0 0]⟩
noncomputable def ty185:TI:=⟨(Tryz.prog.underlying 185).getD .invalid,1,8,[.int .u64 0]⟩
noncomputable def tyL:List (Nat × TI):=[(3,ty3),(4,ty4),(9,ty9),(22,ty22),(23,ty23),(24,ty24),(25,ty25),(26,ty26),(28,ty28),(32,ty32),(34,ty34),(35,ty35),(37,ty37),(62,ty62),(68,ty68),(96,ty96),(99,ty99),(107,ty107),(108,ty108),(124,ty124),(155,ty155),(156,ty156),(185,ty185)]
noncomputable def Ty:Types:=fun t=>(tyL.find? (fun p=>p.1 == t)).map (·.2)
theorem ok3:TyOk Tryz.prog 3 ty3:=TyOk.of (by kernel_rfl) (by kernel_rfl)
theorem Ty_3:Ty 3=some ty3:=by kernel_rfl
theorem ty3_size:ty3.size=1:=rfl
theorem ty3_bytes:ty3.bytes=8:=rfl
theorem ty3_zero:ty3.zero=[.int .i64 0]:=rfl
theorem ty3_agg:ty3.isAgg=false:=by kernel_rfl
theorem kd_3:kd Ty 3 = .int .i64:=by kernel_rfl
theorem ok4:TyOk Tryz.prog 4 ty4:=TyOk.of (by kernel_rfl) (by kernel_rfl)
theorem Ty_4:Ty 4=some ty4:=by kernel_rfl
theorem ty4_size:ty4.size=1:=rfl
theorem ty4_bytes:ty4.bytes=1:=rfl
theorem ty4_zero:ty4.zero=[.bool false]:=rfl
theorem ty4_agg:ty4.isAgg=false:=by kernel_rfl
theorem kd_4:kd Ty 4 = .bool:=by kernel_rfl
theorem ok9:TyOk Tryz.prog 9 ty9:=TyOk.of (by kernel_rfl) (by kernel_rfl)
theorem Ty_9:Ty 9=some ty9:=by kernel_rfl
theorem ty9_size:ty9.size=1:=rfl
theorem ty9_bytes:ty9.bytes=16:=rfl
theorem ty9_zero:ty9.zero=[.string ⟨#[]⟩]:=rfl
theorem ty9_agg:ty9.isAgg=false:=by kernel_rfl
theorem kd_9:kd Ty 9 = .string:=by kernel_rfl
theorem ok22:TyOk Tryz.prog 22 ty22:=TyOk.of (by kernel_rfl) (by kernel_rfl)
theorem Ty_22:Ty 22=some ty22:=by kernel_rfl
theorem ty22_size:ty22.size=1:=rfl
theorem ty22_bytes:ty22.bytes=24:=rfl
theorem ty22_zero:ty22.zero=[.slice none 0 0]:=rfl
theorem ty22_agg:ty22.isAgg=false:=by kernel_rfl
theorem kd_22:kd Ty 22 = .slice ty62:=by kernel_rfl
theorem ok23:TyOk Tryz.prog 23 ty23:=TyOk.of (by kernel_rfl) (by kernel_rfl)
theorem Ty_23:Ty 23=some ty23:=by kernel_rfl
theorem ty23_size:ty23.size=1:=rfl
theorem ty23_bytes:ty23.bytes=24:=rfl
theorem ty23_zero:ty23.zero=[.slice none 0 0]:=rfl
theorem ty23_agg:ty23.isAgg=false:=by kernel_rfl
theorem kd_23:kd Ty 23 = .slice ty96:=by kernel_rfl
theorem ok24:TyOk Tryz.prog 24 ty24:=TyOk.of (by kernel_rfl) (by kernel_rfl)
theorem Ty_24:Ty 24=some ty24:=by kernel_rfl
theorem ty24_size:ty24.size=1:=rfl
theorem ty24_bytes:ty24.bytes=24:=rfl
theorem ty24_zero:ty24.zero=[.slice none 0 0]:=rfl
theorem ty24_agg:ty24.isAgg=false:=by kernel_rfl
theorem kd_24:kd Ty 24 = .slice ty3:=by kernel_rfl
theorem ok25:TyOk Tryz.prog 25 ty25:=TyOk.of (by kernel_rfl) (by kernel_rfl)
theorem Ty_25:Ty 25=some ty25:=by kernel_rfl
theorem ty25_size:ty25.size=1:=rfl
theorem ty25_bytes:ty25.bytes=24:=rfl
theorem ty25_zero:ty25.zero=[.slice none 0 0]:=rfl
theorem ty25_agg:ty25.isAgg=false:=by kernel_rfl
theorem kd_25:kd Ty 25 = .slice ty9:=by kernel_rfl
theorem ok26:TyOk Tryz.prog 26 ty26:=TyOk.of (by kernel_rfl) (by kernel_rfl)
theorem Ty_26:Ty 26=some ty26:=by kernel_rfl
theorem ty26_size:ty26.size=1:=rfl
theorem ty26_bytes:ty26.bytes=24:=rfl
theorem ty26_zero:ty26.zero=[.slice none 0 0]:=rfl
theorem ty26_agg:ty26.isAgg=false:=by kernel_rfl
theorem kd_26:kd Ty 26 = .slice ty99:=by kernel_rfl
theorem ok28:TyOk Tryz.prog 28 ty28:=TyOk.of (by kernel_rfl) (by kernel_rfl)
theorem Ty_28:Ty 28=some ty28:=by kernel_rfl
theorem ty28_size:ty28.size=6:=rfl
theorem ty28_bytes:ty28.bytes=112:=rfl
theorem ty28_zero:ty28.zero=[.int .i64 0,.slice none 0 0,.slice none 0 0,.int .i64 0,.slice none 0 0,.slice none 0 0]:=rfl
theorem ty28_agg:ty28.isAgg=true:=by kernel_rfl
theorem kd_28:kd Ty 28 = .struct [(0,ty3),(1,ty23),(2,ty24),(3,ty3),(4,ty25),(5,ty26)]:=by kernel_rfl
theorem ok32:TyOk Tryz.prog 32 ty32:=TyOk.of (by kernel_rfl) (by kernel_rfl)
theorem Ty_32:Ty 32=some ty32:=by kernel_rfl
theorem ty32_size:ty32.size=1:=rfl
theorem ty32_bytes:ty32.bytes=24:=rfl
theorem ty32_zero:ty32.zero=[.slice none 0 0]:=rfl
theorem ty32_agg:ty32.isAgg=false:=by kernel_rfl
theorem kd_32:kd Ty 32 = .slice ty68:=by kernel_rfl
theorem ok34:TyOk Tryz.prog 34 ty34:=TyOk.of (by kernel_rfl) (by kernel_rfl)
theorem Ty_34:Ty 34=some ty34:=by kernel_rfl
theorem ty34_size:ty34.size=1:=rfl
theorem ty34_bytes:ty34.bytes=24:=rfl
theorem ty34_zero:ty34.zero=[.slice none 0 0]:=rfl
theorem ty34_agg:ty34.isAgg=false:=by kernel_rfl
theorem kd_34:kd Ty 34 = .slice ty108:=by kernel_rfl
theorem ok35:TyOk Tryz.prog 35 ty35:=TyOk.of (by kernel_rfl) (by kernel_rfl)
theorem Ty_35:Ty 35=some ty35:=by kernel_rfl
theorem ty35_size:ty35.size=1:=rfl
theorem ty35_bytes:ty35.bytes=24:=rfl
theorem ty35_zero:ty35.zero=[.slice none 0 0]:=rfl
theorem ty35_agg:ty35.isAgg=false:=by kernel_rfl
theorem kd_35:kd Ty 35 = .slice ty107:=by kernel_rfl
theorem ok37:TyOk Tryz.prog 37 ty37:=TyOk.of (by kernel_rfl) (by kernel_rfl)
theorem Ty_37:Ty 37=some ty37:=by kernel_rfl
theorem ty37_size:ty37.size=6:=rfl
theorem ty37_bytes:ty37.bytes=112:=rfl
theorem ty37_zero:ty37.zero=[.int .i64 0,.slice none 0 0,.slice none 0 0,.int .i64 0,.slice none 0 0,.slice none 0 0]:=rfl
theorem ty37_agg:ty37.isAgg=true:=by kernel_rfl
theorem kd_37:kd Ty 37 = .struct [(0,ty3),(1,ty34),(2,ty24),(3,ty3),(4,ty25),(5,ty35)]:=by kernel_rfl
theorem ok62:TyOk Tryz.prog 62 ty62:=TyOk.of (by kernel_rfl) (by kernel_rfl)
theorem Ty_62:Ty 62=some ty62:=by kernel_rfl
theorem ty62_size:ty62.size=3:=rfl
theorem ty62_bytes:ty62.bytes=32:=rfl
theorem ty62_zero:ty62.zero=[.string ⟨#[]⟩,.int .i64 0,.int .i64 0]:=rfl
theorem ty62_agg:ty62.isAgg=true:=by kernel_rfl
theorem kd_62:kd Ty 62 = .struct [(0,ty9),(1,ty3),(2,ty3)]:=by kernel_rfl
theorem ok68:TyOk Tryz.prog 68 ty68:=TyOk.of (by kernel_rfl) (by kernel_rfl)
theorem Ty_68:Ty 68=some ty68:=by kernel_rfl
theorem ty68_size:ty68.size=3:=rfl
theorem ty68_bytes:ty68.bytes=32:=rfl
theorem ty68_zero:ty68.zero=[.string ⟨#[]⟩,.int .i64 0,.int .i64 0]:=rfl
theorem ty68_agg:ty68.isAgg=true:=by kernel_rfl
theorem kd_68:kd Ty 68 = .struct [(0,ty9),(1,ty3),(2,ty3)]:=by kernel_rfl
theorem ok96:TyOk Tryz.prog 96 ty96:=TyOk.of (by kernel_rfl) (by kernel_rfl)
theorem Ty_96:Ty 96=some ty96:=by kernel_rfl
theorem ty96_size:ty96.size=3:=rfl
theorem ty96_bytes:ty96.bytes=40:=rfl
theorem ty96_zero:ty96.zero=[.int .i64 0,.int .i64 0,.slice none 0 0]:=rfl
theorem ty96_agg:ty96.isAgg=true:=by kernel_rfl
theorem kd_96:kd Ty 96 = .struct [(0,ty3),(1,ty3),(2,ty24)]:=by kernel_rfl
theorem ok99:TyOk Tryz.prog 99 ty99:=TyOk.of (by kernel_rfl) (by kernel_rfl)
theorem Ty_99:Ty 99=some ty99:=by kernel_rfl
theorem ty99_size:ty99.size=2:=rfl
theorem ty99_bytes:ty99.bytes=24:=rfl
theorem ty99_zero:ty99.zero=[.string ⟨#[]⟩,.int .i64 0]:=rfl
theorem ty99_agg:ty99.isAgg=true:=by kernel_rfl
theorem kd_99:kd Ty 99 = .struct [(0,ty9),(1,ty3)]:=by kernel_rfl
theorem ok107:TyOk Tryz.prog 107 ty107:=TyOk.of (by kernel_rfl) (by kernel_rfl)
theorem Ty_107:Ty 107=some ty107:=by kernel_rfl
theorem ty107_size:ty107.size=2:=rfl
theorem ty107_bytes:ty107.bytes=24:=rfl
theorem ty107_zero:ty107.zero=[.string ⟨#[]⟩,.int .i64 0]:=rfl
theorem ty107_agg:ty107.isAgg=true:=by kernel_rfl
theorem kd_107:kd Ty 107 = .struct [(0,ty9),(1,ty3)]:=by kernel_rfl
theorem ok108:TyOk Tryz.prog 108 ty108:=TyOk.of (by kernel_rfl) (by kernel_rfl)
theorem Ty_108:Ty 108=some ty108:=by kernel_rfl
theorem ty108_size:ty108.size=3:=rfl
theorem ty108_bytes:ty108.bytes=40:=rfl
theorem ty108_zero:ty108.zero=[.int .i64 0,.int .i64 0,.slice none 0 0]:=rfl
theorem ty108_agg:ty108.isAgg=true:=by kernel_rfl
theorem kd_108:kd Ty 108 = .struct [(0,ty3),(1,ty3),(2,ty24)]:=by kernel_rfl
theorem ok124:TyOk Tryz.prog 124 ty124:=TyOk.of (by kernel_rfl) (by kernel_rfl)
theorem Ty_124:Ty 124=some ty124:=by kernel_rfl
theorem ty124_size:ty124.size=9:=rfl
theorem ty124_bytes:ty124.bytes=184:=rfl
theorem ty124_zero:ty124.zero=[.int .i64 0,.slice none 0 0,.slice none 0 0,.int .i64 0,.slice none 0 0,.slice none 0 0,.slice none 0 0,.slice none 0 0,.slice none 0 0]:=rfl
theorem ty124_agg:ty124.isAgg=true:=by kernel_rfl
theorem kd_124:kd Ty 124 = .struct [(0,ty37),(6,ty24),(7,ty24),(8,ty24)]:=by kernel_rfl
theorem ok155:TyOk Tryz.prog 155 ty155:=TyOk.of (by kernel_rfl) (by kernel_rfl)
theorem Ty_155:Ty 155=some ty155:=by kernel_rfl
theorem ty155_size:ty155.size=10:=rfl
theorem ty155_bytes:ty155.bytes=208:=rfl
theorem ty155_zero:ty155.zero=[.slice none 0 0,.int .i64 0,.slice none 0 0,.slice none 0 0,.int .i64 0,.slice none 0 0,.slice none 0 0,.slice none 0 0,.slice none 0 0,.slice none 0 0]:=rfl
theorem ty155_agg:ty155.isAgg=true:=by kernel_rfl
theorem kd_155:kd Ty 155 = .struct [(0,ty24),(1,ty124)]:=by kernel_rfl
theorem ok156:TyOk Tryz.prog 156 ty156:=TyOk.of (by kernel_rfl) (by kernel_rfl)
theorem Ty_156:Ty 156=some ty156:=by kernel_rfl
theorem ty156_size:ty156.size=1:=rfl
theorem ty156_bytes:ty156.bytes=24:=rfl
theorem ty156_zero:ty156.zero=[.slice none 0 0]:=rfl
theorem ty156_agg:ty156.isAgg=false:=by kernel_rfl
theorem kd_156:kd Ty 156 = .slice ty155:=by kernel_rfl
theorem ok185:TyOk Tryz.prog 185 ty185:=TyOk.of (by kernel_rfl) (by kernel_rfl)
theorem Ty_185:Ty 185=some ty185:=by kernel_rfl
theorem ty185_size:ty185.size=1:=rfl
theorem ty185_bytes:ty185.bytes=8:=rfl
theorem ty185_zero:ty185.zero=[.int .u64 0]:=rfl
theorem ty185_agg:ty185.isAgg=false:=by kernel_rfl
theorem kd_185:kd Ty 185 = .int .u64:=by kernel_rfl
theorem Ty_ok:TypesOk Tryz.prog Ty:=by
 have h:∀ p ∈ tyL,TyOk Tryz.prog p.1 p.2:=by
  refine List.forall_mem_cons.2 ⟨ok3,?_⟩
  refine List.forall_mem_cons.2 ⟨ok4,?_⟩
  refine List.forall_mem_cons.2 ⟨ok9,?_⟩
  refine List.forall_mem_cons.2 ⟨ok22,?_⟩
  refine List.forall_mem_cons.2 ⟨ok23,?_⟩
  refine List.forall_mem_cons.2 ⟨ok24,?_⟩
  refine List.forall_mem_cons.2 ⟨ok25,?_⟩
  refine List.forall_mem_cons.2 ⟨ok26,?_⟩
  refine List.forall_mem_cons.2 ⟨ok28,?_⟩
  refine List.forall_mem_cons.2 ⟨ok32,?_⟩
  refine List.forall_mem_cons.2 ⟨ok34,?_⟩
  refine List.forall_mem_cons.2 ⟨ok35,?_⟩
  refine List.forall_mem_cons.2 ⟨ok37,?_⟩
  refine List.forall_mem_cons.2 ⟨ok62,?_⟩
  refine List.forall_mem_cons.2 ⟨ok68,?_⟩
  refine List.forall_mem_cons.2 ⟨ok96,?_⟩
  refine List.forall_mem_cons.2 ⟨ok99,?_⟩
  refine List.forall_mem_cons.2 ⟨ok107,?_⟩
  refine List.forall_mem_cons.2 ⟨ok108,?_⟩
  refine List.forall_mem_cons.2 ⟨ok124,?_⟩
  refine List.forall_mem_cons.2 ⟨ok155,?_⟩
  refine List.forall_mem_cons.2 ⟨ok156,?_⟩
  refine List.forall_mem_cons.2 ⟨ok185,?_⟩
  simp
 intro t i hi
 unfold Ty at hi
 cases hf:tyL.find? (fun p=>p.1 == t) with
 | none=>simp[hf] at hi
 | some p=>
  simp only[hf,Option.map_some,Option.some.injEq] at hi
  have h1:=List.find?_some hf
  have h2:=h p (List.mem_of_find?_eq_some hf)
  simp only[beq_iff_eq] at h1
  rw[← h1,← hi]
  exact h2
attribute [simp] ty3_size ty4_size ty9_size ty22_size ty23_size ty24_size ty25_size ty26_size ty28_size ty32_size ty34_size ty35_size ty37_size ty62_size ty68_size ty96_size ty99_size ty107_size ty108_size ty124_size ty155_size ty156_size ty185_size ty3_agg ty4_agg ty9_agg ty22_agg ty23_agg ty24_agg ty25_agg ty26_agg ty28_agg ty32_agg ty34_agg ty35_agg ty37_agg ty62_agg ty68_agg ty96_agg ty99_agg ty107_agg ty108_agg ty124_agg ty155_agg ty156_agg ty185_agg ty3_zero ty4_zero ty9_zero ty22_zero ty23_zero ty24_zero ty25_zero ty26_zero ty28_zero ty32_zero ty34_zero ty35_zero ty37_zero ty62_zero ty68_zero ty96_zero ty99_zero ty107_zero ty108_zero ty124_zero ty155_zero ty156_zero ty185_zero Ty_3 Ty_4 Ty_9 Ty_22 Ty_23 Ty_24 Ty_25 Ty_26 Ty_28 Ty_32 Ty_34 Ty_35 Ty_37 Ty_62 Ty_68 Ty_96 Ty_99 Ty_107 Ty_108 Ty_124 Ty_155 Ty_156 Ty_185 kd_3 kd_4 kd_9 kd_22 kd_23 kd_24 kd_25 kd_26 kd_28 kd_32 kd_34 kd_35 kd_37 kd_62 kd_68 kd_96 kd_99 kd_107 kd_108 kd_124 kd_155 kd_156 kd_185 ty3_bytes ty4_bytes ty9_bytes ty22_bytes ty23_bytes ty24_bytes ty25_bytes ty26_bytes ty28_bytes ty32_bytes ty34_bytes ty35_bytes ty37_bytes ty62_bytes ty68_bytes ty96_bytes ty99_bytes ty107_bytes ty108_bytes ty124_bytes ty155_bytes ty156_bytes ty185_bytes
end Go.Ab
/- Contracts of impl.within and (impl.Proc).kids, on abstract values; no conditions but a bound on the length. -/
namespace Go.Ab
open Go.Proofs
section
variable {f:FuncId} {N:Nat} {k:List Item} {ρ:Env} {H:Heap} {n:Nat} {Q:AVal→Heap→Nat→Prop} {id:Nat} {ops:List Oper} {y:Code}
theorem zE (h:∀ k':List Item,(∀ ρ H n,Runs Tryz.prog f N (.code y::k) ρ H n Q→Runs Tryz.prog f N k' ρ H n Q)→evalK Tryz.prog f N k' Q Ty ops.toArray ops ρ H n) (hN:ops.all (fun o=>dok N o.dst)=true:=by decide):Runs Tryz.prog f N (.code (.seq (.region id ops.toArray false) y)::k) ρ H n Q:=Runs.seqE Ty_ok hN h
theorem zF (h:∀ k':List Item,(∀ ρ H n,Runs Tryz.prog f N k ρ H n Q→Runs Tryz.prog f N k' ρ H n Q)→evalK Tryz.prog f N k' Q Ty ops.toArray ops ρ H n) (hN:ops.all (fun o=>dok N o.dst)=true:=by decide):Runs Tryz.prog f N (.code (.region id ops.toArray false)::k) ρ H n Q:=Runs.evalE Ty_ok hN h
end
def within (n lo hi:Int):Bool:=decide (lo≤n) && decide (n≤hi)
theorem within_ok (n lo hi:Int):PureC Tryz.prog 90 [int n,int lo,int hi] (fun r=>r=bool (within n lo hi)):=by
 refine PureC.of Tryz.func90 rfl Tryz.ntmps90 (by simp) fun Q hQ=>?_
 refine Runs.seqE Ty_ok (by decide) fun k' hk'=>?_
 simp
 refine hk' _ _ _ (Runs.seqE Ty_ok (by decide) fun k' hk'=>?_)
 simp
 by_cases h:lo≤n
 all_goals
  simp[h]
  refine hk' _ _ _ (Runs.ret Tryz.func90 (RetOk.one Tryz.results90) (hQ _ _ _ _ (ResOk.v _ _ _) ?_))
  simp[within,h]
structure AmbNode where
 kind:Int
 name:Str
 parent:Int
 deriving Inhabited,DecidableEq
abbrev Proc:=List AmbNode
set_option linter.unusedSimpArgs false
end Go.Ab
/- Contracts of impl.prefixWords and impl.nodeText. -/
namespace Go.Ab
open Go.Proofs
set_option linter.unusedSimpArgs false
theorem draws:Tryz.prog.follows .mixedOrders=true:=by kernel_rfl
theorem e90:Ent Tryz.prog 90:=Ent.of Tryz.func90 (by kernel_rfl) rfl
end Go.Ab
/- The abstract machine, part So: the library's sort of strings, laid on a slice of the caller's own. -/
namespace Go.Ab
open Go.Proofs Go.RowKit
set_option linter.unusedSectionVars false
end Go.Ab
/- The abstract machine, part Sx: regions that draw their order with one call whose result the caller owns; all else stands ahead of it or waits for it. -/
namespace Go.Ab
set_option linter.unusedSectionVars false
set_option linter.unusedVariables false
section
variable (P:Program) (N:Nat) (ops:Array Oper) (κ:Op→Nat) (cix:Nat)
end
section
variable {P:Program} {N:Nat} {ops:Array Oper} {κ:Op→Nat} {cix:Nat}
end
section
variable {P:Program} {f:FuncId} {N:Nat} {k:List Item} {ρ:Env} {H:Heap} {n:Nat} {Q:AVal→Heap→Nat→Prop} {κ:Op→Nat}
end
section
variable (P:Program) (f:FuncId) (N:Nat) (k:List Item) (Q:AVal→Heap→Nat→Prop) (Ty:Types) (κ:Op→Nat) (ops:Array Oper)
end
section
variable {P:Program} {f:FuncId} {N:Nat} {k:List Item} {Q:AVal→Heap→Nat→Prop} {Ty:Types} {κ:Op→Nat} {ops:Array Oper} {o:Oper} {l:List Oper} {ρ:Env} {H:Heap} {n:Nat} {c:Nat}
theorem loc_args {d:Operand} {args:Array Operand} {ats:Array TypeId}:args.toList.map (loc (.call ⟨.value d,args,ats⟩) ρ).ev=args.toList.map ρ.ev∧(loc (.call ⟨.value d,args,ats⟩) ρ).ev d=ρ.ev d:=
 ⟨List.map_congr_left fun x hx=>loc_ev (by simp[Op.operands,Call.operands];exact .inr (by simpa using hx)),loc_ev (by simp[Op.operands,Call.operands])⟩
end
end Go.Ab
