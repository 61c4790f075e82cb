/- Merged texts (4 of 13) of the proof that ends in Lfy: Ty X P So Sx Sy. -/
import Derived.Test.YtpakecdmnomalaaGreatDoorAbQlf3
import Derived.Test.YtpakecdmnomalaaGreatDoorProg
import Derived.KernelRfl
import Derived.Shelf.Sort.Plain
/- The seat's types: what the model's table says of each, as plain data. By program. -/
namespace Go.Ab
open Go.Proofs
theorem TyOk.of {P : Program} {t : TypeId} {s b : Nat} {z : List Value} (h : (P.underlying t).isSome = true) (h2 : (P.info? t).map (fun i => (i.size, i.bytes, i.zero.map Value.cells)) = some (s, b, some z.toArray)) : TyOk P t ⟨(P.underlying t).getD .invalid, s, b, z⟩ := by
 refine ⟨?_, ?_⟩
 ·cases hu : P.underlying t with
  | none => simp [hu] at h
  | some d => rfl
 cases hi : P.info? t with
 | none => simp [hi] at h2
 | some info =>
  simp only [hi, Option.map_some, Option.some.injEq, Prod.mk.injEq, Option.map_eq_some_iff] at h2
  obtain ⟨h3, h4, zv, h5, h6⟩ := h2
  exact ⟨info, zv, rfl, h3, h4, h5, h6⟩
noncomputable def ty3 : TI := ⟨(Tryz.prog.underlying 3).getD .invalid, 1, 8, [.int .i64 0]⟩
noncomputable def ty4 : TI := ⟨(Tryz.prog.underlying 4).getD .invalid, 1, 1, [.bool false]⟩
noncomputable def ty5 : TI := ⟨(Tryz.prog.underlying 5).getD .invalid, 1, 1, [.int .u8 0]⟩
noncomputable def ty9 : TI := ⟨(Tryz.prog.underlying 9).getD .invalid, 1, 16, [.string ⟨#[]⟩]⟩
noncomputable def ty22 : TI := ⟨(Tryz.prog.underlying 22).getD .invalid, 1, 24, [.slice none 0 0]⟩
noncomputable def ty23 : TI := ⟨(Tryz.prog.underlying 23).getD .invalid, 1, 24, [.slice none 0 0]⟩
noncomputable def ty24 : TI := ⟨(Tryz.prog.underlying 24).getD .invalid, 1, 24, [.slice none 0 0]⟩
noncomputable def ty25 : TI := ⟨(Tryz.prog.underlying 25).getD .invalid, 1, 24, [.slice none 0 0]⟩
noncomputable def ty26 : TI := ⟨(Tryz.prog.underlying 26).getD .invalid, 1, 24, [.slice none 0 0]⟩
noncomputable def ty28 : TI := ⟨(Tryz.prog.underlying 28).getD .invalid, 6, 112, [.int .i64 0, .slice none 0 0, .slice none 0 0, .int .i64 0, .slice none 0 0, .slice none 0 0]⟩
noncomputable def ty33 : TI := ⟨(Tryz.prog.underlying 33).getD .invalid, 1, 24, [.slice none 0 0]⟩
noncomputable def ty35 : TI := ⟨(Tryz.prog.underlying 35).getD .invalid, 1, 24, [.slice none 0 0]⟩
noncomputable def ty36 : TI := ⟨(Tryz.prog.underlying 36).getD .invalid, 1, 24, [.slice none 0 0]⟩
noncomputable def ty38 : TI := ⟨(Tryz.prog.underlying 38).getD .invalid, 6, 112, [.int .i64 0, .slice none 0 0, .slice none 0 0, .int .i64 0, .slice none 0 0, .slice none 0 0]⟩
noncomputable def ty44 : TI := ⟨(Tryz.prog.underlying 44).getD .invalid, 2, 48, [.slice none 0 0, .slice none 0 0]⟩
noncomputable def ty51 : TI := ⟨(Tryz.prog.underlying 51).getD .invalid, 1, 24, [.slice none 0 0]⟩
noncomputable def ty63 : TI := ⟨(Tryz.prog.underlying 63).getD .invalid, 3, 32, [.string ⟨#[]⟩, .int .i64 0, .int .i64 0]⟩
noncomputable def ty69 : TI := ⟨(Tryz.prog.underlying 69).getD .invalid, 3, 32, [.string ⟨#[]⟩, .int .i64 0, .int .i64 0]⟩
noncomputable def ty96 : TI := ⟨(Tryz.prog.underlying 96).getD .invalid, 3, 40, [.int .i64 0, .int .i64 0, .slice none 0 0]⟩
noncomputable def ty99 : TI := ⟨(Tryz.prog.underlying 99).getD .invalid, 2, 24, [.string ⟨#[]⟩, .int .i64 0]⟩
noncomputable def ty101 : TI := ⟨(Tryz.prog.underlying 101).getD .invalid, 3, 40, [.int .i64 0, .int .i64 0, .slice none 0 0]⟩
noncomputable def ty103 : TI := ⟨(Tryz.prog.underlying 103).getD .invalid, 2, 24, [.string ⟨#[]⟩, .int .i64 0]⟩
noncomputable def ty119 : TI := ⟨(Tryz.prog.underlying 119).getD .invalid, 1, 24, [.slice none 0 0]⟩
noncomputable def ty122 : TI := ⟨(Tryz.prog.underlying 122).getD .invalid, 1, 8, [.int .u64 0]⟩
noncomputable def ty166 : TI := ⟨(Tryz.prog.underlying 166).getD .invalid, 1, 24, [.slice none 0 0]⟩
noncomputable def ty179 : TI := ⟨(Tryz.prog.underlying 179).getD .invalid, 2, 16, [.int .i64 0, .int .i64 0]⟩
noncomputable def tyL : List (Nat × TI) := [(3, ty3), (4, ty4), (5, ty5), (9, ty9), (22, ty22), (23, ty23), (24, ty24), (25, ty25), (26, ty26), (28, ty28), (33, ty33), (35, ty35), (36, ty36), (38, ty38), (44, ty44), (51, ty51), (63, ty63), (69, ty69), (96, ty96), (99, ty99), (101, ty101), (103, ty103), (119, ty119), (122, ty122), (166, ty166), (179, ty179)]
noncomputable def Ty : Types := fun t => (tyL.find? (fun p => p.1 == t)).map (·.2)
theorem ok3 : TyOk Tryz.prog 3 ty3 := TyOk.of (by kernel_rfl) (by kernel_rfl)
theorem Ty_3 : Ty 3 = some ty3 := by kernel_rfl
theorem ty3_size : ty3.size = 1 := rfl
theorem ty3_bytes : ty3.bytes = 8 := rfl
theorem ty3_zero : ty3.zero = [.int .i64 0] := rfl
theorem ty3_agg : ty3.isAgg = false := by kernel_rfl
theorem kd_3 : kd Ty 3 = .int .i64 := by kernel_rfl
theorem ok4 : TyOk Tryz.prog 4 ty4 := TyOk.of (by kernel_rfl) (by kernel_rfl)
theorem Ty_4 : Ty 4 = some ty4 := by kernel_rfl
theorem ty4_size : ty4.size = 1 := rfl
theorem ty4_bytes : ty4.bytes = 1 := rfl
theorem ty4_zero : ty4.zero = [.bool false] := rfl
theorem ty4_agg : ty4.isAgg = false := by kernel_rfl
theorem kd_4 : kd Ty 4 = .bool := by kernel_rfl
theorem ok5 : TyOk Tryz.prog 5 ty5 := TyOk.of (by kernel_rfl) (by kernel_rfl)
theorem Ty_5 : Ty 5 = some ty5 := by kernel_rfl
theorem ty5_size : ty5.size = 1 := rfl
theorem ty5_bytes : ty5.bytes = 1 := rfl
theorem ty5_zero : ty5.zero = [.int .u8 0] := rfl
theorem ty5_agg : ty5.isAgg = false := by kernel_rfl
theorem kd_5 : kd Ty 5 = .int .u8 := by kernel_rfl
theorem ok9 : TyOk Tryz.prog 9 ty9 := TyOk.of (by kernel_rfl) (by kernel_rfl)
theorem Ty_9 : Ty 9 = some ty9 := by kernel_rfl
theorem ty9_size : ty9.size = 1 := rfl
theorem ty9_bytes : ty9.bytes = 16 := rfl
theorem ty9_zero : ty9.zero = [.string ⟨#[]⟩] := rfl
theorem ty9_agg : ty9.isAgg = false := by kernel_rfl
theorem kd_9 : kd Ty 9 = .string := by kernel_rfl
theorem ok22 : TyOk Tryz.prog 22 ty22 := TyOk.of (by kernel_rfl) (by kernel_rfl)
theorem Ty_22 : Ty 22 = some ty22 := by kernel_rfl
theorem ty22_size : ty22.size = 1 := rfl
theorem ty22_bytes : ty22.bytes = 24 := rfl
theorem ty22_zero : ty22.zero = [.slice none 0 0] := rfl
theorem ty22_agg : ty22.isAgg = false := by kernel_rfl
theorem kd_22 : kd Ty 22 = .slice ty63 := by kernel_rfl
theorem ok23 : TyOk Tryz.prog 23 ty23 := TyOk.of (by kernel_rfl) (by kernel_rfl)
theorem Ty_23 : Ty 23 = some ty23 := by kernel_rfl
theorem ty23_size : ty23.size = 1 := rfl
theorem ty23_bytes : ty23.bytes = 24 := rfl
theorem ty23_zero : ty23.zero = [.slice none 0 0] := rfl
theorem ty23_agg : ty23.isAgg = false := by kernel_rfl
theorem kd_23 : kd Ty 23 = .slice ty96 := by kernel_rfl
theorem ok24 : TyOk Tryz.prog 24 ty24 := TyOk.of (by kernel_rfl) (by kernel_rfl)
theorem Ty_24 : Ty 24 = some ty24 := by kernel_rfl
theorem ty24_size : ty24.size = 1 := rfl
theorem ty24_bytes : ty24.bytes = 24 := rfl
theorem ty24_zero : ty24.zero = [.slice none 0 0] := rfl
theorem ty24_agg : ty24.isAgg = false := by kernel_rfl
theorem kd_24 : kd Ty 24 = .slice ty3 := by kernel_rfl
theorem ok25 : TyOk Tryz.prog 25 ty25 := TyOk.of (by kernel_rfl) (by kernel_rfl)
theorem Ty_25 : Ty 25 = some ty25 := by kernel_rfl
theorem ty25_size : ty25.size = 1 := rfl
theorem ty25_bytes : ty25.bytes = 24 := rfl
theorem ty25_zero : ty25.zero = [.slice none 0 0] := rfl
theorem ty25_agg : ty25.isAgg = false := by kernel_rfl
theorem kd_25 : kd Ty 25 = .slice ty9 := by kernel_rfl
theorem ok26 : TyOk Tryz.prog 26 ty26 := TyOk.of (by kernel_rfl) (by kernel_rfl)
theorem Ty_26 : Ty 26 = some ty26 := by kernel_rfl
theorem ty26_size : ty26.size = 1 := rfl
theorem ty26_bytes : ty26.bytes = 24 := rfl
theorem ty26_zero : ty26.zero = [.slice none 0 0] := rfl
theorem ty26_agg : ty26.isAgg = false := by kernel_rfl
theorem kd_26 : kd Ty 26 = .slice ty99 := by kernel_rfl
theorem ok28 : TyOk Tryz.prog 28 ty28 := TyOk.of (by kernel_rfl) (by kernel_rfl)
theorem Ty_28 : Ty 28 = some ty28 := by kernel_rfl
theorem ty28_size : ty28.size = 6 := rfl
theorem ty28_bytes : ty28.bytes = 112 := rfl
theorem ty28_zero : ty28.zero = [.int .i64 0, .slice none 0 0, .slice none 0 0, .int .i64 0, .slice none 0 0, .slice none 0 0] := rfl
theorem ty28_agg : ty28.isAgg = true := by kernel_rfl
theorem kd_28 : kd Ty 28 = .struct [(0, ty3), (1, ty23), (2, ty24), (3, ty3), (4, ty25), (5, ty26)] := by kernel_rfl
theorem ok33 : TyOk Tryz.prog 33 ty33 := TyOk.of (by kernel_rfl) (by kernel_rfl)
theorem Ty_33 : Ty 33 = some ty33 := by kernel_rfl
theorem ty33_size : ty33.size = 1 := rfl
theorem ty33_bytes : ty33.bytes = 24 := rfl
theorem ty33_zero : ty33.zero = [.slice none 0 0] := rfl
theorem ty33_agg : ty33.isAgg = false := by kernel_rfl
theorem kd_33 : kd Ty 33 = .slice ty69 := by kernel_rfl
theorem ok35 : TyOk Tryz.prog 35 ty35 := TyOk.of (by kernel_rfl) (by kernel_rfl)
theorem Ty_35 : Ty 35 = some ty35 := by kernel_rfl
theorem ty35_size : ty35.size = 1 := rfl
theorem ty35_bytes : ty35.bytes = 24 := rfl
theorem ty35_zero : ty35.zero = [.slice none 0 0] := rfl
theorem ty35_agg : ty35.isAgg = false := by kernel_rfl
theorem kd_35 : kd Ty 35 = .slice ty101 := by kernel_rfl
theorem ok36 : TyOk Tryz.prog 36 ty36 := TyOk.of (by kernel_rfl) (by kernel_rfl)
theorem Ty_36 : Ty 36 = some ty36 := by kernel_rfl
theorem ty36_size : ty36.size = 1 := rfl
theorem ty36_bytes : ty36.bytes = 24 := rfl
theorem ty36_zero : ty36.zero = [.slice none 0 0] := rfl
theorem ty36_agg : ty36.isAgg = false := by kernel_rfl
theorem kd_36 : kd Ty 36 = .slice ty103 := by kernel_rfl
theorem ok38 : TyOk Tryz.prog 38 ty38 := TyOk.of (by kernel_rfl) (by kernel_rfl)
theorem Ty_38 : Ty 38 = some ty38 := by kernel_rfl
theorem ty38_size : ty38.size = 6 := rfl
theorem ty38_bytes : ty38.bytes = 112 := rfl
theorem ty38_zero : ty38.zero = [.int .i64 0, .slice none 0 0, .slice none 0 0, .int .i64 0, .slice none 0 0, .slice none 0 0] := rfl
theorem ty38_agg : ty38.isAgg = true := by kernel_rfl
theorem kd_38 : kd Ty 38 = .struct [(0, ty3), (1, ty35), (2, ty24), (3, ty3), (4, ty25), (5, ty36)] := by kernel_rfl
theorem ok44 : TyOk Tryz.prog 44 ty44 := TyOk.of (by kernel_rfl) (by kernel_rfl)
theorem Ty_44 : Ty 44 = some ty44 := by kernel_rfl
theorem ty44_size : ty44.size = 2 := rfl
theorem ty44_bytes : ty44.bytes = 48 := rfl
theorem ty44_zero : ty44.zero = [.slice none 0 0, .slice none 0 0] := rfl
theorem ty44_agg : ty44.isAgg = true := by kernel_rfl
theorem kd_44 : kd Ty 44 = .struct [(0, ty24), (1, ty24)] := by kernel_rfl
theorem ok51 : TyOk Tryz.prog 51 ty51 := TyOk.of (by kernel_rfl) (by kernel_rfl)
theorem Ty_51 : Ty 51 = some ty51 := by kernel_rfl
theorem ty51_size : ty51.size = 1 := rfl
theorem ty51_bytes : ty51.bytes = 24 := rfl
theorem ty51_zero : ty51.zero = [.slice none 0 0] := rfl
theorem ty51_agg : ty51.isAgg = false := by kernel_rfl
theorem kd_51 : kd Ty 51 = .slice ty44 := by kernel_rfl
theorem ok63 : TyOk Tryz.prog 63 ty63 := TyOk.of (by kernel_rfl) (by kernel_rfl)
theorem Ty_63 : Ty 63 = some ty63 := by kernel_rfl
theorem ty63_size : ty63.size = 3 := rfl
theorem ty63_bytes : ty63.bytes = 32 := rfl
theorem ty63_zero : ty63.zero = [.string ⟨#[]⟩, .int .i64 0, .int .i64 0] := rfl
theorem ty63_agg : ty63.isAgg = true := by kernel_rfl
theorem kd_63 : kd Ty 63 = .struct [(0, ty9), (1, ty3), (2, ty3)] := by kernel_rfl
theorem ok69 : TyOk Tryz.prog 69 ty69 := TyOk.of (by kernel_rfl) (by kernel_rfl)
theorem Ty_69 : Ty 69 = some ty69 := by kernel_rfl
theorem ty69_size : ty69.size = 3 := rfl
theorem ty69_bytes : ty69.bytes = 32 := rfl
theorem ty69_zero : ty69.zero = [.string ⟨#[]⟩, .int .i64 0, .int .i64 0] := rfl
theorem ty69_agg : ty69.isAgg = true := by kernel_rfl
theorem kd_69 : kd Ty 69 = .struct [(0, ty9), (1, ty3), (2, ty3)] := by kernel_rfl
theorem ok96 : TyOk Tryz.prog 96 ty96 := TyOk.of (by kernel_rfl) (by kernel_rfl)
theorem Ty_96 : Ty 96 = some ty96 := by kernel_rfl
theorem ty96_size : ty96.size = 3 := rfl
theorem ty96_bytes : ty96.bytes = 40 := rfl
theorem ty96_zero : ty96.zero = [.int .i64 0, .int .i64 0, .slice none 0 0] := rfl
theorem ty96_agg : ty96.isAgg = true := by kernel_rfl
theorem kd_96 : kd Ty 96 = .struct [(0, ty3), (1, ty3), (2, ty24)] := by kernel_rfl
theorem ok99 : TyOk Tryz.prog 99 ty99 := TyOk.of (by kernel_rfl) (by kernel_rfl)
theorem Ty_99 : Ty 99 = some ty99 := by kernel_rfl
theorem ty99_size : ty99.size = 2 := rfl
theorem ty99_bytes : ty99.bytes = 24 := rfl
theorem ty99_zero : ty99.zero = [.string ⟨#[]⟩, .int .i64 0] := rfl
theorem ty99_agg : ty99.isAgg = true := by kernel_rfl
theorem kd_99 : kd Ty 99 = .struct [(0, ty9), (1, ty3)] := by kernel_rfl
theorem ok101 : TyOk Tryz.prog 101 ty101 := TyOk.of (by kernel_rfl) (by kernel_rfl)
theorem Ty_101 : Ty 101 = some ty101 := by kernel_rfl
theorem ty101_size : ty101.size = 3 := rfl
theorem ty101_bytes : ty101.bytes = 40 := rfl
theorem ty101_zero : ty101.zero = [.int .i64 0, .int .i64 0, .slice none 0 0] := rfl
theorem ty101_agg : ty101.isAgg = true := by kernel_rfl
theorem kd_101 : kd Ty 101 = .struct [(0, ty3), (1, ty3), (2, ty24)] := by kernel_rfl
theorem ok103 : TyOk Tryz.prog 103 ty103 := TyOk.of (by kernel_rfl) (by kernel_rfl)
theorem Ty_103 : Ty 103 = some ty103 := by kernel_rfl
theorem ty103_size : ty103.size = 2 := rfl
theorem ty103_bytes : ty103.bytes = 24 := rfl
theorem ty103_zero : ty103.zero = [.string ⟨#[]⟩, .int .i64 0] := rfl
theorem ty103_agg : ty103.isAgg = true := by kernel_rfl
theorem kd_103 : kd Ty 103 = .struct [(0, ty9), (1, ty3)] := by kernel_rfl
theorem ok119 : TyOk Tryz.prog 119 ty119 := TyOk.of (by kernel_rfl) (by kernel_rfl)
theorem Ty_119 : Ty 119 = some ty119 := by kernel_rfl
theorem ty119_size : ty119.size = 1 := rfl
theorem ty119_bytes : ty119.bytes = 24 := rfl
theorem ty119_zero : ty119.zero = [.slice none 0 0] := rfl
theorem ty119_agg : ty119.isAgg = false := by kernel_rfl
theorem kd_119 : kd Ty 119 = .slice ty5 := by kernel_rfl
theorem ok122 : TyOk Tryz.prog 122 ty122 := TyOk.of (by kernel_rfl) (by kernel_rfl)
theorem Ty_122 : Ty 122 = some ty122 := by kernel_rfl
theorem ty122_size : ty122.size = 1 := rfl
theorem ty122_bytes : ty122.bytes = 8 := rfl
theorem ty122_zero : ty122.zero = [.int .u64 0] := rfl
theorem ty122_agg : ty122.isAgg = false := by kernel_rfl
theorem kd_122 : kd Ty 122 = .int .u64 := by kernel_rfl
theorem ok166 : TyOk Tryz.prog 166 ty166 := TyOk.of (by kernel_rfl) (by kernel_rfl)
theorem Ty_166 : Ty 166 = some ty166 := by kernel_rfl
theorem ty166_size : ty166.size = 1 := rfl
theorem ty166_bytes : ty166.bytes = 24 := rfl
theorem ty166_zero : ty166.zero = [.slice none 0 0] := rfl
theorem ty166_agg : ty166.isAgg = false := by kernel_rfl
theorem kd_166 : kd Ty 166 = .slice ty179 := by kernel_rfl
theorem ok179 : TyOk Tryz.prog 179 ty179 := TyOk.of (by kernel_rfl) (by kernel_rfl)
theorem Ty_179 : Ty 179 = some ty179 := by kernel_rfl
theorem ty179_size : ty179.size = 2 := rfl
theorem ty179_bytes : ty179.bytes = 16 := rfl
theorem ty179_zero : ty179.zero = [.int .i64 0, .int .i64 0] := rfl
theorem ty179_agg : ty179.isAgg = true := by kernel_rfl
theorem kd_179 : kd Ty 179 = .arr 2 ty3 := by kernel_rfl
theorem Ty_ok : TypesOk Tryz.prog Ty := by
 have h : ∀ p ∈ tyL, TyOk Tryz.prog p.1 p.2 := by
  refine List.forall_mem_cons.2 ⟨ok3, ?_⟩
  refine List.forall_mem_cons.2 ⟨ok4, ?_⟩
  refine List.forall_mem_cons.2 ⟨ok5, ?_⟩
  refine List.forall_mem_cons.2 ⟨ok9, ?_⟩
  refine List.forall_mem_cons.2 ⟨ok22, ?_⟩
  refine List.forall_mem_cons.2 ⟨ok23, ?_⟩
  refine List.forall_mem_cons.2 ⟨ok24, ?_⟩
  refine List.forall_mem_cons.2 ⟨ok25, ?_⟩
  refine List.forall_mem_cons.2 ⟨ok26, ?_⟩
  refine List.forall_mem_cons.2 ⟨ok28, ?_⟩
  refine List.forall_mem_cons.2 ⟨ok33, ?_⟩
  refine List.forall_mem_cons.2 ⟨ok35, ?_⟩
  refine List.forall_mem_cons.2 ⟨ok36, ?_⟩
  refine List.forall_mem_cons.2 ⟨ok38, ?_⟩
  refine List.forall_mem_cons.2 ⟨ok44, ?_⟩
  refine List.forall_mem_cons.2 ⟨ok51, ?_⟩
  refine List.forall_mem_cons.2 ⟨ok63, ?_⟩
  refine List.forall_mem_cons.2 ⟨ok69, ?_⟩
  refine List.forall_mem_cons.2 ⟨ok96, ?_⟩
  refine List.forall_mem_cons.2 ⟨ok99, ?_⟩
  refine List.forall_mem_cons.2 ⟨ok101, ?_⟩
  refine List.forall_mem_cons.2 ⟨ok103, ?_⟩
  refine List.forall_mem_cons.2 ⟨ok119, ?_⟩
  refine List.forall_mem_cons.2 ⟨ok122, ?_⟩
  refine List.forall_mem_cons.2 ⟨ok166, ?_⟩
  refine List.forall_mem_cons.2 ⟨ok179, ?_⟩
  simp
 intro t i hi
 unfold Ty at hi
 cases hf : tyL.find? (fun p => p.1 == t) with
 | none => simp [hf] at hi
 | some p =>
  simp only [hf, Option.map_some, Option.some.injEq] at hi
  have h1 := List.find?_some hf
  have h2 := h p (List.mem_of_find?_eq_some hf)
  simp only [beq_iff_eq] at h1
  rw [← h1, ← hi]
  exact h2
attribute [simp] ty3_size ty4_size ty5_size ty9_size ty22_size ty23_size ty24_size ty25_size ty26_size ty28_size ty33_size ty35_size ty36_size ty38_size ty44_size ty51_size ty63_size ty69_size ty96_size ty99_size ty101_size ty103_size ty119_size ty122_size ty166_size ty179_size ty3_agg ty4_agg ty5_agg ty9_agg ty22_agg ty23_agg ty24_agg ty25_agg ty26_agg ty28_agg ty33_agg ty35_agg ty36_agg ty38_agg ty44_agg ty51_agg ty63_agg ty69_agg ty96_agg ty99_agg ty101_agg ty103_agg ty119_agg ty122_agg ty166_agg ty179_agg ty3_zero ty4_zero ty5_zero ty9_zero ty22_zero ty23_zero ty24_zero ty25_zero ty26_zero ty28_zero ty33_zero ty35_zero ty36_zero ty38_zero ty44_zero ty51_zero ty63_zero ty69_zero ty96_zero ty99_zero ty101_zero ty103_zero ty119_zero ty122_zero ty166_zero ty179_zero Ty_3 Ty_4 Ty_5 Ty_9 Ty_22 Ty_23 Ty_24 Ty_25 Ty_26 Ty_28 Ty_33 Ty_35 Ty_36 Ty_38 Ty_44 Ty_51 Ty_63 Ty_69 Ty_96 Ty_99 Ty_101 Ty_103 Ty_119 Ty_122 Ty_166 Ty_179 kd_3 kd_4 kd_5 kd_9 kd_22 kd_23 kd_24 kd_25 kd_26 kd_28 kd_33 kd_35 kd_36 kd_38 kd_44 kd_51 kd_63 kd_69 kd_96 kd_99 kd_101 kd_103 kd_119 kd_122 kd_166 kd_179 ty3_bytes ty4_bytes ty5_bytes ty9_bytes ty22_bytes ty23_bytes ty24_bytes ty25_bytes ty26_bytes ty28_bytes ty33_bytes ty35_bytes ty36_bytes ty38_bytes ty44_bytes ty51_bytes ty63_bytes ty69_bytes ty96_bytes ty99_bytes ty101_bytes ty103_bytes ty119_bytes ty122_bytes ty166_bytes ty179_bytes
end Go.Ab
/- Contracts of impl.within and (impl.Proc).kids, on abstract values; no conditions but a bound on the length. -/
namespace Go.Ab
open Go.Proofs
section
variable {f : FuncId} {N : Nat} {k : List Item} {ρ : Env} {H : Heap} {n : Nat} {Q : AVal → Heap → Nat → Prop} {id : Nat} {ops : List Oper} {y : Code}
theorem zE (h : ∀ k' : List Item, (∀ ρ H n, Runs Tryz.prog f N (.code y :: k) ρ H n Q → Runs Tryz.prog f N k' ρ H n Q) → evalK Tryz.prog f N k' Q Ty ops.toArray ops ρ H n) (hN : ops.all (fun o => dok N o.dst) = true := by decide) : Runs Tryz.prog f N (.code (.seq (.region id ops.toArray false) y) :: k) ρ H n Q := Runs.seqE Ty_ok hN h
theorem zF (h : ∀ k' : List Item, (∀ ρ H n, Runs Tryz.prog f N k ρ H n Q → Runs Tryz.prog f N k' ρ H n Q) → evalK Tryz.prog f N k' Q Ty ops.toArray ops ρ H n) (hN : ops.all (fun o => dok N o.dst) = true := by decide) : Runs Tryz.prog f N (.code (.region id ops.toArray false) :: k) ρ H n Q := Runs.evalE Ty_ok hN h
end
def within (n lo hi : Int) : Bool := decide (lo ≤ n) && decide (n ≤ hi)
theorem within_ok (n lo hi : Int) : PureC Tryz.prog 113 [int n, int lo, int hi] (fun r => r = bool (within n lo hi)) := by
 refine PureC.of Tryz.func113 rfl Tryz.ntmps113 (by simp) fun Q hQ => ?_
 refine Runs.seqE Ty_ok (by decide) fun k' hk' => ?_
 simp
 refine hk' _ _ _ (Runs.seqE Ty_ok (by decide) fun k' hk' => ?_)
 simp
 by_cases h : lo ≤ n
 all_goals
  simp [h]
  refine hk' _ _ _ (Runs.ret Tryz.func113 (RetOk.one Tryz.results113) (hQ _ _ _ _ (ResOk.v _ _ _) ?_))
  simp [within, h]
structure AmbNode where
 kind : Int
 name : Str
 parent : Int
 deriving Inhabited, DecidableEq
abbrev Proc := List AmbNode
set_option linter.unusedSimpArgs false
end Go.Ab
/- Contracts of impl.prefixWords and impl.nodeText. -/
namespace Go.Ab
open Go.Proofs
set_option linter.unusedSimpArgs false
theorem draws : Tryz.prog.follows .mixedOrders = true := by kernel_rfl
theorem e113 : Ent Tryz.prog 113 := Ent.of Tryz.func113 (by kernel_rfl) rfl
end Go.Ab
/- The abstract machine, part So: the library's sort of strings, laid on a slice of the caller's own. -/
namespace Go.Ab
open Go.Proofs Go.RowKit
set_option linter.unusedSectionVars false
end Go.Ab
/- The abstract machine, part Sx: regions that draw their order with one call whose result the caller owns; all else stands ahead of it or waits for it. -/
namespace Go.Ab
set_option linter.unusedSectionVars false
set_option linter.unusedVariables false
section
variable (P : Program) (N : Nat) (ops : Array Oper) (κ : Op → Nat) (cix : Nat)
end
section
variable {P : Program} {N : Nat} {ops : Array Oper} {κ : Op → Nat} {cix : Nat}
end
section
variable {P : Program} {f : FuncId} {N : Nat} {k : List Item} {ρ : Env} {H : Heap} {n : Nat} {Q : AVal → Heap → Nat → Prop} {κ : Op → Nat}
end
section
variable (P : Program) (f : FuncId) (N : Nat) (k : List Item) (Q : AVal → Heap → Nat → Prop) (Ty : Types) (κ : Op → Nat) (ops : Array Oper)
end
section
variable {P : Program} {f : FuncId} {N : Nat} {k : List Item} {Q : AVal → Heap → Nat → Prop} {Ty : Types} {κ : Op → Nat} {ops : Array Oper} {o : Oper} {l : List Oper} {ρ : Env} {H : Heap} {n : Nat} {c : Nat}
theorem loc_args {d : Operand} {args : Array Operand} {ats : Array TypeId} : args.toList.map (loc (.call ⟨.value d, args, ats⟩) ρ).ev = args.toList.map ρ.ev ∧ (loc (.call ⟨.value d, args, ats⟩) ρ).ev d = ρ.ev d :=
 ⟨List.map_congr_left fun x hx => loc_ev (by simp [Op.operands, Call.operands]; exact .inr (by simpa using hx)), loc_ev (by simp [Op.operands, Call.operands])⟩
end
end Go.Ab
/- The abstract machine, part Sy: regions that draw their order, by what is known of the operations that are done. -/
namespace Go.Ab
set_option linter.unusedSectionVars false
set_option linter.unusedVariables false
abbrev Done (L : Array Bool) (j : Nat) : Prop := L.getD j false = true
theorem Done.set {L : Array Bool} {i j : Nat} (h : Done (L.setIfInBounds i true) j) : j = i ∨ Done L j := by
 by_cases hij : i = j
 ·exact .inl hij.symm
 ·refine .inr ?_
  rw [Done, getD_set_ne false hij] at h
  exact h
theorem Done.of_set {L : Array Bool} {i j : Nat} (h : Done L j) : Done (L.setIfInBounds i true) j := by
 by_cases hij : i = j
 ·subst hij
  have : i < L.size := by
   rcases Nat.lt_or_ge i L.size with h' | h'
   ·exact h'
   ·simp [Done, h'] at h
  simp [Done, this]
 ·rw [Done, getD_set_ne false hij]
  exact h
theorem done_self {L : Array Bool} {i : Nat} (h : i < L.size) : Done (L.setIfInBounds i true) i := by simp [Done, h]
theorem not_done {L : Array Bool} {i : Nat} (h : i < L.size) : ¬ Done L i ↔ L.getD i true = false := by
 simp [Done, h]
theorem countP_less {α : Type} {p q : α → Bool} : ∀ {l : List α}, (∀ x ∈ l, p x = true → q x = true) → (∃ x ∈ l, q x = true ∧ p x = false) → l.countP p < l.countP q
 | [], _, ⟨_, h, _⟩ => by cases h
 | y :: l, h, ⟨x, hx, h1, h2⟩ => by
  have hle : l.countP p ≤ l.countP q := List.countP_mono_left fun z hz => h z (by simp [hz])
  rcases List.mem_cons.1 hx with rfl | hx
  ·rw [List.countP_cons_of_pos h1, List.countP_cons_of_neg (by simp [h2])]
   omega
  ·have := countP_less (l := l) (fun z hz => h z (by simp [hz])) ⟨x, hx, h1, h2⟩
   have hy := h y (by simp)
   simp only [List.countP_cons]
   by_cases hp : p y = true
   ·rw [if_pos hp, if_pos (hy hp)]; omega
   ·rw [if_neg hp]; split <;> omega
def StepI (P : Program) (N : Nat) (ops : Array Oper) (Inv : Array Bool → AS → Prop) (i : Nat) : Prop :=
 ∀ L s, Inv L s → i ∈ Region.ready .any ops L → ∃ o, ops[i]? = some o ∧ o.guard = none ∧ OpSem P N o (loc o.op s.1) s.2.1 s.2.2 fun v H' n' => Inv (L.setIfInBounds i true) (s.1.put o.dst v, H', n')
section
variable {P : Program} {N : Nat} {ops : Array Oper}
theorem wpAny_inv {Inv : Array Bool → AS → Prop} {R : AS → Prop} (hN : ops.toList.all (fun o => dok N o.dst) = true) {Q : Exit → Act → World → Prop} {c0 : Ctx} (hQ : ∀ a c ρ, Keeps c0 c → Good c → RelE N c ρ a → R (ρ, c.H, c.n) → Q .normal a c.w)
  (step : ∀ i, StepI P N ops Inv i) (fin : ∀ L s, Inv L s → Region.ready .any ops L = [] → R s) :
  ∀ (fuel : Nat) (L : Array Bool) (ρ : Env) (c : Ctx) (a : Act), Keeps c0 c → Good c → RelE N c ρ a → Inv L (ρ, c.H, c.n) → (List.range ops.size).countP (fun i => !(L.getD i true)) ≤ fuel → wpAny P .any ops Q fuel L a c.w
 | 0, L, ρ, c, a, hk, g, r, h, hf => by
  have hr : Region.ready .any ops L = [] := by
   cases hl : Region.ready .any ops L with
   | nil => rfl
   | cons i l =>
    have hi : i ∈ Region.ready .any ops L := by rw [hl]; simp
    obtain ⟨h1, o, ho, _⟩ := mem_ready.1 hi
    have hlt : i < ops.size := (Array.getElem?_eq_some_iff.1 ho).1
    have : 0 < (List.range ops.size).countP (fun i => !(L.getD i true)) := List.countP_pos_iff.2 ⟨i, List.mem_range.2 hlt, by simp only [h1, Bool.not_false]⟩
    omega
  exact ⟨hr, hQ _ _ _ hk g r (fin _ _ h hr)⟩
 | fuel + 1, L, ρ, c, a, hk, g, r, h, hf => by
  refine ⟨fun h0 => hQ _ _ _ hk g r (fin _ _ h h0), fun i hi => ?_⟩
  obtain ⟨o, ho, hg, hop⟩ := step i L _ h hi
  obtain ⟨hu, o', ho', _⟩ := mem_ready.1 hi
  have hlt : i < ops.size := (Array.getElem?_eq_some_iff.1 ho).1
  have hd : dok N o.dst = true := List.all_eq_true.1 hN o (by rw [← Array.getElem?_toList] at ho; exact List.mem_of_getElem? ho)
  unfold wpOp
  simp only [ho]
  rw [if_pos (wanted_of_gok r hN (by simp [gok, hg]))]
  refine .inl (hop c a rfl rfl g (r.loc o.op) _ _ ?_)
  rintro v1 x c' hpost hrep hgood hkeep
  refine wpAny_inv hN hQ step fin fuel _ _ c' _ (hk.trans hkeep) hgood ((r.keeps hkeep).put hd hrep) hpost ?_
  have : (List.range ops.size).countP (fun j => !((L.setIfInBounds i true).getD j true)) < (List.range ops.size).countP (fun j => !(L.getD j true)) := by
   refine countP_less (fun x _ hx => ?_) ⟨i, List.mem_range.2 hlt, by simp only [hu, Bool.not_false], ?_⟩
   ·by_cases hix : i = x
    ·subst hix; simp only [hu, Bool.not_false]
    ·rw [getD_set_ne true hix] at hx; exact hx
   ·have : (L.setIfInBounds i true).getD i true = true := by
     by_cases hs : i < L.size <;> simp [hs]
    simp only [this, Bool.not_true]
  omega
end
section
variable {P : Program} {f : FuncId} {N : Nat} {k : List Item} {ρ : Env} {H : Heap} {n : Nat} {Q : AVal → Heap → Nat → Prop}
theorem Runs.drawI (Inv : Array Bool → AS → Prop) {id : Nat} {ops : List Oper} (hm : P.follows .mixedOrders = true) (hN : ops.all (fun o => dok N o.dst) = true) (h0 : Inv (Array.replicate ops.length false) (ρ, H, n)) (step : ∀ i, StepI P N ops.toArray Inv i)
  (fin : ∀ L s, Inv L s → Region.ready .any ops.toArray L = [] → Runs P f N k s.1 s.2.1 s.2.2 Q) : Runs P f N (.code (.region id ops.toArray true) :: k) ρ H n Q := by
 intro c a hH hn g r b cs hf hk
 subst hH
 subst hn
 obtain ⟨d1, d2⟩ := draw_keeps g
 have hw : (Code.region id ops.toArray true).wp P (fun e a' w' => e = .normal ∧ ∃ c' ρ', c'.w = w' ∧ Keeps c c' ∧ Good c' ∧ RelE N c' ρ' a' ∧ Runs P f N k ρ' c'.H c'.n Q) a c.w := by
  refine wp_region_any hm ?_
  have := wpAny_inv (P := P) (N := N) (ops := ops.toArray) (c0 := c) (Inv := Inv) (by simpa using hN) (Q := fun e a' w' => e = .normal ∧ ∃ c' ρ', c'.w = w' ∧ Keeps c c' ∧ Good c' ∧ RelE N c' ρ' a' ∧ Runs P f N k ρ' c'.H c'.n Q)
   (R := fun s => Runs P f N k s.1 s.2.1 s.2.2 Q) (fun a' c' ρ' hk' hg' hr' hR => ⟨rfl, c', ρ', rfl, hk', hg', hr', hR⟩) step fin ops.length (Array.replicate ops.toArray.size false) ρ { c with w := { c.w with drawn := c.w.drawn + 1 } } a d1 d2 (r.keeps d1) (by simpa using h0)
   (Nat.le_trans List.countP_le_length (by simp))
  simpa using this
 obtain ⟨e, a', w', ⟨rfl, c', ρ', rfl, hk', hg', hr', hR⟩, harr⟩ := hw b k cs
 obtain ⟨x, v, c'', fr, q, hr, hg, hke, hst, rest⟩ := hR c' a' rfl rfl hg' hr' b cs hf hk
 exact ⟨x, v, c'', fr, q, hr, hg, hk'.trans hke, Steps.trans harr hst, rest⟩
end
def Old (ρ : Env) (B : List (Nat × AVal)) : Prop := ∀ q ∈ B, ρ q.1 = q.2
def Told (L : Array Bool) (ρ : Env) (F : List (Nat × Nat × AVal)) : Prop := ∀ q ∈ F, Done L q.1 → ρ q.2.1 = q.2.2
def AllF (ρ : Env) (F : List (Nat × Nat × AVal)) : Prop := ∀ q ∈ F, ρ q.2.1 = q.2.2
theorem Old.head {ρ : Env} {t : Nat} {v : AVal} {B : List (Nat × AVal)} (h : Old ρ ((t, v) :: B)) : ρ t = v := h (t, v) (by simp)
theorem Told.head {L : Array Bool} {ρ : Env} {i t : Nat} {v : AVal} {F : List (Nat × Nat × AVal)} (h : Told L ρ ((i, t, v) :: F)) (hd : Done L i) : ρ t = v := h (i, t, v) (by simp) hd
theorem AllF.head {ρ : Env} {i t : Nat} {v : AVal} {F : List (Nat × Nat × AVal)} (h : AllF ρ ((i, t, v) :: F)) : ρ t = v := h (i, t, v) (by simp)
theorem Old.at {ρ : Env} {B : List (Nat × AVal)} (h : Old ρ B) (k : Nat) {t : Nat} {v : AVal} (hk : B[k]? = some (t, v)) : ρ t = v := h (t, v) (List.mem_of_getElem? hk)
theorem Told.at {L : Array Bool} {ρ : Env} {F : List (Nat × Nat × AVal)} (h : Told L ρ F) (k : Nat) {i t : Nat} {v : AVal} (hk : F[k]? = some (i, t, v)) (hd : Done L i) : ρ t = v := h (i, t, v) (List.mem_of_getElem? hk) hd
theorem AllF.at {ρ : Env} {F : List (Nat × Nat × AVal)} (h : AllF ρ F) (k : Nat) {i t : Nat} {v : AVal} (hk : F[k]? = some (i, t, v)) : ρ t = v := h (i, t, v) (List.mem_of_getElem? hk)
theorem Old.put {ρ : Env} {B : List (Nat × AVal)} {d : Option Nat} {v : AVal} (h : Old ρ B) (hd : ∀ q ∈ B, d ≠ some q.1) : Old (ρ.put d v) B := fun q hq => by
 cases d with
 | none => exact h q hq
 | some d =>
  have : q.1 ≠ d := fun e => hd q hq (by rw [e])
  simp [Env.put, this, h q hq]
theorem Told.put {L : Array Bool} {ρ : Env} {F F' : List (Nat × Nat × AVal)} {i : Nat} {d : Option Nat} {v : AVal} (h : Told L ρ F) (hF : ∀ q ∈ F', q.1 ≠ i → Done L q.1 → q ∈ F) (hd : ∀ q ∈ F', d = some q.2.1 → q.1 = i) (hv : ∀ q ∈ F', q.1 = i → d = some q.2.1 ∧ q.2.2 = v) :
  Told (L.setIfInBounds i true) (ρ.put d v) F' := fun q hq hdn => by
 by_cases e : q.1 = i
 ·obtain ⟨h1, h2⟩ := hv q hq e
  subst h1
  simp [Env.put, h2]
 ·have hdone := hdn.set.resolve_left e
  have := h q (hF q hq e hdone) hdone
  cases d with
  | none => exact this
  | some d =>
   have hne : q.2.1 ≠ d := fun he => e (hd q hq (by rw [he]))
   simp [Env.put, hne, this]
def Mem (H0 : Heap) (n0 : Nat) (K : List OwnE) (ids : List Id) (ent : List OwnE) (w : Id) (ob0 ob1 : Ob) (dc da ds : Bool) (H : Heap) (n : Nat) : Prop :=
 Sep H n ((if dc then ent else []) ++ K) ((if da then [w] else []) ++ ids) ∧ (∀ i ∈ ids, H i = H0 i) ∧ n0 ≤ n ∧ (da = true → n0 ≤ w.1 ∧ H w = some (if ds then ob1 else ob0))
structure Reg where
 m : Nat
 c : Nat
 a : Nat
 st : Nat
 d : Nat
 B : List (Nat × AVal)
 F : List AVal → Nat → List (Nat × Nat × AVal)
 ent : List AVal → List OwnE
 ob0 : Ob
 ob1 : List AVal → Ob
 RG : List AVal → Prop
 onC : List Nat
 onA : List Nat
 H0 : Heap
 n0 : Nat
 K : List OwnE
 ids : List Id
def Reg.Inv (g : Reg) (L : Array Bool) (s : AS) : Prop :=
 L.size = g.m ∧ (∀ j ∈ g.onC, Done L j → Done L g.c) ∧ (∀ j ∈ g.onA, Done L j → Done L g.a) ∧ ∃ (G : List AVal) (A : Nat), Old s.1 g.B ∧ Told L s.1 (g.F G A) ∧ (Done L g.c → g.RG G) ∧
  Mem g.H0 g.n0 g.K g.ids (g.ent G) (A, g.d) g.ob0 (g.ob1 G) (L.getD g.c false) (L.getD g.a false) (L.getD g.st false) s.2.1 s.2.2
section
variable {P : Program} {N : Nat} {ops : Array Oper} {g : Reg}
theorem Mem.sep {H0 H : Heap} {n0 n : Nat} {K ent : List OwnE} {ids : List Id} {w : Id} {ob0 ob1 : Ob} {dc da ds : Bool} (h : Mem H0 n0 K ids ent w ob0 ob1 dc da ds H n) : Sep H n K ids := by
 have := h.1
 have h1 : Sep H n K ((if da then [w] else []) ++ ids) := by
  cases dc
  ·simpa using this
  ·exact Sep.right (K1 := ent) this
 exact Sep.sub h1 fun i hi => by simp [hi]
theorem Reg.det {i m c a st : Nat} {o : Oper} (hi : ops.toList[i]? = some o) (hn : (g.m, g.c, g.a, g.st) = (m, c, a, st)) (hk : (decide (i < m) && decide (i ≠ c ∧ i ≠ a ∧ i ≠ st)) = true) (hg : o.guard = none)
  (hs : ∀ L ρ H n G A, Old ρ g.B → Told L ρ (g.F G A) → (∀ e ∈ o.after, Region.binds .any e = true → Done L e.on) → (Done L g.c → g.RG G) → (∀ j ∈ g.onC, Done L j → Done L g.c) → (∀ j ∈ g.ids, H j = g.H0 j) → Sep H n g.K g.ids →
   ∃ v, OpSem P N o (loc o.op ρ) H n (isV v H n) ∧ ∀ q ∈ g.F G A, q.1 = i → o.dst = some q.2.1 ∧ q.2.2 = v)
  (hB : ∀ q ∈ g.B, o.dst ≠ some q.1 := by simp) (hF : ∀ G A, ∀ q ∈ g.F G A, o.dst = some q.2.1 → q.1 = i := by intro G' A'; simp)
  (hc : i ∈ g.onC → ∃ e ∈ o.after, Region.binds .any e = true ∧ (e.on = g.c ∨ e.on ∈ g.onC) := by simp) (ha : i ∈ g.onA → ∃ e ∈ o.after, Region.binds .any e = true ∧ (e.on = g.a ∨ e.on ∈ g.onA) := by simp) : StepI P N ops g.Inv i := by
 simp only [Prod.mk.injEq] at hn
 obtain ⟨rfl, rfl, rfl, rfl⟩ := hn
 simp only [Bool.and_eq_true, decide_eq_true_eq] at hk
 obtain ⟨hm, hne⟩ := hk
 rw [Array.getElem?_toList] at hi
 intro L s hI hr
 obtain ⟨hsz, hoc, hoa, G, A, hO, hT, hG, hM⟩ := hI
 obtain ⟨hu, o', ho', hdep⟩ := mem_ready.1 hr
 rw [hi] at ho'
 cases ho'
 refine ⟨o, hi, hg, ?_⟩
 obtain ⟨v, hop, hv⟩ := hs L s.1 s.2.1 s.2.2 G A hO hT (fun e he hb => hdep e he hb) hG hoc hM.2.1 hM.sep
 refine hop.mono ?_
 rintro _ _ _ ⟨rfl, rfl, rfl⟩
 refine ⟨by simpa using hsz, fun j hj hd => ?_, fun j hj hd => ?_, G, A, hO.put hB, hT.put (fun q hq _ _ => hq) (hF G A) hv, fun hd => hG (hd.set.resolve_left (Ne.symm hne.1)), ?_⟩
 ·rcases hd.set with rfl | hd
  ·obtain ⟨e, he, hb, h1 | h1⟩ := hc hj
   ·exact Done.of_set (h1 ▸ hdep e he hb)
   ·exact Done.of_set (hoc _ h1 (hdep e he hb))
  ·exact Done.of_set (hoc j hj hd)
 ·rcases hd.set with rfl | hd
  ·obtain ⟨e, he, hb, h1 | h1⟩ := ha hj
   ·exact Done.of_set (h1 ▸ hdep e he hb)
   ·exact Done.of_set (hoa _ h1 (hdep e he hb))
  ·exact Done.of_set (hoa j hj hd)
 ·rw [getD_set_ne false hne.1, getD_set_ne false hne.2.1, getD_set_ne false hne.2.2]
  exact hM
theorem Reg.call {d : Option Tmp} {fo : Operand} {args : Array Operand} {ats : Array TypeId} {ty : TypeId} {pos : String} {af : Array Edge} (hi : ops.toList[g.c]? = some ⟨d, .call ⟨.value fo, args, ats⟩, ty, pos, af, none⟩) {m c a st : Nat} (hn : (g.m, g.c, g.a, g.st) = (m, c, a, st)) (hk : (decide (c < m) && decide (c ≠ a ∧ c ≠ st)) = true)
  {R : AVal → Prop} {f' : FuncId} {sh : Sh} (hown : ∃ args', OwnS P f' args' sh R ∧ ∀ L ρ H n G A, Old ρ g.B → Told L ρ (g.F G A) → (∀ e ∈ af, Region.binds .any e = true → Done L e.on) → (∀ j ∈ g.ids, H j = g.H0 j) → Sep H n g.K g.ids → ρ.ev fo = .fn (.func f') [] [] ∧ ArgsOk H n (args.toList.map ρ.ev) args') (hent : Ent P f')
  (hun : ∀ H n v r ids, Sep H n ((sh, v, r) :: g.K) ids → R r → ∃ G, g.RG G ∧ Sep H n (g.ent G ++ g.K) ids ∧ ∀ A, ∀ q ∈ g.F G A, q.1 = g.c → d = some q.2.1 ∧ q.2.2 = v)
  (hB : ∀ q ∈ g.B, d ≠ some q.1 := by simp) (hF : ∀ G A, ∀ q ∈ g.F G A, d = some q.2.1 → q.1 = g.c := by intro G' A'; simp) (hFG : ∀ G G' A, ∀ q ∈ g.F G' A, q.1 ≠ g.c → q.1 ∉ g.onC → q ∈ g.F G A := by intro G1 G' A'; simp) (hcc : g.c ∉ g.onC := by simp) (hca : g.c ∉ g.onA := by simp) (hst : g.st ∈ g.onC := by simp) : StepI P N ops g.Inv g.c := by
 simp only [Prod.mk.injEq] at hn
 obtain ⟨rfl, rfl, rfl, rfl⟩ := hn
 simp only [Bool.and_eq_true, decide_eq_true_eq] at hk
 obtain ⟨hm, hne⟩ := hk
 rw [Array.getElem?_toList] at hi
 intro L s hI hr
 obtain ⟨hsz, hoc, hoa, G, A, hO, hT, hG, hM⟩ := hI
 obtain ⟨hu, o', ho', hdep⟩ := mem_ready.1 hr
 rw [hi] at ho'
 cases ho'
 have hnd : ¬ Done L g.c := (not_done (by omega)).2 hu
 have hncd : ∀ j ∈ g.onC, ¬ Done L j := fun j hj hd => hnd (hoc j hj hd)
 refine ⟨_, hi, rfl, ?_⟩
 obtain ⟨args', hO', har⟩ := hown
 obtain ⟨hfo, hargs⟩ := har L s.1 s.2.1 s.2.2 G A hO hT (fun e he hb => hdep e he hb) hM.2.1 hM.sep
 have hcf : L.getD g.c false = false := by simpa [Done] using hnd
 have hsf : L.getD g.st false = false := by simpa [Done] using hncd g.st hst
 obtain ⟨m1, m2, m3, m4⟩ := hM
 rw [hcf, if_neg (by simp), List.nil_append] at m1
 refine (OpSem.callW (by rw [loc_args.2]; exact hfo) hent (by rw [loc_args.1]; exact hargs) hO' m1).mono ?_
 rintro v1 H1 n1 ⟨r, h1, h2, h3, h4⟩
 obtain ⟨G', hRG, hS, hq⟩ := hun _ _ _ _ _ h1 h2
 refine ⟨by simpa using hsz, fun j hj hd => done_self (by omega), fun j hj hd => ?_, G', A, hO.put hB, hT.put (fun q hq h5 h6 => hFG G G' A q hq h5 fun h7 => hncd _ h7 h6) (hF G' A) (hq A), fun _ => hRG, ?_⟩
 ·rcases hd.set with rfl | hd
  ·exact absurd hj hca
  ·exact Done.of_set (hoa j hj hd)
 ·rw [show (L.setIfInBounds g.c true).getD g.c false = true from done_self (by omega), getD_set_ne false hne.1, getD_set_ne false hne.2, hsf]
  rw [hsf] at m4
  refine ⟨by simpa using hS, fun i hi' => (h4 i (by simp [hi'])).trans (m2 i hi'), Nat.le_trans m3 h3, fun hda => ⟨(m4 hda).1, ?_⟩⟩
  simp only [hda, if_true] at h4
  exact (h4 (A, g.d) (by simp)).trans (m4 hda).2
theorem Reg.alloc {Ty : Types} (hT' : TypesOk P Ty) {t : TypeId} {ti : TI} {ty : TypeId} {pos : String} {af : Array Edge} (hi : ops.toList[g.a]? = some ⟨some g.d, .alloc t, ty, pos, af, none⟩) (hti : Ty t = some ti) (hob : g.ob0 = ⟨ti.zero.length, [ti.zero.map .v]⟩) {m c a st : Nat} (hn : (g.m, g.c, g.a, g.st) = (m, c, a, st)) (hk : (decide (a < m) && decide (a ≠ c ∧ a ≠ st)) = true)
  (hB : ∀ q ∈ g.B, g.d ≠ q.1 := by simp) (hF : ∀ G A, ∀ q ∈ g.F G A, g.d = q.2.1 → q.1 = g.a := by intro G' A'; simp) (hFA : ∀ G A A', ∀ q ∈ g.F G A', q.1 ≠ g.a → q.1 ∉ g.onA → q ∈ g.F G A := by intro G' A1 A2; simp) (haa : g.a ∉ g.onA := by simp) (hac : g.a ∉ g.onC := by simp) (hst : g.st ∈ g.onA := by simp)
  (hv : ∀ G A, ∀ q ∈ g.F G A, q.1 = g.a → g.d = q.2.1 ∧ q.2.2 = .ptr (A, g.d) 1 0 0 := by intro G' A'; simp) : StepI P N ops g.Inv g.a := by
 simp only [Prod.mk.injEq] at hn
 obtain ⟨rfl, rfl, rfl, rfl⟩ := hn
 simp only [Bool.and_eq_true, decide_eq_true_eq] at hk
 obtain ⟨hm, hne⟩ := hk
 rw [Array.getElem?_toList] at hi
 intro L s hI hr
 obtain ⟨hsz, hoc, hoa, G, A, hO, hT, hG, hM⟩ := hI
 obtain ⟨hu, o', ho', hdep⟩ := mem_ready.1 hr
 rw [hi] at ho'
 cases ho'
 have hnd : ¬ Done L g.a := (not_done (by omega)).2 hu
 have hncd : ∀ j ∈ g.onA, ¬ Done L j := fun j hj hd => hnd (hoa j hj hd)
 refine ⟨_, hi, rfl, ?_⟩
 have haf : L.getD g.a false = false := by simpa [Done] using hnd
 have hsf : L.getD g.st false = false := by simpa [Done] using hncd g.st hst
 obtain ⟨m1, m2, m3, m4⟩ := hM
 rw [haf] at m1
 simp only [Bool.false_eq_true, if_false, List.nil_append] at m1
 refine (step_alloc hT' hti).mono ?_
 rintro _ _ _ ⟨rfl, rfl, rfl⟩
 refine ⟨by simpa using hsz, fun j hj hd => ?_, fun j hj hd => done_self (by omega), G, s.2.2, hO.put (fun q hq e => hB q hq (Option.some.inj e)), hT.put (fun q hq h5 h6 => hFA G A s.2.2 q hq h5 fun h7 => hncd _ h7 h6) (fun q hq e => hF G _ q hq (Option.some.inj e)) (fun q hq e => ⟨congrArg some (hv G _ q hq e).1, (hv G _ q hq e).2⟩), fun hd => hG (hd.set.resolve_left (Ne.symm hne.1)), ?_⟩
 ·rcases hd.set with rfl | hd
  ·exact absurd hj hac
  ·exact Done.of_set (hoc j hj hd)
 ·rw [show (L.setIfInBounds g.a true).getD g.a false = true from done_self (by omega), getD_set_ne false hne.1, getD_set_ne false hne.2, hsf]
  refine ⟨?_, fun i hi' => ?_, Nat.le_succ_of_le m3, fun _ => ⟨m3, by simp [Heap.get_set, hob]⟩⟩
  ·simpa using Sep.var (d := g.d) (o := ⟨ti.zero.length, [ti.zero.map .v]⟩) m1
  ·exact (Heap.get_set_ne _ _ (by rintro rfl; have := m1.1 _ hi'; simp at this)).trans (m2 i hi')
theorem Reg.store {Ty : Types} (hT' : TypesOk P Ty) {t : TypeId} {x y : Operand} {ty : TypeId} {pos : String} {af : Array Edge} (hi : ops.toList[g.st]? = some ⟨none, .store t x y, ty, pos, af, none⟩) {m c a st : Nat} (hn : (g.m, g.c, g.a, g.st) = (m, c, a, st)) (hk : (decide (st < m) && decide (st ≠ c ∧ st ≠ a)) = true) (hids : ∀ i ∈ g.ids, i.1 < g.n0)
  (hc : ∃ e ∈ af, Region.binds .any e = true ∧ (e.on = g.c ∨ e.on ∈ g.onC)) (ha : ∃ e ∈ af, Region.binds .any e = true ∧ (e.on = g.a ∨ e.on ∈ g.onA))
  (hs : ∀ L ρ H G A, Old ρ g.B → Told L ρ (g.F G A) → (∀ e ∈ af, Region.binds .any e = true → Done L e.on) → g.RG G → H (A, g.d) = some g.ob0 → storeF (Ty t) (ρ.ev x) (cellsA (ρ.ev y)) H = some (H.set (A, g.d) (g.ob1 G))) (hF : ∀ G A, ∀ q ∈ g.F G A, q.1 ≠ g.st := by intro G' A'; simp) : StepI P N ops g.Inv g.st := by
 simp only [Prod.mk.injEq] at hn
 obtain ⟨rfl, rfl, rfl, rfl⟩ := hn
 simp only [Bool.and_eq_true, decide_eq_true_eq] at hk
 obtain ⟨hm, hne⟩ := hk
 rw [Array.getElem?_toList] at hi
 intro L s hI hr
 obtain ⟨hsz, hoc, hoa, G, A, hO, hT, hG, hM⟩ := hI
 obtain ⟨hu, o', ho', hdep⟩ := mem_ready.1 hr
 rw [hi] at ho'
 cases ho'
 have hnd : ¬ Done L g.st := (not_done (by omega)).2 hu
 have hsf : L.getD g.st false = false := by simpa [Done] using hnd
 have hdc : Done L g.c := by
  obtain ⟨e, he, hb, h1 | h1⟩ := hc
  ·exact h1 ▸ hdep e he hb
  ·exact hoc _ h1 (hdep e he hb)
 have hda : Done L g.a := by
  obtain ⟨e, he, hb, h1 | h1⟩ := ha
  ·exact h1 ▸ hdep e he hb
  ·exact hoa _ h1 (hdep e he hb)
 refine ⟨_, hi, rfl, ?_⟩
 obtain ⟨m1, m2, m3, m4⟩ := hM
 rw [hdc, hda] at m1
 simp only [if_true] at m1
 have hw := (m4 hda).2
 rw [hsf] at hw
 simp only [Bool.false_eq_true, if_false] at hw
 have hst := hs L s.1 s.2.1 G A hO hT (fun e he hb => hdep e he hb) (hG hdc) hw
 have hnw : (A, g.d) ∉ g.ids := fun hm' => by have h1 := (m4 hda).1; have h2 := hids _ hm'; simp only at h1 h2; omega
 refine (stepF_ok (P := P) (N := N) (o := ⟨none, .store t x y, ty, pos, af, none⟩) (v := .undef) (H' := s.2.1.set (A, g.d) (g.ob1 G)) (n' := s.2.2) hT' (by rw [stepF_loc]; simp only [stepF, hst])).mono ?_
 rintro _ _ _ ⟨rfl, rfl, rfl⟩
 refine ⟨by simpa using hsz, fun j hj hd => Done.of_set hdc, fun j hj hd => Done.of_set hda, G, A, Old.put (d := none) (v := .undef) hO (fun q hq e => by cases e), Told.put (d := none) (v := .undef) hT (fun q hq _ _ => hq) (fun q hq e => by cases e) (fun q hq e => absurd e (hF G A q hq)), fun hd => hG hdc, ?_⟩
 rw [getD_set_ne false hne.1, getD_set_ne false hne.2, hdc, hda, show (L.setIfInBounds g.st true).getD g.st false = true from done_self (by omega)]
 refine ⟨Sep.setVar (by simpa using m1) (by simp), fun i hi' => ?_, m3, fun _ => ⟨(m4 hda).1, by simp [Heap.get_set]⟩⟩
 exact (Heap.get_set_ne _ _ (by rintro rfl; exact hnw hi')).trans (m2 i hi')
theorem Reg.callP {d : Option Tmp} {fo : Operand} {args : Array Operand} {ats : Array TypeId} {ty : TypeId} {pos : String} {af : Array Edge} (hi : ops.toList[g.c]? = some ⟨d, .call ⟨.value fo, args, ats⟩, ty, pos, af, none⟩) {m c a st : Nat} (hn : (g.m, g.c, g.a, g.st) = (m, c, a, st)) (hk : (decide (c < m) && decide (c ≠ a ∧ c ≠ st)) = true) (he0 : ∀ G, g.ent G = []) (hR : ∀ G, g.RG G)
  (hs : ∀ L ρ H n G A, Old ρ g.B → Told L ρ (g.F G A) → (∀ e ∈ af, Region.binds .any e = true → Done L e.on) → (∀ j ∈ g.ids, H j = g.H0 j) → Sep H n g.K g.ids →
   ∃ v, OpSem P N ⟨d, .call ⟨.value fo, args, ats⟩, ty, pos, af, none⟩ (loc (.call ⟨.value fo, args, ats⟩) ρ) H n (isV v H n) ∧ ∀ q ∈ g.F G A, q.1 = g.c → d = some q.2.1 ∧ q.2.2 = v)
  (hB : ∀ q ∈ g.B, d ≠ some q.1 := by simp) (hF : ∀ G A, ∀ q ∈ g.F G A, d = some q.2.1 → q.1 = g.c := by intro G' A'; simp) (hca : g.c ∉ g.onA := by simp) : StepI P N ops g.Inv g.c := by
 simp only [Prod.mk.injEq] at hn
 obtain ⟨rfl, rfl, rfl, rfl⟩ := hn
 simp only [Bool.and_eq_true, decide_eq_true_eq] at hk
 obtain ⟨hm, hne⟩ := hk
 rw [Array.getElem?_toList] at hi
 intro L s hI hr
 obtain ⟨hsz, hoc, hoa, G, A, hO, hT, hG, hM⟩ := hI
 obtain ⟨hu, o', ho', hdep⟩ := mem_ready.1 hr
 rw [hi] at ho'
 cases ho'
 refine ⟨_, hi, rfl, ?_⟩
 obtain ⟨v, hop, hv⟩ := hs L s.1 s.2.1 s.2.2 G A hO hT (fun e he hb => hdep e he hb) hM.2.1 hM.sep
 refine hop.mono ?_
 rintro _ _ _ ⟨rfl, rfl, rfl⟩
 refine ⟨by simpa using hsz, fun j hj hd => done_self (by omega), fun j hj hd => ?_, G, A, Old.put hO hB, Told.put hT (fun q hq _ _ => hq) (hF G A) hv, fun _ => hR G, ?_⟩
 ·rcases hd.set with rfl | hd
  ·exact absurd hj hca
  ·exact Done.of_set (hoa j hj hd)
 ·rw [getD_set_ne false hne.1, getD_set_ne false hne.2]
  obtain ⟨m1, m2, m3, m4⟩ := hM
  refine ⟨?_, m2, m3, m4⟩
  rw [he0] at m1 ⊢
  simpa using m1
theorem StepI.none {Inv : Array Bool → AS → Prop} {i : Nat} (h : ops[i]? = none) : StepI P N ops Inv i := fun L s hI hr => by
 obtain ⟨_, o, ho, _⟩ := mem_ready.1 hr
 rw [h] at ho
 cases ho
theorem done_rep {m j : Nat} : ¬ Done (Array.replicate m false) j := by
 simp only [Done, Array.getD_eq_getD_getElem?, Array.getElem?_replicate]
 split <;> simp
theorem Reg.init {ρ : Env} (hB : Old ρ g.B) (hs : Sep g.H0 g.n0 g.K g.ids) : g.Inv (Array.replicate g.m false) (ρ, g.H0, g.n0) := by
 have hf : ∀ j, (Array.replicate g.m false).getD j false = false := fun j => by simpa [Done] using done_rep (m := g.m) (j := j)
 refine ⟨by simp, fun j _ hd => absurd hd done_rep, fun j _ hd => absurd hd done_rep, [], 0, hB, fun q _ hd => absurd hd done_rep, fun hd => absurd hd done_rep, ?_⟩
 rw [hf, hf, hf]
 exact ⟨by simpa using hs, fun _ _ => rfl, Nat.le_refl _, fun h => by cases h⟩
def acycR (ops : Array Oper) : Bool := (List.range ops.size).all fun i => match ops[i]? with
 | some o => o.after.all fun e => !(Region.binds .any e) || decide (e.on < i)
 | none => true
theorem Reg.fin (ha : acycR ops = true) (hm : ops.size = g.m) (hc : g.c < g.m ∧ g.a < g.m ∧ g.st < g.m) (hF : ∀ G A, ∀ q ∈ g.F G A, q.1 < g.m) {L : Array Bool} {s : AS} (hI : g.Inv L s) (hr : Region.ready .any ops L = []) :
  ∃ (G : List AVal) (A : Nat), Old s.1 g.B ∧ AllF s.1 (g.F G A) ∧ g.RG G ∧ Sep s.2.1 s.2.2 (g.ent G ++ g.K) ((A, g.d) :: g.ids) ∧ (∀ i ∈ g.ids, s.2.1 i = g.H0 i) ∧ g.n0 ≤ s.2.2 ∧ g.n0 ≤ A ∧ s.2.1 (A, g.d) = some (g.ob1 G) := by
 obtain ⟨hsz, hoc, hoa, G, A, hO, hT, hG, hM⟩ := hI
 have all : ∀ (q : Nat) (j : Nat), j ≤ q → j < g.m → Done L j := by
  intro q
  induction q with
  | zero =>
   intro j hj hlt
   refine Classical.byContradiction fun hn => ?_
   have hu := (not_done (by omega)).1 hn
   obtain ⟨o, ho⟩ : ∃ o, ops[j]? = some o := ⟨ops[j]'(by omega), by simp [hm, hlt]⟩
   have hin : j ∈ Region.ready .any ops L := mem_ready.2 ⟨hu, o, ho, fun e he hb => by
    have h1 := List.all_eq_true.1 ha j (List.mem_range.2 (by omega))
    rw [ho] at h1
    have h2 := Array.all_eq_true'.1 h1 e he
    simp only [hb, Bool.not_true, Bool.false_or, decide_eq_true_eq] at h2
    omega⟩
   rw [hr] at hin
   cases hin
  | succ q ih =>
   intro j hj hlt
   refine Classical.byContradiction fun hn => ?_
   have hu := (not_done (by omega)).1 hn
   obtain ⟨o, ho⟩ : ∃ o, ops[j]? = some o := ⟨ops[j]'(by omega), by simp [hm, hlt]⟩
   have hin : j ∈ Region.ready .any ops L := mem_ready.2 ⟨hu, o, ho, fun e he hb => by
    have h1 := List.all_eq_true.1 ha j (List.mem_range.2 (by omega))
    rw [ho] at h1
    have h2 := Array.all_eq_true'.1 h1 e he
    simp only [hb, Bool.not_true, Bool.false_or, decide_eq_true_eq] at h2
    exact ih e.on (by omega) (by omega)⟩
   rw [hr] at hin
   cases hin
 have dc := all _ g.c (Nat.le_refl _) hc.1
 have da := all _ g.a (Nat.le_refl _) hc.2.1
 have ds := all _ g.st (Nat.le_refl _) hc.2.2
 obtain ⟨m1, m2, m3, m4⟩ := hM
 rw [dc, da] at m1
 have h4 := m4 da
 rw [ds] at h4
 refine ⟨G, A, hO, fun q hq => hT q hq (all _ _ (Nat.le_refl _) (hF G A q hq)), hG dc, by simpa using m1, m2, m3, h4.1, by simpa using h4.2⟩
end
def gv (G : List AVal) (i : Nat) : AVal := G.getD i .undef
@[simp] theorem gv_zero (a : AVal) (l : List AVal) : gv (a :: l) 0 = a := rfl
@[simp] theorem gv_succ (a : AVal) (l : List AVal) (i : Nat) : gv (a :: l) (i + 1) = gv l i := by simp [gv]
theorem Old.nil {ρ : Env} : Old ρ [] := fun q hq => by cases hq
theorem Old.cons {ρ : Env} {t : Nat} {v : AVal} {B : List (Nat × AVal)} (h : ρ t = v) (hb : Old ρ B) : Old ρ ((t, v) :: B) := fun q hq => by
 rcases List.mem_cons.1 hq with rfl | hq
 ·exact h
 ·exact hb q hq
theorem ArgsOk.of_eq {H : Heap} {n : Nat} {l xs args' : List AVal} (h : l = xs) (ha : ArgsOk H n xs args') : ArgsOk H n l args' := h ▸ ha
theorem OpSem.callD2 {P : Program} {N : Nat} {ρ : Env} {H : Heap} {n : Nat} {d : Option Tmp} {g : Operand} {args : Array Operand} {ats : Array TypeId} {ty : TypeId} {pos : String} {af : Array Edge} {gu : Option (Nat × Bool)} {v : AVal} {f : FuncId} {xs args' : List AVal}
  (h : PureC P f args' (fun r => r = v)) (hent : Ent P f) (ha : ArgsOk H n xs args') (hg : ρ.ev g = .fn (.func f) [] []) (has : args.toList.map ρ.ev = xs) :
  OpSem P N ⟨d, .call ⟨.value g, args, ats⟩, ty, pos, af, gu⟩ (loc (.call ⟨.value g, args, ats⟩) ρ) H n (isV v H n) := OpSem.callD hg hent (has ▸ ha) h
end Go.Ab
