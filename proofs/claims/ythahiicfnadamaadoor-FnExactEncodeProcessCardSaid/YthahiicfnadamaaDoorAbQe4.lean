/- Merged texts (4 of 10) of the proof that ends in Ey: Ty X P So Sv Sw Sx Sy Sz. -/
import Derived.Test.YthahiicfnadamaaDoorAbQe3
import Derived.Test.YthahiicfnadamaaDoorProg
import Derived.KernelRfl
import Derived.Shelf.Sort.Plain
/- The seat's types: what the model's table says of each, as plain data. By program. -/
namespace Go.Ab
open Go.Proofs

theorem TyOk.of {P : Program} {t : TypeId} {s b : Nat} {z : List Value} (h : (P.underlying t).isSome = true) (h2 : (P.info? t).map (fun i => (i.size, i.bytes, i.zero.map Value.cells)) = some (s, b, some z.toArray)) : TyOk P t ⟨(P.underlying t).getD .invalid, s, b, z⟩ := by
  refine ⟨?_, ?_⟩
  · cases hu : P.underlying t with
    | none => simp [hu] at h
    | some d => rfl
  cases hi : P.info? t with
  | none => simp [hi] at h2
  | some info =>
    simp only [hi, Option.map_some, Option.some.injEq, Prod.mk.injEq, Option.map_eq_some_iff] at h2
    obtain ⟨h3, h4, zv, h5, h6⟩ := h2
    exact ⟨info, zv, rfl, h3, h4, h5, h6⟩

noncomputable def ty1 : TI := ⟨(Tryd.prog.underlying 1).getD .invalid, 1, 8, [.nilFunc]⟩
noncomputable def ty2 : TI := ⟨(Tryd.prog.underlying 2).getD .invalid, 1, 8, [.int .i64 0]⟩
noncomputable def ty3 : TI := ⟨(Tryd.prog.underlying 3).getD .invalid, 1, 8, [.int .i64 0]⟩
noncomputable def ty4 : TI := ⟨(Tryd.prog.underlying 4).getD .invalid, 1, 1, [.bool false]⟩
noncomputable def ty5 : TI := ⟨(Tryd.prog.underlying 5).getD .invalid, 1, 1, [.int .u8 0]⟩
noncomputable def ty6 : TI := ⟨(Tryd.prog.underlying 6).getD .invalid, 1, 1, [.int .u8 0]⟩
noncomputable def ty7 : TI := ⟨(Tryd.prog.underlying 7).getD .invalid, 4, 24, [.int .i64 0, .int .i64 0, .bool false, .int .u8 0]⟩
noncomputable def ty9 : TI := ⟨(Tryd.prog.underlying 9).getD .invalid, 1, 16, [.string ⟨#[]⟩]⟩
noncomputable def ty12 : TI := ⟨(Tryd.prog.underlying 12).getD .invalid, 1, 8, [.int .u64 0]⟩
noncomputable def ty13 : TI := ⟨(Tryd.prog.underlying 13).getD .invalid, 2, 24, [.string ⟨#[]⟩, .int .u64 0]⟩
noncomputable def ty15 : TI := ⟨(Tryd.prog.underlying 15).getD .invalid, 1, 8, [.pointer none]⟩
noncomputable def ty16 : TI := ⟨(Tryd.prog.underlying 16).getD .invalid, 1, 8, [.pointer none]⟩
noncomputable def ty17 : TI := ⟨(Tryd.prog.underlying 17).getD .invalid, 1, 8, [.pointer none]⟩
noncomputable def ty18 : TI := ⟨(Tryd.prog.underlying 18).getD .invalid, 1, 8, [.pointer none]⟩
noncomputable def ty19 : TI := ⟨(Tryd.prog.underlying 19).getD .invalid, 1, 8, [.pointer none]⟩
noncomputable def ty20 : TI := ⟨(Tryd.prog.underlying 20).getD .invalid, 1, 16, [.nilIface]⟩
noncomputable def ty21 : TI := ⟨(Tryd.prog.underlying 21).getD .invalid, 1, 4, [.int .i32 0]⟩
noncomputable def ty22 : TI := ⟨(Tryd.prog.underlying 22).getD .invalid, 1, 24, [.slice none 0 0]⟩
noncomputable def ty23 : TI := ⟨(Tryd.prog.underlying 23).getD .invalid, 1, 24, [.slice none 0 0]⟩
noncomputable def ty24 : TI := ⟨(Tryd.prog.underlying 24).getD .invalid, 1, 24, [.slice none 0 0]⟩
noncomputable def ty25 : TI := ⟨(Tryd.prog.underlying 25).getD .invalid, 1, 8, [.nilFunc]⟩
noncomputable def ty26 : TI := ⟨(Tryd.prog.underlying 26).getD .invalid, 1, 24, [.slice none 0 0]⟩
noncomputable def ty27 : TI := ⟨(Tryd.prog.underlying 27).getD .invalid, 1, 24, [.slice none 0 0]⟩
noncomputable def ty28 : TI := ⟨(Tryd.prog.underlying 28).getD .invalid, 1, 24, [.slice none 0 0]⟩
noncomputable def ty29 : TI := ⟨(Tryd.prog.underlying 29).getD .invalid, 1, 24, [.slice none 0 0]⟩
noncomputable def ty30 : TI := ⟨(Tryd.prog.underlying 30).getD .invalid, 6, 112, [.int .i64 0, .slice none 0 0, .slice none 0 0, .int .i64 0, .slice none 0 0, .slice none 0 0]⟩
noncomputable def ty31 : TI := ⟨(Tryd.prog.underlying 31).getD .invalid, 6, 112, [.int .i64 0, .slice none 0 0, .slice none 0 0, .int .i64 0, .slice none 0 0, .slice none 0 0]⟩
noncomputable def ty33 : TI := ⟨(Tryd.prog.underlying 33).getD .invalid, 1, 8, [.nilFunc]⟩
noncomputable def ty34 : TI := ⟨(Tryd.prog.underlying 34).getD .invalid, 1, 24, [.slice none 0 0]⟩
noncomputable def ty35 : TI := ⟨(Tryd.prog.underlying 35).getD .invalid, 1, 24, [.slice none 0 0]⟩
noncomputable def ty36 : TI := ⟨(Tryd.prog.underlying 36).getD .invalid, 1, 24, [.slice none 0 0]⟩
noncomputable def ty37 : TI := ⟨(Tryd.prog.underlying 37).getD .invalid, 1, 8, [.nilFunc]⟩
noncomputable def ty38 : TI := ⟨(Tryd.prog.underlying 38).getD .invalid, 1, 8, [.nilFunc]⟩
noncomputable def ty39 : TI := ⟨(Tryd.prog.underlying 39).getD .invalid, 1, 8, [.nilFunc]⟩
noncomputable def ty40 : TI := ⟨(Tryd.prog.underlying 40).getD .invalid, 1, 8, [.nilFunc]⟩
noncomputable def ty41 : TI := ⟨(Tryd.prog.underlying 41).getD .invalid, 1, 8, [.nilFunc]⟩
noncomputable def ty42 : TI := ⟨(Tryd.prog.underlying 42).getD .invalid, 1, 8, [.nilFunc]⟩
noncomputable def ty43 : TI := ⟨(Tryd.prog.underlying 43).getD .invalid, 1, 8, [.nilFunc]⟩
noncomputable def ty44 : TI := ⟨(Tryd.prog.underlying 44).getD .invalid, 1, 8, [.nilFunc]⟩
noncomputable def ty45 : TI := ⟨(Tryd.prog.underlying 45).getD .invalid, 1, 8, [.nilFunc]⟩
noncomputable def ty46 : TI := ⟨(Tryd.prog.underlying 46).getD .invalid, 1, 8, [.nilFunc]⟩
noncomputable def ty47 : TI := ⟨(Tryd.prog.underlying 47).getD .invalid, 1, 8, [.nilFunc]⟩
noncomputable def ty48 : TI := ⟨(Tryd.prog.underlying 48).getD .invalid, 1, 8, [.nilFunc]⟩
noncomputable def ty49 : TI := ⟨(Tryd.prog.underlying 49).getD .invalid, 1, 8, [.nilFunc]⟩
noncomputable def ty50 : TI := ⟨(Tryd.prog.underlying 50).getD .invalid, 1, 8, [.nilFunc]⟩
noncomputable def ty51 : TI := ⟨(Tryd.prog.underlying 51).getD .invalid, 1, 8, [.nilFunc]⟩
noncomputable def ty52 : TI := ⟨(Tryd.prog.underlying 52).getD .invalid, 1, 8, [.nilFunc]⟩
noncomputable def ty53 : TI := ⟨(Tryd.prog.underlying 53).getD .invalid, 1, 8, [.nilFunc]⟩
noncomputable def ty54 : TI := ⟨(Tryd.prog.underlying 54).getD .invalid, 1, 8, [.nilFunc]⟩
noncomputable def ty55 : TI := ⟨(Tryd.prog.underlying 55).getD .invalid, 1, 8, [.nilFunc]⟩
noncomputable def ty56 : TI := ⟨(Tryd.prog.underlying 56).getD .invalid, 1, 8, [.nilFunc]⟩
noncomputable def ty57 : TI := ⟨(Tryd.prog.underlying 57).getD .invalid, 1, 8, [.nilFunc]⟩
noncomputable def ty58 : TI := ⟨(Tryd.prog.underlying 58).getD .invalid, 3, 32, [.int .i64 0, .string ⟨#[]⟩, .int .i64 0]⟩
noncomputable def ty59 : TI := ⟨(Tryd.prog.underlying 59).getD .invalid, 3, 32, [.int .i64 0, .string ⟨#[]⟩, .int .i64 0]⟩
noncomputable def ty60 : TI := ⟨(Tryd.prog.underlying 60).getD .invalid, 3, 32, [.int .i64 0, .string ⟨#[]⟩, .int .i64 0]⟩
noncomputable def ty61 : TI := ⟨(Tryd.prog.underlying 61).getD .invalid, 1, 8, [.nilFunc]⟩
noncomputable def ty62 : TI := ⟨(Tryd.prog.underlying 62).getD .invalid, 1, 8, [.nilFunc]⟩
noncomputable def ty63 : TI := ⟨(Tryd.prog.underlying 63).getD .invalid, 1, 8, [.nilFunc]⟩
noncomputable def ty64 : TI := ⟨(Tryd.prog.underlying 64).getD .invalid, 1, 8, [.nilFunc]⟩
noncomputable def ty65 : TI := ⟨(Tryd.prog.underlying 65).getD .invalid, 3, 40, [.int .i64 0, .int .i64 0, .slice none 0 0]⟩
noncomputable def ty66 : TI := ⟨(Tryd.prog.underlying 66).getD .invalid, 3, 40, [.int .i64 0, .int .i64 0, .slice none 0 0]⟩
noncomputable def ty67 : TI := ⟨(Tryd.prog.underlying 67).getD .invalid, 1, 8, [.nilFunc]⟩
noncomputable def ty68 : TI := ⟨(Tryd.prog.underlying 68).getD .invalid, 1, 8, [.nilFunc]⟩
noncomputable def ty69 : TI := ⟨(Tryd.prog.underlying 69).getD .invalid, 1, 8, [.nilFunc]⟩
noncomputable def ty70 : TI := ⟨(Tryd.prog.underlying 70).getD .invalid, 2, 24, [.string ⟨#[]⟩, .int .i64 0]⟩
noncomputable def ty71 : TI := ⟨(Tryd.prog.underlying 71).getD .invalid, 2, 24, [.string ⟨#[]⟩, .int .i64 0]⟩
noncomputable def ty72 : TI := ⟨(Tryd.prog.underlying 72).getD .invalid, 1, 8, [.nilFunc]⟩
noncomputable def ty73 : TI := ⟨(Tryd.prog.underlying 73).getD .invalid, 1, 8, [.nilFunc]⟩
noncomputable def ty74 : TI := ⟨(Tryd.prog.underlying 74).getD .invalid, 1, 8, [.nilFunc]⟩
noncomputable def ty75 : TI := ⟨(Tryd.prog.underlying 75).getD .invalid, 1, 8, [.nilFunc]⟩
noncomputable def ty76 : TI := ⟨(Tryd.prog.underlying 76).getD .invalid, 1, 24, [.slice none 0 0]⟩
noncomputable def ty77 : TI := ⟨(Tryd.prog.underlying 77).getD .invalid, 1, 8, [.nilFunc]⟩
noncomputable def ty81 : TI := ⟨(Tryd.prog.underlying 81).getD .invalid, 1, 8, [.nilFunc]⟩
noncomputable def ty82 : TI := ⟨(Tryd.prog.underlying 82).getD .invalid, 1, 8, [.nilFunc]⟩
noncomputable def ty83 : TI := ⟨(Tryd.prog.underlying 83).getD .invalid, 1, 8, [.pointer none]⟩
noncomputable def ty84 : TI := ⟨(Tryd.prog.underlying 84).getD .invalid, 1, 8, [.nilFunc]⟩
noncomputable def ty85 : TI := ⟨(Tryd.prog.underlying 85).getD .invalid, 1, 8, [.nilFunc]⟩
noncomputable def ty86 : TI := ⟨(Tryd.prog.underlying 86).getD .invalid, 1, 8, [.int .u64 0]⟩
noncomputable def ty87 : TI := ⟨(Tryd.prog.underlying 87).getD .invalid, 1, 8, [.nilFunc]⟩
noncomputable def ty89 : TI := ⟨(Tryd.prog.underlying 89).getD .invalid, 1, 8, [.nilFunc]⟩
noncomputable def ty90 : TI := ⟨(Tryd.prog.underlying 90).getD .invalid, 1, 8, [.nilFunc]⟩
noncomputable def ty91 : TI := ⟨(Tryd.prog.underlying 91).getD .invalid, 1, 8, [.nilFunc]⟩
noncomputable def ty92 : TI := ⟨(Tryd.prog.underlying 92).getD .invalid, 1, 8, [.int .i64 0]⟩
noncomputable def ty94 : TI := ⟨(Tryd.prog.underlying 94).getD .invalid, 1, 8, [.nilFunc]⟩
noncomputable def ty95 : TI := ⟨(Tryd.prog.underlying 95).getD .invalid, 1, 8, [.nilFunc]⟩
noncomputable def ty96 : TI := ⟨(Tryd.prog.underlying 96).getD .invalid, 1, 8, [.nilFunc]⟩
noncomputable def ty97 : TI := ⟨(Tryd.prog.underlying 97).getD .invalid, 1, 8, [.nilFunc]⟩
noncomputable def ty99 : TI := ⟨(Tryd.prog.underlying 99).getD .invalid, 1, 8, [.nilFunc]⟩
noncomputable def ty100 : TI := ⟨(Tryd.prog.underlying 100).getD .invalid, 1, 8, [.nilFunc]⟩
noncomputable def ty101 : TI := ⟨(Tryd.prog.underlying 101).getD .invalid, 1, 4, [.int .u32 0]⟩
noncomputable def ty102 : TI := ⟨(Tryd.prog.underlying 102).getD .invalid, 1, 8, [.nilFunc]⟩
noncomputable def ty103 : TI := ⟨(Tryd.prog.underlying 103).getD .invalid, 1, 8, [.int .u64 0]⟩
noncomputable def ty104 : TI := ⟨(Tryd.prog.underlying 104).getD .invalid, 1, 8, [.nilFunc]⟩
noncomputable def ty105 : TI := ⟨(Tryd.prog.underlying 105).getD .invalid, 1, 8, [.int .u64 0]⟩
noncomputable def ty106 : TI := ⟨(Tryd.prog.underlying 106).getD .invalid, 1, 8, [.nilFunc]⟩
noncomputable def ty107 : TI := ⟨(Tryd.prog.underlying 107).getD .invalid, 1, 8, [.nilFunc]⟩
noncomputable def ty108 : TI := ⟨(Tryd.prog.underlying 108).getD .invalid, 1, 8, [.nilFunc]⟩
noncomputable def ty109 : TI := ⟨(Tryd.prog.underlying 109).getD .invalid, 1, 8, [.pointer none]⟩
noncomputable def ty110 : TI := ⟨(Tryd.prog.underlying 110).getD .invalid, 1, 8, [.nilFunc]⟩
noncomputable def ty112 : TI := ⟨(Tryd.prog.underlying 112).getD .invalid, 2, 2, [.int .u8 0, .int .u8 0]⟩
noncomputable def ty113 : TI := ⟨(Tryd.prog.underlying 113).getD .invalid, 2, 2, [.int .u8 0, .int .u8 0]⟩
noncomputable def ty114 : TI := ⟨(Tryd.prog.underlying 114).getD .invalid, 32, 32, [.int .u8 0, .int .u8 0, .int .u8 0, .int .u8 0, .int .u8 0, .int .u8 0, .int .u8 0, .int .u8 0, .int .u8 0, .int .u8 0, .int .u8 0, .int .u8 0, .int .u8 0, .int .u8 0, .int .u8 0, .int .u8 0, .int .u8 0, .int .u8 0, .int .u8 0, .int .u8 0, .int .u8 0, .int .u8 0, .int .u8 0, .int .u8 0, .int .u8 0, .int .u8 0, .int .u8 0, .int .u8 0, .int .u8 0, .int .u8 0, .int .u8 0, .int .u8 0]⟩
noncomputable def ty115 : TI := ⟨(Tryd.prog.underlying 115).getD .invalid, 1, 8, [.nilFunc]⟩
noncomputable def ty116 : TI := ⟨(Tryd.prog.underlying 116).getD .invalid, 1, 8, [.nilFunc]⟩
noncomputable def ty117 : TI := ⟨(Tryd.prog.underlying 117).getD .invalid, 1, 8, [.nilFunc]⟩
noncomputable def ty118 : TI := ⟨(Tryd.prog.underlying 118).getD .invalid, 1, 8, [.nilFunc]⟩
noncomputable def ty119 : TI := ⟨(Tryd.prog.underlying 119).getD .invalid, 1, 8, [.pointer none]⟩
noncomputable def ty121 : TI := ⟨(Tryd.prog.underlying 121).getD .invalid, 1, 8, [.nilFunc]⟩
noncomputable def ty122 : TI := ⟨(Tryd.prog.underlying 122).getD .invalid, 1, 8, [.nilFunc]⟩
noncomputable def ty123 : TI := ⟨(Tryd.prog.underlying 123).getD .invalid, 4, 40, [.pointer none, .pointer none, .pointer none, .string ⟨#[]⟩]⟩
noncomputable def ty125 : TI := ⟨(Tryd.prog.underlying 125).getD .invalid, 0, 0, []⟩
noncomputable def ty126 : TI := ⟨(Tryd.prog.underlying 126).getD .invalid, 0, 0, []⟩
noncomputable def ty128 : TI := ⟨(Tryd.prog.underlying 128).getD .invalid, 1, 8, [.nilFunc]⟩
noncomputable def ty129 : TI := ⟨(Tryd.prog.underlying 129).getD .invalid, 1, 1, [.int .u8 0]⟩
noncomputable def ty130 : TI := ⟨(Tryd.prog.underlying 130).getD .invalid, 1, 1, [.int .u8 0]⟩
noncomputable def ty131 : TI := ⟨(Tryd.prog.underlying 131).getD .invalid, 1, 8, [.nilFunc]⟩
noncomputable def ty132 : TI := ⟨(Tryd.prog.underlying 132).getD .invalid, 1, 8, [.pointer none]⟩
noncomputable def ty133 : TI := ⟨(Tryd.prog.underlying 133).getD .invalid, 1, 4, [.int .i32 0]⟩
noncomputable def ty134 : TI := ⟨(Tryd.prog.underlying 134).getD .invalid, 1, 4, [.int .i32 0]⟩
noncomputable def ty135 : TI := ⟨(Tryd.prog.underlying 135).getD .invalid, 11, 48, [.int .u64 0, .int .u64 0, .int .u32 0, .int .u8 0, .int .u8 0, .int .u8 0, .int .u8 0, .nilFunc, .pointer none, .int .i32 0, .int .i32 0]⟩
noncomputable def ty136 : TI := ⟨(Tryd.prog.underlying 136).getD .invalid, 11, 48, [.int .u64 0, .int .u64 0, .int .u32 0, .int .u8 0, .int .u8 0, .int .u8 0, .int .u8 0, .nilFunc, .pointer none, .int .i32 0, .int .i32 0]⟩
noncomputable def ty137 : TI := ⟨(Tryd.prog.underlying 137).getD .invalid, 1, 8, [.nilFunc]⟩
noncomputable def ty138 : TI := ⟨(Tryd.prog.underlying 138).getD .invalid, 1, 8, [.nilFunc]⟩
noncomputable def ty139 : TI := ⟨(Tryd.prog.underlying 139).getD .invalid, 1, 8, [.pointer none]⟩
noncomputable def tyL : List (Nat × TI) := [(1, ty1), (2, ty2), (3, ty3), (4, ty4), (5, ty5), (6, ty6), (7, ty7), (9, ty9), (12, ty12), (13, ty13), (15, ty15), (16, ty16), (17, ty17), (18, ty18), (19, ty19), (20, ty20), (21, ty21), (22, ty22), (23, ty23), (24, ty24), (25, ty25), (26, ty26), (27, ty27), (28, ty28), (29, ty29), (30, ty30), (31, ty31), (33, ty33), (34, ty34), (35, ty35), (36, ty36), (37, ty37), (38, ty38), (39, ty39), (40, ty40), (41, ty41), (42, ty42), (43, ty43), (44, ty44), (45, ty45), (46, ty46), (47, ty47), (48, ty48), (49, ty49), (50, ty50), (51, ty51), (52, ty52), (53, ty53), (54, ty54), (55, ty55), (56, ty56), (57, ty57), (58, ty58), (59, ty59), (60, ty60), (61, ty61), (62, ty62), (63, ty63), (64, ty64), (65, ty65), (66, ty66), (67, ty67), (68, ty68), (69, ty69), (70, ty70), (71, ty71), (72, ty72), (73, ty73), (74, ty74), (75, ty75), (76, ty76), (77, ty77), (81, ty81), (82, ty82), (83, ty83), (84, ty84), (85, ty85), (86, ty86), (87, ty87), (89, ty89), (90, ty90), (91, ty91), (92, ty92), (94, ty94), (95, ty95), (96, ty96), (97, ty97), (99, ty99), (100, ty100), (101, ty101), (102, ty102), (103, ty103), (104, ty104), (105, ty105), (106, ty106), (107, ty107), (108, ty108), (109, ty109), (110, ty110), (112, ty112), (113, ty113), (114, ty114), (115, ty115), (116, ty116), (117, ty117), (118, ty118), (119, ty119), (121, ty121), (122, ty122), (123, ty123), (125, ty125), (126, ty126), (128, ty128), (129, ty129), (130, ty130), (131, ty131), (132, ty132), (133, ty133), (134, ty134), (135, ty135), (136, ty136), (137, ty137), (138, ty138), (139, ty139)]
noncomputable def Ty : Types := fun t => (tyL.find? (fun p => p.1 == t)).map (·.2)
theorem ok1 : TyOk Tryd.prog 1 ty1 := TyOk.of (by kernel_rfl) (by kernel_rfl)
theorem Ty_1 : Ty 1 = some ty1 := by kernel_rfl
theorem ty1_size : ty1.size = 1 := rfl
theorem ty1_bytes : ty1.bytes = 8 := rfl
theorem ty1_zero : ty1.zero = [.nilFunc] := rfl
theorem ty1_agg : ty1.isAgg = false := by kernel_rfl
theorem ok2 : TyOk Tryd.prog 2 ty2 := TyOk.of (by kernel_rfl) (by kernel_rfl)
theorem Ty_2 : Ty 2 = some ty2 := by kernel_rfl
theorem ty2_size : ty2.size = 1 := rfl
theorem ty2_bytes : ty2.bytes = 8 := rfl
theorem ty2_zero : ty2.zero = [.int .i64 0] := rfl
theorem ty2_agg : ty2.isAgg = false := by kernel_rfl
theorem kd_2 : kd Ty 2 = .int .i64 := by kernel_rfl
theorem ok3 : TyOk Tryd.prog 3 ty3 := TyOk.of (by kernel_rfl) (by kernel_rfl)
theorem Ty_3 : Ty 3 = some ty3 := by kernel_rfl
theorem ty3_size : ty3.size = 1 := rfl
theorem ty3_bytes : ty3.bytes = 8 := rfl
theorem ty3_zero : ty3.zero = [.int .i64 0] := rfl
theorem ty3_agg : ty3.isAgg = false := by kernel_rfl
theorem kd_3 : kd Ty 3 = .int .i64 := by kernel_rfl
theorem ok4 : TyOk Tryd.prog 4 ty4 := TyOk.of (by kernel_rfl) (by kernel_rfl)
theorem Ty_4 : Ty 4 = some ty4 := by kernel_rfl
theorem ty4_size : ty4.size = 1 := rfl
theorem ty4_bytes : ty4.bytes = 1 := rfl
theorem ty4_zero : ty4.zero = [.bool false] := rfl
theorem ty4_agg : ty4.isAgg = false := by kernel_rfl
theorem kd_4 : kd Ty 4 = .bool := by kernel_rfl
theorem ok5 : TyOk Tryd.prog 5 ty5 := TyOk.of (by kernel_rfl) (by kernel_rfl)
theorem Ty_5 : Ty 5 = some ty5 := by kernel_rfl
theorem ty5_size : ty5.size = 1 := rfl
theorem ty5_bytes : ty5.bytes = 1 := rfl
theorem ty5_zero : ty5.zero = [.int .u8 0] := rfl
theorem ty5_agg : ty5.isAgg = false := by kernel_rfl
theorem kd_5 : kd Ty 5 = .int .u8 := by kernel_rfl
theorem ok6 : TyOk Tryd.prog 6 ty6 := TyOk.of (by kernel_rfl) (by kernel_rfl)
theorem Ty_6 : Ty 6 = some ty6 := by kernel_rfl
theorem ty6_size : ty6.size = 1 := rfl
theorem ty6_bytes : ty6.bytes = 1 := rfl
theorem ty6_zero : ty6.zero = [.int .u8 0] := rfl
theorem ty6_agg : ty6.isAgg = false := by kernel_rfl
theorem kd_6 : kd Ty 6 = .int .u8 := by kernel_rfl
theorem ok7 : TyOk Tryd.prog 7 ty7 := TyOk.of (by kernel_rfl) (by kernel_rfl)
theorem Ty_7 : Ty 7 = some ty7 := by kernel_rfl
theorem ty7_size : ty7.size = 4 := rfl
theorem ty7_bytes : ty7.bytes = 24 := rfl
theorem ty7_zero : ty7.zero = [.int .i64 0, .int .i64 0, .bool false, .int .u8 0] := rfl
theorem ty7_agg : ty7.isAgg = true := by kernel_rfl
theorem kd_7 : kd Ty 7 = .struct [(0, ty2), (1, ty3), (2, ty4), (3, ty6)] := by kernel_rfl
theorem ok9 : TyOk Tryd.prog 9 ty9 := TyOk.of (by kernel_rfl) (by kernel_rfl)
theorem Ty_9 : Ty 9 = some ty9 := by kernel_rfl
theorem ty9_size : ty9.size = 1 := rfl
theorem ty9_bytes : ty9.bytes = 16 := rfl
theorem ty9_zero : ty9.zero = [.string ⟨#[]⟩] := rfl
theorem ty9_agg : ty9.isAgg = false := by kernel_rfl
theorem kd_9 : kd Ty 9 = .string := by kernel_rfl
theorem ok12 : TyOk Tryd.prog 12 ty12 := TyOk.of (by kernel_rfl) (by kernel_rfl)
theorem Ty_12 : Ty 12 = some ty12 := by kernel_rfl
theorem ty12_size : ty12.size = 1 := rfl
theorem ty12_bytes : ty12.bytes = 8 := rfl
theorem ty12_zero : ty12.zero = [.int .u64 0] := rfl
theorem ty12_agg : ty12.isAgg = false := by kernel_rfl
theorem kd_12 : kd Ty 12 = .int .u64 := by kernel_rfl
theorem ok13 : TyOk Tryd.prog 13 ty13 := TyOk.of (by kernel_rfl) (by kernel_rfl)
theorem Ty_13 : Ty 13 = some ty13 := by kernel_rfl
theorem ty13_size : ty13.size = 2 := rfl
theorem ty13_bytes : ty13.bytes = 24 := rfl
theorem ty13_zero : ty13.zero = [.string ⟨#[]⟩, .int .u64 0] := rfl
theorem ty13_agg : ty13.isAgg = true := by kernel_rfl
theorem kd_13 : kd Ty 13 = .struct [(0, ty9), (1, ty12)] := by kernel_rfl
theorem ok15 : TyOk Tryd.prog 15 ty15 := TyOk.of (by kernel_rfl) (by kernel_rfl)
theorem Ty_15 : Ty 15 = some ty15 := by kernel_rfl
theorem ty15_size : ty15.size = 1 := rfl
theorem ty15_bytes : ty15.bytes = 8 := rfl
theorem ty15_zero : ty15.zero = [.pointer none] := rfl
theorem ty15_agg : ty15.isAgg = false := by kernel_rfl
theorem ok16 : TyOk Tryd.prog 16 ty16 := TyOk.of (by kernel_rfl) (by kernel_rfl)
theorem Ty_16 : Ty 16 = some ty16 := by kernel_rfl
theorem ty16_size : ty16.size = 1 := rfl
theorem ty16_bytes : ty16.bytes = 8 := rfl
theorem ty16_zero : ty16.zero = [.pointer none] := rfl
theorem ty16_agg : ty16.isAgg = false := by kernel_rfl
theorem ok17 : TyOk Tryd.prog 17 ty17 := TyOk.of (by kernel_rfl) (by kernel_rfl)
theorem Ty_17 : Ty 17 = some ty17 := by kernel_rfl
theorem ty17_size : ty17.size = 1 := rfl
theorem ty17_bytes : ty17.bytes = 8 := rfl
theorem ty17_zero : ty17.zero = [.pointer none] := rfl
theorem ty17_agg : ty17.isAgg = false := by kernel_rfl
theorem ok18 : TyOk Tryd.prog 18 ty18 := TyOk.of (by kernel_rfl) (by kernel_rfl)
theorem Ty_18 : Ty 18 = some ty18 := by kernel_rfl
theorem ty18_size : ty18.size = 1 := rfl
theorem ty18_bytes : ty18.bytes = 8 := rfl
theorem ty18_zero : ty18.zero = [.pointer none] := rfl
theorem ty18_agg : ty18.isAgg = true := by kernel_rfl
theorem kd_18 : kd Ty 18 = .struct [(0, ty17)] := by kernel_rfl
theorem ok19 : TyOk Tryd.prog 19 ty19 := TyOk.of (by kernel_rfl) (by kernel_rfl)
theorem Ty_19 : Ty 19 = some ty19 := by kernel_rfl
theorem ty19_size : ty19.size = 1 := rfl
theorem ty19_bytes : ty19.bytes = 8 := rfl
theorem ty19_zero : ty19.zero = [.pointer none] := rfl
theorem ty19_agg : ty19.isAgg = true := by kernel_rfl
theorem kd_19 : kd Ty 19 = .struct [(0, ty17)] := by kernel_rfl
theorem ok20 : TyOk Tryd.prog 20 ty20 := TyOk.of (by kernel_rfl) (by kernel_rfl)
theorem Ty_20 : Ty 20 = some ty20 := by kernel_rfl
theorem ty20_size : ty20.size = 1 := rfl
theorem ty20_bytes : ty20.bytes = 16 := rfl
theorem ty20_zero : ty20.zero = [.nilIface] := rfl
theorem ty20_agg : ty20.isAgg = false := by kernel_rfl
theorem ok21 : TyOk Tryd.prog 21 ty21 := TyOk.of (by kernel_rfl) (by kernel_rfl)
theorem Ty_21 : Ty 21 = some ty21 := by kernel_rfl
theorem ty21_size : ty21.size = 1 := rfl
theorem ty21_bytes : ty21.bytes = 4 := rfl
theorem ty21_zero : ty21.zero = [.int .i32 0] := rfl
theorem ty21_agg : ty21.isAgg = false := by kernel_rfl
theorem kd_21 : kd Ty 21 = .int .i32 := by kernel_rfl
theorem ok22 : TyOk Tryd.prog 22 ty22 := TyOk.of (by kernel_rfl) (by kernel_rfl)
theorem Ty_22 : Ty 22 = some ty22 := by kernel_rfl
theorem ty22_size : ty22.size = 1 := rfl
theorem ty22_bytes : ty22.bytes = 24 := rfl
theorem ty22_zero : ty22.zero = [.slice none 0 0] := rfl
theorem ty22_agg : ty22.isAgg = false := by kernel_rfl
theorem kd_22 : kd Ty 22 = .slice ty59 := by kernel_rfl
theorem ok23 : TyOk Tryd.prog 23 ty23 := TyOk.of (by kernel_rfl) (by kernel_rfl)
theorem Ty_23 : Ty 23 = some ty23 := by kernel_rfl
theorem ty23_size : ty23.size = 1 := rfl
theorem ty23_bytes : ty23.bytes = 24 := rfl
theorem ty23_zero : ty23.zero = [.slice none 0 0] := rfl
theorem ty23_agg : ty23.isAgg = true := by kernel_rfl
theorem kd_23 : kd Ty 23 = .struct [(0, ty22)] := by kernel_rfl
theorem ok24 : TyOk Tryd.prog 24 ty24 := TyOk.of (by kernel_rfl) (by kernel_rfl)
theorem Ty_24 : Ty 24 = some ty24 := by kernel_rfl
theorem ty24_size : ty24.size = 1 := rfl
theorem ty24_bytes : ty24.bytes = 24 := rfl
theorem ty24_zero : ty24.zero = [.slice none 0 0] := rfl
theorem ty24_agg : ty24.isAgg = true := by kernel_rfl
theorem kd_24 : kd Ty 24 = .struct [(0, ty22)] := by kernel_rfl
theorem ok25 : TyOk Tryd.prog 25 ty25 := TyOk.of (by kernel_rfl) (by kernel_rfl)
theorem Ty_25 : Ty 25 = some ty25 := by kernel_rfl
theorem ty25_size : ty25.size = 1 := rfl
theorem ty25_bytes : ty25.bytes = 8 := rfl
theorem ty25_zero : ty25.zero = [.nilFunc] := rfl
theorem ty25_agg : ty25.isAgg = false := by kernel_rfl
theorem ok26 : TyOk Tryd.prog 26 ty26 := TyOk.of (by kernel_rfl) (by kernel_rfl)
theorem Ty_26 : Ty 26 = some ty26 := by kernel_rfl
theorem ty26_size : ty26.size = 1 := rfl
theorem ty26_bytes : ty26.bytes = 24 := rfl
theorem ty26_zero : ty26.zero = [.slice none 0 0] := rfl
theorem ty26_agg : ty26.isAgg = false := by kernel_rfl
theorem kd_26 : kd Ty 26 = .slice ty66 := by kernel_rfl
theorem ok27 : TyOk Tryd.prog 27 ty27 := TyOk.of (by kernel_rfl) (by kernel_rfl)
theorem Ty_27 : Ty 27 = some ty27 := by kernel_rfl
theorem ty27_size : ty27.size = 1 := rfl
theorem ty27_bytes : ty27.bytes = 24 := rfl
theorem ty27_zero : ty27.zero = [.slice none 0 0] := rfl
theorem ty27_agg : ty27.isAgg = false := by kernel_rfl
theorem kd_27 : kd Ty 27 = .slice ty3 := by kernel_rfl
theorem ok28 : TyOk Tryd.prog 28 ty28 := TyOk.of (by kernel_rfl) (by kernel_rfl)
theorem Ty_28 : Ty 28 = some ty28 := by kernel_rfl
theorem ty28_size : ty28.size = 1 := rfl
theorem ty28_bytes : ty28.bytes = 24 := rfl
theorem ty28_zero : ty28.zero = [.slice none 0 0] := rfl
theorem ty28_agg : ty28.isAgg = false := by kernel_rfl
theorem kd_28 : kd Ty 28 = .slice ty9 := by kernel_rfl
theorem ok29 : TyOk Tryd.prog 29 ty29 := TyOk.of (by kernel_rfl) (by kernel_rfl)
theorem Ty_29 : Ty 29 = some ty29 := by kernel_rfl
theorem ty29_size : ty29.size = 1 := rfl
theorem ty29_bytes : ty29.bytes = 24 := rfl
theorem ty29_zero : ty29.zero = [.slice none 0 0] := rfl
theorem ty29_agg : ty29.isAgg = false := by kernel_rfl
theorem kd_29 : kd Ty 29 = .slice ty71 := by kernel_rfl
theorem ok30 : TyOk Tryd.prog 30 ty30 := TyOk.of (by kernel_rfl) (by kernel_rfl)
theorem Ty_30 : Ty 30 = some ty30 := by kernel_rfl
theorem ty30_size : ty30.size = 6 := rfl
theorem ty30_bytes : ty30.bytes = 112 := rfl
theorem ty30_zero : ty30.zero = [.int .i64 0, .slice none 0 0, .slice none 0 0, .int .i64 0, .slice none 0 0, .slice none 0 0] := rfl
theorem ty30_agg : ty30.isAgg = true := by kernel_rfl
theorem kd_30 : kd Ty 30 = .struct [(0, ty3), (1, ty26), (2, ty27), (3, ty3), (4, ty28), (5, ty29)] := by kernel_rfl
theorem ok31 : TyOk Tryd.prog 31 ty31 := TyOk.of (by kernel_rfl) (by kernel_rfl)
theorem Ty_31 : Ty 31 = some ty31 := by kernel_rfl
theorem ty31_size : ty31.size = 6 := rfl
theorem ty31_bytes : ty31.bytes = 112 := rfl
theorem ty31_zero : ty31.zero = [.int .i64 0, .slice none 0 0, .slice none 0 0, .int .i64 0, .slice none 0 0, .slice none 0 0] := rfl
theorem ty31_agg : ty31.isAgg = true := by kernel_rfl
theorem kd_31 : kd Ty 31 = .struct [(0, ty3), (1, ty26), (2, ty27), (3, ty3), (4, ty28), (5, ty29)] := by kernel_rfl
theorem ok33 : TyOk Tryd.prog 33 ty33 := TyOk.of (by kernel_rfl) (by kernel_rfl)
theorem Ty_33 : Ty 33 = some ty33 := by kernel_rfl
theorem ty33_size : ty33.size = 1 := rfl
theorem ty33_bytes : ty33.bytes = 8 := rfl
theorem ty33_zero : ty33.zero = [.nilFunc] := rfl
theorem ty33_agg : ty33.isAgg = false := by kernel_rfl
theorem ok34 : TyOk Tryd.prog 34 ty34 := TyOk.of (by kernel_rfl) (by kernel_rfl)
theorem Ty_34 : Ty 34 = some ty34 := by kernel_rfl
theorem ty34_size : ty34.size = 1 := rfl
theorem ty34_bytes : ty34.bytes = 24 := rfl
theorem ty34_zero : ty34.zero = [.slice none 0 0] := rfl
theorem ty34_agg : ty34.isAgg = false := by kernel_rfl
theorem kd_34 : kd Ty 34 = .slice ty60 := by kernel_rfl
theorem ok35 : TyOk Tryd.prog 35 ty35 := TyOk.of (by kernel_rfl) (by kernel_rfl)
theorem Ty_35 : Ty 35 = some ty35 := by kernel_rfl
theorem ty35_size : ty35.size = 1 := rfl
theorem ty35_bytes : ty35.bytes = 24 := rfl
theorem ty35_zero : ty35.zero = [.slice none 0 0] := rfl
theorem ty35_agg : ty35.isAgg = true := by kernel_rfl
theorem kd_35 : kd Ty 35 = .struct [(0, ty34)] := by kernel_rfl
theorem ok36 : TyOk Tryd.prog 36 ty36 := TyOk.of (by kernel_rfl) (by kernel_rfl)
theorem Ty_36 : Ty 36 = some ty36 := by kernel_rfl
theorem ty36_size : ty36.size = 1 := rfl
theorem ty36_bytes : ty36.bytes = 24 := rfl
theorem ty36_zero : ty36.zero = [.slice none 0 0] := rfl
theorem ty36_agg : ty36.isAgg = true := by kernel_rfl
theorem kd_36 : kd Ty 36 = .struct [(0, ty34)] := by kernel_rfl
theorem ok37 : TyOk Tryd.prog 37 ty37 := TyOk.of (by kernel_rfl) (by kernel_rfl)
theorem Ty_37 : Ty 37 = some ty37 := by kernel_rfl
theorem ty37_size : ty37.size = 1 := rfl
theorem ty37_bytes : ty37.bytes = 8 := rfl
theorem ty37_zero : ty37.zero = [.nilFunc] := rfl
theorem ty37_agg : ty37.isAgg = false := by kernel_rfl
theorem ok38 : TyOk Tryd.prog 38 ty38 := TyOk.of (by kernel_rfl) (by kernel_rfl)
theorem Ty_38 : Ty 38 = some ty38 := by kernel_rfl
theorem ty38_size : ty38.size = 1 := rfl
theorem ty38_bytes : ty38.bytes = 8 := rfl
theorem ty38_zero : ty38.zero = [.nilFunc] := rfl
theorem ty38_agg : ty38.isAgg = false := by kernel_rfl
theorem ok39 : TyOk Tryd.prog 39 ty39 := TyOk.of (by kernel_rfl) (by kernel_rfl)
theorem Ty_39 : Ty 39 = some ty39 := by kernel_rfl
theorem ty39_size : ty39.size = 1 := rfl
theorem ty39_bytes : ty39.bytes = 8 := rfl
theorem ty39_zero : ty39.zero = [.nilFunc] := rfl
theorem ty39_agg : ty39.isAgg = false := by kernel_rfl
theorem ok40 : TyOk Tryd.prog 40 ty40 := TyOk.of (by kernel_rfl) (by kernel_rfl)
theorem Ty_40 : Ty 40 = some ty40 := by kernel_rfl
theorem ty40_size : ty40.size = 1 := rfl
theorem ty40_bytes : ty40.bytes = 8 := rfl
theorem ty40_zero : ty40.zero = [.nilFunc] := rfl
theorem ty40_agg : ty40.isAgg = false := by kernel_rfl
theorem ok41 : TyOk Tryd.prog 41 ty41 := TyOk.of (by kernel_rfl) (by kernel_rfl)
theorem Ty_41 : Ty 41 = some ty41 := by kernel_rfl
theorem ty41_size : ty41.size = 1 := rfl
theorem ty41_bytes : ty41.bytes = 8 := rfl
theorem ty41_zero : ty41.zero = [.nilFunc] := rfl
theorem ty41_agg : ty41.isAgg = false := by kernel_rfl
theorem ok42 : TyOk Tryd.prog 42 ty42 := TyOk.of (by kernel_rfl) (by kernel_rfl)
theorem Ty_42 : Ty 42 = some ty42 := by kernel_rfl
theorem ty42_size : ty42.size = 1 := rfl
theorem ty42_bytes : ty42.bytes = 8 := rfl
theorem ty42_zero : ty42.zero = [.nilFunc] := rfl
theorem ty42_agg : ty42.isAgg = false := by kernel_rfl
theorem ok43 : TyOk Tryd.prog 43 ty43 := TyOk.of (by kernel_rfl) (by kernel_rfl)
theorem Ty_43 : Ty 43 = some ty43 := by kernel_rfl
theorem ty43_size : ty43.size = 1 := rfl
theorem ty43_bytes : ty43.bytes = 8 := rfl
theorem ty43_zero : ty43.zero = [.nilFunc] := rfl
theorem ty43_agg : ty43.isAgg = false := by kernel_rfl
theorem ok44 : TyOk Tryd.prog 44 ty44 := TyOk.of (by kernel_rfl) (by kernel_rfl)
theorem Ty_44 : Ty 44 = some ty44 := by kernel_rfl
theorem ty44_size : ty44.size = 1 := rfl
theorem ty44_bytes : ty44.bytes = 8 := rfl
theorem ty44_zero : ty44.zero = [.nilFunc] := rfl
theorem ty44_agg : ty44.isAgg = false := by kernel_rfl
theorem ok45 : TyOk Tryd.prog 45 ty45 := TyOk.of (by kernel_rfl) (by kernel_rfl)
theorem Ty_45 : Ty 45 = some ty45 := by kernel_rfl
theorem ty45_size : ty45.size = 1 := rfl
theorem ty45_bytes : ty45.bytes = 8 := rfl
theorem ty45_zero : ty45.zero = [.nilFunc] := rfl
theorem ty45_agg : ty45.isAgg = false := by kernel_rfl
theorem ok46 : TyOk Tryd.prog 46 ty46 := TyOk.of (by kernel_rfl) (by kernel_rfl)
theorem Ty_46 : Ty 46 = some ty46 := by kernel_rfl
theorem ty46_size : ty46.size = 1 := rfl
theorem ty46_bytes : ty46.bytes = 8 := rfl
theorem ty46_zero : ty46.zero = [.nilFunc] := rfl
theorem ty46_agg : ty46.isAgg = false := by kernel_rfl
theorem ok47 : TyOk Tryd.prog 47 ty47 := TyOk.of (by kernel_rfl) (by kernel_rfl)
theorem Ty_47 : Ty 47 = some ty47 := by kernel_rfl
theorem ty47_size : ty47.size = 1 := rfl
theorem ty47_bytes : ty47.bytes = 8 := rfl
theorem ty47_zero : ty47.zero = [.nilFunc] := rfl
theorem ty47_agg : ty47.isAgg = false := by kernel_rfl
theorem ok48 : TyOk Tryd.prog 48 ty48 := TyOk.of (by kernel_rfl) (by kernel_rfl)
theorem Ty_48 : Ty 48 = some ty48 := by kernel_rfl
theorem ty48_size : ty48.size = 1 := rfl
theorem ty48_bytes : ty48.bytes = 8 := rfl
theorem ty48_zero : ty48.zero = [.nilFunc] := rfl
theorem ty48_agg : ty48.isAgg = false := by kernel_rfl
theorem ok49 : TyOk Tryd.prog 49 ty49 := TyOk.of (by kernel_rfl) (by kernel_rfl)
theorem Ty_49 : Ty 49 = some ty49 := by kernel_rfl
theorem ty49_size : ty49.size = 1 := rfl
theorem ty49_bytes : ty49.bytes = 8 := rfl
theorem ty49_zero : ty49.zero = [.nilFunc] := rfl
theorem ty49_agg : ty49.isAgg = false := by kernel_rfl
theorem ok50 : TyOk Tryd.prog 50 ty50 := TyOk.of (by kernel_rfl) (by kernel_rfl)
theorem Ty_50 : Ty 50 = some ty50 := by kernel_rfl
theorem ty50_size : ty50.size = 1 := rfl
theorem ty50_bytes : ty50.bytes = 8 := rfl
theorem ty50_zero : ty50.zero = [.nilFunc] := rfl
theorem ty50_agg : ty50.isAgg = false := by kernel_rfl
theorem ok51 : TyOk Tryd.prog 51 ty51 := TyOk.of (by kernel_rfl) (by kernel_rfl)
theorem Ty_51 : Ty 51 = some ty51 := by kernel_rfl
theorem ty51_size : ty51.size = 1 := rfl
theorem ty51_bytes : ty51.bytes = 8 := rfl
theorem ty51_zero : ty51.zero = [.nilFunc] := rfl
theorem ty51_agg : ty51.isAgg = false := by kernel_rfl
theorem ok52 : TyOk Tryd.prog 52 ty52 := TyOk.of (by kernel_rfl) (by kernel_rfl)
theorem Ty_52 : Ty 52 = some ty52 := by kernel_rfl
theorem ty52_size : ty52.size = 1 := rfl
theorem ty52_bytes : ty52.bytes = 8 := rfl
theorem ty52_zero : ty52.zero = [.nilFunc] := rfl
theorem ty52_agg : ty52.isAgg = false := by kernel_rfl
theorem ok53 : TyOk Tryd.prog 53 ty53 := TyOk.of (by kernel_rfl) (by kernel_rfl)
theorem Ty_53 : Ty 53 = some ty53 := by kernel_rfl
theorem ty53_size : ty53.size = 1 := rfl
theorem ty53_bytes : ty53.bytes = 8 := rfl
theorem ty53_zero : ty53.zero = [.nilFunc] := rfl
theorem ty53_agg : ty53.isAgg = false := by kernel_rfl
theorem ok54 : TyOk Tryd.prog 54 ty54 := TyOk.of (by kernel_rfl) (by kernel_rfl)
theorem Ty_54 : Ty 54 = some ty54 := by kernel_rfl
theorem ty54_size : ty54.size = 1 := rfl
theorem ty54_bytes : ty54.bytes = 8 := rfl
theorem ty54_zero : ty54.zero = [.nilFunc] := rfl
theorem ty54_agg : ty54.isAgg = false := by kernel_rfl
theorem ok55 : TyOk Tryd.prog 55 ty55 := TyOk.of (by kernel_rfl) (by kernel_rfl)
theorem Ty_55 : Ty 55 = some ty55 := by kernel_rfl
theorem ty55_size : ty55.size = 1 := rfl
theorem ty55_bytes : ty55.bytes = 8 := rfl
theorem ty55_zero : ty55.zero = [.nilFunc] := rfl
theorem ty55_agg : ty55.isAgg = false := by kernel_rfl
theorem ok56 : TyOk Tryd.prog 56 ty56 := TyOk.of (by kernel_rfl) (by kernel_rfl)
theorem Ty_56 : Ty 56 = some ty56 := by kernel_rfl
theorem ty56_size : ty56.size = 1 := rfl
theorem ty56_bytes : ty56.bytes = 8 := rfl
theorem ty56_zero : ty56.zero = [.nilFunc] := rfl
theorem ty56_agg : ty56.isAgg = false := by kernel_rfl
theorem ok57 : TyOk Tryd.prog 57 ty57 := TyOk.of (by kernel_rfl) (by kernel_rfl)
theorem Ty_57 : Ty 57 = some ty57 := by kernel_rfl
theorem ty57_size : ty57.size = 1 := rfl
theorem ty57_bytes : ty57.bytes = 8 := rfl
theorem ty57_zero : ty57.zero = [.nilFunc] := rfl
theorem ty57_agg : ty57.isAgg = false := by kernel_rfl
theorem ok58 : TyOk Tryd.prog 58 ty58 := TyOk.of (by kernel_rfl) (by kernel_rfl)
theorem Ty_58 : Ty 58 = some ty58 := by kernel_rfl
theorem ty58_size : ty58.size = 3 := rfl
theorem ty58_bytes : ty58.bytes = 32 := rfl
theorem ty58_zero : ty58.zero = [.int .i64 0, .string ⟨#[]⟩, .int .i64 0] := rfl
theorem ty58_agg : ty58.isAgg = true := by kernel_rfl
theorem kd_58 : kd Ty 58 = .struct [(0, ty3), (1, ty9), (2, ty3)] := by kernel_rfl
theorem ok59 : TyOk Tryd.prog 59 ty59 := TyOk.of (by kernel_rfl) (by kernel_rfl)
theorem Ty_59 : Ty 59 = some ty59 := by kernel_rfl
theorem ty59_size : ty59.size = 3 := rfl
theorem ty59_bytes : ty59.bytes = 32 := rfl
theorem ty59_zero : ty59.zero = [.int .i64 0, .string ⟨#[]⟩, .int .i64 0] := rfl
theorem ty59_agg : ty59.isAgg = true := by kernel_rfl
theorem kd_59 : kd Ty 59 = .struct [(0, ty3), (1, ty9), (2, ty3)] := by kernel_rfl
theorem ok60 : TyOk Tryd.prog 60 ty60 := TyOk.of (by kernel_rfl) (by kernel_rfl)
theorem Ty_60 : Ty 60 = some ty60 := by kernel_rfl
theorem ty60_size : ty60.size = 3 := rfl
theorem ty60_bytes : ty60.bytes = 32 := rfl
theorem ty60_zero : ty60.zero = [.int .i64 0, .string ⟨#[]⟩, .int .i64 0] := rfl
theorem ty60_agg : ty60.isAgg = true := by kernel_rfl
theorem kd_60 : kd Ty 60 = .struct [(0, ty3), (1, ty9), (2, ty3)] := by kernel_rfl
theorem ok61 : TyOk Tryd.prog 61 ty61 := TyOk.of (by kernel_rfl) (by kernel_rfl)
theorem Ty_61 : Ty 61 = some ty61 := by kernel_rfl
theorem ty61_size : ty61.size = 1 := rfl
theorem ty61_bytes : ty61.bytes = 8 := rfl
theorem ty61_zero : ty61.zero = [.nilFunc] := rfl
theorem ty61_agg : ty61.isAgg = false := by kernel_rfl
theorem ok62 : TyOk Tryd.prog 62 ty62 := TyOk.of (by kernel_rfl) (by kernel_rfl)
theorem Ty_62 : Ty 62 = some ty62 := by kernel_rfl
theorem ty62_size : ty62.size = 1 := rfl
theorem ty62_bytes : ty62.bytes = 8 := rfl
theorem ty62_zero : ty62.zero = [.nilFunc] := rfl
theorem ty62_agg : ty62.isAgg = false := by kernel_rfl
theorem ok63 : TyOk Tryd.prog 63 ty63 := TyOk.of (by kernel_rfl) (by kernel_rfl)
theorem Ty_63 : Ty 63 = some ty63 := by kernel_rfl
theorem ty63_size : ty63.size = 1 := rfl
theorem ty63_bytes : ty63.bytes = 8 := rfl
theorem ty63_zero : ty63.zero = [.nilFunc] := rfl
theorem ty63_agg : ty63.isAgg = false := by kernel_rfl
theorem ok64 : TyOk Tryd.prog 64 ty64 := TyOk.of (by kernel_rfl) (by kernel_rfl)
theorem Ty_64 : Ty 64 = some ty64 := by kernel_rfl
theorem ty64_size : ty64.size = 1 := rfl
theorem ty64_bytes : ty64.bytes = 8 := rfl
theorem ty64_zero : ty64.zero = [.nilFunc] := rfl
theorem ty64_agg : ty64.isAgg = false := by kernel_rfl
theorem ok65 : TyOk Tryd.prog 65 ty65 := TyOk.of (by kernel_rfl) (by kernel_rfl)
theorem Ty_65 : Ty 65 = some ty65 := by kernel_rfl
theorem ty65_size : ty65.size = 3 := rfl
theorem ty65_bytes : ty65.bytes = 40 := rfl
theorem ty65_zero : ty65.zero = [.int .i64 0, .int .i64 0, .slice none 0 0] := rfl
theorem ty65_agg : ty65.isAgg = true := by kernel_rfl
theorem kd_65 : kd Ty 65 = .struct [(0, ty3), (1, ty3), (2, ty27)] := by kernel_rfl
theorem ok66 : TyOk Tryd.prog 66 ty66 := TyOk.of (by kernel_rfl) (by kernel_rfl)
theorem Ty_66 : Ty 66 = some ty66 := by kernel_rfl
theorem ty66_size : ty66.size = 3 := rfl
theorem ty66_bytes : ty66.bytes = 40 := rfl
theorem ty66_zero : ty66.zero = [.int .i64 0, .int .i64 0, .slice none 0 0] := rfl
theorem ty66_agg : ty66.isAgg = true := by kernel_rfl
theorem kd_66 : kd Ty 66 = .struct [(0, ty3), (1, ty3), (2, ty27)] := by kernel_rfl
theorem ok67 : TyOk Tryd.prog 67 ty67 := TyOk.of (by kernel_rfl) (by kernel_rfl)
theorem Ty_67 : Ty 67 = some ty67 := by kernel_rfl
theorem ty67_size : ty67.size = 1 := rfl
theorem ty67_bytes : ty67.bytes = 8 := rfl
theorem ty67_zero : ty67.zero = [.nilFunc] := rfl
theorem ty67_agg : ty67.isAgg = false := by kernel_rfl
theorem ok68 : TyOk Tryd.prog 68 ty68 := TyOk.of (by kernel_rfl) (by kernel_rfl)
theorem Ty_68 : Ty 68 = some ty68 := by kernel_rfl
theorem ty68_size : ty68.size = 1 := rfl
theorem ty68_bytes : ty68.bytes = 8 := rfl
theorem ty68_zero : ty68.zero = [.nilFunc] := rfl
theorem ty68_agg : ty68.isAgg = false := by kernel_rfl
theorem ok69 : TyOk Tryd.prog 69 ty69 := TyOk.of (by kernel_rfl) (by kernel_rfl)
theorem Ty_69 : Ty 69 = some ty69 := by kernel_rfl
theorem ty69_size : ty69.size = 1 := rfl
theorem ty69_bytes : ty69.bytes = 8 := rfl
theorem ty69_zero : ty69.zero = [.nilFunc] := rfl
theorem ty69_agg : ty69.isAgg = false := by kernel_rfl
theorem ok70 : TyOk Tryd.prog 70 ty70 := TyOk.of (by kernel_rfl) (by kernel_rfl)
theorem Ty_70 : Ty 70 = some ty70 := by kernel_rfl
theorem ty70_size : ty70.size = 2 := rfl
theorem ty70_bytes : ty70.bytes = 24 := rfl
theorem ty70_zero : ty70.zero = [.string ⟨#[]⟩, .int .i64 0] := rfl
theorem ty70_agg : ty70.isAgg = true := by kernel_rfl
theorem kd_70 : kd Ty 70 = .struct [(0, ty9), (1, ty3)] := by kernel_rfl
theorem ok71 : TyOk Tryd.prog 71 ty71 := TyOk.of (by kernel_rfl) (by kernel_rfl)
theorem Ty_71 : Ty 71 = some ty71 := by kernel_rfl
theorem ty71_size : ty71.size = 2 := rfl
theorem ty71_bytes : ty71.bytes = 24 := rfl
theorem ty71_zero : ty71.zero = [.string ⟨#[]⟩, .int .i64 0] := rfl
theorem ty71_agg : ty71.isAgg = true := by kernel_rfl
theorem kd_71 : kd Ty 71 = .struct [(0, ty9), (1, ty3)] := by kernel_rfl
theorem ok72 : TyOk Tryd.prog 72 ty72 := TyOk.of (by kernel_rfl) (by kernel_rfl)
theorem Ty_72 : Ty 72 = some ty72 := by kernel_rfl
theorem ty72_size : ty72.size = 1 := rfl
theorem ty72_bytes : ty72.bytes = 8 := rfl
theorem ty72_zero : ty72.zero = [.nilFunc] := rfl
theorem ty72_agg : ty72.isAgg = false := by kernel_rfl
theorem ok73 : TyOk Tryd.prog 73 ty73 := TyOk.of (by kernel_rfl) (by kernel_rfl)
theorem Ty_73 : Ty 73 = some ty73 := by kernel_rfl
theorem ty73_size : ty73.size = 1 := rfl
theorem ty73_bytes : ty73.bytes = 8 := rfl
theorem ty73_zero : ty73.zero = [.nilFunc] := rfl
theorem ty73_agg : ty73.isAgg = false := by kernel_rfl
theorem ok74 : TyOk Tryd.prog 74 ty74 := TyOk.of (by kernel_rfl) (by kernel_rfl)
theorem Ty_74 : Ty 74 = some ty74 := by kernel_rfl
theorem ty74_size : ty74.size = 1 := rfl
theorem ty74_bytes : ty74.bytes = 8 := rfl
theorem ty74_zero : ty74.zero = [.nilFunc] := rfl
theorem ty74_agg : ty74.isAgg = false := by kernel_rfl
theorem ok75 : TyOk Tryd.prog 75 ty75 := TyOk.of (by kernel_rfl) (by kernel_rfl)
theorem Ty_75 : Ty 75 = some ty75 := by kernel_rfl
theorem ty75_size : ty75.size = 1 := rfl
theorem ty75_bytes : ty75.bytes = 8 := rfl
theorem ty75_zero : ty75.zero = [.nilFunc] := rfl
theorem ty75_agg : ty75.isAgg = false := by kernel_rfl
theorem ok76 : TyOk Tryd.prog 76 ty76 := TyOk.of (by kernel_rfl) (by kernel_rfl)
theorem Ty_76 : Ty 76 = some ty76 := by kernel_rfl
theorem ty76_size : ty76.size = 1 := rfl
theorem ty76_bytes : ty76.bytes = 24 := rfl
theorem ty76_zero : ty76.zero = [.slice none 0 0] := rfl
theorem ty76_agg : ty76.isAgg = false := by kernel_rfl
theorem kd_76 : kd Ty 76 = .slice ty5 := by kernel_rfl
theorem ok77 : TyOk Tryd.prog 77 ty77 := TyOk.of (by kernel_rfl) (by kernel_rfl)
theorem Ty_77 : Ty 77 = some ty77 := by kernel_rfl
theorem ty77_size : ty77.size = 1 := rfl
theorem ty77_bytes : ty77.bytes = 8 := rfl
theorem ty77_zero : ty77.zero = [.nilFunc] := rfl
theorem ty77_agg : ty77.isAgg = false := by kernel_rfl
theorem ok81 : TyOk Tryd.prog 81 ty81 := TyOk.of (by kernel_rfl) (by kernel_rfl)
theorem Ty_81 : Ty 81 = some ty81 := by kernel_rfl
theorem ty81_size : ty81.size = 1 := rfl
theorem ty81_bytes : ty81.bytes = 8 := rfl
theorem ty81_zero : ty81.zero = [.nilFunc] := rfl
theorem ty81_agg : ty81.isAgg = false := by kernel_rfl
theorem ok82 : TyOk Tryd.prog 82 ty82 := TyOk.of (by kernel_rfl) (by kernel_rfl)
theorem Ty_82 : Ty 82 = some ty82 := by kernel_rfl
theorem ty82_size : ty82.size = 1 := rfl
theorem ty82_bytes : ty82.bytes = 8 := rfl
theorem ty82_zero : ty82.zero = [.nilFunc] := rfl
theorem ty82_agg : ty82.isAgg = false := by kernel_rfl
theorem ok83 : TyOk Tryd.prog 83 ty83 := TyOk.of (by kernel_rfl) (by kernel_rfl)
theorem Ty_83 : Ty 83 = some ty83 := by kernel_rfl
theorem ty83_size : ty83.size = 1 := rfl
theorem ty83_bytes : ty83.bytes = 8 := rfl
theorem ty83_zero : ty83.zero = [.pointer none] := rfl
theorem ty83_agg : ty83.isAgg = false := by kernel_rfl
theorem ok84 : TyOk Tryd.prog 84 ty84 := TyOk.of (by kernel_rfl) (by kernel_rfl)
theorem Ty_84 : Ty 84 = some ty84 := by kernel_rfl
theorem ty84_size : ty84.size = 1 := rfl
theorem ty84_bytes : ty84.bytes = 8 := rfl
theorem ty84_zero : ty84.zero = [.nilFunc] := rfl
theorem ty84_agg : ty84.isAgg = false := by kernel_rfl
theorem ok85 : TyOk Tryd.prog 85 ty85 := TyOk.of (by kernel_rfl) (by kernel_rfl)
theorem Ty_85 : Ty 85 = some ty85 := by kernel_rfl
theorem ty85_size : ty85.size = 1 := rfl
theorem ty85_bytes : ty85.bytes = 8 := rfl
theorem ty85_zero : ty85.zero = [.nilFunc] := rfl
theorem ty85_agg : ty85.isAgg = false := by kernel_rfl
theorem ok86 : TyOk Tryd.prog 86 ty86 := TyOk.of (by kernel_rfl) (by kernel_rfl)
theorem Ty_86 : Ty 86 = some ty86 := by kernel_rfl
theorem ty86_size : ty86.size = 1 := rfl
theorem ty86_bytes : ty86.bytes = 8 := rfl
theorem ty86_zero : ty86.zero = [.int .u64 0] := rfl
theorem ty86_agg : ty86.isAgg = false := by kernel_rfl
theorem kd_86 : kd Ty 86 = .int .u64 := by kernel_rfl
theorem ok87 : TyOk Tryd.prog 87 ty87 := TyOk.of (by kernel_rfl) (by kernel_rfl)
theorem Ty_87 : Ty 87 = some ty87 := by kernel_rfl
theorem ty87_size : ty87.size = 1 := rfl
theorem ty87_bytes : ty87.bytes = 8 := rfl
theorem ty87_zero : ty87.zero = [.nilFunc] := rfl
theorem ty87_agg : ty87.isAgg = false := by kernel_rfl
theorem ok89 : TyOk Tryd.prog 89 ty89 := TyOk.of (by kernel_rfl) (by kernel_rfl)
theorem Ty_89 : Ty 89 = some ty89 := by kernel_rfl
theorem ty89_size : ty89.size = 1 := rfl
theorem ty89_bytes : ty89.bytes = 8 := rfl
theorem ty89_zero : ty89.zero = [.nilFunc] := rfl
theorem ty89_agg : ty89.isAgg = false := by kernel_rfl
theorem ok90 : TyOk Tryd.prog 90 ty90 := TyOk.of (by kernel_rfl) (by kernel_rfl)
theorem Ty_90 : Ty 90 = some ty90 := by kernel_rfl
theorem ty90_size : ty90.size = 1 := rfl
theorem ty90_bytes : ty90.bytes = 8 := rfl
theorem ty90_zero : ty90.zero = [.nilFunc] := rfl
theorem ty90_agg : ty90.isAgg = false := by kernel_rfl
theorem ok91 : TyOk Tryd.prog 91 ty91 := TyOk.of (by kernel_rfl) (by kernel_rfl)
theorem Ty_91 : Ty 91 = some ty91 := by kernel_rfl
theorem ty91_size : ty91.size = 1 := rfl
theorem ty91_bytes : ty91.bytes = 8 := rfl
theorem ty91_zero : ty91.zero = [.nilFunc] := rfl
theorem ty91_agg : ty91.isAgg = false := by kernel_rfl
theorem ok92 : TyOk Tryd.prog 92 ty92 := TyOk.of (by kernel_rfl) (by kernel_rfl)
theorem Ty_92 : Ty 92 = some ty92 := by kernel_rfl
theorem ty92_size : ty92.size = 1 := rfl
theorem ty92_bytes : ty92.bytes = 8 := rfl
theorem ty92_zero : ty92.zero = [.int .i64 0] := rfl
theorem ty92_agg : ty92.isAgg = false := by kernel_rfl
theorem kd_92 : kd Ty 92 = .int .i64 := by kernel_rfl
theorem ok94 : TyOk Tryd.prog 94 ty94 := TyOk.of (by kernel_rfl) (by kernel_rfl)
theorem Ty_94 : Ty 94 = some ty94 := by kernel_rfl
theorem ty94_size : ty94.size = 1 := rfl
theorem ty94_bytes : ty94.bytes = 8 := rfl
theorem ty94_zero : ty94.zero = [.nilFunc] := rfl
theorem ty94_agg : ty94.isAgg = false := by kernel_rfl
theorem ok95 : TyOk Tryd.prog 95 ty95 := TyOk.of (by kernel_rfl) (by kernel_rfl)
theorem Ty_95 : Ty 95 = some ty95 := by kernel_rfl
theorem ty95_size : ty95.size = 1 := rfl
theorem ty95_bytes : ty95.bytes = 8 := rfl
theorem ty95_zero : ty95.zero = [.nilFunc] := rfl
theorem ty95_agg : ty95.isAgg = false := by kernel_rfl
theorem ok96 : TyOk Tryd.prog 96 ty96 := TyOk.of (by kernel_rfl) (by kernel_rfl)
theorem Ty_96 : Ty 96 = some ty96 := by kernel_rfl
theorem ty96_size : ty96.size = 1 := rfl
theorem ty96_bytes : ty96.bytes = 8 := rfl
theorem ty96_zero : ty96.zero = [.nilFunc] := rfl
theorem ty96_agg : ty96.isAgg = false := by kernel_rfl
theorem ok97 : TyOk Tryd.prog 97 ty97 := TyOk.of (by kernel_rfl) (by kernel_rfl)
theorem Ty_97 : Ty 97 = some ty97 := by kernel_rfl
theorem ty97_size : ty97.size = 1 := rfl
theorem ty97_bytes : ty97.bytes = 8 := rfl
theorem ty97_zero : ty97.zero = [.nilFunc] := rfl
theorem ty97_agg : ty97.isAgg = false := by kernel_rfl
theorem ok99 : TyOk Tryd.prog 99 ty99 := TyOk.of (by kernel_rfl) (by kernel_rfl)
theorem Ty_99 : Ty 99 = some ty99 := by kernel_rfl
theorem ty99_size : ty99.size = 1 := rfl
theorem ty99_bytes : ty99.bytes = 8 := rfl
theorem ty99_zero : ty99.zero = [.nilFunc] := rfl
theorem ty99_agg : ty99.isAgg = false := by kernel_rfl
theorem ok100 : TyOk Tryd.prog 100 ty100 := TyOk.of (by kernel_rfl) (by kernel_rfl)
theorem Ty_100 : Ty 100 = some ty100 := by kernel_rfl
theorem ty100_size : ty100.size = 1 := rfl
theorem ty100_bytes : ty100.bytes = 8 := rfl
theorem ty100_zero : ty100.zero = [.nilFunc] := rfl
theorem ty100_agg : ty100.isAgg = false := by kernel_rfl
theorem ok101 : TyOk Tryd.prog 101 ty101 := TyOk.of (by kernel_rfl) (by kernel_rfl)
theorem Ty_101 : Ty 101 = some ty101 := by kernel_rfl
theorem ty101_size : ty101.size = 1 := rfl
theorem ty101_bytes : ty101.bytes = 4 := rfl
theorem ty101_zero : ty101.zero = [.int .u32 0] := rfl
theorem ty101_agg : ty101.isAgg = false := by kernel_rfl
theorem kd_101 : kd Ty 101 = .int .u32 := by kernel_rfl
theorem ok102 : TyOk Tryd.prog 102 ty102 := TyOk.of (by kernel_rfl) (by kernel_rfl)
theorem Ty_102 : Ty 102 = some ty102 := by kernel_rfl
theorem ty102_size : ty102.size = 1 := rfl
theorem ty102_bytes : ty102.bytes = 8 := rfl
theorem ty102_zero : ty102.zero = [.nilFunc] := rfl
theorem ty102_agg : ty102.isAgg = false := by kernel_rfl
theorem ok103 : TyOk Tryd.prog 103 ty103 := TyOk.of (by kernel_rfl) (by kernel_rfl)
theorem Ty_103 : Ty 103 = some ty103 := by kernel_rfl
theorem ty103_size : ty103.size = 1 := rfl
theorem ty103_bytes : ty103.bytes = 8 := rfl
theorem ty103_zero : ty103.zero = [.int .u64 0] := rfl
theorem ty103_agg : ty103.isAgg = false := by kernel_rfl
theorem kd_103 : kd Ty 103 = .int .u64 := by kernel_rfl
theorem ok104 : TyOk Tryd.prog 104 ty104 := TyOk.of (by kernel_rfl) (by kernel_rfl)
theorem Ty_104 : Ty 104 = some ty104 := by kernel_rfl
theorem ty104_size : ty104.size = 1 := rfl
theorem ty104_bytes : ty104.bytes = 8 := rfl
theorem ty104_zero : ty104.zero = [.nilFunc] := rfl
theorem ty104_agg : ty104.isAgg = false := by kernel_rfl
theorem ok105 : TyOk Tryd.prog 105 ty105 := TyOk.of (by kernel_rfl) (by kernel_rfl)
theorem Ty_105 : Ty 105 = some ty105 := by kernel_rfl
theorem ty105_size : ty105.size = 1 := rfl
theorem ty105_bytes : ty105.bytes = 8 := rfl
theorem ty105_zero : ty105.zero = [.int .u64 0] := rfl
theorem ty105_agg : ty105.isAgg = false := by kernel_rfl
theorem kd_105 : kd Ty 105 = .int .u64 := by kernel_rfl
theorem ok106 : TyOk Tryd.prog 106 ty106 := TyOk.of (by kernel_rfl) (by kernel_rfl)
theorem Ty_106 : Ty 106 = some ty106 := by kernel_rfl
theorem ty106_size : ty106.size = 1 := rfl
theorem ty106_bytes : ty106.bytes = 8 := rfl
theorem ty106_zero : ty106.zero = [.nilFunc] := rfl
theorem ty106_agg : ty106.isAgg = false := by kernel_rfl
theorem ok107 : TyOk Tryd.prog 107 ty107 := TyOk.of (by kernel_rfl) (by kernel_rfl)
theorem Ty_107 : Ty 107 = some ty107 := by kernel_rfl
theorem ty107_size : ty107.size = 1 := rfl
theorem ty107_bytes : ty107.bytes = 8 := rfl
theorem ty107_zero : ty107.zero = [.nilFunc] := rfl
theorem ty107_agg : ty107.isAgg = false := by kernel_rfl
theorem ok108 : TyOk Tryd.prog 108 ty108 := TyOk.of (by kernel_rfl) (by kernel_rfl)
theorem Ty_108 : Ty 108 = some ty108 := by kernel_rfl
theorem ty108_size : ty108.size = 1 := rfl
theorem ty108_bytes : ty108.bytes = 8 := rfl
theorem ty108_zero : ty108.zero = [.nilFunc] := rfl
theorem ty108_agg : ty108.isAgg = false := by kernel_rfl
theorem ok109 : TyOk Tryd.prog 109 ty109 := TyOk.of (by kernel_rfl) (by kernel_rfl)
theorem Ty_109 : Ty 109 = some ty109 := by kernel_rfl
theorem ty109_size : ty109.size = 1 := rfl
theorem ty109_bytes : ty109.bytes = 8 := rfl
theorem ty109_zero : ty109.zero = [.pointer none] := rfl
theorem ty109_agg : ty109.isAgg = false := by kernel_rfl
theorem ok110 : TyOk Tryd.prog 110 ty110 := TyOk.of (by kernel_rfl) (by kernel_rfl)
theorem Ty_110 : Ty 110 = some ty110 := by kernel_rfl
theorem ty110_size : ty110.size = 1 := rfl
theorem ty110_bytes : ty110.bytes = 8 := rfl
theorem ty110_zero : ty110.zero = [.nilFunc] := rfl
theorem ty110_agg : ty110.isAgg = false := by kernel_rfl
theorem ok112 : TyOk Tryd.prog 112 ty112 := TyOk.of (by kernel_rfl) (by kernel_rfl)
theorem Ty_112 : Ty 112 = some ty112 := by kernel_rfl
theorem ty112_size : ty112.size = 2 := rfl
theorem ty112_bytes : ty112.bytes = 2 := rfl
theorem ty112_zero : ty112.zero = [.int .u8 0, .int .u8 0] := rfl
theorem ty112_agg : ty112.isAgg = true := by kernel_rfl
theorem kd_112 : kd Ty 112 = .struct [(0, ty5), (1, ty5)] := by kernel_rfl
theorem ok113 : TyOk Tryd.prog 113 ty113 := TyOk.of (by kernel_rfl) (by kernel_rfl)
theorem Ty_113 : Ty 113 = some ty113 := by kernel_rfl
theorem ty113_size : ty113.size = 2 := rfl
theorem ty113_bytes : ty113.bytes = 2 := rfl
theorem ty113_zero : ty113.zero = [.int .u8 0, .int .u8 0] := rfl
theorem ty113_agg : ty113.isAgg = true := by kernel_rfl
theorem kd_113 : kd Ty 113 = .struct [(0, ty5), (1, ty5)] := by kernel_rfl
theorem ok114 : TyOk Tryd.prog 114 ty114 := TyOk.of (by kernel_rfl) (by kernel_rfl)
theorem Ty_114 : Ty 114 = some ty114 := by kernel_rfl
theorem ty114_size : ty114.size = 32 := rfl
theorem ty114_bytes : ty114.bytes = 32 := rfl
theorem ty114_zero : ty114.zero = [.int .u8 0, .int .u8 0, .int .u8 0, .int .u8 0, .int .u8 0, .int .u8 0, .int .u8 0, .int .u8 0, .int .u8 0, .int .u8 0, .int .u8 0, .int .u8 0, .int .u8 0, .int .u8 0, .int .u8 0, .int .u8 0, .int .u8 0, .int .u8 0, .int .u8 0, .int .u8 0, .int .u8 0, .int .u8 0, .int .u8 0, .int .u8 0, .int .u8 0, .int .u8 0, .int .u8 0, .int .u8 0, .int .u8 0, .int .u8 0, .int .u8 0, .int .u8 0] := rfl
theorem ty114_agg : ty114.isAgg = true := by kernel_rfl
theorem kd_114 : kd Ty 114 = .arr 16 ty113 := by kernel_rfl
theorem ok115 : TyOk Tryd.prog 115 ty115 := TyOk.of (by kernel_rfl) (by kernel_rfl)
theorem Ty_115 : Ty 115 = some ty115 := by kernel_rfl
theorem ty115_size : ty115.size = 1 := rfl
theorem ty115_bytes : ty115.bytes = 8 := rfl
theorem ty115_zero : ty115.zero = [.nilFunc] := rfl
theorem ty115_agg : ty115.isAgg = false := by kernel_rfl
theorem ok116 : TyOk Tryd.prog 116 ty116 := TyOk.of (by kernel_rfl) (by kernel_rfl)
theorem Ty_116 : Ty 116 = some ty116 := by kernel_rfl
theorem ty116_size : ty116.size = 1 := rfl
theorem ty116_bytes : ty116.bytes = 8 := rfl
theorem ty116_zero : ty116.zero = [.nilFunc] := rfl
theorem ty116_agg : ty116.isAgg = false := by kernel_rfl
theorem ok117 : TyOk Tryd.prog 117 ty117 := TyOk.of (by kernel_rfl) (by kernel_rfl)
theorem Ty_117 : Ty 117 = some ty117 := by kernel_rfl
theorem ty117_size : ty117.size = 1 := rfl
theorem ty117_bytes : ty117.bytes = 8 := rfl
theorem ty117_zero : ty117.zero = [.nilFunc] := rfl
theorem ty117_agg : ty117.isAgg = false := by kernel_rfl
theorem ok118 : TyOk Tryd.prog 118 ty118 := TyOk.of (by kernel_rfl) (by kernel_rfl)
theorem Ty_118 : Ty 118 = some ty118 := by kernel_rfl
theorem ty118_size : ty118.size = 1 := rfl
theorem ty118_bytes : ty118.bytes = 8 := rfl
theorem ty118_zero : ty118.zero = [.nilFunc] := rfl
theorem ty118_agg : ty118.isAgg = false := by kernel_rfl
theorem ok119 : TyOk Tryd.prog 119 ty119 := TyOk.of (by kernel_rfl) (by kernel_rfl)
theorem Ty_119 : Ty 119 = some ty119 := by kernel_rfl
theorem ty119_size : ty119.size = 1 := rfl
theorem ty119_bytes : ty119.bytes = 8 := rfl
theorem ty119_zero : ty119.zero = [.pointer none] := rfl
theorem ty119_agg : ty119.isAgg = false := by kernel_rfl
theorem ok121 : TyOk Tryd.prog 121 ty121 := TyOk.of (by kernel_rfl) (by kernel_rfl)
theorem Ty_121 : Ty 121 = some ty121 := by kernel_rfl
theorem ty121_size : ty121.size = 1 := rfl
theorem ty121_bytes : ty121.bytes = 8 := rfl
theorem ty121_zero : ty121.zero = [.nilFunc] := rfl
theorem ty121_agg : ty121.isAgg = false := by kernel_rfl
theorem ok122 : TyOk Tryd.prog 122 ty122 := TyOk.of (by kernel_rfl) (by kernel_rfl)
theorem Ty_122 : Ty 122 = some ty122 := by kernel_rfl
theorem ty122_size : ty122.size = 1 := rfl
theorem ty122_bytes : ty122.bytes = 8 := rfl
theorem ty122_zero : ty122.zero = [.nilFunc] := rfl
theorem ty122_agg : ty122.isAgg = false := by kernel_rfl
theorem ok123 : TyOk Tryd.prog 123 ty123 := TyOk.of (by kernel_rfl) (by kernel_rfl)
theorem Ty_123 : Ty 123 = some ty123 := by kernel_rfl
theorem ty123_size : ty123.size = 4 := rfl
theorem ty123_bytes : ty123.bytes = 40 := rfl
theorem ty123_zero : ty123.zero = [.pointer none, .pointer none, .pointer none, .string ⟨#[]⟩] := rfl
theorem ty123_agg : ty123.isAgg = true := by kernel_rfl
theorem kd_123 : kd Ty 123 = .struct [(0, ty17), (1, ty17), (2, ty17), (3, ty9)] := by kernel_rfl
theorem ok125 : TyOk Tryd.prog 125 ty125 := TyOk.of (by kernel_rfl) (by kernel_rfl)
theorem Ty_125 : Ty 125 = some ty125 := by kernel_rfl
theorem ty125_size : ty125.size = 0 := rfl
theorem ty125_bytes : ty125.bytes = 0 := rfl
theorem ty125_zero : ty125.zero = [] := rfl
theorem ty125_agg : ty125.isAgg = true := by kernel_rfl
theorem kd_125 : kd Ty 125 = .arr 0 ty16 := by kernel_rfl
theorem ok126 : TyOk Tryd.prog 126 ty126 := TyOk.of (by kernel_rfl) (by kernel_rfl)
theorem Ty_126 : Ty 126 = some ty126 := by kernel_rfl
theorem ty126_size : ty126.size = 0 := rfl
theorem ty126_bytes : ty126.bytes = 0 := rfl
theorem ty126_zero : ty126.zero = [] := rfl
theorem ty126_agg : ty126.isAgg = true := by kernel_rfl
theorem kd_126 : kd Ty 126 = .struct [(0, ty125)] := by kernel_rfl
theorem ok128 : TyOk Tryd.prog 128 ty128 := TyOk.of (by kernel_rfl) (by kernel_rfl)
theorem Ty_128 : Ty 128 = some ty128 := by kernel_rfl
theorem ty128_size : ty128.size = 1 := rfl
theorem ty128_bytes : ty128.bytes = 8 := rfl
theorem ty128_zero : ty128.zero = [.nilFunc] := rfl
theorem ty128_agg : ty128.isAgg = false := by kernel_rfl
theorem ok129 : TyOk Tryd.prog 129 ty129 := TyOk.of (by kernel_rfl) (by kernel_rfl)
theorem Ty_129 : Ty 129 = some ty129 := by kernel_rfl
theorem ty129_size : ty129.size = 1 := rfl
theorem ty129_bytes : ty129.bytes = 1 := rfl
theorem ty129_zero : ty129.zero = [.int .u8 0] := rfl
theorem ty129_agg : ty129.isAgg = false := by kernel_rfl
theorem kd_129 : kd Ty 129 = .int .u8 := by kernel_rfl
theorem ok130 : TyOk Tryd.prog 130 ty130 := TyOk.of (by kernel_rfl) (by kernel_rfl)
theorem Ty_130 : Ty 130 = some ty130 := by kernel_rfl
theorem ty130_size : ty130.size = 1 := rfl
theorem ty130_bytes : ty130.bytes = 1 := rfl
theorem ty130_zero : ty130.zero = [.int .u8 0] := rfl
theorem ty130_agg : ty130.isAgg = false := by kernel_rfl
theorem kd_130 : kd Ty 130 = .int .u8 := by kernel_rfl
theorem ok131 : TyOk Tryd.prog 131 ty131 := TyOk.of (by kernel_rfl) (by kernel_rfl)
theorem Ty_131 : Ty 131 = some ty131 := by kernel_rfl
theorem ty131_size : ty131.size = 1 := rfl
theorem ty131_bytes : ty131.bytes = 8 := rfl
theorem ty131_zero : ty131.zero = [.nilFunc] := rfl
theorem ty131_agg : ty131.isAgg = false := by kernel_rfl
theorem ok132 : TyOk Tryd.prog 132 ty132 := TyOk.of (by kernel_rfl) (by kernel_rfl)
theorem Ty_132 : Ty 132 = some ty132 := by kernel_rfl
theorem ty132_size : ty132.size = 1 := rfl
theorem ty132_bytes : ty132.bytes = 8 := rfl
theorem ty132_zero : ty132.zero = [.pointer none] := rfl
theorem ty132_agg : ty132.isAgg = false := by kernel_rfl
theorem ok133 : TyOk Tryd.prog 133 ty133 := TyOk.of (by kernel_rfl) (by kernel_rfl)
theorem Ty_133 : Ty 133 = some ty133 := by kernel_rfl
theorem ty133_size : ty133.size = 1 := rfl
theorem ty133_bytes : ty133.bytes = 4 := rfl
theorem ty133_zero : ty133.zero = [.int .i32 0] := rfl
theorem ty133_agg : ty133.isAgg = false := by kernel_rfl
theorem kd_133 : kd Ty 133 = .int .i32 := by kernel_rfl
theorem ok134 : TyOk Tryd.prog 134 ty134 := TyOk.of (by kernel_rfl) (by kernel_rfl)
theorem Ty_134 : Ty 134 = some ty134 := by kernel_rfl
theorem ty134_size : ty134.size = 1 := rfl
theorem ty134_bytes : ty134.bytes = 4 := rfl
theorem ty134_zero : ty134.zero = [.int .i32 0] := rfl
theorem ty134_agg : ty134.isAgg = false := by kernel_rfl
theorem kd_134 : kd Ty 134 = .int .i32 := by kernel_rfl
theorem ok135 : TyOk Tryd.prog 135 ty135 := TyOk.of (by kernel_rfl) (by kernel_rfl)
theorem Ty_135 : Ty 135 = some ty135 := by kernel_rfl
theorem ty135_size : ty135.size = 11 := rfl
theorem ty135_bytes : ty135.bytes = 48 := rfl
theorem ty135_zero : ty135.zero = [.int .u64 0, .int .u64 0, .int .u32 0, .int .u8 0, .int .u8 0, .int .u8 0, .int .u8 0, .nilFunc, .pointer none, .int .i32 0, .int .i32 0] := rfl
theorem ty135_agg : ty135.isAgg = true := by kernel_rfl
theorem kd_135 : kd Ty 135 = .struct [(0, ty12), (1, ty12), (2, ty101), (3, ty129), (4, ty5), (5, ty5), (6, ty130), (7, ty131), (8, ty132), (9, ty133), (10, ty134)] := by kernel_rfl
theorem ok136 : TyOk Tryd.prog 136 ty136 := TyOk.of (by kernel_rfl) (by kernel_rfl)
theorem Ty_136 : Ty 136 = some ty136 := by kernel_rfl
theorem ty136_size : ty136.size = 11 := rfl
theorem ty136_bytes : ty136.bytes = 48 := rfl
theorem ty136_zero : ty136.zero = [.int .u64 0, .int .u64 0, .int .u32 0, .int .u8 0, .int .u8 0, .int .u8 0, .int .u8 0, .nilFunc, .pointer none, .int .i32 0, .int .i32 0] := rfl
theorem ty136_agg : ty136.isAgg = true := by kernel_rfl
theorem kd_136 : kd Ty 136 = .struct [(0, ty12), (1, ty12), (2, ty101), (3, ty129), (4, ty5), (5, ty5), (6, ty130), (7, ty131), (8, ty132), (9, ty133), (10, ty134)] := by kernel_rfl
theorem ok137 : TyOk Tryd.prog 137 ty137 := TyOk.of (by kernel_rfl) (by kernel_rfl)
theorem Ty_137 : Ty 137 = some ty137 := by kernel_rfl
theorem ty137_size : ty137.size = 1 := rfl
theorem ty137_bytes : ty137.bytes = 8 := rfl
theorem ty137_zero : ty137.zero = [.nilFunc] := rfl
theorem ty137_agg : ty137.isAgg = false := by kernel_rfl
theorem ok138 : TyOk Tryd.prog 138 ty138 := TyOk.of (by kernel_rfl) (by kernel_rfl)
theorem Ty_138 : Ty 138 = some ty138 := by kernel_rfl
theorem ty138_size : ty138.size = 1 := rfl
theorem ty138_bytes : ty138.bytes = 8 := rfl
theorem ty138_zero : ty138.zero = [.nilFunc] := rfl
theorem ty138_agg : ty138.isAgg = false := by kernel_rfl
theorem ok139 : TyOk Tryd.prog 139 ty139 := TyOk.of (by kernel_rfl) (by kernel_rfl)
theorem Ty_139 : Ty 139 = some ty139 := by kernel_rfl
theorem ty139_size : ty139.size = 1 := rfl
theorem ty139_bytes : ty139.bytes = 8 := rfl
theorem ty139_zero : ty139.zero = [.pointer none] := rfl
theorem ty139_agg : ty139.isAgg = false := by kernel_rfl
theorem Ty_ok : TypesOk Tryd.prog Ty := by
  have h : ∀ p ∈ tyL, TyOk Tryd.prog p.1 p.2 := by
    refine List.forall_mem_cons.2 ⟨ok1, ?_⟩
    refine List.forall_mem_cons.2 ⟨ok2, ?_⟩
    refine List.forall_mem_cons.2 ⟨ok3, ?_⟩
    refine List.forall_mem_cons.2 ⟨ok4, ?_⟩
    refine List.forall_mem_cons.2 ⟨ok5, ?_⟩
    refine List.forall_mem_cons.2 ⟨ok6, ?_⟩
    refine List.forall_mem_cons.2 ⟨ok7, ?_⟩
    refine List.forall_mem_cons.2 ⟨ok9, ?_⟩
    refine List.forall_mem_cons.2 ⟨ok12, ?_⟩
    refine List.forall_mem_cons.2 ⟨ok13, ?_⟩
    refine List.forall_mem_cons.2 ⟨ok15, ?_⟩
    refine List.forall_mem_cons.2 ⟨ok16, ?_⟩
    refine List.forall_mem_cons.2 ⟨ok17, ?_⟩
    refine List.forall_mem_cons.2 ⟨ok18, ?_⟩
    refine List.forall_mem_cons.2 ⟨ok19, ?_⟩
    refine List.forall_mem_cons.2 ⟨ok20, ?_⟩
    refine List.forall_mem_cons.2 ⟨ok21, ?_⟩
    refine List.forall_mem_cons.2 ⟨ok22, ?_⟩
    refine List.forall_mem_cons.2 ⟨ok23, ?_⟩
    refine List.forall_mem_cons.2 ⟨ok24, ?_⟩
    refine List.forall_mem_cons.2 ⟨ok25, ?_⟩
    refine List.forall_mem_cons.2 ⟨ok26, ?_⟩
    refine List.forall_mem_cons.2 ⟨ok27, ?_⟩
    refine List.forall_mem_cons.2 ⟨ok28, ?_⟩
    refine List.forall_mem_cons.2 ⟨ok29, ?_⟩
    refine List.forall_mem_cons.2 ⟨ok30, ?_⟩
    refine List.forall_mem_cons.2 ⟨ok31, ?_⟩
    refine List.forall_mem_cons.2 ⟨ok33, ?_⟩
    refine List.forall_mem_cons.2 ⟨ok34, ?_⟩
    refine List.forall_mem_cons.2 ⟨ok35, ?_⟩
    refine List.forall_mem_cons.2 ⟨ok36, ?_⟩
    refine List.forall_mem_cons.2 ⟨ok37, ?_⟩
    refine List.forall_mem_cons.2 ⟨ok38, ?_⟩
    refine List.forall_mem_cons.2 ⟨ok39, ?_⟩
    refine List.forall_mem_cons.2 ⟨ok40, ?_⟩
    refine List.forall_mem_cons.2 ⟨ok41, ?_⟩
    refine List.forall_mem_cons.2 ⟨ok42, ?_⟩
    refine List.forall_mem_cons.2 ⟨ok43, ?_⟩
    refine List.forall_mem_cons.2 ⟨ok44, ?_⟩
    refine List.forall_mem_cons.2 ⟨ok45, ?_⟩
    refine List.forall_mem_cons.2 ⟨ok46, ?_⟩
    refine List.forall_mem_cons.2 ⟨ok47, ?_⟩
    refine List.forall_mem_cons.2 ⟨ok48, ?_⟩
    refine List.forall_mem_cons.2 ⟨ok49, ?_⟩
    refine List.forall_mem_cons.2 ⟨ok50, ?_⟩
    refine List.forall_mem_cons.2 ⟨ok51, ?_⟩
    refine List.forall_mem_cons.2 ⟨ok52, ?_⟩
    refine List.forall_mem_cons.2 ⟨ok53, ?_⟩
    refine List.forall_mem_cons.2 ⟨ok54, ?_⟩
    refine List.forall_mem_cons.2 ⟨ok55, ?_⟩
    refine List.forall_mem_cons.2 ⟨ok56, ?_⟩
    refine List.forall_mem_cons.2 ⟨ok57, ?_⟩
    refine List.forall_mem_cons.2 ⟨ok58, ?_⟩
    refine List.forall_mem_cons.2 ⟨ok59, ?_⟩
    refine List.forall_mem_cons.2 ⟨ok60, ?_⟩
    refine List.forall_mem_cons.2 ⟨ok61, ?_⟩
    refine List.forall_mem_cons.2 ⟨ok62, ?_⟩
    refine List.forall_mem_cons.2 ⟨ok63, ?_⟩
    refine List.forall_mem_cons.2 ⟨ok64, ?_⟩
    refine List.forall_mem_cons.2 ⟨ok65, ?_⟩
    refine List.forall_mem_cons.2 ⟨ok66, ?_⟩
    refine List.forall_mem_cons.2 ⟨ok67, ?_⟩
    refine List.forall_mem_cons.2 ⟨ok68, ?_⟩
    refine List.forall_mem_cons.2 ⟨ok69, ?_⟩
    refine List.forall_mem_cons.2 ⟨ok70, ?_⟩
    refine List.forall_mem_cons.2 ⟨ok71, ?_⟩
    refine List.forall_mem_cons.2 ⟨ok72, ?_⟩
    refine List.forall_mem_cons.2 ⟨ok73, ?_⟩
    refine List.forall_mem_cons.2 ⟨ok74, ?_⟩
    refine List.forall_mem_cons.2 ⟨ok75, ?_⟩
    refine List.forall_mem_cons.2 ⟨ok76, ?_⟩
    refine List.forall_mem_cons.2 ⟨ok77, ?_⟩
    refine List.forall_mem_cons.2 ⟨ok81, ?_⟩
    refine List.forall_mem_cons.2 ⟨ok82, ?_⟩
    refine List.forall_mem_cons.2 ⟨ok83, ?_⟩
    refine List.forall_mem_cons.2 ⟨ok84, ?_⟩
    refine List.forall_mem_cons.2 ⟨ok85, ?_⟩
    refine List.forall_mem_cons.2 ⟨ok86, ?_⟩
    refine List.forall_mem_cons.2 ⟨ok87, ?_⟩
    refine List.forall_mem_cons.2 ⟨ok89, ?_⟩
    refine List.forall_mem_cons.2 ⟨ok90, ?_⟩
    refine List.forall_mem_cons.2 ⟨ok91, ?_⟩
    refine List.forall_mem_cons.2 ⟨ok92, ?_⟩
    refine List.forall_mem_cons.2 ⟨ok94, ?_⟩
    refine List.forall_mem_cons.2 ⟨ok95, ?_⟩
    refine List.forall_mem_cons.2 ⟨ok96, ?_⟩
    refine List.forall_mem_cons.2 ⟨ok97, ?_⟩
    refine List.forall_mem_cons.2 ⟨ok99, ?_⟩
    refine List.forall_mem_cons.2 ⟨ok100, ?_⟩
    refine List.forall_mem_cons.2 ⟨ok101, ?_⟩
    refine List.forall_mem_cons.2 ⟨ok102, ?_⟩
    refine List.forall_mem_cons.2 ⟨ok103, ?_⟩
    refine List.forall_mem_cons.2 ⟨ok104, ?_⟩
    refine List.forall_mem_cons.2 ⟨ok105, ?_⟩
    refine List.forall_mem_cons.2 ⟨ok106, ?_⟩
    refine List.forall_mem_cons.2 ⟨ok107, ?_⟩
    refine List.forall_mem_cons.2 ⟨ok108, ?_⟩
    refine List.forall_mem_cons.2 ⟨ok109, ?_⟩
    refine List.forall_mem_cons.2 ⟨ok110, ?_⟩
    refine List.forall_mem_cons.2 ⟨ok112, ?_⟩
    refine List.forall_mem_cons.2 ⟨ok113, ?_⟩
    refine List.forall_mem_cons.2 ⟨ok114, ?_⟩
    refine List.forall_mem_cons.2 ⟨ok115, ?_⟩
    refine List.forall_mem_cons.2 ⟨ok116, ?_⟩
    refine List.forall_mem_cons.2 ⟨ok117, ?_⟩
    refine List.forall_mem_cons.2 ⟨ok118, ?_⟩
    refine List.forall_mem_cons.2 ⟨ok119, ?_⟩
    refine List.forall_mem_cons.2 ⟨ok121, ?_⟩
    refine List.forall_mem_cons.2 ⟨ok122, ?_⟩
    refine List.forall_mem_cons.2 ⟨ok123, ?_⟩
    refine List.forall_mem_cons.2 ⟨ok125, ?_⟩
    refine List.forall_mem_cons.2 ⟨ok126, ?_⟩
    refine List.forall_mem_cons.2 ⟨ok128, ?_⟩
    refine List.forall_mem_cons.2 ⟨ok129, ?_⟩
    refine List.forall_mem_cons.2 ⟨ok130, ?_⟩
    refine List.forall_mem_cons.2 ⟨ok131, ?_⟩
    refine List.forall_mem_cons.2 ⟨ok132, ?_⟩
    refine List.forall_mem_cons.2 ⟨ok133, ?_⟩
    refine List.forall_mem_cons.2 ⟨ok134, ?_⟩
    refine List.forall_mem_cons.2 ⟨ok135, ?_⟩
    refine List.forall_mem_cons.2 ⟨ok136, ?_⟩
    refine List.forall_mem_cons.2 ⟨ok137, ?_⟩
    refine List.forall_mem_cons.2 ⟨ok138, ?_⟩
    refine List.forall_mem_cons.2 ⟨ok139, ?_⟩
    simp
  intro t i hi
  unfold Ty at hi
  cases hf : tyL.find? (fun p => p.1 == t) with
  | none => simp [hf] at hi
  | some p =>
    simp only [hf, Option.map_some, Option.some.injEq] at hi
    have h1 := List.find?_some hf
    have h2 := h p (List.mem_of_find?_eq_some hf)
    simp only [beq_iff_eq] at h1
    rw [← h1, ← hi]
    exact h2
attribute [simp] ty1_size ty2_size ty3_size ty4_size ty5_size ty6_size ty7_size ty9_size ty12_size ty13_size ty15_size ty16_size ty17_size ty18_size ty19_size ty20_size ty21_size ty22_size ty23_size ty24_size ty25_size ty26_size ty27_size ty28_size ty29_size ty30_size ty31_size ty33_size ty34_size ty35_size ty36_size ty37_size ty38_size ty39_size ty40_size ty41_size ty42_size ty43_size ty44_size ty45_size ty46_size ty47_size ty48_size ty49_size ty50_size ty51_size ty52_size ty53_size ty54_size ty55_size ty56_size ty57_size ty58_size ty59_size ty60_size ty61_size ty62_size ty63_size ty64_size ty65_size ty66_size ty67_size ty68_size ty69_size ty70_size ty71_size ty72_size ty73_size ty74_size ty75_size ty76_size ty77_size ty81_size ty82_size ty83_size ty84_size ty85_size ty86_size ty87_size ty89_size ty90_size ty91_size ty92_size ty94_size ty95_size ty96_size ty97_size ty99_size ty100_size ty101_size ty102_size ty103_size ty104_size ty105_size ty106_size ty107_size ty108_size ty109_size ty110_size ty112_size ty113_size ty114_size ty115_size ty116_size ty117_size ty118_size ty119_size ty121_size ty122_size ty123_size ty125_size ty126_size ty128_size ty129_size ty130_size ty131_size ty132_size ty133_size ty134_size ty135_size ty136_size ty137_size ty138_size ty139_size ty1_agg ty2_agg ty3_agg ty4_agg ty5_agg ty6_agg ty7_agg ty9_agg ty12_agg ty13_agg ty15_agg ty16_agg ty17_agg ty18_agg ty19_agg ty20_agg ty21_agg ty22_agg ty23_agg ty24_agg ty25_agg ty26_agg ty27_agg ty28_agg ty29_agg ty30_agg ty31_agg ty33_agg ty34_agg ty35_agg ty36_agg ty37_agg ty38_agg ty39_agg ty40_agg ty41_agg ty42_agg ty43_agg ty44_agg ty45_agg ty46_agg ty47_agg ty48_agg ty49_agg ty50_agg ty51_agg ty52_agg ty53_agg ty54_agg ty55_agg ty56_agg ty57_agg ty58_agg ty59_agg ty60_agg ty61_agg ty62_agg ty63_agg ty64_agg ty65_agg ty66_agg ty67_agg ty68_agg ty69_agg ty70_agg ty71_agg ty72_agg ty73_agg ty74_agg ty75_agg ty76_agg ty77_agg ty81_agg ty82_agg ty83_agg ty84_agg ty85_agg ty86_agg ty87_agg ty89_agg ty90_agg ty91_agg ty92_agg ty94_agg ty95_agg ty96_agg ty97_agg ty99_agg ty100_agg ty101_agg ty102_agg ty103_agg ty104_agg ty105_agg ty106_agg ty107_agg ty108_agg ty109_agg ty110_agg ty112_agg ty113_agg ty114_agg ty115_agg ty116_agg ty117_agg ty118_agg ty119_agg ty121_agg ty122_agg ty123_agg ty125_agg ty126_agg ty128_agg ty129_agg ty130_agg ty131_agg ty132_agg ty133_agg ty134_agg ty135_agg ty136_agg ty137_agg ty138_agg ty139_agg ty1_zero ty2_zero ty3_zero ty4_zero ty5_zero ty6_zero ty7_zero ty9_zero ty12_zero ty13_zero ty15_zero ty16_zero ty17_zero ty18_zero ty19_zero ty20_zero ty21_zero ty22_zero ty23_zero ty24_zero ty25_zero ty26_zero ty27_zero ty28_zero ty29_zero ty30_zero ty31_zero ty33_zero ty34_zero ty35_zero ty36_zero ty37_zero ty38_zero ty39_zero ty40_zero ty41_zero ty42_zero ty43_zero ty44_zero ty45_zero ty46_zero ty47_zero ty48_zero ty49_zero ty50_zero ty51_zero ty52_zero ty53_zero ty54_zero ty55_zero ty56_zero ty57_zero ty58_zero ty59_zero ty60_zero ty61_zero ty62_zero ty63_zero ty64_zero ty65_zero ty66_zero ty67_zero ty68_zero ty69_zero ty70_zero ty71_zero ty72_zero ty73_zero ty74_zero ty75_zero ty76_zero ty77_zero ty81_zero ty82_zero ty83_zero ty84_zero ty85_zero ty86_zero ty87_zero ty89_zero ty90_zero ty91_zero ty92_zero ty94_zero ty95_zero ty96_zero ty97_zero ty99_zero ty100_zero ty101_zero ty102_zero ty103_zero ty104_zero ty105_zero ty106_zero ty107_zero ty108_zero ty109_zero ty110_zero ty112_zero ty113_zero ty114_zero ty115_zero ty116_zero ty117_zero ty118_zero ty119_zero ty121_zero ty122_zero ty123_zero ty125_zero ty126_zero ty128_zero ty129_zero ty130_zero ty131_zero ty132_zero ty133_zero ty134_zero ty135_zero ty136_zero ty137_zero ty138_zero ty139_zero Ty_1 Ty_2 Ty_3 Ty_4 Ty_5 Ty_6 Ty_7 Ty_9 Ty_12 Ty_13 Ty_15 Ty_16 Ty_17 Ty_18 Ty_19 Ty_20 Ty_21 Ty_22 Ty_23 Ty_24 Ty_25 Ty_26 Ty_27 Ty_28 Ty_29 Ty_30 Ty_31 Ty_33 Ty_34 Ty_35 Ty_36 Ty_37 Ty_38 Ty_39 Ty_40 Ty_41 Ty_42 Ty_43 Ty_44 Ty_45 Ty_46 Ty_47 Ty_48 Ty_49 Ty_50 Ty_51 Ty_52 Ty_53 Ty_54 Ty_55 Ty_56 Ty_57 Ty_58 Ty_59 Ty_60 Ty_61 Ty_62 Ty_63 Ty_64 Ty_65 Ty_66 Ty_67 Ty_68 Ty_69 Ty_70 Ty_71 Ty_72 Ty_73 Ty_74 Ty_75 Ty_76 Ty_77 Ty_81 Ty_82 Ty_83 Ty_84 Ty_85 Ty_86 Ty_87 Ty_89 Ty_90 Ty_91 Ty_92 Ty_94 Ty_95 Ty_96 Ty_97 Ty_99 Ty_100 Ty_101 Ty_102 Ty_103 Ty_104 Ty_105 Ty_106 Ty_107 Ty_108 Ty_109 Ty_110 Ty_112 Ty_113 Ty_114 Ty_115 Ty_116 Ty_117 Ty_118 Ty_119 Ty_121 Ty_122 Ty_123 Ty_125 Ty_126 Ty_128 Ty_129 Ty_130 Ty_131 Ty_132 Ty_133 Ty_134 Ty_135 Ty_136 Ty_137 Ty_138 Ty_139 kd_2 kd_3 kd_4 kd_5 kd_6 kd_7 kd_9 kd_12 kd_13 kd_18 kd_19 kd_21 kd_22 kd_23 kd_24 kd_26 kd_27 kd_28 kd_29 kd_30 kd_31 kd_34 kd_35 kd_36 kd_58 kd_59 kd_60 kd_65 kd_66 kd_70 kd_71 kd_76 kd_86 kd_92 kd_101 kd_103 kd_105 kd_112 kd_113 kd_114 kd_123 kd_125 kd_126 kd_129 kd_130 kd_133 kd_134 kd_135 kd_136 ty1_bytes ty2_bytes ty3_bytes ty4_bytes ty5_bytes ty6_bytes ty7_bytes ty9_bytes ty12_bytes ty13_bytes ty15_bytes ty16_bytes ty17_bytes ty18_bytes ty19_bytes ty20_bytes ty21_bytes ty22_bytes ty23_bytes ty24_bytes ty25_bytes ty26_bytes ty27_bytes ty28_bytes ty29_bytes ty30_bytes ty31_bytes ty33_bytes ty34_bytes ty35_bytes ty36_bytes ty37_bytes ty38_bytes ty39_bytes ty40_bytes ty41_bytes ty42_bytes ty43_bytes ty44_bytes ty45_bytes ty46_bytes ty47_bytes ty48_bytes ty49_bytes ty50_bytes ty51_bytes ty52_bytes ty53_bytes ty54_bytes ty55_bytes ty56_bytes ty57_bytes ty58_bytes ty59_bytes ty60_bytes ty61_bytes ty62_bytes ty63_bytes ty64_bytes ty65_bytes ty66_bytes ty67_bytes ty68_bytes ty69_bytes ty70_bytes ty71_bytes ty72_bytes ty73_bytes ty74_bytes ty75_bytes ty76_bytes ty77_bytes ty81_bytes ty82_bytes ty83_bytes ty84_bytes ty85_bytes ty86_bytes ty87_bytes ty89_bytes ty90_bytes ty91_bytes ty92_bytes ty94_bytes ty95_bytes ty96_bytes ty97_bytes ty99_bytes ty100_bytes ty101_bytes ty102_bytes ty103_bytes ty104_bytes ty105_bytes ty106_bytes ty107_bytes ty108_bytes ty109_bytes ty110_bytes ty112_bytes ty113_bytes ty114_bytes ty115_bytes ty116_bytes ty117_bytes ty118_bytes ty119_bytes ty121_bytes ty122_bytes ty123_bytes ty125_bytes ty126_bytes ty128_bytes ty129_bytes ty130_bytes ty131_bytes ty132_bytes ty133_bytes ty134_bytes ty135_bytes ty136_bytes ty137_bytes ty138_bytes ty139_bytes
end Go.Ab

/- Contracts of impl.within and (impl.Proc).kids, on abstract values; no conditions but a bound on the length. -/
namespace Go.Ab
open Go.Proofs
def within (n lo hi : Int) : Bool := decide (lo ≤ n) && decide (n ≤ hi)

theorem within_ok (n lo hi : Int) : PureC Tryd.prog 39 [int n, int lo, int hi] (fun r => r = bool (within n lo hi)) := by
  refine PureC.of Tryd.func39 rfl Tryd.ntmps39 (by simp) fun Q hQ => ?_
  refine Runs.seqE Ty_ok (by decide) fun k' hk' => ?_
  simp
  refine hk' _ _ _ (Runs.seqE Ty_ok (by decide) fun k' hk' => ?_)
  simp
  by_cases h : lo ≤ n
  all_goals
    simp [h]
    refine hk' _ _ _ (Runs.ret Tryd.func39 (RetOk.one Tryd.results39) (hQ _ _ _ _ (ResOk.v _ _ _) ?_))
    simp [within, h]

structure AmbNode where
  kind : Int
  name : Str
  parent : Int
  deriving Inhabited, DecidableEq
abbrev Proc := List AmbNode
def AmbNode.cells (x : AmbNode) : List AVal := [int x.kind, str x.name, int x.parent]
def encP (t : Bool) (p : Proc) : AVal := .agg [.list t (p.map AmbNode.cells)]
def kidsFrom (p : Proc) (parent : Int) (k : Nat) : List Nat := (List.range k).filter fun i => (p.getD i default).parent == parent
def encInts (t : Bool) (l : List Int) : AVal := .list t (l.map fun i => [int i])
def encNats (t : Bool) (l : List Nat) : AVal := .list t (l.map fun (i : Nat) => [int (i : Int)])

theorem kids_succ (p : Proc) (parent : Int) (k : Nat) : kidsFrom p parent (k + 1) = if (p.getD k default).parent == parent then kidsFrom p parent k ++ [k] else kidsFrom p parent k := by
  simp only [kidsFrom, List.range_succ, List.filter_append, List.filter_cons, List.filter_nil]
  split <;> simp
theorem kids_len (p : Proc) (parent : Int) (k : Nat) : (kidsFrom p parent k).length ≤ k := by
  have := List.length_filter_le (fun i => (p.getD i default).parent == parent) (List.range k)
  simpa [kidsFrom] using this

set_option linter.unusedSimpArgs false
end Go.Ab

/- Contracts of impl.prefixWords and impl.nodeText. -/
namespace Go.Ab
open Go.Proofs
set_option linter.unusedSimpArgs false
theorem draws : Tryd.prog.follows .mixedOrders = true := by kernel_rfl
theorem e39 : Ent Tryd.prog 39 := Ent.of Tryd.func39 (by kernel_rfl) rfl
def word (k : Nat) : Str := match k with
  | 0 => [105, 110, 32]
  | 1 => [111, 117, 116, 32]
  | _ => [111, 112, 101, 110, 32]
def encStrs (t : Bool) (l : List Str) : AVal := .list t (l.map fun s => [str s])

def nodeText (x : AmbNode) (inside : Str) : Str :=
  if x.kind = 0 then x.name ++ [91] ++ inside ++ [93] else word (x.kind - 1).toNat ++ x.name ++ [46, 40] ++ inside ++ [41]

theorem word_len (k : Nat) : (word k).length ≤ 5 := by
  unfold word
  split <;> simp

end Go.Ab

/- The abstract machine, part So: the library's sort of strings, laid on a slice of the caller's own. -/
namespace Go.Ab
open Go.Proofs Go.RowKit
set_option linter.unusedSectionVars false

theorem putCells_get {α : Type} {enc : α → Value} [Inhabited α] {off : Nat} {d : Array α} {cl : Array Value} (k : Nat) :
    (Sort.putCells enc off d cl)[k]? = (cl[k]?).map fun x => if off ≤ k ∧ k < off + d.size then enc d[k - off]! else x := by
  simp only [Sort.putCells, Array.getElem?_mapIdx]

/-- The world behind a sort. -/
theorem sort_world {c : Ctx} (g : Good c) {id : Id} {ss ss' : List Str} (ho : c.H id = some ⟨1, ss.map fun s => [str s]⟩) (hl : ss'.length = ss.length) (off : Nat) (hoff : off = 0 ∨ ss' = []) (m : Nat) (os : Array Obj) :
    let c' : Ctx := { c with H := c.H.set id ⟨1, ss'.map fun s => [str s]⟩, w := Sort.grow (Sort.putRow encStr (Sort.ahead c.w m) (c.β id) off ss'.toArray) os }
    Keeps c c' ∧ Good c' := by
  intro c'
  obtain ⟨hB, cl, el, hh, hsz, hel⟩ := g.obj id _ ho
  simp only [List.length_map, Nat.mul_one] at hsz
  have hnew : (Sort.putRow encStr (Sort.ahead c.w m) (c.β id) off ss'.toArray).heap[c.β id]? = some (.cells (Sort.putCells encStr off ss'.toArray cl) el (0, 0)) := by
    simp only [Sort.putRow, Sort.mapBlock, Sort.ahead, Array.getElem?_modify, hh]
    simp [Sort.onCells]
  have hoth : ∀ k, k ≠ c.β id → (Sort.putRow encStr (Sort.ahead c.w m) (c.β id) off ss'.toArray).heap[k]? = c.w.heap[k]? := fun k hk => by
    simp only [Sort.putRow, Sort.mapBlock, Sort.ahead, Array.getElem?_modify]
    rw [if_neg (Ne.symm hk)]
  obtain ⟨k1, g1⟩ := upd_same g ho ⟨1, ss'.map fun s => [str s]⟩ (Sort.putRow encStr (Sort.ahead c.w m) (c.β id) off ss'.toArray) cl (Sort.putCells encStr off ss'.toArray cl) el el ⟨rfl, rfl, rfl⟩ (by simp [Sort.ahead]) hh hoth hnew
    (by simp [Sort.putCells]) rfl (by simp [hl]) (by
      refine ⟨by simp [Sort.putCells]; omega, fun i e he => ?_⟩
      rw [List.getElem?_map] at he
      obtain ⟨s, hs, rfl⟩ := Option.map_eq_some_iff.1 he
      refine ⟨rfl, fun j a ha => ?_⟩
      have hi : i < ss'.length := (List.getElem?_eq_some_iff.1 hs).1
      have ho0 : off = 0 := hoff.elim (fun h => h) fun h => by subst h; simp at hi
      subst ho0
      match j, ha with
      | 0, ha =>
        simp only [List.getElem?_cons_zero, Option.some.injEq] at ha
        subst ha
        refine ⟨encStr s, ?_, .v _⟩
        rw [putCells_get]
        have hic : i < cl.size := by omega
        simp only [Nat.mul_one, Nat.add_zero, Array.getElem?_eq_getElem hic, Option.map_some, Nat.zero_le, true_and, Nat.zero_add, Nat.sub_zero, List.size_toArray, hi, if_true, Option.some.injEq]
        have : ss'.toArray[i]! = s := by
          obtain ⟨h1, h2⟩ := List.getElem?_eq_some_iff.1 hs
          simp [h1, h2]
        rw [this]
      | j + 1, ha => simp at ha)
  obtain ⟨k2, g2⟩ := more_blocks g1 c'.w ⟨rfl, rfl, rfl⟩ (by simp [c']) fun k hk => Sort.heap_grow_old _ _ hk
  exact ⟨k1.trans k2, g2⟩

theorem rows_cells {H : Heap} {l : List Sh} (hf : ∀ t ∈ l, t = .c) : ∀ {as1' bs : List (List AVal)} {S : List Id}, rowsP (Row H l) as1' bs S → as1' = bs ∧ S = [] := by
  intro as1'
  induction as1' with
  | nil => intro bs S hr; match bs, hr with
    | [], h => exact ⟨rfl, h⟩
    | _ :: _, hr => exact hr.elim
  | cons a _ ih =>
    intro bs S hr
    match bs, hr with
    | b :: bs, ⟨_, _, q1, q2, q3, _⟩ =>
      obtain ⟨rfl, rfl, _⟩ := q1.fill hf
      obtain ⟨rfl, rfl⟩ := ih q2
      exact ⟨rfl, q3⟩
    | [], hr => exact hr.elim

/-- A sort of strings, of a slice of the caller's own. 'hnil' is the call with a nil slice. -/
theorem MutS.sort {P : Program} {f : FuncId} {ss : List Str} (hlen : ss.length < 4611686018427387904)
    (hs : ∀ (blk off cap : Nat) (w : World), Sort.Holds encStr w blk off ss.toArray → blk < w.heap.size → Calls P f #[.slice (some ⟨blk, off, none⟩) ss.length cap] w fun e w' =>
      e = .returned (.tuple #[]) ∧ ∃ n os, w' = Sort.grow (Sort.putRow encStr (Sort.ahead w n) blk off (ss.mergeSort fun x y => decide (x ≤ y)).toArray) os)
    (hnil : ∀ w : World, Calls P f #[.slice none 0 0] w fun e w' => e = .returned (.tuple #[]) ∧ Below w.heap.size w w') :
    MutS P f (fun v => [v]) (.s [.c]) (encStrs true ss) (fun e r => e = encStrs true (ss.mergeSort fun x y => decide (x ≤ y)) ∧ r = .tup []) := by
  intro H n v K ids hsep c xs hH hn g r
  subst hH hn
  obtain ⟨x, rfl, hx⟩ : ∃ x, xs = [x] ∧ Rep c v x := by
    obtain ⟨hl, hr⟩ := r
    match xs, hl with
    | [x], _ => exact ⟨x, rfl, hr 0 v x rfl rfl⟩
  obtain ⟨h0, S, h1, h2⟩ := hsep
  simp only [List.map_cons, Row, Tr] at h1
  obtain ⟨S1, S2, h3, h4, rfl, h5⟩ := h1
  rcases h3 with ⟨rfl, e, rfl⟩ | ⟨id, els, es', T, rfl, he, q3, q4, q5, rfl⟩
  · have hss : ss = [] := by simpa [encStrs] using e
    subst hss
    rw [hx.v_inv]
    refine (hnil c.w).mono ?_
    rintro e w' ⟨rfl, hb⟩
    obtain ⟨hk, hg⟩ := more_blocks g w' ⟨hb.os, hb.tape, hb.output⟩ hb.size hb.block
    refine ⟨_, .tup [], { c with w := w' }, rfl, rfl, ⟨_, ⟨rfl, rfl⟩, ⟨h0, _, ?_, h2⟩, fun _ _ => rfl, Nat.le_refl _⟩, .tup [] [] rfl (by simp), hg, hk⟩
    simp only [List.map_cons, Row, Tr]
    exact ⟨[], S2, .inl (by simp [encStrs]), h4, rfl, by simp⟩
  · simp only [encStrs, AVal.list.injEq, true_and] at he
    subst he
    obtain ⟨rfl, rfl⟩ := rows_cells (by simp) q4
    have hm : (ss.mergeSort fun x y => decide (x ≤ y)).length = ss.length := List.length_mergeSort ss
    have q3' : c.H id = some ⟨1, ss.map fun s => [str s]⟩ := q3
    have hcell : ∀ i s, ss[i]? = some s → c.w.cell? ⟨c.β id, i, none⟩ = some (encStr s) := fun i s hi => by
      obtain ⟨x, h1, h2⟩ := g.cell q3' (i := i) (j := 0) (e := [str s]) (a := str s) (by rw [List.getElem?_map, hi]; rfl) rfl
      rw [h2.v_inv] at h1
      simpa using h1
    cases hx with
    | arr _ _ _ _ _ _ hn hg h =>
      obtain ⟨hle, a, cap, rfl, hab, hsp, hlc, hoff, hcl⟩ := h _ q3' (by simp)
      obtain ⟨bk, off, sp⟩ := a
      simp only at hab hsp
      subst hab hsp
      have hz : off = 0 ∨ ss = [] := by
        rcases hoff with h | h
        · left; simpa using h
        · right; simpa [h] using hlc
      have hz' : off = 0 ∨ (ss.mergeSort fun x y => decide (x ≤ y)) = [] := hz.imp_right fun h => by subst h; simp
      have hbk : c.β id < c.w.heap.size := g.lt q3'
      have key := hs (c.β id) off cap c.w (fun j hj => by
        have hj' : j < ss.length := by simpa using hj
        have h0 : off = 0 := hz.elim (fun h => h) fun h => by subst h; simp at hj'
        subst h0
        refine ⟨?_, g.frozen q3' _⟩
        rw [Nat.zero_add, hcell j ss[j] (List.getElem?_eq_getElem hj')]
        simp [hj']) hbk
      simp only [List.length_map] at *
      refine key.mono ?_
      rintro e w' ⟨rfl, m, os, rfl⟩
      obtain ⟨hk, hg'⟩ := sort_world g q3' hm off hz' m os
      refine ⟨_, .tup [], { c with H := c.H.set id ⟨1, (ss.mergeSort fun x y => decide (x ≤ y)).map fun s => [str s]⟩, w := Sort.grow (Sort.putRow encStr (Sort.ahead c.w m) (c.β id) off (ss.mergeSort fun x y => decide (x ≤ y)).toArray) os }, rfl, rfl, ⟨_, ⟨rfl, rfl⟩, ⟨h0, id :: S2, ?_, ?_⟩, fun i hi => ?_, Nat.le_refl _⟩, .tup [] [] rfl (by simp), hg', hk⟩
      · simp only [List.map_cons, Row, Tr]
        refine ⟨[id], S2, .inr ⟨id, (ss.mergeSort fun x y => decide (x ≤ y)).map fun s => [str s], (ss.mergeSort fun x y => decide (x ≤ y)).map fun s => [str s], [], by simp [hm], rfl, ?_, ?_, by simp, rfl⟩, h4.frame fun i hi => ?_, rfl, ?_⟩
        · exact Heap.get_set_self _ _ _
        · exact rowsP.flats (by simp [str, flat]) (by simp)
        · exact Heap.get_set_ne _ _ (by rintro rfl; exact h5 i (by simp) hi)
        · intro i hi; exact h5 i (by simpa using hi)
      · intro i hi; exact h2 i (by simpa using hi)
      · exact Heap.get_set_ne _ _ (by rintro rfl; exact (h2 i (by simp)).2 hi)
end Go.Ab

/- The abstract machine, part Sv: regions that draw their order and slice arrays of the call's own. -/
namespace Go.Ab
set_option linter.unusedSectionVars false
set_option linter.unusedSimpArgs false
set_option linter.unusedVariables false

/-- As kindOp, but a slice is told of as if it looked at no memory: what is sliced is watched. -/
def kindV : Op → Nat
  | .slice .. => 0
  | op => kindOp op

def watchOf : AVal → List Id
  | .arr id _ _ _ => [id]
  | _ => []

section
variable (P : Program) (N : Nat) (ops : Array Oper) (W : List Id)

def StepV (o : Oper) (s s' : AS) : Prop :=
  (gok ops o s.1 = some true ∧ ∃ v, s'.1 = s.1.put o.dst v ∧ (kindV o.op = 0 → s'.2 = s.2 ∧ ∀ H n, (∀ i ∈ W, H i = s.2.1 i) → OpSem P N o (loc o.op s.1) H n (isV v H n)) ∧ (kindV o.op = 1 → s'.2 = s.2) ∧
      (∀ i ∈ W, s'.2.1 i = s.2.1 i) ∧ OpSem P N o (loc o.op s.1) s.2.1 s.2.2 (isV v s'.2.1 s'.2.2)) ∨
  (gok ops o s.1 = some false ∧ s' = (s.1.put o.dst skv, s.2))

def AnyV (R : AS → Prop) : Nat → Array Bool → AS → Prop
  | 0, listed, s => Region.ready .any ops listed = [] ∧ R s
  | fuel + 1, listed, s => (Region.ready .any ops listed = [] → R s) ∧ ∀ i ∈ Region.ready .any ops listed, ∃ o s', ops[i]? = some o ∧ StepV P N ops W o s s' ∧ AnyV R fuel (listed.setIfInBounds i true) s'

def RunV (R : AS → Prop) : List Oper → AS → Prop
  | [], s => R s
  | o :: l, s => ∃ s', StepV P N ops W o s s' ∧ RunV R l s'
end

section
variable {P : Program} {N : Nat} {ops : Array Oper} {W : List Id}

theorem StepV.diamond {oi oj : Oper} (hap : oi.apart ops oj = true) (hc : compat (kindV oi.op) (kindV oj.op) = true) {s si sij : AS} (hi : StepV P N ops W oi s si) (hj : StepV P N ops W oj si sij) : ∃ sj, StepV P N ops W oj s sj ∧ StepV P N ops W oi sj sij := by
  obtain ⟨h1, h2, h3⟩ := Oper.apart_spec hap
  have lj : ∀ v, loc oj.op (s.1.put oi.dst v) = loc oj.op s.1 := fun v => loc_put (looks_tmps h1)
  have li : ∀ v, loc oi.op (s.1.put oj.dst v) = loc oi.op s.1 := fun v => loc_put (looks_tmps h3)
  have gj : ∀ v, gok ops oj (s.1.put oi.dst v) = gok ops oj s.1 := fun v => gok_put h1
  have gi : ∀ v, gok ops oi (s.1.put oj.dst v) = gok ops oi s.1 := fun v => gok_put h3
  have hcc : kindV oi.op = 0 ∨ kindV oj.op = 0 ∨ (kindV oi.op = 1 ∧ kindV oj.op = 1) := by
    simp only [compat, Bool.or_eq_true, beq_iff_eq, Bool.and_eq_true] at hc
    rcases hc with (h | h) | h
    · exact .inl h
    · exact .inr (.inl h)
    · exact .inr (.inr h)
  obtain ⟨ρ, H, n⟩ := s
  obtain ⟨ρi, Hi, ni⟩ := si
  obtain ⟨ρj, Hj, nj⟩ := sij
  simp only at lj li gj gi
  rcases hi with ⟨hgi, v, hv, hk0, hk1, hw, hop⟩ | ⟨hgi, hs⟩
  · simp only at hgi hv hk0 hk1 hw hop
    subst hv
    rcases hj with ⟨hgj, u, hu, hl0, hl1, hx, hoq⟩ | ⟨hgj, hs'⟩
    · simp only at hgj hu hl0 hl1 hx hoq
      subst hu
      rw [gj] at hgj
      rw [lj] at hl0 hoq
      rcases hcc with h0 | h0 | ⟨h0, h0'⟩
      · obtain ⟨he, hall⟩ := hk0 h0
        cases he
        refine ⟨(ρ.put oj.dst u, Hj, nj), .inl ⟨hgj, u, rfl, hl0, hl1, hx, hoq⟩, .inl ⟨by simpa only [gi] using hgi, v, by rw [put_comm v u h2], fun _ => ⟨rfl, ?_⟩, fun _ => rfl, fun _ _ => rfl, ?_⟩⟩
        · simp only [li]
          exact fun H' n' hH' => hall H' n' fun i hi => (hH' i hi).trans (hx i hi)
        · simp only [li]
          exact hall Hj nj hx
      · obtain ⟨he, hall⟩ := hl0 h0
        cases he
        refine ⟨(ρ.put oj.dst u, H, n), .inl ⟨hgj, u, rfl, fun _ => ⟨rfl, fun H' n' hH' => hall H' n' fun i hi => (hH' i hi).trans (hw i hi).symm⟩, fun _ => rfl, fun _ _ => rfl, hall H n fun i hi => (hw i hi).symm⟩,
          .inl ⟨by simpa only [gi] using hgi, v, by rw [put_comm v u h2], by simpa only [li] using hk0, hk1, hw, ?_⟩⟩
        simp only [li]
        exact hop
      · have e1 := hk1 h0
        have e2 := hl1 h0'
        cases e1
        cases e2
        refine ⟨(ρ.put oj.dst u, H, n), .inl ⟨hgj, u, rfl, hl0, hl1, hx, hoq⟩, .inl ⟨by simpa only [gi] using hgi, v, by rw [put_comm v u h2], by simpa only [li] using hk0, hk1, hw, ?_⟩⟩
        simp only [li]
        exact hop
    · simp only at hgj hs'
      cases hs'
      rw [gj] at hgj
      refine ⟨(ρ.put oj.dst skv, H, n), .inr ⟨hgj, rfl⟩, .inl ⟨by simpa only [gi] using hgi, v, by rw [put_comm v skv h2], by simpa only [li] using hk0, hk1, hw, ?_⟩⟩
      simp only [li]
      exact hop
  · simp only at hgi hs
    cases hs
    rcases hj with ⟨hgj, u, hu, hl0, hl1, hx, hoq⟩ | ⟨hgj, hs'⟩
    · simp only at hgj hu hl0 hl1 hx hoq
      subst hu
      rw [gj] at hgj
      rw [lj] at hl0 hoq
      exact ⟨(ρ.put oj.dst u, Hj, nj), .inl ⟨hgj, u, rfl, hl0, hl1, hx, hoq⟩, .inr ⟨by simpa only [gi] using hgi, by rw [put_comm skv u h2]⟩⟩
    · simp only at hgj hs'
      cases hs'
      rw [gj] at hgj
      exact ⟨(ρ.put oj.dst skv, H, n), .inr ⟨hgj, rfl⟩, .inr ⟨by simpa only [gi] using hgi, by rw [put_comm skv skv h2]⟩⟩

theorem AnyV.first {R : AS → Prop} {i : Nat} {oi : Oper} (hi : ops[i]? = some oi) (D : List Nat) (hD : ∀ j oj, ops[j]? = some oj → j ∈ D → j ≠ i → ∃ e ∈ oj.after, Region.binds .any e = true ∧ e.on ∈ D) : ∀ (fuel : Nat) (listed : Array Bool) (s s' : AS),
    (∀ j ∈ D, listed.getD j true = false) → (∀ j oj, ops[j]? = some oj → j ≠ i → listed.getD j true = false → j ∉ D → oi.apart ops oj = true ∧ compat (kindV oi.op) (kindV oj.op) = true) →
    i ∈ Region.ready .any ops listed → StepV P N ops W oi s s' → AnyV P N ops W R fuel (listed.setIfInBounds i true) s' → AnyV P N ops W R (fuel + 1) listed s := by
  intro fuel
  induction fuel with
  | zero =>
    intro listed s s' _ _ hr hst H
    refine ⟨fun h => (by rw [h] at hr; cases hr), fun j hj => ?_⟩
    by_cases hji : j = i
    · subst hji; exact ⟨oi, s', hi, hst, H⟩
    · have := ready_mono hj hji
      rw [H.1] at this
      cases this
  | succ fuel ih =>
    intro listed s s' hinv hfree hr hst H
    refine ⟨fun h => (by rw [h] at hr; cases hr), fun j hj => ?_⟩
    by_cases hji : j = i
    · subst hji; exact ⟨oi, s', hi, hst, H⟩
    · obtain ⟨oj, s'', hoj, hstj, hrest⟩ := H.2 j (ready_mono hj hji)
      obtain ⟨hjun, oj', hoj', hall⟩ := mem_ready.1 hj
      rw [hoj] at hoj'
      cases hoj'
      have hnot : j ∉ D := fun hd => by
        obtain ⟨e, he, hb, hed⟩ := hD j oj hoj hd hji
        have h1 := hall e he hb
        have h0 := hinv e.on hed
        rcases Nat.lt_or_ge e.on listed.size with h' | h'
        · simp [h'] at h0 h1; rw [h0] at h1; cases h1
        · simp [Array.getElem?_eq_none h'] at h1
      obtain ⟨hap, hco⟩ := hfree j oj hoj hji hjun hnot
      obtain ⟨sj, h1, h2⟩ := StepV.diamond hap hco hst hstj
      refine ⟨oj, sj, hoj, h1, ih (listed.setIfInBounds j true) sj s'' (fun k hk => ?_) (fun k ok hk hki hun hno => ?_) (ready_mono hr (Ne.symm hji)) h2 ?_⟩
      · have hjk : j ≠ k := fun he => hnot (he ▸ hk)
        rw [getD_set_ne true hjk]
        exact hinv k hk
      · refine hfree k ok hk hki ?_ hno
        by_cases hjk : j = k
        · subst hjk; exact hjun
        · rw [getD_set_ne true hjk] at hun; exact hun
      · rw [Array.setIfInBounds_comm _ _ hji]
        exact hrest

theorem AnyV.lex {R : AS → Prop} : ∀ (l : List Oper) (k : Nat) (listed : Array Bool) (s : AS), (∀ j : Nat, l[j]? = ops[k + j]?) → lexD kindV ops l.length k listed = true → RunV P N ops W R l s → AnyV P N ops W R l.length listed s
  | [], _, _, _, _, hB, h => ⟨by simpa [lexD] using hB, h⟩
  | o :: l, k, listed, s, hl, hB, h => by
    have h0 : ops[k]? = some o := by simpa using (hl 0).symm
    simp only [List.length_cons, lexD, Bool.and_eq_true] at hB
    obtain ⟨⟨hr, hf⟩, hB'⟩ := hB
    obtain ⟨s', hst, hrest⟩ := h
    obtain ⟨f1, f2, f3⟩ := freeD_spec h0 hf
    exact AnyV.first h0 (behind ops k) f1 l.length listed s s' f2 f3 (by simpa using hr) hst
      (AnyV.lex l (k + 1) _ _ (fun j => by have := hl (j + 1); simpa [Nat.add_assoc, Nat.add_comm 1 j] using this) hB' hrest)

theorem AnyV.sound {R : AS → Prop} (hN : ops.toList.all (fun o => dok N o.dst) = true) {Q : Exit → Act → World → Prop} {c0 : Ctx} (hQ : ∀ a c ρ, Keeps c0 c → Good c → RelE N c ρ a → R (ρ, c.H, c.n) → Q .normal a c.w) :
    ∀ (fuel : Nat) (listed : Array Bool) (ρ : Env) (c : Ctx) (a : Act), Keeps c0 c → Good c → RelE N c ρ a → AnyV P N ops W R fuel listed (ρ, c.H, c.n) → wpAny P .any ops Q fuel listed a c.w
  | 0, _, _, _, _, hk, g, r, h => ⟨h.1, hQ _ _ _ hk g r h.2⟩
  | fuel + 1, listed, ρ, c, a, hk, g, r, h => by
    refine ⟨fun h0 => hQ _ _ _ hk g r (h.1 h0), fun i hi => ?_⟩
    obtain ⟨o, s', ho, hst, hrest⟩ := h.2 i hi
    obtain ⟨ρ', H', n'⟩ := s'
    have hd : dok N o.dst = true := List.all_eq_true.1 hN o (by rw [← Array.getElem?_toList] at ho; exact List.mem_of_getElem? ho)
    unfold wpOp
    simp only [ho]
    rcases hst with ⟨hg, v, hv, _, _, _, hop⟩ | ⟨hg, hs⟩
    · rw [if_pos (wanted_of_gok r hN hg)]
      simp only at hv hop
      subst hv
      refine .inl (hop c a rfl rfl g (r.loc o.op) _ _ ?_)
      rintro v1 x c' ⟨rfl, hH, hn⟩ hrep hgood hkeep
      exact AnyV.sound hN hQ fuel _ _ c' _ (hk.trans hkeep) hgood ((r.keeps hkeep).put hd hrep) (by rw [hH, hn]; exact hrest)
    · rw [if_neg (by rw [wanted_of_gok r hN hg]; simp)]
      cases hs
      exact AnyV.sound hN hQ fuel _ _ c _ hk g (r.put hd (.v _)) hrest
end

section
variable {P : Program} {f : FuncId} {N : Nat} {k : List Item} {ρ : Env} {H : Heap} {n : Nat} {Q : AVal → Heap → Nat → Prop}
theorem Runs.drawV (W : List Id) {id : Nat} {ops : List Oper} (hm : P.follows .mixedOrders = true) (hN : ops.all (fun o => dok N o.dst) = true) (hB : drawOk kindV ops.toArray = true)
    (h : RunV P N ops.toArray W (fun s => Runs P f N k s.1 s.2.1 s.2.2 Q) ops (ρ, H, n)) : Runs P f N (.code (.region id ops.toArray true) :: k) ρ H n Q := by
  intro c a hH hn g r b cs hf hk
  subst hH
  subst hn
  obtain ⟨d1, d2⟩ := draw_keeps g
  have hany := AnyV.lex (P := P) (N := N) (W := W) (ops := ops.toArray) ops 0 (Array.replicate ops.toArray.size false) (ρ, c.H, c.n) (by simp) (by simpa [drawOk] using hB) h
  have hw : (Code.region id ops.toArray true).wp P (fun e a' w' => e = .normal ∧ ∃ c' ρ', c'.w = w' ∧ Keeps c c' ∧ Good c' ∧ RelE N c' ρ' a' ∧ Runs P f N k ρ' c'.H c'.n Q) a c.w := by
    refine wp_region_any hm ?_
    have := AnyV.sound (P := P) (N := N) (W := W) (ops := ops.toArray) (c0 := c) (by simpa using hN) (Q := fun e a' w' => e = .normal ∧ ∃ c' ρ', c'.w = w' ∧ Keeps c c' ∧ Good c' ∧ RelE N c' ρ' a' ∧ Runs P f N k ρ' c'.H c'.n Q)
      (R := fun s => Runs P f N k s.1 s.2.1 s.2.2 Q) (fun a' c' ρ' hk' hg' hr' hR => ⟨rfl, c', ρ', rfl, hk', hg', hr', hR⟩) ops.length (Array.replicate ops.toArray.size false) ρ { c with w := { c.w with drawn := c.w.drawn + 1 } } a d1 d2 (r.keeps d1) hany
    simpa using this
  obtain ⟨e, a', w', ⟨rfl, c', ρ', rfl, hk', hg', hr', hR⟩, harr⟩ := hw b k cs
  obtain ⟨x, v, c'', fr, q, hr, hg, hke, hst, rest⟩ := hR c' a' rfl rfl hg' hr' b cs hf hk
  exact ⟨x, v, c'', fr, q, hr, hg, hk'.trans hke, Steps.trans harr hst, rest⟩
end

/-- What an operation must leave as it is. -/
def okV (W : List Id) (o : Oper) (ρ : Env) (H H' : Heap) : Prop :=
  (∀ i ∈ W, H' i = H i) ∧ ∀ t x lo hi mx, o.op = .slice t x lo hi mx → ∀ id g a b, ρ.ev x = .arr id g a b → id ∈ W

section
variable (P : Program) (f : FuncId) (N : Nat) (k : List Item) (Q : AVal → Heap → Nat → Prop) (Ty : Types) (W : List Id) (ops : Array Oper)
def evalV : List Oper → Env → Heap → Nat → Prop
  | [], ρ, H, n => Runs P f N k ρ H n Q
  | o :: l, ρ, H, n => o.guard = none ∧ match stepF Ty o.dst o.op ρ H n with
    | some (v, H', n') => okV W o ρ H H' ∧ evalV l (ρ.put o.dst v) H' n'
    | none => False
def bindV (r : Option (AVal × Heap × Nat)) (o : Oper) (l : List Oper) (ρ : Env) (H : Heap) : Prop :=
  match r with
  | some (v, H', n') => okV W o ρ H H' ∧ evalV P f N k Q Ty W l (ρ.put o.dst v) H' n'
  | none => False
end

section
variable {P : Program} {f : FuncId} {N : Nat} {k : List Item} {Q : AVal → Heap → Nat → Prop} {Ty : Types} {W : List Id} {ops : Array Oper} {o : Oper} {L : List Oper} {ρ : Env} {H : Heap} {n : Nat}
@[simp] theorem evalV_nil : evalV P f N k Q Ty W [] ρ H n = Runs P f N k ρ H n Q := rfl
@[simp] theorem evalV_op {d : Option Tmp} {op : Op} {ty : TypeId} {pos : String} {af : Array Edge} : evalV P f N k Q Ty W (⟨d, op, ty, pos, af, none⟩ :: L) ρ H n = bindV P f N k Q Ty W (stepF Ty d op ρ H n) ⟨d, op, ty, pos, af, none⟩ L ρ H := by
  simp only [evalV, true_and]; rfl
/-- An operation that leaves the heap as it is and slices nothing of the call's own. -/
@[simp] theorem bindV_same {v : AVal} {n' : Nat} : bindV P f N k Q Ty W (some (v, H, n')) o L ρ H = ((∀ t x lo hi mx, o.op = .slice t x lo hi mx → ∀ id g a b, ρ.ev x = .arr id g a b → id ∈ W) ∧ evalV P f N k Q Ty W L (ρ.put o.dst v) H n') := by
  simp [bindV, okV]
theorem bindV_new {v : AVal} {H' : Heap} {n' : Nat} (hw : ∀ i ∈ W, H' i = H i) (ho : ∀ t x lo hi mx, o.op ≠ .slice t x lo hi mx) (h : evalV P f N k Q Ty W L (ρ.put o.dst v) H' n') : bindV P f N k Q Ty W (some (v, H', n')) o L ρ H :=
  ⟨⟨hw, fun t x lo hi mx he => absurd he (ho t x lo hi mx)⟩, h⟩

theorem sliceF_watch {H2 : Heap} {t : TypeId} {x v : AVal} {lo hi : Option AVal} (h : sliceF Ty H t x lo hi = some v) (hw : ∀ id g a b, x = .arr id g a b → H2 id = H id) : sliceF Ty H2 t x lo hi = some v := by
  unfold sliceF at h ⊢
  split at h
  · simp_all
  · simp_all
  · have := hw _ _ _ _ rfl
    simp_all [live]
  · simp_all
  · cases h
theorem kindV_slice {op : Op} (h : kindV op = 0) : (∃ t x lo hi mx, op = .slice t x lo hi mx) ∨ kindOp op = 0 := by
  unfold kindV at h
  split at h
  · exact .inl ⟨_, _, _, _, _, rfl⟩
  · exact .inr h
theorem kindV_one {op : Op} (h : kindV op = 1) : kindOp op = 1 := by
  unfold kindV at h
  split at h
  · cases h
  · exact h
theorem StepV.of_step (hT : TypesOk P Ty) {v : AVal} {H' : Heap} {n' : Nat} (hg : gok ops o ρ = some true) (hs : stepF Ty o.dst o.op ρ H n = some (v, H', n')) (ho : okV W o ρ H H') : StepV P N ops W o (ρ, H, n) (ρ.put o.dst v, H', n') := by
  have hl : stepF Ty o.dst o.op (loc o.op ρ) H n = some (v, H', n') := by rw [stepF_loc]; exact hs
  refine .inl ⟨hg, v, rfl, fun h0 => ?_, fun h1 => ?_, ho.1, stepF_ok hT hl⟩
  · rcases kindV_slice h0 with ⟨t, x, lo, hi, mx, he⟩ | h0
    · have h12 : H' = H ∧ n' = n := stepF_k1 (by rw [he]; rfl) hl
      obtain ⟨e1, e2⟩ := h12
      subst e1
      subst e2
      refine ⟨rfl, fun H2 n2 h2 => stepF_ok hT ?_⟩
      rw [stepF_loc]
      have hx := ho.2 t x lo hi mx he
      simp only at h2
      rw [he] at hs ⊢
      cases mx with
      | some m => cases hs
      | none =>
        simp only [stepF] at hs ⊢
        cases hv : sliceF Ty H' t (ρ.ev x) (lo.map ρ.ev) (hi.map ρ.ev) with
        | none => rw [hv] at hs; cases hs
        | some v' =>
          rw [hv] at hs
          cases hs
          rw [sliceF_watch hv fun id g a b hxe => h2 id (hx id g a b hxe)]
          rfl
    · obtain ⟨e1, e2, hall⟩ := stepF_k0 h0 hl
      subst e1
      subst e2
      exact ⟨rfl, fun H2 n2 _ => stepF_ok hT (hall H2 n2)⟩
  · obtain ⟨e1, e2⟩ := stepF_k1 (kindV_one h1) hl
    subst e1
    subst e2
    rfl
theorem evalV_sound (hT : TypesOk P Ty) : ∀ (l : List Oper) (ρ : Env) (H : Heap) (n : Nat), evalV P f N k Q Ty W l ρ H n → RunV P N ops W (fun s => Runs P f N k s.1 s.2.1 s.2.2 Q) l (ρ, H, n)
  | [], ρ, H, n, h => h
  | o :: l, ρ, H, n, h => by
    obtain ⟨hg, h⟩ := h
    cases hs : stepF Ty o.dst o.op ρ H n with
    | none => rw [hs] at h; exact h.elim
    | some r =>
      obtain ⟨v, H', n'⟩ := r
      rw [hs] at h
      exact ⟨_, StepV.of_step hT (by simp [gok, hg]) hs h.1, evalV_sound hT l _ _ _ h.2⟩
theorem Runs.seqV (hT : TypesOk P Ty) (W : List Id) {id : Nat} {ops : List Oper} {y : Code} (hm : P.follows .mixedOrders = true) (hN : ops.all (fun o => dok N o.dst) = true) (hB : drawOk kindV ops.toArray = true)
    (h : ∀ k' : List Item, (∀ ρ H n, Runs P f N (.code y :: k) ρ H n Q → Runs P f N k' ρ H n Q) → evalV P f N k' Q Ty W ops ρ H n) : Runs P f N (.code (.seq (.region id ops.toArray true) y) :: k) ρ H n Q :=
  Runs.seq (Runs.drawV W hm hN hB (evalV_sound hT ops _ _ _ (h (.code y :: k) fun _ _ _ h => h)))
theorem Runs.evalVE (hT : TypesOk P Ty) (W : List Id) {id : Nat} {ops : List Oper} (hm : P.follows .mixedOrders = true) (hN : ops.all (fun o => dok N o.dst) = true) (hB : drawOk kindV ops.toArray = true)
    (h : ∀ k' : List Item, (∀ ρ H n, Runs P f N k ρ H n Q → Runs P f N k' ρ H n Q) → evalV P f N k' Q Ty W ops ρ H n) : Runs P f N (.code (.region id ops.toArray true) :: k) ρ H n Q :=
  Runs.drawV W hm hN hB (evalV_sound hT ops _ _ _ (h k fun _ _ _ h => h))
end

section
variable {P : Program} {f f' : FuncId} {N : Nat} {k : List Item} {Q : AVal → Heap → Nat → Prop} {Ty : Types} {W : List Id} {L : List Oper} {ρ : Env} {H : Heap} {n : Nat} {K K1 K2 : List OwnE} {ids : List Id} {t : TypeId} {j : TI} {l : List Sh} {v : AVal} {es : List (List AVal)} {o : Oper}
/-- Where an own array of plain cells lies. -/
theorem Sep.at {α : Type} {g : α → List AVal} {xs : List α} (h : Sep H n ((.s l, v, .list true (xs.map g)) :: K) ids) (hf : ∀ t ∈ l, t = .c) : ∀ i ∈ watchOf v, H i = some ⟨l.length, xs.map g⟩ ∧ i.1 < n := fun i hi => by
  obtain ⟨h0, S, h1, h2⟩ := h
  simp only [List.map_cons, Row, Tr] at h1
  obtain ⟨S1, S2, h3, _, rfl, _⟩ := h1
  rcases h3 with ⟨rfl, e, _⟩ | ⟨id, els, es', T, rfl, he, q3, q4, q5, rfl⟩
  · cases hi
  · injection he with _ he
    subst he
    have := rowsP.same hf q4
    subst this
    obtain rfl : i = id := by simpa [watchOf] using hi
    exact ⟨q3, (h2 i (by simp)).1⟩
theorem watch_set {W : List Id} {o o' : Ob} {d : Nat} (A : ∀ i ∈ W, H i = some o ∧ i.1 < n) : (∀ i ∈ W, (H.set (n, d) o') i = some o ∧ i.1 < n + 1) ∧ ∀ i ∈ W, (H.set (n, d) o') i = H i := by
  have h : ∀ i ∈ W, (H.set (n, d) o') i = H i := fun i hi => Heap.get_set_ne _ _ (by rintro rfl; have := (A _ hi).2; simp at this)
  exact ⟨fun i hi => ⟨(h i hi).trans (A i hi).1, by have := (A i hi).2; omega⟩, h⟩
theorem bindV_append {d : Nat} {x : AVal} (K1 K2 : List OwnE) (add adds : List (List AVal)) (hno : ∀ t x lo hi mx, o.op ≠ .slice t x lo hi mx) (h : Sep H n ((.s l, v, .list true es) :: (K1 ++ K2)) ids) (hk : kd Ty t = .slice j) (hj : j.size = l.length) (hz : j.zero.length = j.size ∧ j.bytes ≤ 131072)
    (hx : srcOf H x = some add) (ho : add.all (fun e => e.all Ab.one1) = true) (hadd : ∀ S, Row H (K1.map (·.1)) (K1.map (·.2.1)) (K1.map (·.2.2)) S → rowsP (Row H l) add adds S) (hne : adds ≠ []) (hlen : es.length + adds.length ≤ 1073741824)
    (hc : ∀ v' H' n', Sep H' n' ((.s l, v', .list true (es ++ adds)) :: K2) ids → (∀ i ∈ ids, H' i = H i) → n ≤ n' → (∀ i ∈ W, H' i = H i) ∧ evalV P f N k Q Ty W L (ρ.put o.dst v') H' n') : bindV P f N k Q Ty W (appendF Ty (some d) t v x H n) o L ρ H := by
  obtain ⟨v', H', n', h1, h2, h3, h4⟩ := Sep.append (d := d) h hk hj hz hx ho hadd hne hlen
  rw [h1]
  obtain ⟨h5, h6⟩ := hc v' H' n' h2 h3 h4
  exact bindV_new h5 hno h6
theorem bindV_append0 {d : Nat} {x : AVal} (add : List (List AVal)) (hno : ∀ t x lo hi mx, o.op ≠ .slice t x lo hi mx) (h : Sep H n ((.s l, v, .list true es) :: K) ids) (hf : ∀ t ∈ l, t = .c) (hk : kd Ty t = .slice j) (hj : j.size = l.length) (hz : j.zero.length = j.size ∧ j.bytes ≤ 131072)
    (hx : srcOf H x = some add) (ho : ∀ e ∈ add, e.length = l.length ∧ ∀ a ∈ e, flat a = true ∧ Ab.one1 a = true) (hlen : es.length + add.length ≤ 1073741824)
    (hc : ∀ v' H' n', Sep H' n' ((.s l, v', .list true (es ++ add)) :: K) ids → (∀ i ∈ ids, H' i = H i) → n ≤ n' → (∀ i ∈ W, H' i = H i) ∧ evalV P f N k Q Ty W L (ρ.put o.dst v') H' n') : bindV P f N k Q Ty W (appendF Ty (some d) t v x H n) o L ρ H := by
  obtain ⟨v', H', n', h1, h2, h3, h4⟩ := Sep.append0 (d := d) h hf hk hj hz hx ho hlen
  rw [h1]
  obtain ⟨h5, h6⟩ := hc v' H' n' h2 h3 h4
  exact bindV_new h5 hno h6
theorem bindV_view {α : Type} {g : α → List AVal} {xs : List α} {lo hi : Option Operand} {d : Option Tmp} {x : Operand} {ty : TypeId} {pos : String} {af : Array Edge} (a b : Int) (hW : ∀ i ∈ watchOf v, i ∈ W) (hv : ρ.ev x = v) (h : Sep H n ((.s l, v, .list true (xs.map g)) :: K) ids) (hf : ∀ t ∈ l, t = .c) (hk : kd Ty t = .slice j) (hj : j.size = l.length)
    {lo' hi' : Option AVal} (hlo : boundOf lo' 0 = some a) (hhi : boundOf hi' xs.length = some b) (hb : 0 ≤ a ∧ a ≤ b ∧ b ≤ xs.length)
    (hc : ∀ w, srcOf H w = some (((xs.take b.toNat).drop a.toNat).map g) → evalV P f' N k Q Ty W L (ρ.put d w) H n) : bindV P f' N k Q Ty W ((sliceF Ty H t v lo' hi').map fun z => (z, H, n)) ⟨d, .slice t x lo hi none, ty, pos, af, none⟩ L ρ H := by
  obtain ⟨w, h1, h2⟩ := Sep.viewS h hf hk hj hlo hhi hb
  rw [h1, Option.map_some, bindV_same]
  refine ⟨?_, hc w h2⟩
  rintro t' x' lo1 hi1 mx' he id g' a' b' hx
  cases he
  rw [hv] at hx
  exact hW id (by rw [hx]; simp [watchOf])
end
end Go.Ab

/- The abstract machine, part Sw: whether a slice is nil. -/
namespace Go.Ab
section
variable {P : Program} {Ty : Types} {N : Nat} {ρ : Env} {H : Heap} {n : Nat}
theorem run_equal_slice {t e : TypeId} {w : World} (h : (underlying t).run P w = .ok (.slice e) w) (a : Option Addr) (m c : Nat) : (Op.equal t (.slice a m c) (.slice none 0 0)).run P w = .ok a.isNone w := by
  have h1 : ∀ k, (Op.equalIn (k + 1) t (.slice a m c) (.slice none 0 0)).run P w = .ok a.isNone w := fun k => by cases a <;> simp [Op.equalIn, h]
  exact h1 9999
/-- A list: it may be nil if nothing is in it. -/
theorem OpSem.isNil (hT : TypesOk P Ty) {d : Option Tmp} {t t' ty : TypeId} {x y : Operand} {pos : String} {af : Array Edge} {gu : Option (Nat × Bool)} {j : TI} {fr : Bool} {els : List (List AVal)} (hk : kd Ty t = .slice j) (hx : ρ.ev x = .list fr els) (hy : ρ.ev y = .v (.slice none 0 0)) :
    OpSem P N ⟨d, .binOp .eql t x y t', ty, pos, af, gu⟩ ρ H n fun v1 H1 n1 => (∃ b : Bool, v1 = bool b ∧ (b = true → els = [])) ∧ H1 = H ∧ n1 = n :=
  OpSem.of_value fun c a hH hn g r => by
    obtain ⟨i, e, hi, hd, hj⟩ := kd_slice hk
    have hde := (hT t i hi).run_desc c.w
    rw [hd] at hde
    have rx := r.ev x
    have ry := r.ev y
    rw [hx] at rx
    rw [hy] at ry
    have ey := ry.v_inv
    have hrun : ∀ (b : Option Addr) (m q : Nat), (binOp .eql t (.slice b m q) (.slice none 0 0)).run P c.w = .ok (.bool b.isNone) c.w := fun b m q => by
      show ((Op.equal t (.slice b m q) (.slice none 0 0)) >>= fun r => _).run P c.w = _
      simp only [Sem.run_bind, run_equal_slice hde, Result.andThen_ok, Sem.run_pure]
    generalize hv : a.eval x = vx at rx
    cases rx with
    | lnil => exact ⟨bool true, .bool true, c, by simp [execOp, hv, ey, hrun, eqGuard], ⟨⟨true, rfl, fun _ => rfl⟩, hH, hn⟩, .v _, g, Keeps.refl c⟩
    | list fr els ad cap sz cell hs hcap hm hsz hc h => exact ⟨bool false, .bool false, c, by simp [execOp, hv, ey, hrun, eqGuard], ⟨⟨false, rfl, fun h => by cases h⟩, hH, hn⟩, .v _, g, Keeps.refl c⟩
theorem RunK.isNil (hT : TypesOk P Ty) {f : FuncId} {k : List Item} {Q : AVal → Heap → Nat → Prop} {ops l : List Oper} {d : Option Tmp} {t t' ty : TypeId} {x y : Operand} {pos : String} {af : Array Edge} {j : TI} {fr : Bool} {els : List (List AVal)}
    (hN : ops.all (fun o => dok N o.dst) = true) (hl : (⟨d, .binOp .eql t x y t', ty, pos, af, none⟩ :: l : List Oper).all (fun o => dok N o.dst) = true) (hk : kd Ty t = .slice j) (hx : ρ.ev x = .list fr els) (hy : ρ.ev y = .v (.slice none 0 0))
    (h : ∀ b : Bool, (b = true → els = []) → evalK P f N k Q Ty ops.toArray l (ρ.put d (bool b)) H n) : RunK P f N k Q ops.toArray (⟨d, .binOp .eql t x y t', ty, pos, af, none⟩ :: l) ρ H n :=
  RunK.op hT hN hl rfl (OpSem.isNil hT hk hx hy) (by rintro v H' n' ⟨⟨b, rfl, hb⟩, rfl, rfl⟩; exact h b hb)
end
section
variable {P : Program} {f f' : FuncId} {N : Nat} {k : List Item} {Q : AVal → Heap → Nat → Prop} {Ty : Types} {ops : Array Oper} {L : List Oper} {ρ : Env} {H : Heap} {n : Nat} {K1 K2 : List OwnE} {ids : List Id} {t : TypeId} {j : TI} {l : List Sh} {v : AVal} {es : List (List AVal)} {o : Oper}
theorem bindD_store {κ : Op → Nat} {id : Id} {g q : Nat} {i : TI} {new news : List AVal} (K1 K2 : List OwnE) (h : Sep H n ((.s l, .arr id g 0 g, .list true es) :: (K1 ++ K2)) ids) (hi : i.size = l.length) (hk : q < es.length) (hg : g = es.length) (hone : new.all Ab.one1 = true)
    (hf : Fill l K1 new news) (hc : ∀ H', Sep H' n ((.s l, .arr id g 0 g, .list true (es.set q news)) :: K2) ids → (∀ i ∈ ids, H' i = H i) → evalD P f N k Q Ty κ ops L (ρ.put o.dst .undef) H' n) :
    bindD P f N k Q Ty κ ops (match storeF (some i) (.ptr id g q 0) (some new) H with | some H' => some (AVal.undef, H', n) | none => none) o L ρ H n := by
  obtain ⟨H', h1, h2, h3⟩ := Sep.store h hi hk hg hone hf
  rw [h1]
  exact (bindD_some (v := AVal.undef) (H' := H') (n' := n)).symm ▸ hc H' h2 h3
theorem bindD_field {κ : Op → Nat} {α : Type} [Inhabited α] {id : Id} {g q off : Nat} {ix : Int} {i : TI} {new : List AVal} {xs : List α} {f : α → List AVal} {x y : α} {K : List OwnE} (h : Sep H n ((.s l, .arr id g 0 g, .list true (xs.map f)) :: K) ids) (hl : ∀ t ∈ l, t = .c)
    (hi : new.length = i.size) (hb : 0 ≤ ix ∧ ix < xs.length) (hx : x = at' xs ix) (hq : q = ix.toNat) (hg : g = xs.length) (hfl : ∀ x, (f x).length = l.length) (hff : ∀ a ∈ f y, flat a = true ∧ Ab.one1 a = true) (hn : ∀ a ∈ new, Ab.one1 a = true)
    (hy : f y = splice (f x) off new) (hoff : off + new.length ≤ l.length)
    (hc : ∀ H', Sep H' n ((.s l, .arr id g 0 g, .list true ((xs.set q y).map f)) :: K) ids → (∀ i ∈ ids, H' i = H i) → evalD P f' N k Q Ty κ ops L (ρ.put o.dst .undef) H' n) :
    bindD P f' N k Q Ty κ ops (match storeF (some i) (.ptr id g q off) (some new) H with | some H' => some (AVal.undef, H', n) | none => none) o L ρ H n := by
  obtain ⟨id', he, hH, _, _⟩ := h.openF hl hb
  cases he
  have hq' : q < xs.length := by omega
  obtain ⟨hlt, hgx⟩ := at_get hb hx
  obtain ⟨H', h1, h2, h3⟩ := Sep.store (K1 := []) (K2 := K) (i := ⟨i.desc, l.length, i.bytes, i.zero⟩) (new := f y) (news := f y) h rfl (by simpa using hq') (by first | (simp; done) | simpa using hg) (by
    rw [List.all_eq_true]; exact fun a ha => (hff a ha).2) (fill_flat hl (by simp [hfl]) fun a ha => (hff a ha).1)
  have hw : storeF (some i) (.ptr id xs.length q off) (some new) H = some H' := by
    simp only [storeF, live, hH, List.length_map, ↓reduceIte] at h1 ⊢
    rw [if_pos ⟨by simp [hfl], hq', by simp [hfl], by rw [List.all_eq_true]; exact fun a ha => (hff a ha).2⟩] at h1
    rw [if_pos ⟨hi, hq', hoff, by rw [List.all_eq_true]; exact hn⟩, ← h1]
    congr 2
    have hrow : (xs.map f).getD q [] = f x := by simp [hq, hlt, hgx]
    simp only [Ob.write, hrow, Ob.mk.injEq, true_and]
    rw [← hy]
    congr 1
    simp [splice, hfl]
  rw [hw]
  refine (bindD_some (v := AVal.undef) (H' := H') (n' := n)).symm ▸ hc H' ?_ h3
  rw [List.map_set]
  exact h2
end
end Go.Ab

/- The abstract machine, part Sx: regions that draw their order with one call whose result the caller owns; all else stands ahead of it or waits for it. -/
namespace Go.Ab
set_option linter.unusedSectionVars false
set_option linter.unusedVariables false
section
variable (P : Program) (N : Nat) (ops : Array Oper) (κ : Op → Nat) (cix : Nat)
def AnyB (R : AS → Prop) : Nat → Array Bool → AS → Prop
  | 0, listed, s => Region.ready .any ops listed = [] ∧ R s
  | fuel + 1, listed, s => (Region.ready .any ops listed = [] → R s) ∧ ∀ i ∈ Region.ready .any ops listed, ∃ o, ops[i]? = some o ∧
      ((i ≠ cix ∧ ∃ s', StepD P N ops κ o s s' ∧ AnyB R fuel (listed.setIfInBounds i true) s') ∨
       (i = cix ∧ o.guard = none ∧ ∃ post : AVal → Heap → Nat → Prop, OpSem P N o (loc o.op s.1) s.2.1 s.2.2 post ∧ ∀ v H' n', post v H' n' → AnyB R fuel (listed.setIfInBounds i true) (s.1.put o.dst v, H', n')))
def RunB (R : AS → Prop) : Nat → List Oper → AS → Prop
  | _, [], s => R s
  | k, o :: l, s => (k ≠ cix ∧ ∃ s', StepD P N ops κ o s s' ∧ RunB R (k + 1) l s') ∨
      (k = cix ∧ o.guard = none ∧ ∃ post : AVal → Heap → Nat → Prop, OpSem P N o (loc o.op s.1) s.2.1 s.2.2 post ∧ ∀ v H' n', post v H' n' → RunB R (k + 1) l (s.1.put o.dst v, H', n'))
def lexB : Nat → Nat → Array Bool → Bool
  | 0, _, listed => (Region.ready .any ops listed).isEmpty
  | fuel + 1, k, listed => (if k = cix then Region.ready .any ops listed == [k] else (Region.ready .any ops listed).contains k && freeD κ ops listed k && (listed.getD cix true || (behind ops k).contains cix)) && lexB fuel (k + 1) (listed.setIfInBounds k true)
def drawOne : Bool := lexB ops κ cix ops.size 0 (Array.replicate ops.size false)
end
section
variable {P : Program} {N : Nat} {ops : Array Oper} {κ : Op → Nat} {cix : Nat}
theorem AnyB.first {R : AS → Prop} {i : Nat} {oi : Oper} (hi : ops[i]? = some oi) (hic : i ≠ cix) (D : List Nat) (hD : ∀ j oj, ops[j]? = some oj → j ∈ D → j ≠ i → ∃ e ∈ oj.after, Region.binds .any e = true ∧ e.on ∈ D) : ∀ (fuel : Nat) (listed : Array Bool) (s s' : AS),
    (∀ j ∈ D, listed.getD j true = false) → (∀ j oj, ops[j]? = some oj → j ≠ i → listed.getD j true = false → j ∉ D → oi.apart ops oj = true ∧ compat (κ oi.op) (κ oj.op) = true) → (listed.getD cix true = true ∨ cix ∈ D) →
    i ∈ Region.ready .any ops listed → StepD P N ops κ oi s s' → AnyB P N ops κ cix R fuel (listed.setIfInBounds i true) s' → AnyB P N ops κ cix R (fuel + 1) listed s := by
  intro fuel
  induction fuel with
  | zero =>
    intro listed s s' _ _ _ hr hst H
    refine ⟨fun h => (by rw [h] at hr; cases hr), fun j hj => ?_⟩
    by_cases hji : j = i
    · subst hji; exact ⟨oi, hi, .inl ⟨hic, s', hst, H⟩⟩
    · have := ready_mono hj hji
      rw [H.1] at this
      cases this
  | succ fuel ih =>
    intro listed s s' hinv hfree hcx hr hst H
    refine ⟨fun h => (by rw [h] at hr; cases hr), fun j hj => ?_⟩
    by_cases hji : j = i
    · subst hji; exact ⟨oi, hi, .inl ⟨hic, s', hst, H⟩⟩
    · obtain ⟨oj, hoj, hbr⟩ := H.2 j (ready_mono hj hji)
      obtain ⟨hjun, oj', hoj', hall⟩ := mem_ready.1 hj
      rw [hoj] at hoj'
      cases hoj'
      have hnot : j ∉ D := fun hd => by
        obtain ⟨e, he, hb, hed⟩ := hD j oj hoj hd hji
        have h1 := hall e he hb
        have h0 := hinv e.on hed
        rcases Nat.lt_or_ge e.on listed.size with h' | h'
        · simp [h'] at h0 h1; rw [h0] at h1; cases h1
        · simp [Array.getElem?_eq_none h'] at h1
      have hjc : j ≠ cix := fun he => by
        subst he
        rcases hcx with hcx | hcx
        · rw [hcx] at hjun; cases hjun
        · exact hnot hcx
      rcases hbr with ⟨_, s'', hstj, hrest⟩ | ⟨hc, _⟩
      · obtain ⟨hap, hco⟩ := hfree j oj hoj hji hjun hnot
        obtain ⟨sj, h1, h2⟩ := StepD.diamond hap hco hst hstj
        refine ⟨oj, hoj, .inl ⟨hjc, sj, h1, ih (listed.setIfInBounds j true) sj s'' (fun k hk => ?_) (fun k ok hk hki hun hno => ?_) ?_ (ready_mono hr (Ne.symm hji)) h2 ?_⟩⟩
        · have hjk : j ≠ k := fun he => hnot (he ▸ hk)
          rw [getD_set_ne true hjk]
          exact hinv k hk
        · refine hfree k ok hk hki ?_ hno
          by_cases hjk : j = k
          · subst hjk; exact hjun
          · rw [getD_set_ne true hjk] at hun; exact hun
        · refine hcx.imp_left fun h => ?_
          rw [getD_set_ne true hjc]
          exact h
        · rw [Array.setIfInBounds_comm _ _ hji]
          exact hrest
      · exact absurd hc hjc

theorem AnyB.lex {R : AS → Prop} : ∀ (l : List Oper) (k : Nat) (listed : Array Bool) (s : AS), (∀ j : Nat, l[j]? = ops[k + j]?) → lexB ops κ cix l.length k listed = true → RunB P N ops κ cix R k l s → AnyB P N ops κ cix R l.length listed s
  | [], _, _, _, _, hB, h => ⟨by simpa [lexB] using hB, h⟩
  | o :: l, k, listed, s, hl, hB, h => by
    have h0 : ops[k]? = some o := by simpa using (hl 0).symm
    have hnx : ∀ j : Nat, l[j]? = ops[k + 1 + j]? := fun j => by have := hl (j + 1); simpa [Nat.add_assoc, Nat.add_comm 1 j] using this
    simp only [List.length_cons, lexB, Bool.and_eq_true] at hB
    obtain ⟨hB, hB'⟩ := hB
    rcases h with ⟨hk, s', hst, hrest⟩ | ⟨hk, hg, post, hop, hrest⟩
    · rw [if_neg hk] at hB
      simp only [Bool.and_eq_true, Bool.or_eq_true, List.contains_iff_mem] at hB
      obtain ⟨⟨hr, hf⟩, hc⟩ := hB
      obtain ⟨f1, f2, f3⟩ := freeD_spec h0 hf
      exact AnyB.first h0 hk (behind ops k) f1 l.length listed s s' f2 f3 hc hr hst (AnyB.lex l (k + 1) _ _ hnx hB' hrest)
    · rw [if_pos hk, beq_iff_eq] at hB
      refine ⟨fun h => (by rw [h] at hB; cases hB), fun i hi => ?_⟩
      rw [hB] at hi
      obtain rfl := List.mem_singleton.1 hi
      exact ⟨o, h0, .inr ⟨hk, hg, post, hop, fun v H' n' hp => AnyB.lex l (i + 1) _ _ hnx hB' (hrest v H' n' hp)⟩⟩

theorem AnyB.sound {R : AS → Prop} (hN : ops.toList.all (fun o => dok N o.dst) = true) {Q : Exit → Act → World → Prop} {c0 : Ctx} (hQ : ∀ a c ρ, Keeps c0 c → Good c → RelE N c ρ a → R (ρ, c.H, c.n) → Q .normal a c.w) :
    ∀ (fuel : Nat) (listed : Array Bool) (ρ : Env) (c : Ctx) (a : Act), Keeps c0 c → Good c → RelE N c ρ a → AnyB P N ops κ cix R fuel listed (ρ, c.H, c.n) → wpAny P .any ops Q fuel listed a c.w
  | 0, _, _, _, _, hk, g, r, h => ⟨h.1, hQ _ _ _ hk g r h.2⟩
  | fuel + 1, listed, ρ, c, a, hk, g, r, h => by
    refine ⟨fun h0 => hQ _ _ _ hk g r (h.1 h0), fun i hi => ?_⟩
    obtain ⟨o, ho, hbr⟩ := h.2 i hi
    have hd : dok N o.dst = true := List.all_eq_true.1 hN o (by rw [← Array.getElem?_toList] at ho; exact List.mem_of_getElem? ho)
    unfold wpOp
    simp only [ho]
    rcases hbr with ⟨_, s', hst, hrest⟩ | ⟨_, hg, post, hop, hrest⟩
    · obtain ⟨ρ', H', n'⟩ := s'
      rcases hst with ⟨hg, v, hv, _, _, hop⟩ | ⟨hg, hs⟩
      · rw [if_pos (wanted_of_gok r hN hg)]
        simp only at hv hop
        subst hv
        refine .inl (hop c a rfl rfl g (r.loc o.op) _ _ ?_)
        rintro v1 x c' ⟨rfl, hH, hn⟩ hrep hgood hkeep
        exact AnyB.sound hN hQ fuel _ _ c' _ (hk.trans hkeep) hgood ((r.keeps hkeep).put hd hrep) (by rw [hH, hn]; exact hrest)
      · rw [if_neg (by rw [wanted_of_gok r hN hg]; simp)]
        cases hs
        exact AnyB.sound hN hQ fuel _ _ c _ hk g (r.put hd (.v _)) hrest
    · rw [if_pos (wanted_of_gok r hN (by simp [gok, hg]))]
      refine .inl (hop c a rfl rfl g (r.loc o.op) _ _ ?_)
      rintro v1 x c' hpost hrep hgood hkeep
      exact AnyB.sound hN hQ fuel _ _ c' _ (hk.trans hkeep) hgood ((r.keeps hkeep).put hd hrep) (hrest v1 c'.H c'.n hpost)
end
section
variable {P : Program} {f : FuncId} {N : Nat} {k : List Item} {ρ : Env} {H : Heap} {n : Nat} {Q : AVal → Heap → Nat → Prop} {κ : Op → Nat}
theorem Runs.drawOne (cix : Nat) {id : Nat} {ops : List Oper} (hm : P.follows .mixedOrders = true) (hN : ops.all (fun o => dok N o.dst) = true) (hB : Ab.drawOne ops.toArray κ cix = true)
    (h : RunB P N ops.toArray κ cix (fun s => Runs P f N k s.1 s.2.1 s.2.2 Q) 0 ops (ρ, H, n)) : Runs P f N (.code (.region id ops.toArray true) :: k) ρ H n Q := by
  intro c a hH hn g r b cs hf hk
  subst hH
  subst hn
  obtain ⟨d1, d2⟩ := draw_keeps g
  have hany := AnyB.lex (P := P) (N := N) (κ := κ) (cix := cix) (ops := ops.toArray) ops 0 (Array.replicate ops.toArray.size false) (ρ, c.H, c.n) (by simp) (by simpa [Ab.drawOne] using hB) h
  have hw : (Code.region id ops.toArray true).wp P (fun e a' w' => e = .normal ∧ ∃ c' ρ', c'.w = w' ∧ Keeps c c' ∧ Good c' ∧ RelE N c' ρ' a' ∧ Runs P f N k ρ' c'.H c'.n Q) a c.w := by
    refine wp_region_any hm ?_
    have := AnyB.sound (P := P) (N := N) (κ := κ) (cix := cix) (ops := ops.toArray) (c0 := c) (by simpa using hN) (Q := fun e a' w' => e = .normal ∧ ∃ c' ρ', c'.w = w' ∧ Keeps c c' ∧ Good c' ∧ RelE N c' ρ' a' ∧ Runs P f N k ρ' c'.H c'.n Q)
      (R := fun s => Runs P f N k s.1 s.2.1 s.2.2 Q) (fun a' c' ρ' hk' hg' hr' hR => ⟨rfl, c', ρ', rfl, hk', hg', hr', hR⟩) ops.length (Array.replicate ops.toArray.size false) ρ { c with w := { c.w with drawn := c.w.drawn + 1 } } a d1 d2 (r.keeps d1) hany
    simpa using this
  obtain ⟨e, a', w', ⟨rfl, c', ρ', rfl, hk', hg', hr', hR⟩, harr⟩ := hw b k cs
  obtain ⟨x, v, c'', fr, q, hr, hg, hke, hst, rest⟩ := hR c' a' rfl rfl hg' hr' b cs hf hk
  exact ⟨x, v, c'', fr, q, hr, hg, hk'.trans hke, Steps.trans harr hst, rest⟩
end
section
variable (P : Program) (f : FuncId) (N : Nat) (k : List Item) (Q : AVal → Heap → Nat → Prop) (Ty : Types) (κ : Op → Nat) (ops : Array Oper)
/-- Behind the call. -/
def evalX : List Oper → Env → Heap → Nat → Prop
  | [], ρ, H, n => Runs P f N k ρ H n Q
  | o :: l, ρ, H, n => o.guard = none ∧ match stepF Ty o.dst o.op ρ H n with
    | some (v, H', n') => evalX l (ρ.put o.dst v) H' n'
    | none => False
def bindX (r : Option (AVal × Heap × Nat)) (o : Oper) (l : List Oper) (ρ : Env) : Prop :=
  match r with
  | some (v, H', n') => evalX P f N k Q Ty l (ρ.put o.dst v) H' n'
  | none => False
/-- Ahead of the call, and the call: so many operations stand ahead of it. -/
def evalB : Nat → List Oper → Env → Heap → Nat → Prop
  | _, [], _, _, _ => False
  | 0, o :: l, ρ, H, n => o.guard = none ∧ ∃ post : AVal → Heap → Nat → Prop, OpSem P N o (loc o.op ρ) H n post ∧ ∀ v H' n', post v H' n' → evalX P f N k Q Ty l (ρ.put o.dst v) H' n'
  | c + 1, o :: l, ρ, H, n => ∃ s', StepD P N ops κ o (ρ, H, n) s' ∧ evalB c l s'.1 s'.2.1 s'.2.2
def bindB (c : Nat) (r : Option (AVal × Heap × Nat)) (o : Oper) (l : List Oper) (ρ : Env) (H : Heap) (n : Nat) : Prop :=
  match r with
  | some (v, H', n') => evalB P f N k Q Ty κ ops c l (ρ.put o.dst v) H' n'
  | none => evalB P f N k Q Ty κ ops (c + 1) (o :: l) ρ H n
end
section
variable {P : Program} {f : FuncId} {N : Nat} {k : List Item} {Q : AVal → Heap → Nat → Prop} {Ty : Types} {κ : Op → Nat} {ops : Array Oper} {o : Oper} {l : List Oper} {ρ : Env} {H : Heap} {n : Nat} {c : Nat}
@[simp] theorem evalX_nil : evalX P f N k Q Ty [] ρ H n = Runs P f N k ρ H n Q := rfl
@[simp] theorem evalX_op {d : Option Tmp} {op : Op} {ty : TypeId} {pos : String} {af : Array Edge} : evalX P f N k Q Ty (⟨d, op, ty, pos, af, none⟩ :: l) ρ H n = bindX P f N k Q Ty (stepF Ty d op ρ H n) ⟨d, op, ty, pos, af, none⟩ l ρ := by
  simp only [evalX, true_and]; rfl
@[simp] theorem bindX_some {v : AVal} {H' : Heap} {n' : Nat} : bindX P f N k Q Ty (some (v, H', n')) o l ρ = evalX P f N k Q Ty l (ρ.put o.dst v) H' n' := rfl
/-- One operation ahead of the call. -/
theorem evalB.step (hT : TypesOk P Ty) (hκ : KOk κ) {v : AVal} {H' : Heap} {n' : Nat} (hg : o.guard = none) (hs : stepF Ty o.dst o.op ρ H n = some (v, H', n')) (h : evalB P f N k Q Ty κ ops c l (ρ.put o.dst v) H' n') : evalB P f N k Q Ty κ ops (c + 1) (o :: l) ρ H n :=
  ⟨_, StepD.of_step hT hκ (by simp [gok, hg]) hs, h⟩
theorem evalB.callA (hT : TypesOk P Ty) (hκ : KOk κ) {d : Option Tmp} {g : Operand} {args : Array Operand} {ats : Array TypeId} {ty : TypeId} {pos : String} {af : Array Edge} {v : AVal} {f' : FuncId} {as1 args' : List AVal}
    (h : PureC P f' args' (fun r => r = v)) (hent : Ent P f') (ha : ArgsOk H n as1 args') (h0 : κ (.call ⟨.value g, args, ats⟩) ≠ 0) (hg : ρ.ev g = .fn (.func f') [] []) (has : args.toList.map ρ.ev = as1)
    (hk : evalB P f N k Q Ty κ ops c l (ρ.put d v) H n) : evalB P f N k Q Ty κ ops (c + 1) (⟨d, .call ⟨.value g, args, ats⟩, ty, pos, af, none⟩ :: l) ρ H n :=
  ⟨(ρ.put d v, H, n), .inl ⟨by simp [gok], v, rfl, fun h => absurd h h0, fun _ => rfl, OpSem.callD hg hent (has ▸ ha) h⟩, hk⟩
theorem loc_args {d : Operand} {args : Array Operand} {ats : Array TypeId} : args.toList.map (loc (.call ⟨.value d, args, ats⟩) ρ).ev = args.toList.map ρ.ev ∧ (loc (.call ⟨.value d, args, ats⟩) ρ).ev d = ρ.ev d :=
  ⟨List.map_congr_left fun x hx => loc_ev (by simp [Op.operands, Call.operands]; exact .inr (by simpa using hx)), loc_ev (by simp [Op.operands, Call.operands])⟩
theorem evalB.callW {K : List OwnE} {ids : List Id} {d : Option Tmp} {g : Operand} {args : Array Operand} {ats : Array TypeId} {ty : TypeId} {pos : String} {af : Array Edge} {R : AVal → Prop} {f' : FuncId} {as1 args' : List AVal} {sh : Sh}
    (h : OwnS P f' args' sh R) (hent : Ent P f') (ha : ArgsOk H n as1 args') (hs : Sep H n K ids) (hg : ρ.ev g = .fn (.func f') [] []) (has : args.toList.map ρ.ev = as1)
    (hk : ∀ v H1 n1 r, Sep H1 n1 ((sh, v, r) :: K) ids → R r → n ≤ n1 → (∀ i ∈ ids, H1 i = H i) → evalX P f N k Q Ty l (ρ.put d v) H1 n1) :
    evalB P f N k Q Ty κ ops 0 (⟨d, .call ⟨.value g, args, ats⟩, ty, pos, af, none⟩ :: l) ρ H n :=
  ⟨rfl, _, OpSem.callW (by rw [loc_args.2]; exact hg) hent (by rw [loc_args.1, has]; exact ha) h hs, fun v H' n' ⟨r, h1, h2, h3, h4⟩ => hk v H' n' r h1 h2 h3 h4⟩
theorem evalX_sound (hT : TypesOk P Ty) (hκ : KOk κ) {cix : Nat} : ∀ (l : List Oper) (j : Nat) (ρ : Env) (H : Heap) (n : Nat), cix < j → evalX P f N k Q Ty l ρ H n → RunB P N ops κ cix (fun s => Runs P f N k s.1 s.2.1 s.2.2 Q) j l (ρ, H, n)
  | [], _, ρ, H, n, _, h => h
  | o :: l, j, ρ, H, n, hj, h => by
    obtain ⟨hg, h⟩ := h
    cases hs : stepF Ty o.dst o.op ρ H n with
    | none => rw [hs] at h; exact h.elim
    | some r =>
      obtain ⟨v, H', n'⟩ := r
      rw [hs] at h
      exact .inl ⟨by omega, _, StepD.of_step hT hκ (by simp [gok, hg]) hs, evalX_sound hT hκ l (j + 1) _ _ _ (by omega) h⟩
theorem evalB_sound (hT : TypesOk P Ty) (hκ : KOk κ) {cix : Nat} : ∀ (l : List Oper) (j c : Nat) (ρ : Env) (H : Heap) (n : Nat), j + c = cix → evalB P f N k Q Ty κ ops c l ρ H n → RunB P N ops κ cix (fun s => Runs P f N k s.1 s.2.1 s.2.2 Q) j l (ρ, H, n)
  | [], _, _, _, _, _, _, h => by simp [evalB] at h
  | o :: l, j, 0, ρ, H, n, hj, h => by
    obtain ⟨hg, post, hop, h⟩ := h
    exact .inr ⟨by omega, hg, post, hop, fun v H' n' hp => evalX_sound hT hκ l (j + 1) _ _ _ (by omega) (h v H' n' hp)⟩
  | o :: l, j, c + 1, ρ, H, n, hj, h => by
    obtain ⟨s', hst, h⟩ := h
    exact .inl ⟨by omega, s', hst, evalB_sound hT hκ l (j + 1) c _ _ _ (by omega) h⟩
theorem Runs.seqB (hT : TypesOk P Ty) (hκ : KOk κ) (cix : Nat) {id : Nat} {ops : List Oper} {y : Code} (hm : P.follows .mixedOrders = true) (hN : ops.all (fun o => dok N o.dst) = true) (hB : Ab.drawOne ops.toArray κ cix = true)
    (h : ∀ k' : List Item, (∀ ρ H n, Runs P f N (.code y :: k) ρ H n Q → Runs P f N k' ρ H n Q) → evalB P f N k' Q Ty κ ops.toArray cix ops ρ H n) : Runs P f N (.code (.seq (.region id ops.toArray true) y) :: k) ρ H n Q :=
  Runs.seq (Runs.drawOne cix hm hN hB (evalB_sound hT hκ ops 0 cix _ _ _ (by omega) (h (.code y :: k) fun _ _ _ h => h)))
end
end Go.Ab

/- The abstract machine, part Sy: regions that draw their order, by what is known of the operations that are done. -/
namespace Go.Ab
set_option linter.unusedSectionVars false
set_option linter.unusedVariables false

abbrev Done (L : Array Bool) (j : Nat) : Prop := L.getD j false = true
theorem Done.set {L : Array Bool} {i j : Nat} (h : Done (L.setIfInBounds i true) j) : j = i ∨ Done L j := by
  by_cases hij : i = j
  · exact .inl hij.symm
  · refine .inr ?_
    rw [Done, getD_set_ne false hij] at h
    exact h
theorem Done.of_set {L : Array Bool} {i j : Nat} (h : Done L j) : Done (L.setIfInBounds i true) j := by
  by_cases hij : i = j
  · subst hij
    have : i < L.size := by
      rcases Nat.lt_or_ge i L.size with h' | h'
      · exact h'
      · simp [Done, h'] at h
    simp [Done, this]
  · rw [Done, getD_set_ne false hij]
    exact h
theorem done_self {L : Array Bool} {i : Nat} (h : i < L.size) : Done (L.setIfInBounds i true) i := by simp [Done, h]
theorem not_done {L : Array Bool} {i : Nat} (h : i < L.size) : ¬ Done L i ↔ L.getD i true = false := by
  simp [Done, h]
theorem countP_less {α : Type} {p q : α → Bool} : ∀ {l : List α}, (∀ x ∈ l, p x = true → q x = true) → (∃ x ∈ l, q x = true ∧ p x = false) → l.countP p < l.countP q
  | [], _, ⟨_, h, _⟩ => by cases h
  | y :: l, h, ⟨x, hx, h1, h2⟩ => by
    have hle : l.countP p ≤ l.countP q := List.countP_mono_left fun z hz => h z (by simp [hz])
    rcases List.mem_cons.1 hx with rfl | hx
    · rw [List.countP_cons_of_pos h1, List.countP_cons_of_neg (by simp [h2])]
      omega
    · have := countP_less (l := l) (fun z hz => h z (by simp [hz])) ⟨x, hx, h1, h2⟩
      have hy := h y (by simp)
      simp only [List.countP_cons]
      by_cases hp : p y = true
      · rw [if_pos hp, if_pos (hy hp)]; omega
      · rw [if_neg hp]; split <;> omega

/-- One step of an invariant. -/
def StepI (P : Program) (N : Nat) (ops : Array Oper) (Inv : Array Bool → AS → Prop) (i : Nat) : Prop :=
  ∀ L s, Inv L s → i ∈ Region.ready .any ops L → ∃ o, ops[i]? = some o ∧ o.guard = none ∧ OpSem P N o (loc o.op s.1) s.2.1 s.2.2 fun v H' n' => Inv (L.setIfInBounds i true) (s.1.put o.dst v, H', n')

section
variable {P : Program} {N : Nat} {ops : Array Oper}
theorem wpAny_inv {Inv : Array Bool → AS → Prop} {R : AS → Prop} (hN : ops.toList.all (fun o => dok N o.dst) = true) {Q : Exit → Act → World → Prop} {c0 : Ctx} (hQ : ∀ a c ρ, Keeps c0 c → Good c → RelE N c ρ a → R (ρ, c.H, c.n) → Q .normal a c.w)
    (step : ∀ i, StepI P N ops Inv i) (fin : ∀ L s, Inv L s → Region.ready .any ops L = [] → R s) :
    ∀ (fuel : Nat) (L : Array Bool) (ρ : Env) (c : Ctx) (a : Act), Keeps c0 c → Good c → RelE N c ρ a → Inv L (ρ, c.H, c.n) → (List.range ops.size).countP (fun i => !(L.getD i true)) ≤ fuel → wpAny P .any ops Q fuel L a c.w
  | 0, L, ρ, c, a, hk, g, r, h, hf => by
    have hr : Region.ready .any ops L = [] := by
      cases hl : Region.ready .any ops L with
      | nil => rfl
      | cons i l =>
        have hi : i ∈ Region.ready .any ops L := by rw [hl]; simp
        obtain ⟨h1, o, ho, _⟩ := mem_ready.1 hi
        have hlt : i < ops.size := (Array.getElem?_eq_some_iff.1 ho).1
        have : 0 < (List.range ops.size).countP (fun i => !(L.getD i true)) := List.countP_pos_iff.2 ⟨i, List.mem_range.2 hlt, by simp only [h1, Bool.not_false]⟩
        omega
    exact ⟨hr, hQ _ _ _ hk g r (fin _ _ h hr)⟩
  | fuel + 1, L, ρ, c, a, hk, g, r, h, hf => by
    refine ⟨fun h0 => hQ _ _ _ hk g r (fin _ _ h h0), fun i hi => ?_⟩
    obtain ⟨o, ho, hg, hop⟩ := step i L _ h hi
    obtain ⟨hu, o', ho', _⟩ := mem_ready.1 hi
    have hlt : i < ops.size := (Array.getElem?_eq_some_iff.1 ho).1
    have hd : dok N o.dst = true := List.all_eq_true.1 hN o (by rw [← Array.getElem?_toList] at ho; exact List.mem_of_getElem? ho)
    unfold wpOp
    simp only [ho]
    rw [if_pos (wanted_of_gok r hN (by simp [gok, hg]))]
    refine .inl (hop c a rfl rfl g (r.loc o.op) _ _ ?_)
    rintro v1 x c' hpost hrep hgood hkeep
    refine wpAny_inv hN hQ step fin fuel _ _ c' _ (hk.trans hkeep) hgood ((r.keeps hkeep).put hd hrep) hpost ?_
    have : (List.range ops.size).countP (fun j => !((L.setIfInBounds i true).getD j true)) < (List.range ops.size).countP (fun j => !(L.getD j true)) := by
      refine countP_less (fun x _ hx => ?_) ⟨i, List.mem_range.2 hlt, by simp only [hu, Bool.not_false], ?_⟩
      · by_cases hix : i = x
        · subst hix; simp only [hu, Bool.not_false]
        · rw [getD_set_ne true hix] at hx; exact hx
      · have : (L.setIfInBounds i true).getD i true = true := by
          by_cases hs : i < L.size <;> simp [hs]
        simp only [this, Bool.not_true]
    omega
end
section
variable {P : Program} {f : FuncId} {N : Nat} {k : List Item} {ρ : Env} {H : Heap} {n : Nat} {Q : AVal → Heap → Nat → Prop}
theorem Runs.drawI (Inv : Array Bool → AS → Prop) {id : Nat} {ops : List Oper} (hm : P.follows .mixedOrders = true) (hN : ops.all (fun o => dok N o.dst) = true) (h0 : Inv (Array.replicate ops.length false) (ρ, H, n)) (step : ∀ i, StepI P N ops.toArray Inv i)
    (fin : ∀ L s, Inv L s → Region.ready .any ops.toArray L = [] → Runs P f N k s.1 s.2.1 s.2.2 Q) : Runs P f N (.code (.region id ops.toArray true) :: k) ρ H n Q := by
  intro c a hH hn g r b cs hf hk
  subst hH
  subst hn
  obtain ⟨d1, d2⟩ := draw_keeps g
  have hw : (Code.region id ops.toArray true).wp P (fun e a' w' => e = .normal ∧ ∃ c' ρ', c'.w = w' ∧ Keeps c c' ∧ Good c' ∧ RelE N c' ρ' a' ∧ Runs P f N k ρ' c'.H c'.n Q) a c.w := by
    refine wp_region_any hm ?_
    have := wpAny_inv (P := P) (N := N) (ops := ops.toArray) (c0 := c) (Inv := Inv) (by simpa using hN) (Q := fun e a' w' => e = .normal ∧ ∃ c' ρ', c'.w = w' ∧ Keeps c c' ∧ Good c' ∧ RelE N c' ρ' a' ∧ Runs P f N k ρ' c'.H c'.n Q)
      (R := fun s => Runs P f N k s.1 s.2.1 s.2.2 Q) (fun a' c' ρ' hk' hg' hr' hR => ⟨rfl, c', ρ', rfl, hk', hg', hr', hR⟩) step fin ops.length (Array.replicate ops.toArray.size false) ρ { c with w := { c.w with drawn := c.w.drawn + 1 } } a d1 d2 (r.keeps d1) (by simpa using h0)
      (Nat.le_trans List.countP_le_length (by simp))
    simpa using this
  obtain ⟨e, a', w', ⟨rfl, c', ρ', rfl, hk', hg', hr', hR⟩, harr⟩ := hw b k cs
  obtain ⟨x, v, c'', fr, q, hr, hg, hke, hst, rest⟩ := hR c' a' rfl rfl hg' hr' b cs hf hk
  exact ⟨x, v, c'', fr, q, hr, hg, hk'.trans hke, Steps.trans harr hst, rest⟩
end

/-- What is known of slots: of those that stay, and of those that operations fill. -/
def Old (ρ : Env) (B : List (Nat × AVal)) : Prop := ∀ q ∈ B, ρ q.1 = q.2
def Told (L : Array Bool) (ρ : Env) (F : List (Nat × Nat × AVal)) : Prop := ∀ q ∈ F, Done L q.1 → ρ q.2.1 = q.2.2
def AllF (ρ : Env) (F : List (Nat × Nat × AVal)) : Prop := ∀ q ∈ F, ρ q.2.1 = q.2.2
theorem Old.head {ρ : Env} {t : Nat} {v : AVal} {B : List (Nat × AVal)} (h : Old ρ ((t, v) :: B)) : ρ t = v := h (t, v) (by simp)
theorem Old.tail {ρ : Env} {x : Nat × AVal} {B : List (Nat × AVal)} (h : Old ρ (x :: B)) : Old ρ B := fun q hq => h q (by simp [hq])
theorem Told.head {L : Array Bool} {ρ : Env} {i t : Nat} {v : AVal} {F : List (Nat × Nat × AVal)} (h : Told L ρ ((i, t, v) :: F)) (hd : Done L i) : ρ t = v := h (i, t, v) (by simp) hd
theorem Told.tail {L : Array Bool} {ρ : Env} {x : Nat × Nat × AVal} {F : List (Nat × Nat × AVal)} (h : Told L ρ (x :: F)) : Told L ρ F := fun q hq => h q (by simp [hq])
theorem AllF.head {ρ : Env} {i t : Nat} {v : AVal} {F : List (Nat × Nat × AVal)} (h : AllF ρ ((i, t, v) :: F)) : ρ t = v := h (i, t, v) (by simp)
theorem AllF.tail {ρ : Env} {x : Nat × Nat × AVal} {F : List (Nat × Nat × AVal)} (h : AllF ρ (x :: F)) : AllF ρ F := fun q hq => h q (by simp [hq])
theorem Old.put {ρ : Env} {B : List (Nat × AVal)} {d : Option Nat} {v : AVal} (h : Old ρ B) (hd : ∀ q ∈ B, d ≠ some q.1) : Old (ρ.put d v) B := fun q hq => by
  cases d with
  | none => exact h q hq
  | some d =>
    have : q.1 ≠ d := fun e => hd q hq (by rw [e])
    simp [Env.put, this, h q hq]
theorem Told.put {L : Array Bool} {ρ : Env} {F F' : List (Nat × Nat × AVal)} {i : Nat} {d : Option Nat} {v : AVal} (h : Told L ρ F) (hF : ∀ q ∈ F', q.1 ≠ i → Done L q.1 → q ∈ F) (hd : ∀ q ∈ F', d = some q.2.1 → q.1 = i) (hv : ∀ q ∈ F', q.1 = i → d = some q.2.1 ∧ q.2.2 = v) :
    Told (L.setIfInBounds i true) (ρ.put d v) F' := fun q hq hdn => by
  by_cases e : q.1 = i
  · obtain ⟨h1, h2⟩ := hv q hq e
    subst h1
    simp [Env.put, h2]
  · have hdone := hdn.set.resolve_left e
    have := h q (hF q hq e hdone) hdone
    cases d with
    | none => exact this
    | some d =>
      have hne : q.2.1 ≠ d := fun he => e (hd q hq (by rw [he]))
      simp [Env.put, hne, this]

/-- Memory: what the call gives, if it is done; the new variable, if it is made. -/
def Mem (H0 : Heap) (n0 : Nat) (K : List OwnE) (ids : List Id) (ent : List OwnE) (w : Id) (ob0 ob1 : Ob) (dc da ds : Bool) (H : Heap) (n : Nat) : Prop :=
  Sep H n ((if dc then ent else []) ++ K) ((if da then [w] else []) ++ ids) ∧ (∀ i ∈ ids, H i = H0 i) ∧ n0 ≤ n ∧ (da = true → n0 ≤ w.1 ∧ H w = some (if ds then ob1 else ob0))
structure Reg where
  m : Nat
  c : Nat
  a : Nat
  st : Nat
  d : Nat
  B : List (Nat × AVal)
  F : List AVal → Nat → List (Nat × Nat × AVal)
  ent : List AVal → List OwnE
  ob0 : Ob
  ob1 : List AVal → Ob
  RG : List AVal → Prop
  onC : List Nat
  onA : List Nat
  H0 : Heap
  n0 : Nat
  K : List OwnE
  ids : List Id
def Reg.Inv (g : Reg) (L : Array Bool) (s : AS) : Prop :=
  L.size = g.m ∧ (∀ j ∈ g.onC, Done L j → Done L g.c) ∧ (∀ j ∈ g.onA, Done L j → Done L g.a) ∧ ∃ (G : List AVal) (A : Nat), Old s.1 g.B ∧ Told L s.1 (g.F G A) ∧ (Done L g.c → g.RG G) ∧
    Mem g.H0 g.n0 g.K g.ids (g.ent G) (A, g.d) g.ob0 (g.ob1 G) (L.getD g.c false) (L.getD g.a false) (L.getD g.st false) s.2.1 s.2.2
section
variable {P : Program} {N : Nat} {ops : Array Oper} {g : Reg}
theorem Mem.sep {H0 H : Heap} {n0 n : Nat} {K ent : List OwnE} {ids : List Id} {w : Id} {ob0 ob1 : Ob} {dc da ds : Bool} (h : Mem H0 n0 K ids ent w ob0 ob1 dc da ds H n) : Sep H n K ids := by
  have := h.1
  have h1 : Sep H n K ((if da then [w] else []) ++ ids) := by
    cases dc
    · simpa using this
    · exact Sep.right (K1 := ent) this
  exact Sep.sub h1 fun i hi => by simp [hi]
/-- An operation that leaves memory as it is. -/
theorem Reg.det {i : Nat} {o : Oper} (hi : ops.toList[i]? = some o) (hm : i < g.m) (hg : o.guard = none) (hne : i ≠ g.c ∧ i ≠ g.a ∧ i ≠ g.st) (hB : ∀ q ∈ g.B, o.dst ≠ some q.1) (hF : ∀ G A, ∀ q ∈ g.F G A, o.dst = some q.2.1 → q.1 = i)
    (hc : i ∈ g.onC → ∃ e ∈ o.after, Region.binds .any e = true ∧ (e.on = g.c ∨ e.on ∈ g.onC)) (ha : i ∈ g.onA → ∃ e ∈ o.after, Region.binds .any e = true ∧ (e.on = g.a ∨ e.on ∈ g.onA))
    (hs : ∀ L ρ H n G A, Old ρ g.B → Told L ρ (g.F G A) → (∀ e ∈ o.after, Region.binds .any e = true → Done L e.on) → (Done L g.c → g.RG G) → (∀ j ∈ g.onC, Done L j → Done L g.c) → (∀ j ∈ g.ids, H j = g.H0 j) → Sep H n g.K g.ids →
      ∃ v, OpSem P N o (loc o.op ρ) H n (isV v H n) ∧ ∀ q ∈ g.F G A, q.1 = i → o.dst = some q.2.1 ∧ q.2.2 = v) : StepI P N ops g.Inv i := by
  rw [Array.getElem?_toList] at hi
  intro L s hI hr
  obtain ⟨hsz, hoc, hoa, G, A, hO, hT, hG, hM⟩ := hI
  obtain ⟨hu, o', ho', hdep⟩ := mem_ready.1 hr
  rw [hi] at ho'
  cases ho'
  refine ⟨o, hi, hg, ?_⟩
  obtain ⟨v, hop, hv⟩ := hs L s.1 s.2.1 s.2.2 G A hO hT (fun e he hb => hdep e he hb) hG hoc hM.2.1 hM.sep
  refine hop.mono ?_
  rintro _ _ _ ⟨rfl, rfl, rfl⟩
  refine ⟨by simpa using hsz, fun j hj hd => ?_, fun j hj hd => ?_, G, A, hO.put hB, hT.put (fun q hq _ _ => hq) (hF G A) hv, fun hd => hG (hd.set.resolve_left (Ne.symm hne.1)), ?_⟩
  · rcases hd.set with rfl | hd
    · obtain ⟨e, he, hb, h1 | h1⟩ := hc hj
      · exact Done.of_set (h1 ▸ hdep e he hb)
      · exact Done.of_set (hoc _ h1 (hdep e he hb))
    · exact Done.of_set (hoc j hj hd)
  · rcases hd.set with rfl | hd
    · obtain ⟨e, he, hb, h1 | h1⟩ := ha hj
      · exact Done.of_set (h1 ▸ hdep e he hb)
      · exact Done.of_set (hoa _ h1 (hdep e he hb))
    · exact Done.of_set (hoa j hj hd)
  · rw [getD_set_ne false hne.1, getD_set_ne false hne.2.1, getD_set_ne false hne.2.2]
    exact hM
/-- The call whose result the caller owns. -/
theorem Reg.call {d : Option Tmp} {fo : Operand} {args : Array Operand} {ats : Array TypeId} {ty : TypeId} {pos : String} {af : Array Edge} (hi : ops.toList[g.c]? = some ⟨d, .call ⟨.value fo, args, ats⟩, ty, pos, af, none⟩) (hm : g.c < g.m) (hne : g.c ≠ g.a ∧ g.c ≠ g.st)
    (hB : ∀ q ∈ g.B, d ≠ some q.1) (hF : ∀ G A, ∀ q ∈ g.F G A, d = some q.2.1 → q.1 = g.c) (hFG : ∀ G G' A, ∀ q ∈ g.F G' A, q.1 ≠ g.c → q.1 ∉ g.onC → q ∈ g.F G A) (hcc : g.c ∉ g.onC) (hca : g.c ∉ g.onA) (hst : g.st ∈ g.onC)
    {R : AVal → Prop} {f' : FuncId} {sh : Sh} (hown : ∃ args', OwnS P f' args' sh R ∧ ∀ L ρ H n G A, Old ρ g.B → Told L ρ (g.F G A) → (∀ e ∈ af, Region.binds .any e = true → Done L e.on) → (∀ j ∈ g.ids, H j = g.H0 j) → Sep H n g.K g.ids → ρ.ev fo = .fn (.func f') [] [] ∧ ArgsOk H n (args.toList.map ρ.ev) args') (hent : Ent P f')
    (hun : ∀ H n v r ids, Sep H n ((sh, v, r) :: g.K) ids → R r → ∃ G, g.RG G ∧ Sep H n (g.ent G ++ g.K) ids ∧ ∀ A, ∀ q ∈ g.F G A, q.1 = g.c → d = some q.2.1 ∧ q.2.2 = v) : StepI P N ops g.Inv g.c := by
  rw [Array.getElem?_toList] at hi
  intro L s hI hr
  obtain ⟨hsz, hoc, hoa, G, A, hO, hT, hG, hM⟩ := hI
  obtain ⟨hu, o', ho', hdep⟩ := mem_ready.1 hr
  rw [hi] at ho'
  cases ho'
  have hnd : ¬ Done L g.c := (not_done (by omega)).2 hu
  have hncd : ∀ j ∈ g.onC, ¬ Done L j := fun j hj hd => hnd (hoc j hj hd)
  refine ⟨_, hi, rfl, ?_⟩
  obtain ⟨args', hO', har⟩ := hown
  obtain ⟨hfo, hargs⟩ := har L s.1 s.2.1 s.2.2 G A hO hT (fun e he hb => hdep e he hb) hM.2.1 hM.sep
  have hcf : L.getD g.c false = false := by simpa [Done] using hnd
  have hsf : L.getD g.st false = false := by simpa [Done] using hncd g.st hst
  obtain ⟨m1, m2, m3, m4⟩ := hM
  rw [hcf, if_neg (by simp), List.nil_append] at m1
  refine (OpSem.callW (by rw [loc_args.2]; exact hfo) hent (by rw [loc_args.1]; exact hargs) hO' m1).mono ?_
  rintro v1 H1 n1 ⟨r, h1, h2, h3, h4⟩
  obtain ⟨G', hRG, hS, hq⟩ := hun _ _ _ _ _ h1 h2
  refine ⟨by simpa using hsz, fun j hj hd => done_self (by omega), fun j hj hd => ?_, G', A, hO.put hB, hT.put (fun q hq h5 h6 => hFG G G' A q hq h5 fun h7 => hncd _ h7 h6) (hF G' A) (hq A), fun _ => hRG, ?_⟩
  · rcases hd.set with rfl | hd
    · exact absurd hj hca
    · exact Done.of_set (hoa j hj hd)
  · rw [show (L.setIfInBounds g.c true).getD g.c false = true from done_self (by omega), getD_set_ne false hne.1, getD_set_ne false hne.2, hsf]
    rw [hsf] at m4
    refine ⟨by simpa using hS, fun i hi' => (h4 i (by simp [hi'])).trans (m2 i hi'), Nat.le_trans m3 h3, fun hda => ⟨(m4 hda).1, ?_⟩⟩
    simp only [hda, if_true] at h4
    exact (h4 (A, g.d) (by simp)).trans (m4 hda).2
/-- The variable is made. -/
theorem Reg.alloc {Ty : Types} (hT' : TypesOk P Ty) {t : TypeId} {ti : TI} {ty : TypeId} {pos : String} {af : Array Edge} (hi : ops.toList[g.a]? = some ⟨some g.d, .alloc t, ty, pos, af, none⟩) (hti : Ty t = some ti) (hob : g.ob0 = ⟨ti.zero.length, [ti.zero.map .v]⟩) (hm : g.a < g.m) (hne : g.a ≠ g.c ∧ g.a ≠ g.st)
    (hB : ∀ q ∈ g.B, g.d ≠ q.1) (hF : ∀ G A, ∀ q ∈ g.F G A, g.d = q.2.1 → q.1 = g.a) (hFA : ∀ G A A', ∀ q ∈ g.F G A', q.1 ≠ g.a → q.1 ∉ g.onA → q ∈ g.F G A) (haa : g.a ∉ g.onA) (hac : g.a ∉ g.onC) (hst : g.st ∈ g.onA)
    (hv : ∀ G A, ∀ q ∈ g.F G A, q.1 = g.a → g.d = q.2.1 ∧ q.2.2 = .ptr (A, g.d) 1 0 0) : StepI P N ops g.Inv g.a := by
  rw [Array.getElem?_toList] at hi
  intro L s hI hr
  obtain ⟨hsz, hoc, hoa, G, A, hO, hT, hG, hM⟩ := hI
  obtain ⟨hu, o', ho', hdep⟩ := mem_ready.1 hr
  rw [hi] at ho'
  cases ho'
  have hnd : ¬ Done L g.a := (not_done (by omega)).2 hu
  have hncd : ∀ j ∈ g.onA, ¬ Done L j := fun j hj hd => hnd (hoa j hj hd)
  refine ⟨_, hi, rfl, ?_⟩
  have haf : L.getD g.a false = false := by simpa [Done] using hnd
  have hsf : L.getD g.st false = false := by simpa [Done] using hncd g.st hst
  obtain ⟨m1, m2, m3, m4⟩ := hM
  rw [haf] at m1
  simp only [Bool.false_eq_true, if_false, List.nil_append] at m1
  refine (step_alloc hT' hti).mono ?_
  rintro _ _ _ ⟨rfl, rfl, rfl⟩
  refine ⟨by simpa using hsz, fun j hj hd => ?_, fun j hj hd => done_self (by omega), G, s.2.2, hO.put (fun q hq e => hB q hq (Option.some.inj e)), hT.put (fun q hq h5 h6 => hFA G A s.2.2 q hq h5 fun h7 => hncd _ h7 h6) (fun q hq e => hF G _ q hq (Option.some.inj e)) (fun q hq e => ⟨congrArg some (hv G _ q hq e).1, (hv G _ q hq e).2⟩), fun hd => hG (hd.set.resolve_left (Ne.symm hne.1)), ?_⟩
  · rcases hd.set with rfl | hd
    · exact absurd hj hac
    · exact Done.of_set (hoc j hj hd)
  · rw [show (L.setIfInBounds g.a true).getD g.a false = true from done_self (by omega), getD_set_ne false hne.1, getD_set_ne false hne.2, hsf]
    refine ⟨?_, fun i hi' => ?_, Nat.le_succ_of_le m3, fun _ => ⟨m3, by simp [Heap.get_set, hob]⟩⟩
    · simpa using Sep.var (d := g.d) (o := ⟨ti.zero.length, [ti.zero.map .v]⟩) m1
    · exact (Heap.get_set_ne _ _ (by rintro rfl; have := m1.1 _ hi'; simp at this)).trans (m2 i hi')
/-- The variable is filled. -/
theorem Reg.store {Ty : Types} (hT' : TypesOk P Ty) {t : TypeId} {x y : Operand} {ty : TypeId} {pos : String} {af : Array Edge} (hi : ops.toList[g.st]? = some ⟨none, .store t x y, ty, pos, af, none⟩) (hm : g.st < g.m) (hne : g.st ≠ g.c ∧ g.st ≠ g.a) (hF : ∀ G A, ∀ q ∈ g.F G A, q.1 ≠ g.st) (hids : ∀ i ∈ g.ids, i.1 < g.n0)
    (hc : ∃ e ∈ af, Region.binds .any e = true ∧ (e.on = g.c ∨ e.on ∈ g.onC)) (ha : ∃ e ∈ af, Region.binds .any e = true ∧ (e.on = g.a ∨ e.on ∈ g.onA))
    (hs : ∀ L ρ H G A, Old ρ g.B → Told L ρ (g.F G A) → (∀ e ∈ af, Region.binds .any e = true → Done L e.on) → g.RG G → H (A, g.d) = some g.ob0 → storeF (Ty t) (ρ.ev x) (cellsA (ρ.ev y)) H = some (H.set (A, g.d) (g.ob1 G))) : StepI P N ops g.Inv g.st := by
  rw [Array.getElem?_toList] at hi
  intro L s hI hr
  obtain ⟨hsz, hoc, hoa, G, A, hO, hT, hG, hM⟩ := hI
  obtain ⟨hu, o', ho', hdep⟩ := mem_ready.1 hr
  rw [hi] at ho'
  cases ho'
  have hnd : ¬ Done L g.st := (not_done (by omega)).2 hu
  have hsf : L.getD g.st false = false := by simpa [Done] using hnd
  have hdc : Done L g.c := by
    obtain ⟨e, he, hb, h1 | h1⟩ := hc
    · exact h1 ▸ hdep e he hb
    · exact hoc _ h1 (hdep e he hb)
  have hda : Done L g.a := by
    obtain ⟨e, he, hb, h1 | h1⟩ := ha
    · exact h1 ▸ hdep e he hb
    · exact hoa _ h1 (hdep e he hb)
  refine ⟨_, hi, rfl, ?_⟩
  obtain ⟨m1, m2, m3, m4⟩ := hM
  rw [hdc, hda] at m1
  simp only [if_true] at m1
  have hw := (m4 hda).2
  rw [hsf] at hw
  simp only [Bool.false_eq_true, if_false] at hw
  have hst := hs L s.1 s.2.1 G A hO hT (fun e he hb => hdep e he hb) (hG hdc) hw
  have hnw : (A, g.d) ∉ g.ids := fun hm' => by have h1 := (m4 hda).1; have h2 := hids _ hm'; simp only at h1 h2; omega
  refine (stepF_ok (P := P) (N := N) (o := ⟨none, .store t x y, ty, pos, af, none⟩) (v := .undef) (H' := s.2.1.set (A, g.d) (g.ob1 G)) (n' := s.2.2) hT' (by rw [stepF_loc]; simp only [stepF, hst])).mono ?_
  rintro _ _ _ ⟨rfl, rfl, rfl⟩
  refine ⟨by simpa using hsz, fun j hj hd => Done.of_set hdc, fun j hj hd => Done.of_set hda, G, A, Old.put (d := none) (v := .undef) hO (fun q hq e => by cases e), Told.put (d := none) (v := .undef) hT (fun q hq _ _ => hq) (fun q hq e => by cases e) (fun q hq e => absurd e (hF G A q hq)), fun hd => hG hdc, ?_⟩
  rw [getD_set_ne false hne.1, getD_set_ne false hne.2, hdc, hda, show (L.setIfInBounds g.st true).getD g.st false = true from done_self (by omega)]
  refine ⟨Sep.setVar (by simpa using m1) (by simp), fun i hi' => ?_, m3, fun _ => ⟨(m4 hda).1, by simp [Heap.get_set]⟩⟩
  exact (Heap.get_set_ne _ _ (by rintro rfl; exact hnw hi')).trans (m2 i hi')
/-- The call, if it gives one value and makes nothing that is told of. -/
theorem Reg.callP {d : Option Tmp} {fo : Operand} {args : Array Operand} {ats : Array TypeId} {ty : TypeId} {pos : String} {af : Array Edge} (hi : ops.toList[g.c]? = some ⟨d, .call ⟨.value fo, args, ats⟩, ty, pos, af, none⟩) (hm : g.c < g.m) (hne : g.c ≠ g.a ∧ g.c ≠ g.st)
    (hB : ∀ q ∈ g.B, d ≠ some q.1) (hF : ∀ G A, ∀ q ∈ g.F G A, d = some q.2.1 → q.1 = g.c) (hca : g.c ∉ g.onA) (he0 : ∀ G, g.ent G = []) (hR : ∀ G, g.RG G)
    (hs : ∀ L ρ H n G A, Old ρ g.B → Told L ρ (g.F G A) → (∀ e ∈ af, Region.binds .any e = true → Done L e.on) → (∀ j ∈ g.ids, H j = g.H0 j) → Sep H n g.K g.ids →
      ∃ v, OpSem P N ⟨d, .call ⟨.value fo, args, ats⟩, ty, pos, af, none⟩ (loc (.call ⟨.value fo, args, ats⟩) ρ) H n (isV v H n) ∧ ∀ q ∈ g.F G A, q.1 = g.c → d = some q.2.1 ∧ q.2.2 = v) : StepI P N ops g.Inv g.c := by
  rw [Array.getElem?_toList] at hi
  intro L s hI hr
  obtain ⟨hsz, hoc, hoa, G, A, hO, hT, hG, hM⟩ := hI
  obtain ⟨hu, o', ho', hdep⟩ := mem_ready.1 hr
  rw [hi] at ho'
  cases ho'
  refine ⟨_, hi, rfl, ?_⟩
  obtain ⟨v, hop, hv⟩ := hs L s.1 s.2.1 s.2.2 G A hO hT (fun e he hb => hdep e he hb) hM.2.1 hM.sep
  refine hop.mono ?_
  rintro _ _ _ ⟨rfl, rfl, rfl⟩
  refine ⟨by simpa using hsz, fun j hj hd => done_self (by omega), fun j hj hd => ?_, G, A, Old.put hO hB, Told.put hT (fun q hq _ _ => hq) (hF G A) hv, fun _ => hR G, ?_⟩
  · rcases hd.set with rfl | hd
    · exact absurd hj hca
    · exact Done.of_set (hoa j hj hd)
  · rw [getD_set_ne false hne.1, getD_set_ne false hne.2]
    obtain ⟨m1, m2, m3, m4⟩ := hM
    refine ⟨?_, m2, m3, m4⟩
    rw [he0] at m1 ⊢
    simpa using m1
theorem StepI.none {Inv : Array Bool → AS → Prop} {i : Nat} (h : ops[i]? = none) : StepI P N ops Inv i := fun L s hI hr => by
  obtain ⟨_, o, ho, _⟩ := mem_ready.1 hr
  rw [h] at ho
  cases ho
theorem done_rep {m j : Nat} : ¬ Done (Array.replicate m false) j := by
  simp only [Done, Array.getD_eq_getD_getElem?, Array.getElem?_replicate]
  split <;> simp
theorem Reg.init {ρ : Env} (hB : Old ρ g.B) (hs : Sep g.H0 g.n0 g.K g.ids) : g.Inv (Array.replicate g.m false) (ρ, g.H0, g.n0) := by
  have hf : ∀ j, (Array.replicate g.m false).getD j false = false := fun j => by simpa [Done] using done_rep (m := g.m) (j := j)
  refine ⟨by simp, fun j _ hd => absurd hd done_rep, fun j _ hd => absurd hd done_rep, [], 0, hB, fun q _ hd => absurd hd done_rep, fun hd => absurd hd done_rep, ?_⟩
  rw [hf, hf, hf]
  exact ⟨by simpa using hs, fun _ _ => rfl, Nat.le_refl _, fun h => by cases h⟩
def acycR (ops : Array Oper) : Bool := (List.range ops.size).all fun i => match ops[i]? with
  | some o => o.after.all fun e => !(Region.binds .any e) || decide (e.on < i)
  | none => true
theorem Reg.fin (ha : acycR ops = true) (hm : ops.size = g.m) (hc : g.c < g.m ∧ g.a < g.m ∧ g.st < g.m) (hF : ∀ G A, ∀ q ∈ g.F G A, q.1 < g.m) {L : Array Bool} {s : AS} (hI : g.Inv L s) (hr : Region.ready .any ops L = []) :
    ∃ (G : List AVal) (A : Nat), Old s.1 g.B ∧ AllF s.1 (g.F G A) ∧ g.RG G ∧ Sep s.2.1 s.2.2 (g.ent G ++ g.K) ((A, g.d) :: g.ids) ∧ (∀ i ∈ g.ids, s.2.1 i = g.H0 i) ∧ g.n0 ≤ s.2.2 ∧ g.n0 ≤ A ∧ s.2.1 (A, g.d) = some (g.ob1 G) := by
  obtain ⟨hsz, hoc, hoa, G, A, hO, hT, hG, hM⟩ := hI
  have all : ∀ (q : Nat) (j : Nat), j ≤ q → j < g.m → Done L j := by
    intro q
    induction q with
    | zero =>
      intro j hj hlt
      refine Classical.byContradiction fun hn => ?_
      have hu := (not_done (by omega)).1 hn
      obtain ⟨o, ho⟩ : ∃ o, ops[j]? = some o := ⟨ops[j]'(by omega), by simp [hm, hlt]⟩
      have hin : j ∈ Region.ready .any ops L := mem_ready.2 ⟨hu, o, ho, fun e he hb => by
        have h1 := List.all_eq_true.1 ha j (List.mem_range.2 (by omega))
        rw [ho] at h1
        have h2 := Array.all_eq_true'.1 h1 e he
        simp only [hb, Bool.not_true, Bool.false_or, decide_eq_true_eq] at h2
        omega⟩
      rw [hr] at hin
      cases hin
    | succ q ih =>
      intro j hj hlt
      refine Classical.byContradiction fun hn => ?_
      have hu := (not_done (by omega)).1 hn
      obtain ⟨o, ho⟩ : ∃ o, ops[j]? = some o := ⟨ops[j]'(by omega), by simp [hm, hlt]⟩
      have hin : j ∈ Region.ready .any ops L := mem_ready.2 ⟨hu, o, ho, fun e he hb => by
        have h1 := List.all_eq_true.1 ha j (List.mem_range.2 (by omega))
        rw [ho] at h1
        have h2 := Array.all_eq_true'.1 h1 e he
        simp only [hb, Bool.not_true, Bool.false_or, decide_eq_true_eq] at h2
        exact ih e.on (by omega) (by omega)⟩
      rw [hr] at hin
      cases hin
  have dc := all _ g.c (Nat.le_refl _) hc.1
  have da := all _ g.a (Nat.le_refl _) hc.2.1
  have ds := all _ g.st (Nat.le_refl _) hc.2.2
  obtain ⟨m1, m2, m3, m4⟩ := hM
  rw [dc, da] at m1
  have h4 := m4 da
  rw [ds] at h4
  refine ⟨G, A, hO, fun q hq => hT q hq (all _ _ (Nat.le_refl _) (hF G A q hq)), hG dc, by simpa using m1, m2, m3, h4.1, by simpa using h4.2⟩
end
/-- The values that the call gives to its caller. -/
def gv (G : List AVal) (i : Nat) : AVal := G.getD i .undef
@[simp] theorem gv_zero (a : AVal) (l : List AVal) : gv (a :: l) 0 = a := rfl
@[simp] theorem gv_succ (a : AVal) (l : List AVal) (i : Nat) : gv (a :: l) (i + 1) = gv l i := by simp [gv]
theorem Old.nil {ρ : Env} : Old ρ [] := fun q hq => by cases hq
theorem Old.cons {ρ : Env} {t : Nat} {v : AVal} {B : List (Nat × AVal)} (h : ρ t = v) (hb : Old ρ B) : Old ρ ((t, v) :: B) := fun q hq => by
  rcases List.mem_cons.1 hq with rfl | hq
  · exact h
  · exact hb q hq
theorem ArgsOk.of_eq {H : Heap} {n : Nat} {l xs args' : List AVal} (h : l = xs) (ha : ArgsOk H n xs args') : ArgsOk H n l args' := h ▸ ha
theorem OpSem.callD2 {P : Program} {N : Nat} {ρ : Env} {H : Heap} {n : Nat} {d : Option Tmp} {g : Operand} {args : Array Operand} {ats : Array TypeId} {ty : TypeId} {pos : String} {af : Array Edge} {gu : Option (Nat × Bool)} {v : AVal} {f : FuncId} {xs args' : List AVal}
    (h : PureC P f args' (fun r => r = v)) (hent : Ent P f) (ha : ArgsOk H n xs args') (hg : ρ.ev g = .fn (.func f) [] []) (has : args.toList.map ρ.ev = xs) :
    OpSem P N ⟨d, .call ⟨.value g, args, ats⟩, ty, pos, af, gu⟩ (loc (.call ⟨.value g, args, ats⟩) ρ) H n (isV v H n) := OpSem.callD hg hent (has ▸ ha) h
end Go.Ab

/- The abstract machine, part Sz: one row of an own array taken apart: its slices lent to functions that turn them, its plain cells written. -/
namespace Go.Ab
set_option linter.unusedSectionVars false
set_option linter.unusedSimpArgs false
theorem rowsP.focus {R : List AVal → List AVal → List Id → Prop} : ∀ {as1 bs : List (List AVal)} {S : List Id} {k : Nat}, rowsP R as1 bs S → k < as1.length →
    ∃ A e B A' f B' S1 T S2, as1 = A ++ e :: B ∧ bs = A' ++ f :: B' ∧ A.length = k ∧ A'.length = k ∧ rowsP R A A' S1 ∧ R e f T ∧ rowsP R B B' S2 ∧ S = S1 ++ (T ++ S2) ∧ (∀ i ∈ S1, i ∉ T ++ S2) ∧ ∀ i ∈ T, i ∉ S2
  | [], _, _, _, _, hk => by simp at hk
  | _ :: _, [], _, _, h, _ => h.elim
  | a :: as1, b :: bs, S, 0, h, _ => by
    obtain ⟨T1, T2, h1, h2, h3, h4⟩ := h
    exact ⟨[], a, as1, [], b, bs, [], T1, T2, rfl, rfl, rfl, rfl, rfl, h1, h2, h3, by simp, h4⟩
  | a :: as1, b :: bs, S, k + 1, h, hk => by
    obtain ⟨T1, T2, h1, h2, rfl, h4⟩ := h
    obtain ⟨A, e, B, A', f, B', S1, T, S2, rfl, rfl, l1, l2, r1, r2, r3, rfl, d1, d2⟩ := rowsP.focus h2 (by simpa using hk)
    refine ⟨a :: A, e, B, b :: A', f, B', T1 ++ S1, T, S2, rfl, rfl, by simp [l1], by simp [l2], ⟨T1, S1, h1, r1, rfl, fun i hi hm => h4 i hi (by simp [hm])⟩, r2, r3, by simp, fun i hi hm => ?_, d2⟩
    rcases List.mem_append.1 hi with hi | hi
    · exact h4 i hi (by simp only [List.mem_append] at hm ⊢; exact .inr hm)
    · exact d1 i hi hm
section
variable {H : Heap} {n : Nat} {K K1 K2 : List OwnE} {ids : List Id} {l : List Sh} {v : AVal} {es : List (List AVal)} {q : Nat}
theorem Sep.unfront {x : OwnE} (h : Sep H n (x :: (K1 ++ K2)) ids) : Sep H n (K1 ++ x :: K2) ids := by
  have h1 : Sep H n (K1 ++ (K2 ++ [x])) ids := by
    have := Sep.swap (K1 := [x]) (K2 := K1 ++ K2) h
    simpa using this
  have h2 : Sep H n (K2 ++ x :: K1) ids := by
    have := Sep.swap h1
    simpa using this
  have h3 : Sep H n ((x :: K2) ++ K1) ids := by
    have := Sep.front h2
    simpa using this
  exact Sep.swap h3
theorem zip3_append : ∀ {l1 l2 : List Sh} {r1 r2 b1 b2 : List AVal}, r1.length = l1.length → b1.length = l1.length → zip3 (l1 ++ l2) (r1 ++ r2) (b1 ++ b2) = zip3 l1 r1 b1 ++ zip3 l2 r2 b2
  | [], _, [], _, [], _, _, _ => rfl
  | t :: l1, l2, a :: r1, r2, b :: b1, b2, h1, h2 => by simp only [List.cons_append, zip3, zip3_append (l1 := l1) (by simpa using h1) (by simpa using h2)]
  | [], _, _ :: _, _, _, _, h, _ => by simp at h
  | [], _, _, _, _ :: _, _, _, h => by simp at h
  | _ :: _, _, [], _, _, _, h, _ => by simp at h
  | _ :: _, _, _, _, [], _, _, h => by simp at h
/-- One row, apart from the others, and how it is laid back. -/
theorem Sep.row {bs : List AVal} (h : Sep H n ((.s l, v, .list true es) :: K) ids) (he : es[q]? = some bs) :
    ∃ id els row W, v = .arr id es.length 0 es.length ∧ H id = some ⟨l.length, els⟩ ∧ els.length = es.length ∧ els[q]? = some row ∧ row.length = l.length ∧ bs.length = l.length ∧ id ∈ W ∧ (∀ i ∈ ids, i ∈ W) ∧ id ∉ ids ∧ Sep H n (zip3 l row bs) W ∧
      ∀ H1 n1 row' bs', Sep H1 n1 (zip3 l row' bs') W → row'.length = l.length → bs'.length = l.length → (∀ i ∈ W, i ≠ id → H1 i = H i) → H1 id = some ⟨l.length, els.set q row'⟩ → n ≤ n1 → Sep H1 n1 ((.s l, v, .list true (es.set q bs')) :: K) ids := by
  obtain ⟨h0, S, h1, h2⟩ := h
  simp only [List.map_cons, Go.Ab.Row, Go.Ab.Tr] at h1
  obtain ⟨S1, S2, h3, h4, rfl, h5⟩ := h1
  have hq : q < es.length := (List.getElem?_eq_some_iff.1 he).1
  rcases h3 with ⟨rfl, hh, rfl⟩ | ⟨id, els, es', T, rfl, hh, q3, q4, q5, rfl⟩
  · injection hh with _ hh
    subst hh
    simp at hq
  · injection hh with _ hh
    subst hh
    have hel := q4.len
    obtain ⟨A, row, B, A', f, B', SA, SR, SB, rfl, rfl, lA, lA', rA, rR, rB, rfl, d1, d2⟩ := rowsP.focus (k := q) q4 (by omega)
    have hf : f = bs := by
      rw [List.getElem?_append_right (by omega), lA', Nat.sub_self] at he
      simpa using he
    subst hf
    have hrl := rR.len
    obtain ⟨z1, z2, z3⟩ := zip3_maps hrl.1 hrl.2
    simp only [List.mem_append, List.mem_cons, not_or] at h2 h5 q5 d1 d2
    refine ⟨id, A ++ row :: B, row, ids ++ (id :: (SA ++ (SB ++ S2))), by simp only [hel], q3, hel, by rw [List.getElem?_append_right (by omega), lA, Nat.sub_self]; rfl, hrl.1, hrl.2, by simp, fun i hi => by simp [hi], (h2 id (.inl (.inl rfl))).2, ?_, ?_⟩
    · refine ⟨fun i hi => ?_, SR, by rw [z1, z2, z3]; exact rR, fun i hi => ⟨(h2 i (.inl (.inr (.inr (.inl hi))))).1, ?_⟩⟩
      · simp only [List.mem_append, List.mem_cons] at hi
        rcases hi with hi | hi | hi | hi | hi
        · exact h0 i hi
        · exact (h2 i (.inl (.inl hi))).1
        · exact (h2 i (.inl (.inr (.inl hi)))).1
        · exact (h2 i (.inl (.inr (.inr (.inr hi))))).1
        · exact (h2 i (.inr hi)).1
      · simp only [List.mem_append, List.mem_cons, not_or]
        refine ⟨(h2 i (.inl (.inr (.inr (.inl hi))))).2, ?_, fun hm => (d1 i hm).1 hi, fun hm => d2 i hi hm, fun hm => h5 i (.inr (.inr (.inl hi))) hm⟩
        rintro rfl
        exact q5.2.1 hi
    · intro H1 n1 row' bs' hs lr lb hfr hid hn
      obtain ⟨y1, y2, y3⟩ := zip3_maps lr lb
      obtain ⟨k0, X, k1, k2⟩ := hs
      rw [y1, y2, y3] at k1
      simp only [List.mem_append, List.mem_cons, not_or] at k2 hfr
      have nid : ∀ i, i ∈ SA ∨ i ∈ SB ∨ i ∈ S2 → i ≠ id := by
        rintro i (hi | hi | hi) rfl
        · exact q5.1 hi
        · exact q5.2.2 hi
        · exact h5 i (.inl rfl) hi
      have fr : ∀ i, i ∈ SA ∨ i ∈ SB ∨ i ∈ S2 → H1 i = H i := fun i hi => hfr i (.inr (.inr hi)) (nid i hi)
      have hrows : rowsP (Row H1 l) (A ++ row' :: B) (A' ++ bs' :: B') (SA ++ (X ++ SB)) := by
        refine rowsP.append (rA.mono fun e f T hr hs => hr.frame fun i hi => fr i (.inl (hs i hi))) ⟨X, SB, k1, rB.mono fun e f T hr hs => hr.frame fun i hi => fr i (.inr (.inl (hs i hi))), rfl, fun i hi hm => (k2 i hi).2.2.2.2.1 hm⟩ (fun i hi hm => ?_)
        rcases List.mem_append.1 hm with hm | hm
        · exact (k2 i hm).2.2.2.1 hi
        · exact (d1 i hi).2 hm
      have hset : (A ++ row :: B).set q row' = A ++ row' :: B := by
        rw [List.set_append_right _ _ (by omega), lA, Nat.sub_self]; rfl
      have hset' : (A' ++ f :: B').set q bs' = A' ++ bs' :: B' := by
        rw [List.set_append_right _ _ (by omega), lA', Nat.sub_self]; rfl
      rw [hset] at hid
      refine ⟨fun i hi => by have := h0 i hi; omega, (id :: (SA ++ (X ++ SB))) ++ S2, ?_, fun i hi => ?_⟩
      · simp only [List.map_cons, Go.Ab.Row, Go.Ab.Tr]
        refine ⟨id :: (SA ++ (X ++ SB)), S2, .inr ⟨id, A ++ row' :: B, A' ++ bs' :: B', SA ++ (X ++ SB), by simp, by rw [hset'], hid, hrows, ?_, rfl⟩, h4.frame fun i hi => fr i (.inr (.inr hi)), rfl, fun i hi hm => ?_⟩
        · simp only [List.mem_append, not_or]
          exact ⟨q5.1, fun hm => (k2 id hm).2.2.1 rfl, q5.2.2⟩
        · simp only [List.mem_cons, List.mem_append] at hi
          rcases hi with rfl | hi | hi | hi
          · exact h5 _ (.inl rfl) hm
          · exact h5 i (.inr (.inl hi)) hm
          · exact (k2 i hi).2.2.2.2.2 hm
          · exact h5 i (.inr (.inr (.inr hi))) hm
      · simp only [List.mem_cons, List.mem_append] at hi
        rcases hi with (rfl | hi | hi | hi) | hi
        · have := h2 _ (.inl (.inl rfl)); exact ⟨by omega, this.2⟩
        · have := h2 i (.inl (.inr (.inl hi))); exact ⟨by omega, this.2⟩
        · exact ⟨(k2 i hi).1, (k2 i hi).2.1⟩
        · have := h2 i (.inl (.inr (.inr (.inr hi)))); exact ⟨by omega, this.2⟩
        · have := h2 i (.inr hi); exact ⟨by omega, this.2⟩
/-- A plain cell of a row written. -/
theorem Sep.setCell {i : TI} {lpre lpost : List Sh} {pre post : List AVal} {a : AVal} {b : Value} (h : Sep H n ((.s (lpre ++ .c :: lpost), v, .list true es) :: K) ids) (he : es[q]? = some (pre ++ a :: post)) (hp : pre.length = lpre.length) (hi : i.size = 1) (hb : Ab.one1 (.v b) = true) :
    ∃ id H', v = .arr id es.length 0 es.length ∧ storeF (some i) (.ptr id es.length q lpre.length) (some [.v b]) H = some H' ∧ Sep H' n ((.s (lpre ++ .c :: lpost), v, .list true (es.set q (pre ++ .v b :: post))) :: K) ids ∧ ∀ i ∈ ids, H' i = H i := by
  obtain ⟨id, els, row, W, h1, h2, h3, h4, h5, h6, h7, h8, h9, h10, h11⟩ := h.row he
  have hq : q < es.length := (List.getElem?_eq_some_iff.1 he).1
  have hoff : lpre.length < row.length := by rw [h5]; simp
  have hw : Ob.write ⟨(lpre ++ .c :: lpost).length, els⟩ q lpre.length [.v b] = ⟨(lpre ++ .c :: lpost).length, els.set q (row.take lpre.length ++ .v b :: row.drop (lpre.length + 1))⟩ := by
    simp [Ob.write, List.getD, h4, splice]
  have hrow : row = row.take lpre.length ++ row[lpre.length] :: row.drop (lpre.length + 1) := by
    rw [List.getElem_cons_drop, List.take_append_drop]
  have hl' : (row.take lpre.length ++ .v b :: row.drop (lpre.length + 1)).length = (lpre ++ .c :: lpost).length := by
    rw [← h5]; simp; omega
  refine ⟨id, H.set id (Ob.write ⟨(lpre ++ .c :: lpost).length, els⟩ q lpre.length [.v b]), h1, ?_, ?_, fun j hj => Heap.get_set_ne _ _ (by rintro rfl; exact h9 hj)⟩
  · simp only [storeF, live, h2, h3, ↓reduceIte]
    rw [if_pos ⟨by simp [hi], by omega, by simp, by simp only [List.all_cons, List.all_nil, hb, Bool.and_true]⟩]
  · refine h11 _ n _ _ ?_ hl' (by simpa using h6) (fun j _ hj => Heap.get_set_ne _ _ hj) (by rw [hw, Heap.get_set_self]) (Nat.le_refl n)
    refine Sep.setVar ?_ h7
    rw [hrow] at h10
    rw [zip3_append (by simp; omega) hp] at h10 ⊢
    simp only [zip3] at h10 ⊢
    have := Sep.front h10
    exact Sep.unfront (Sep.addScalar b (Sep.right (K1 := [_]) this))
theorem Sep.cAt {a : AVal} {b : Value} (h : Sep H n (K1 ++ (.c, a, .v b) :: K2) ids) : a = .v b := (Sep.scalar (Sep.front h)).1
theorem set_same {α : Type} {l : List α} {k : Nat} {x : α} (h : l[k]? = some x) : l.set k x = l := by
  obtain ⟨hk, rfl⟩ := List.getElem?_eq_some_iff.1 h
  exact List.set_getElem_self hk
theorem at_some' {α : Type} [Inhabited α] {f : α → List AVal} {xs : List α} {i : Int} {x : α} {q : Nat} (hb : 0 ≤ i ∧ i < xs.length) (hx : x = at' xs i) (hq : q = i.toNat) : (xs.map f)[q]? = some (f x) := by
  obtain ⟨hlt, hg⟩ := at_get hb hx
  subst hq
  simp [hlt, hg]
/-- One row of a list of data, apart. -/
theorem Sep.rowF {α : Type} [Inhabited α] {f : α → List AVal} {xs : List α} {x : α} {i : Int} (h : Sep H n ((.s l, v, .list true (xs.map f)) :: K) ids) (hb : 0 ≤ i ∧ i < xs.length) (hx : x = at' xs i) (hq : q = i.toNat) :
    ∃ id els row W, v = .arr id xs.length 0 xs.length ∧ H id = some ⟨l.length, els⟩ ∧ els.length = xs.length ∧ els[q]? = some row ∧ row.length = l.length ∧ id ∈ W ∧ (∀ i ∈ ids, i ∈ W) ∧ id ∉ ids ∧ Sep H n (zip3 l row (f x)) W ∧
      ∀ H1 n1 y, Sep H1 n1 (zip3 l row (f y)) W → (f y).length = l.length → (∀ i ∈ W, H1 i = H i) → n ≤ n1 → Sep H1 n1 ((.s l, v, .list true ((xs.set q y).map f)) :: K) ids := by
  obtain ⟨id, els, row, W, h1, h2, h3, h4, h5, h6, h7, h8, h9, h10, h11⟩ := h.row (at_some' hb hx hq)
  refine ⟨id, els, row, W, by simpa using h1, h2, by simpa using h3, h4, h5, h7, h8, h9, h10, fun H1 n1 y k1 k2 k3 k4 => ?_⟩
  rw [List.map_set]
  exact h11 H1 n1 row (f y) k1 h5 k2 (fun i hi _ => k3 i hi) (by rw [k3 id h7, h2, set_same h4]) k4
end
section
variable {P : Program} {f' : FuncId} {N : Nat} {k : List Item} {Q : AVal → Heap → Nat → Prop} {Ty : Types} {ops : Array Oper} {L : List Oper} {ρ : Env} {H : Heap} {n : Nat} {K : List OwnE} {ids : List Id} {l : List Sh} {o : Oper}
variable {α : Type} [Inhabited α] {id : Id} {g q off : Nat} {ix : Int} {i : TI} {b : Value} {xs : List α} {f : α → List AVal} {x y : α}
theorem cell_store (lpre lpost : List Sh) (pre post : List AVal) {a : AVal} (h : Sep H n ((.s l, .arr id g 0 g, .list true (xs.map f)) :: K) ids) (hl : l = lpre ++ .c :: lpost) (hi : i.size = 1) (hb : 0 ≤ ix ∧ ix < xs.length) (hx : x = at' xs ix) (hq : q = ix.toNat) (hg : g = xs.length)
    (hf : f x = pre ++ a :: post) (hy : f y = pre ++ .v b :: post) (hp : pre.length = lpre.length) (ho : off = lpre.length) (h1 : Ab.one1 (.v b) = true) :
    ∃ H', storeF (some i) (.ptr id g q off) (some [.v b]) H = some H' ∧ Sep H' n ((.s l, .arr id g 0 g, .list true ((xs.set q y).map f)) :: K) ids ∧ ∀ i ∈ ids, H' i = H i := by
  subst hl ho
  obtain ⟨id', H', e, h2, h3, h4⟩ := Sep.setCell (i := i) (b := b) h ((at_some' hb hx hq).trans (congrArg some hf)) hp hi h1
  injection e with e1 e2 e3 e4
  subst e1
  rw [List.length_map] at h2
  subst hg
  refine ⟨H', h2, ?_, h4⟩
  rw [List.map_set, hy]
  exact h3
theorem bind_cell (lpre lpost : List Sh) (pre post : List AVal) {a : AVal} (h : Sep H n ((.s l, .arr id g 0 g, .list true (xs.map f)) :: K) ids) (hl : l = lpre ++ .c :: lpost) (hi : i.size = 1) (hb : 0 ≤ ix ∧ ix < xs.length) (hx : x = at' xs ix) (hq : q = ix.toNat) (hg : g = xs.length)
    (hf : f x = pre ++ a :: post) (hy : f y = pre ++ .v b :: post) (hp : pre.length = lpre.length) (ho : off = lpre.length) (h1 : Ab.one1 (.v b) = true)
    (hc : ∀ H', Sep H' n ((.s l, .arr id g 0 g, .list true ((xs.set q y).map f)) :: K) ids → (∀ i ∈ ids, H' i = H i) → evalK P f' N k Q Ty ops L (ρ.put o.dst .undef) H' n) :
    bindE P f' N k Q Ty ops (match storeF (some i) (.ptr id g q off) (some [.v b]) H with | some H' => some (AVal.undef, H', n) | none => none) o L ρ H n := by
  obtain ⟨H', e, h2, h3⟩ := cell_store (i := i) (b := b) (y := y) lpre lpost pre post h hl hi hb hx hq hg hf hy hp ho h1
  rw [e]
  exact (bindE_some (v := AVal.undef) (H' := H') (n' := n)).symm ▸ hc H' h2 h3
theorem bindD_cell {κ : Op → Nat} (lpre lpost : List Sh) (pre post : List AVal) {a : AVal} (h : Sep H n ((.s l, .arr id g 0 g, .list true (xs.map f)) :: K) ids) (hl : l = lpre ++ .c :: lpost) (hi : i.size = 1) (hb : 0 ≤ ix ∧ ix < xs.length) (hx : x = at' xs ix) (hq : q = ix.toNat) (hg : g = xs.length)
    (hf : f x = pre ++ a :: post) (hy : f y = pre ++ .v b :: post) (hp : pre.length = lpre.length) (ho : off = lpre.length) (h1 : Ab.one1 (.v b) = true)
    (hc : ∀ H', Sep H' n ((.s l, .arr id g 0 g, .list true ((xs.set q y).map f)) :: K) ids → (∀ i ∈ ids, H' i = H i) → evalD P f' N k Q Ty κ ops L (ρ.put o.dst .undef) H' n) :
    bindD P f' N k Q Ty κ ops (match storeF (some i) (.ptr id g q off) (some [.v b]) H with | some H' => some (AVal.undef, H', n) | none => none) o L ρ H n := by
  obtain ⟨H', e, h2, h3⟩ := cell_store (i := i) (b := b) (y := y) lpre lpost pre post h hl hi hb hx hq hg hf hy hp ho h1
  rw [e]
  exact (bindD_some (v := AVal.undef) (H' := H') (n' := n)).symm ▸ hc H' h2 h3
end
end Go.Ab
