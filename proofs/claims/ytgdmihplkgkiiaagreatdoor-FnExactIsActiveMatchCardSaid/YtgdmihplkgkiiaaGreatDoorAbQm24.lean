/- Merged texts (4 of 15) of the proof that ends in M2y: Ty X P So Sv Sw Sx Sy. -/
import Derived.Test.YtgdmihplkgkiiaaGreatDoorAbQm23
import Derived.Test.YtgdmihplkgkiiaaGreatDoorProg
import Derived.KernelRfl
import Derived.Shelf.Sort.Plain
/- The seat's types: what the model's table says of each, as plain data. By program. -/
namespace Go.Ab
open Go.Proofs

theorem TyOk.of {P : Program} {t : TypeId} {s b : Nat} {z : List Value} (h : (P.underlying t).isSome = true) (h2 : (P.info? t).map (fun i => (i.size, i.bytes, i.zero.map Value.cells)) = some (s, b, some z.toArray)) : TyOk P t ⟨(P.underlying t).getD .invalid, s, b, z⟩ := by
  refine ⟨?_, ?_⟩
  · cases hu : P.underlying t with
    | none => simp [hu] at h
    | some d => rfl
  cases hi : P.info? t with
  | none => simp [hi] at h2
  | some info =>
    simp only [hi, Option.map_some, Option.some.injEq, Prod.mk.injEq, Option.map_eq_some_iff] at h2
    obtain ⟨h3, h4, zv, h5, h6⟩ := h2
    exact ⟨info, zv, rfl, h3, h4, h5, h6⟩

noncomputable def ty1 : TI := ⟨(Tryz.prog.underlying 1).getD .invalid, 1, 8, [.nilFunc]⟩
noncomputable def ty2 : TI := ⟨(Tryz.prog.underlying 2).getD .invalid, 1, 8, [.int .i64 0]⟩
noncomputable def ty3 : TI := ⟨(Tryz.prog.underlying 3).getD .invalid, 1, 8, [.int .i64 0]⟩
noncomputable def ty4 : TI := ⟨(Tryz.prog.underlying 4).getD .invalid, 1, 1, [.bool false]⟩
noncomputable def ty5 : TI := ⟨(Tryz.prog.underlying 5).getD .invalid, 1, 1, [.int .u8 0]⟩
noncomputable def ty6 : TI := ⟨(Tryz.prog.underlying 6).getD .invalid, 1, 1, [.int .u8 0]⟩
noncomputable def ty7 : TI := ⟨(Tryz.prog.underlying 7).getD .invalid, 4, 24, [.int .i64 0, .int .i64 0, .bool false, .int .u8 0]⟩
noncomputable def ty9 : TI := ⟨(Tryz.prog.underlying 9).getD .invalid, 1, 16, [.string ⟨#[]⟩]⟩
noncomputable def ty12 : TI := ⟨(Tryz.prog.underlying 12).getD .invalid, 1, 8, [.int .u64 0]⟩
noncomputable def ty13 : TI := ⟨(Tryz.prog.underlying 13).getD .invalid, 2, 24, [.string ⟨#[]⟩, .int .u64 0]⟩
noncomputable def ty15 : TI := ⟨(Tryz.prog.underlying 15).getD .invalid, 1, 8, [.pointer none]⟩
noncomputable def ty16 : TI := ⟨(Tryz.prog.underlying 16).getD .invalid, 1, 8, [.pointer none]⟩
noncomputable def ty17 : TI := ⟨(Tryz.prog.underlying 17).getD .invalid, 1, 8, [.pointer none]⟩
noncomputable def ty18 : TI := ⟨(Tryz.prog.underlying 18).getD .invalid, 1, 8, [.pointer none]⟩
noncomputable def ty19 : TI := ⟨(Tryz.prog.underlying 19).getD .invalid, 1, 8, [.pointer none]⟩
noncomputable def ty20 : TI := ⟨(Tryz.prog.underlying 20).getD .invalid, 1, 16, [.nilIface]⟩
noncomputable def ty21 : TI := ⟨(Tryz.prog.underlying 21).getD .invalid, 1, 4, [.int .i32 0]⟩
noncomputable def ty22 : TI := ⟨(Tryz.prog.underlying 22).getD .invalid, 1, 24, [.slice none 0 0]⟩
noncomputable def ty23 : TI := ⟨(Tryz.prog.underlying 23).getD .invalid, 1, 24, [.slice none 0 0]⟩
noncomputable def ty24 : TI := ⟨(Tryz.prog.underlying 24).getD .invalid, 1, 24, [.slice none 0 0]⟩
noncomputable def ty25 : TI := ⟨(Tryz.prog.underlying 25).getD .invalid, 1, 24, [.slice none 0 0]⟩
noncomputable def ty26 : TI := ⟨(Tryz.prog.underlying 26).getD .invalid, 1, 24, [.slice none 0 0]⟩
noncomputable def ty27 : TI := ⟨(Tryz.prog.underlying 27).getD .invalid, 6, 112, [.int .i64 0, .slice none 0 0, .slice none 0 0, .int .i64 0, .slice none 0 0, .slice none 0 0]⟩
noncomputable def ty28 : TI := ⟨(Tryz.prog.underlying 28).getD .invalid, 6, 112, [.int .i64 0, .slice none 0 0, .slice none 0 0, .int .i64 0, .slice none 0 0, .slice none 0 0]⟩
noncomputable def ty29 : TI := ⟨(Tryz.prog.underlying 29).getD .invalid, 2, 48, [.slice none 0 0, .slice none 0 0]⟩
noncomputable def ty30 : TI := ⟨(Tryz.prog.underlying 30).getD .invalid, 2, 48, [.slice none 0 0, .slice none 0 0]⟩
noncomputable def ty31 : TI := ⟨(Tryz.prog.underlying 31).getD .invalid, 1, 8, [.nilFunc]⟩
noncomputable def ty32 : TI := ⟨(Tryz.prog.underlying 32).getD .invalid, 1, 8, [.nilFunc]⟩
noncomputable def ty33 : TI := ⟨(Tryz.prog.underlying 33).getD .invalid, 1, 8, [.nilFunc]⟩
noncomputable def ty35 : TI := ⟨(Tryz.prog.underlying 35).getD .invalid, 1, 8, [.nilFunc]⟩
noncomputable def ty36 : TI := ⟨(Tryz.prog.underlying 36).getD .invalid, 1, 24, [.slice none 0 0]⟩
noncomputable def ty37 : TI := ⟨(Tryz.prog.underlying 37).getD .invalid, 1, 8, [.nilFunc]⟩
noncomputable def ty38 : TI := ⟨(Tryz.prog.underlying 38).getD .invalid, 1, 24, [.slice none 0 0]⟩
noncomputable def ty39 : TI := ⟨(Tryz.prog.underlying 39).getD .invalid, 1, 24, [.slice none 0 0]⟩
noncomputable def ty40 : TI := ⟨(Tryz.prog.underlying 40).getD .invalid, 6, 112, [.int .i64 0, .slice none 0 0, .slice none 0 0, .int .i64 0, .slice none 0 0, .slice none 0 0]⟩
noncomputable def ty41 : TI := ⟨(Tryz.prog.underlying 41).getD .invalid, 6, 112, [.int .i64 0, .slice none 0 0, .slice none 0 0, .int .i64 0, .slice none 0 0, .slice none 0 0]⟩
noncomputable def ty42 : TI := ⟨(Tryz.prog.underlying 42).getD .invalid, 1, 8, [.nilFunc]⟩
noncomputable def ty43 : TI := ⟨(Tryz.prog.underlying 43).getD .invalid, 2, 48, [.slice none 0 0, .slice none 0 0]⟩
noncomputable def ty44 : TI := ⟨(Tryz.prog.underlying 44).getD .invalid, 1, 8, [.nilFunc]⟩
noncomputable def ty45 : TI := ⟨(Tryz.prog.underlying 45).getD .invalid, 1, 8, [.nilFunc]⟩
noncomputable def ty46 : TI := ⟨(Tryz.prog.underlying 46).getD .invalid, 1, 8, [.nilFunc]⟩
noncomputable def ty47 : TI := ⟨(Tryz.prog.underlying 47).getD .invalid, 1, 8, [.nilFunc]⟩
noncomputable def ty48 : TI := ⟨(Tryz.prog.underlying 48).getD .invalid, 1, 8, [.nilFunc]⟩
noncomputable def ty50 : TI := ⟨(Tryz.prog.underlying 50).getD .invalid, 1, 8, [.nilFunc]⟩
noncomputable def ty51 : TI := ⟨(Tryz.prog.underlying 51).getD .invalid, 1, 8, [.nilFunc]⟩
noncomputable def ty52 : TI := ⟨(Tryz.prog.underlying 52).getD .invalid, 1, 8, [.nilFunc]⟩
noncomputable def ty53 : TI := ⟨(Tryz.prog.underlying 53).getD .invalid, 1, 8, [.nilFunc]⟩
noncomputable def ty54 : TI := ⟨(Tryz.prog.underlying 54).getD .invalid, 1, 8, [.nilFunc]⟩
noncomputable def ty55 : TI := ⟨(Tryz.prog.underlying 55).getD .invalid, 1, 8, [.nilFunc]⟩
noncomputable def ty56 : TI := ⟨(Tryz.prog.underlying 56).getD .invalid, 1, 8, [.nilFunc]⟩
noncomputable def ty57 : TI := ⟨(Tryz.prog.underlying 57).getD .invalid, 3, 32, [.string ⟨#[]⟩, .int .i64 0, .int .i64 0]⟩
noncomputable def ty58 : TI := ⟨(Tryz.prog.underlying 58).getD .invalid, 3, 32, [.string ⟨#[]⟩, .int .i64 0, .int .i64 0]⟩
noncomputable def ty59 : TI := ⟨(Tryz.prog.underlying 59).getD .invalid, 1, 8, [.nilFunc]⟩
noncomputable def ty60 : TI := ⟨(Tryz.prog.underlying 60).getD .invalid, 1, 8, [.nilFunc]⟩
noncomputable def ty61 : TI := ⟨(Tryz.prog.underlying 61).getD .invalid, 1, 8, [.nilFunc]⟩
noncomputable def ty62 : TI := ⟨(Tryz.prog.underlying 62).getD .invalid, 1, 8, [.nilFunc]⟩
noncomputable def ty63 : TI := ⟨(Tryz.prog.underlying 63).getD .invalid, 1, 8, [.nilFunc]⟩
noncomputable def ty64 : TI := ⟨(Tryz.prog.underlying 64).getD .invalid, 3, 32, [.string ⟨#[]⟩, .int .i64 0, .int .i64 0]⟩
noncomputable def ty65 : TI := ⟨(Tryz.prog.underlying 65).getD .invalid, 1, 8, [.nilFunc]⟩
noncomputable def ty66 : TI := ⟨(Tryz.prog.underlying 66).getD .invalid, 1, 8, [.nilFunc]⟩
noncomputable def ty67 : TI := ⟨(Tryz.prog.underlying 67).getD .invalid, 1, 8, [.nilFunc]⟩
noncomputable def ty68 : TI := ⟨(Tryz.prog.underlying 68).getD .invalid, 1, 8, [.nilFunc]⟩
noncomputable def ty69 : TI := ⟨(Tryz.prog.underlying 69).getD .invalid, 1, 8, [.nilFunc]⟩
noncomputable def ty70 : TI := ⟨(Tryz.prog.underlying 70).getD .invalid, 1, 8, [.nilFunc]⟩
noncomputable def ty71 : TI := ⟨(Tryz.prog.underlying 71).getD .invalid, 1, 8, [.nilFunc]⟩
noncomputable def ty72 : TI := ⟨(Tryz.prog.underlying 72).getD .invalid, 1, 8, [.nilFunc]⟩
noncomputable def ty73 : TI := ⟨(Tryz.prog.underlying 73).getD .invalid, 1, 8, [.nilFunc]⟩
noncomputable def ty74 : TI := ⟨(Tryz.prog.underlying 74).getD .invalid, 1, 8, [.nilFunc]⟩
noncomputable def ty75 : TI := ⟨(Tryz.prog.underlying 75).getD .invalid, 1, 8, [.nilFunc]⟩
noncomputable def ty76 : TI := ⟨(Tryz.prog.underlying 76).getD .invalid, 1, 8, [.nilFunc]⟩
noncomputable def ty77 : TI := ⟨(Tryz.prog.underlying 77).getD .invalid, 1, 8, [.nilFunc]⟩
noncomputable def ty78 : TI := ⟨(Tryz.prog.underlying 78).getD .invalid, 1, 8, [.nilFunc]⟩
noncomputable def ty79 : TI := ⟨(Tryz.prog.underlying 79).getD .invalid, 1, 8, [.nilFunc]⟩
noncomputable def ty80 : TI := ⟨(Tryz.prog.underlying 80).getD .invalid, 1, 8, [.nilFunc]⟩
noncomputable def ty81 : TI := ⟨(Tryz.prog.underlying 81).getD .invalid, 1, 8, [.nilFunc]⟩
noncomputable def ty82 : TI := ⟨(Tryz.prog.underlying 82).getD .invalid, 3, 40, [.int .i64 0, .int .i64 0, .slice none 0 0]⟩
noncomputable def ty83 : TI := ⟨(Tryz.prog.underlying 83).getD .invalid, 3, 40, [.int .i64 0, .int .i64 0, .slice none 0 0]⟩
noncomputable def ty84 : TI := ⟨(Tryz.prog.underlying 84).getD .invalid, 1, 8, [.nilFunc]⟩
noncomputable def ty85 : TI := ⟨(Tryz.prog.underlying 85).getD .invalid, 2, 24, [.string ⟨#[]⟩, .int .i64 0]⟩
noncomputable def ty86 : TI := ⟨(Tryz.prog.underlying 86).getD .invalid, 2, 24, [.string ⟨#[]⟩, .int .i64 0]⟩
noncomputable def ty87 : TI := ⟨(Tryz.prog.underlying 87).getD .invalid, 1, 8, [.nilFunc]⟩
noncomputable def ty88 : TI := ⟨(Tryz.prog.underlying 88).getD .invalid, 1, 8, [.nilFunc]⟩
noncomputable def ty89 : TI := ⟨(Tryz.prog.underlying 89).getD .invalid, 3, 40, [.int .i64 0, .int .i64 0, .slice none 0 0]⟩
noncomputable def ty90 : TI := ⟨(Tryz.prog.underlying 90).getD .invalid, 1, 8, [.nilFunc]⟩
noncomputable def ty91 : TI := ⟨(Tryz.prog.underlying 91).getD .invalid, 2, 24, [.string ⟨#[]⟩, .int .i64 0]⟩
noncomputable def ty92 : TI := ⟨(Tryz.prog.underlying 92).getD .invalid, 1, 8, [.nilFunc]⟩
noncomputable def ty93 : TI := ⟨(Tryz.prog.underlying 93).getD .invalid, 1, 8, [.nilFunc]⟩
noncomputable def ty94 : TI := ⟨(Tryz.prog.underlying 94).getD .invalid, 1, 8, [.nilFunc]⟩
noncomputable def ty95 : TI := ⟨(Tryz.prog.underlying 95).getD .invalid, 1, 8, [.nilFunc]⟩
noncomputable def ty96 : TI := ⟨(Tryz.prog.underlying 96).getD .invalid, 1, 8, [.nilFunc]⟩
noncomputable def ty97 : TI := ⟨(Tryz.prog.underlying 97).getD .invalid, 1, 8, [.nilFunc]⟩
noncomputable def ty98 : TI := ⟨(Tryz.prog.underlying 98).getD .invalid, 1, 8, [.nilFunc]⟩
noncomputable def ty99 : TI := ⟨(Tryz.prog.underlying 99).getD .invalid, 1, 8, [.nilFunc]⟩
noncomputable def ty100 : TI := ⟨(Tryz.prog.underlying 100).getD .invalid, 1, 8, [.nilFunc]⟩
noncomputable def ty101 : TI := ⟨(Tryz.prog.underlying 101).getD .invalid, 1, 8, [.nilFunc]⟩
noncomputable def ty103 : TI := ⟨(Tryz.prog.underlying 103).getD .invalid, 1, 8, [.nilFunc]⟩
noncomputable def ty104 : TI := ⟨(Tryz.prog.underlying 104).getD .invalid, 1, 8, [.nilFunc]⟩
noncomputable def ty105 : TI := ⟨(Tryz.prog.underlying 105).getD .invalid, 1, 24, [.slice none 0 0]⟩
noncomputable def ty107 : TI := ⟨(Tryz.prog.underlying 107).getD .invalid, 1, 8, [.nilFunc]⟩
noncomputable def ty108 : TI := ⟨(Tryz.prog.underlying 108).getD .invalid, 1, 24, [.slice none 0 0]⟩
noncomputable def ty109 : TI := ⟨(Tryz.prog.underlying 109).getD .invalid, 1, 8, [.nilFunc]⟩
noncomputable def ty110 : TI := ⟨(Tryz.prog.underlying 110).getD .invalid, 1, 8, [.nilFunc]⟩
noncomputable def ty111 : TI := ⟨(Tryz.prog.underlying 111).getD .invalid, 1, 8, [.nilFunc]⟩
noncomputable def ty112 : TI := ⟨(Tryz.prog.underlying 112).getD .invalid, 1, 8, [.nilFunc]⟩
noncomputable def ty113 : TI := ⟨(Tryz.prog.underlying 113).getD .invalid, 1, 8, [.nilFunc]⟩
noncomputable def ty114 : TI := ⟨(Tryz.prog.underlying 114).getD .invalid, 1, 8, [.nilFunc]⟩
noncomputable def ty115 : TI := ⟨(Tryz.prog.underlying 115).getD .invalid, 1, 8, [.nilFunc]⟩
noncomputable def ty116 : TI := ⟨(Tryz.prog.underlying 116).getD .invalid, 1, 8, [.nilFunc]⟩
noncomputable def ty117 : TI := ⟨(Tryz.prog.underlying 117).getD .invalid, 1, 8, [.nilFunc]⟩
noncomputable def ty119 : TI := ⟨(Tryz.prog.underlying 119).getD .invalid, 1, 8, [.nilFunc]⟩
noncomputable def ty120 : TI := ⟨(Tryz.prog.underlying 120).getD .invalid, 1, 8, [.nilFunc]⟩
noncomputable def ty121 : TI := ⟨(Tryz.prog.underlying 121).getD .invalid, 1, 8, [.nilFunc]⟩
noncomputable def ty122 : TI := ⟨(Tryz.prog.underlying 122).getD .invalid, 1, 8, [.nilFunc]⟩
noncomputable def ty123 : TI := ⟨(Tryz.prog.underlying 123).getD .invalid, 2, 16, [.int .i64 0, .int .i64 0]⟩
noncomputable def ty124 : TI := ⟨(Tryz.prog.underlying 124).getD .invalid, 1, 8, [.int .u64 0]⟩
noncomputable def ty126 : TI := ⟨(Tryz.prog.underlying 126).getD .invalid, 1, 8, [.nilFunc]⟩
noncomputable def ty127 : TI := ⟨(Tryz.prog.underlying 127).getD .invalid, 1, 8, [.nilFunc]⟩
noncomputable def ty128 : TI := ⟨(Tryz.prog.underlying 128).getD .invalid, 1, 8, [.nilFunc]⟩
noncomputable def ty129 : TI := ⟨(Tryz.prog.underlying 129).getD .invalid, 1, 8, [.nilFunc]⟩
noncomputable def ty130 : TI := ⟨(Tryz.prog.underlying 130).getD .invalid, 1, 8, [.nilFunc]⟩
noncomputable def ty131 : TI := ⟨(Tryz.prog.underlying 131).getD .invalid, 1, 8, [.nilFunc]⟩
noncomputable def ty132 : TI := ⟨(Tryz.prog.underlying 132).getD .invalid, 1, 8, [.nilFunc]⟩
noncomputable def ty133 : TI := ⟨(Tryz.prog.underlying 133).getD .invalid, 1, 4, [.int .u32 0]⟩
noncomputable def ty135 : TI := ⟨(Tryz.prog.underlying 135).getD .invalid, 1, 8, [.nilFunc]⟩
noncomputable def ty136 : TI := ⟨(Tryz.prog.underlying 136).getD .invalid, 1, 8, [.int .u64 0]⟩
noncomputable def ty138 : TI := ⟨(Tryz.prog.underlying 138).getD .invalid, 1, 8, [.nilFunc]⟩
noncomputable def ty139 : TI := ⟨(Tryz.prog.underlying 139).getD .invalid, 1, 8, [.nilFunc]⟩
noncomputable def ty140 : TI := ⟨(Tryz.prog.underlying 140).getD .invalid, 1, 8, [.nilFunc]⟩
noncomputable def ty141 : TI := ⟨(Tryz.prog.underlying 141).getD .invalid, 1, 8, [.nilFunc]⟩
noncomputable def ty142 : TI := ⟨(Tryz.prog.underlying 142).getD .invalid, 1, 8, [.nilFunc]⟩
noncomputable def ty146 : TI := ⟨(Tryz.prog.underlying 146).getD .invalid, 1, 8, [.nilFunc]⟩
noncomputable def ty147 : TI := ⟨(Tryz.prog.underlying 147).getD .invalid, 1, 8, [.nilFunc]⟩
noncomputable def ty148 : TI := ⟨(Tryz.prog.underlying 148).getD .invalid, 1, 8, [.pointer none]⟩
noncomputable def ty149 : TI := ⟨(Tryz.prog.underlying 149).getD .invalid, 1, 8, [.nilFunc]⟩
noncomputable def ty151 : TI := ⟨(Tryz.prog.underlying 151).getD .invalid, 1, 8, [.nilFunc]⟩
noncomputable def ty152 : TI := ⟨(Tryz.prog.underlying 152).getD .invalid, 1, 8, [.nilFunc]⟩
noncomputable def ty153 : TI := ⟨(Tryz.prog.underlying 153).getD .invalid, 1, 8, [.nilFunc]⟩
noncomputable def ty155 : TI := ⟨(Tryz.prog.underlying 155).getD .invalid, 2, 2, [.int .u8 0, .int .u8 0]⟩
noncomputable def ty156 : TI := ⟨(Tryz.prog.underlying 156).getD .invalid, 2, 2, [.int .u8 0, .int .u8 0]⟩
noncomputable def ty157 : TI := ⟨(Tryz.prog.underlying 157).getD .invalid, 32, 32, [.int .u8 0, .int .u8 0, .int .u8 0, .int .u8 0, .int .u8 0, .int .u8 0, .int .u8 0, .int .u8 0, .int .u8 0, .int .u8 0, .int .u8 0, .int .u8 0, .int .u8 0, .int .u8 0, .int .u8 0, .int .u8 0, .int .u8 0, .int .u8 0, .int .u8 0, .int .u8 0, .int .u8 0, .int .u8 0, .int .u8 0, .int .u8 0, .int .u8 0, .int .u8 0, .int .u8 0, .int .u8 0, .int .u8 0, .int .u8 0, .int .u8 0, .int .u8 0]⟩
noncomputable def ty158 : TI := ⟨(Tryz.prog.underlying 158).getD .invalid, 1, 8, [.nilFunc]⟩
noncomputable def ty159 : TI := ⟨(Tryz.prog.underlying 159).getD .invalid, 1, 8, [.nilFunc]⟩
noncomputable def ty160 : TI := ⟨(Tryz.prog.underlying 160).getD .invalid, 1, 8, [.nilFunc]⟩
noncomputable def ty161 : TI := ⟨(Tryz.prog.underlying 161).getD .invalid, 1, 8, [.nilFunc]⟩
noncomputable def ty162 : TI := ⟨(Tryz.prog.underlying 162).getD .invalid, 1, 8, [.nilFunc]⟩
noncomputable def ty163 : TI := ⟨(Tryz.prog.underlying 163).getD .invalid, 4, 40, [.pointer none, .pointer none, .pointer none, .string ⟨#[]⟩]⟩
noncomputable def ty165 : TI := ⟨(Tryz.prog.underlying 165).getD .invalid, 0, 0, []⟩
noncomputable def ty166 : TI := ⟨(Tryz.prog.underlying 166).getD .invalid, 0, 0, []⟩
noncomputable def ty168 : TI := ⟨(Tryz.prog.underlying 168).getD .invalid, 1, 8, [.nilFunc]⟩
noncomputable def ty169 : TI := ⟨(Tryz.prog.underlying 169).getD .invalid, 1, 1, [.int .u8 0]⟩
noncomputable def ty170 : TI := ⟨(Tryz.prog.underlying 170).getD .invalid, 1, 1, [.int .u8 0]⟩
noncomputable def ty171 : TI := ⟨(Tryz.prog.underlying 171).getD .invalid, 1, 8, [.nilFunc]⟩
noncomputable def ty172 : TI := ⟨(Tryz.prog.underlying 172).getD .invalid, 1, 8, [.pointer none]⟩
noncomputable def ty173 : TI := ⟨(Tryz.prog.underlying 173).getD .invalid, 1, 4, [.int .i32 0]⟩
noncomputable def ty174 : TI := ⟨(Tryz.prog.underlying 174).getD .invalid, 1, 4, [.int .i32 0]⟩
noncomputable def ty175 : TI := ⟨(Tryz.prog.underlying 175).getD .invalid, 11, 48, [.int .u64 0, .int .u64 0, .int .u32 0, .int .u8 0, .int .u8 0, .int .u8 0, .int .u8 0, .nilFunc, .pointer none, .int .i32 0, .int .i32 0]⟩
noncomputable def ty176 : TI := ⟨(Tryz.prog.underlying 176).getD .invalid, 11, 48, [.int .u64 0, .int .u64 0, .int .u32 0, .int .u8 0, .int .u8 0, .int .u8 0, .int .u8 0, .nilFunc, .pointer none, .int .i32 0, .int .i32 0]⟩
noncomputable def ty177 : TI := ⟨(Tryz.prog.underlying 177).getD .invalid, 1, 8, [.pointer none]⟩
noncomputable def tyL : List (Nat × TI) := [(1, ty1), (2, ty2), (3, ty3), (4, ty4), (5, ty5), (6, ty6), (7, ty7), (9, ty9), (12, ty12), (13, ty13), (15, ty15), (16, ty16), (17, ty17), (18, ty18), (19, ty19), (20, ty20), (21, ty21), (22, ty22), (23, ty23), (24, ty24), (25, ty25), (26, ty26), (27, ty27), (28, ty28), (29, ty29), (30, ty30), (31, ty31), (32, ty32), (33, ty33), (35, ty35), (36, ty36), (37, ty37), (38, ty38), (39, ty39), (40, ty40), (41, ty41), (42, ty42), (43, ty43), (44, ty44), (45, ty45), (46, ty46), (47, ty47), (48, ty48), (50, ty50), (51, ty51), (52, ty52), (53, ty53), (54, ty54), (55, ty55), (56, ty56), (57, ty57), (58, ty58), (59, ty59), (60, ty60), (61, ty61), (62, ty62), (63, ty63), (64, ty64), (65, ty65), (66, ty66), (67, ty67), (68, ty68), (69, ty69), (70, ty70), (71, ty71), (72, ty72), (73, ty73), (74, ty74), (75, ty75), (76, ty76), (77, ty77), (78, ty78), (79, ty79), (80, ty80), (81, ty81), (82, ty82), (83, ty83), (84, ty84), (85, ty85), (86, ty86), (87, ty87), (88, ty88), (89, ty89), (90, ty90), (91, ty91), (92, ty92), (93, ty93), (94, ty94), (95, ty95), (96, ty96), (97, ty97), (98, ty98), (99, ty99), (100, ty100), (101, ty101), (103, ty103), (104, ty104), (105, ty105), (107, ty107), (108, ty108), (109, ty109), (110, ty110), (111, ty111), (112, ty112), (113, ty113), (114, ty114), (115, ty115), (116, ty116), (117, ty117), (119, ty119), (120, ty120), (121, ty121), (122, ty122), (123, ty123), (124, ty124), (126, ty126), (127, ty127), (128, ty128), (129, ty129), (130, ty130), (131, ty131), (132, ty132), (133, ty133), (135, ty135), (136, ty136), (138, ty138), (139, ty139), (140, ty140), (141, ty141), (142, ty142), (146, ty146), (147, ty147), (148, ty148), (149, ty149), (151, ty151), (152, ty152), (153, ty153), (155, ty155), (156, ty156), (157, ty157), (158, ty158), (159, ty159), (160, ty160), (161, ty161), (162, ty162), (163, ty163), (165, ty165), (166, ty166), (168, ty168), (169, ty169), (170, ty170), (171, ty171), (172, ty172), (173, ty173), (174, ty174), (175, ty175), (176, ty176), (177, ty177)]
noncomputable def Ty : Types := fun t => (tyL.find? (fun p => p.1 == t)).map (·.2)
theorem ok1 : TyOk Tryz.prog 1 ty1 := TyOk.of (by kernel_rfl) (by kernel_rfl)
theorem ok2 : TyOk Tryz.prog 2 ty2 := TyOk.of (by kernel_rfl) (by kernel_rfl)
theorem ok3 : TyOk Tryz.prog 3 ty3 := TyOk.of (by kernel_rfl) (by kernel_rfl)
theorem Ty_3 : Ty 3 = some ty3 := by kernel_rfl
theorem ty3_size : ty3.size = 1 := rfl
theorem ty3_bytes : ty3.bytes = 8 := rfl
theorem ty3_zero : ty3.zero = [.int .i64 0] := rfl
theorem ty3_agg : ty3.isAgg = false := by kernel_rfl
theorem kd_3 : kd Ty 3 = .int .i64 := by kernel_rfl
theorem ok4 : TyOk Tryz.prog 4 ty4 := TyOk.of (by kernel_rfl) (by kernel_rfl)
theorem Ty_4 : Ty 4 = some ty4 := by kernel_rfl
theorem ty4_size : ty4.size = 1 := rfl
theorem ty4_bytes : ty4.bytes = 1 := rfl
theorem ty4_zero : ty4.zero = [.bool false] := rfl
theorem ty4_agg : ty4.isAgg = false := by kernel_rfl
theorem kd_4 : kd Ty 4 = .bool := by kernel_rfl
theorem ok5 : TyOk Tryz.prog 5 ty5 := TyOk.of (by kernel_rfl) (by kernel_rfl)
theorem ok6 : TyOk Tryz.prog 6 ty6 := TyOk.of (by kernel_rfl) (by kernel_rfl)
theorem ok7 : TyOk Tryz.prog 7 ty7 := TyOk.of (by kernel_rfl) (by kernel_rfl)
theorem ok9 : TyOk Tryz.prog 9 ty9 := TyOk.of (by kernel_rfl) (by kernel_rfl)
theorem Ty_9 : Ty 9 = some ty9 := by kernel_rfl
theorem ty9_size : ty9.size = 1 := rfl
theorem ty9_bytes : ty9.bytes = 16 := rfl
theorem ty9_zero : ty9.zero = [.string ⟨#[]⟩] := rfl
theorem ty9_agg : ty9.isAgg = false := by kernel_rfl
theorem kd_9 : kd Ty 9 = .string := by kernel_rfl
theorem ok12 : TyOk Tryz.prog 12 ty12 := TyOk.of (by kernel_rfl) (by kernel_rfl)
theorem ok13 : TyOk Tryz.prog 13 ty13 := TyOk.of (by kernel_rfl) (by kernel_rfl)
theorem ok15 : TyOk Tryz.prog 15 ty15 := TyOk.of (by kernel_rfl) (by kernel_rfl)
theorem ok16 : TyOk Tryz.prog 16 ty16 := TyOk.of (by kernel_rfl) (by kernel_rfl)
theorem ok17 : TyOk Tryz.prog 17 ty17 := TyOk.of (by kernel_rfl) (by kernel_rfl)
theorem ok18 : TyOk Tryz.prog 18 ty18 := TyOk.of (by kernel_rfl) (by kernel_rfl)
theorem ok19 : TyOk Tryz.prog 19 ty19 := TyOk.of (by kernel_rfl) (by kernel_rfl)
theorem ok20 : TyOk Tryz.prog 20 ty20 := TyOk.of (by kernel_rfl) (by kernel_rfl)
theorem ok21 : TyOk Tryz.prog 21 ty21 := TyOk.of (by kernel_rfl) (by kernel_rfl)
theorem ok22 : TyOk Tryz.prog 22 ty22 := TyOk.of (by kernel_rfl) (by kernel_rfl)
theorem Ty_22 : Ty 22 = some ty22 := by kernel_rfl
theorem ty22_size : ty22.size = 1 := rfl
theorem ty22_bytes : ty22.bytes = 24 := rfl
theorem ty22_zero : ty22.zero = [.slice none 0 0] := rfl
theorem ty22_agg : ty22.isAgg = false := by kernel_rfl
theorem kd_22 : kd Ty 22 = .slice ty58 := by kernel_rfl
theorem ok23 : TyOk Tryz.prog 23 ty23 := TyOk.of (by kernel_rfl) (by kernel_rfl)
theorem Ty_23 : Ty 23 = some ty23 := by kernel_rfl
theorem ty23_size : ty23.size = 1 := rfl
theorem ty23_bytes : ty23.bytes = 24 := rfl
theorem ty23_zero : ty23.zero = [.slice none 0 0] := rfl
theorem ty23_agg : ty23.isAgg = false := by kernel_rfl
theorem kd_23 : kd Ty 23 = .slice ty83 := by kernel_rfl
theorem ok24 : TyOk Tryz.prog 24 ty24 := TyOk.of (by kernel_rfl) (by kernel_rfl)
theorem Ty_24 : Ty 24 = some ty24 := by kernel_rfl
theorem ty24_size : ty24.size = 1 := rfl
theorem ty24_bytes : ty24.bytes = 24 := rfl
theorem ty24_zero : ty24.zero = [.slice none 0 0] := rfl
theorem ty24_agg : ty24.isAgg = false := by kernel_rfl
theorem kd_24 : kd Ty 24 = .slice ty3 := by kernel_rfl
theorem ok25 : TyOk Tryz.prog 25 ty25 := TyOk.of (by kernel_rfl) (by kernel_rfl)
theorem Ty_25 : Ty 25 = some ty25 := by kernel_rfl
theorem ty25_size : ty25.size = 1 := rfl
theorem ty25_bytes : ty25.bytes = 24 := rfl
theorem ty25_zero : ty25.zero = [.slice none 0 0] := rfl
theorem ty25_agg : ty25.isAgg = false := by kernel_rfl
theorem kd_25 : kd Ty 25 = .slice ty9 := by kernel_rfl
theorem ok26 : TyOk Tryz.prog 26 ty26 := TyOk.of (by kernel_rfl) (by kernel_rfl)
theorem Ty_26 : Ty 26 = some ty26 := by kernel_rfl
theorem ty26_size : ty26.size = 1 := rfl
theorem ty26_bytes : ty26.bytes = 24 := rfl
theorem ty26_zero : ty26.zero = [.slice none 0 0] := rfl
theorem ty26_agg : ty26.isAgg = false := by kernel_rfl
theorem kd_26 : kd Ty 26 = .slice ty86 := by kernel_rfl
theorem ok27 : TyOk Tryz.prog 27 ty27 := TyOk.of (by kernel_rfl) (by kernel_rfl)
theorem ok28 : TyOk Tryz.prog 28 ty28 := TyOk.of (by kernel_rfl) (by kernel_rfl)
theorem Ty_28 : Ty 28 = some ty28 := by kernel_rfl
theorem ty28_size : ty28.size = 6 := rfl
theorem ty28_bytes : ty28.bytes = 112 := rfl
theorem ty28_zero : ty28.zero = [.int .i64 0, .slice none 0 0, .slice none 0 0, .int .i64 0, .slice none 0 0, .slice none 0 0] := rfl
theorem ty28_agg : ty28.isAgg = true := by kernel_rfl
theorem kd_28 : kd Ty 28 = .struct [(0, ty3), (1, ty23), (2, ty24), (3, ty3), (4, ty25), (5, ty26)] := by kernel_rfl
theorem ok29 : TyOk Tryz.prog 29 ty29 := TyOk.of (by kernel_rfl) (by kernel_rfl)
theorem ok30 : TyOk Tryz.prog 30 ty30 := TyOk.of (by kernel_rfl) (by kernel_rfl)
theorem Ty_30 : Ty 30 = some ty30 := by kernel_rfl
theorem ty30_size : ty30.size = 2 := rfl
theorem ty30_bytes : ty30.bytes = 48 := rfl
theorem ty30_zero : ty30.zero = [.slice none 0 0, .slice none 0 0] := rfl
theorem ty30_agg : ty30.isAgg = true := by kernel_rfl
theorem kd_30 : kd Ty 30 = .struct [(0, ty24), (1, ty24)] := by kernel_rfl
theorem ok31 : TyOk Tryz.prog 31 ty31 := TyOk.of (by kernel_rfl) (by kernel_rfl)
theorem ok32 : TyOk Tryz.prog 32 ty32 := TyOk.of (by kernel_rfl) (by kernel_rfl)
theorem ok33 : TyOk Tryz.prog 33 ty33 := TyOk.of (by kernel_rfl) (by kernel_rfl)
theorem ok35 : TyOk Tryz.prog 35 ty35 := TyOk.of (by kernel_rfl) (by kernel_rfl)
theorem ok36 : TyOk Tryz.prog 36 ty36 := TyOk.of (by kernel_rfl) (by kernel_rfl)
theorem Ty_36 : Ty 36 = some ty36 := by kernel_rfl
theorem ty36_size : ty36.size = 1 := rfl
theorem ty36_bytes : ty36.bytes = 24 := rfl
theorem ty36_zero : ty36.zero = [.slice none 0 0] := rfl
theorem ty36_agg : ty36.isAgg = false := by kernel_rfl
theorem kd_36 : kd Ty 36 = .slice ty64 := by kernel_rfl
theorem ok37 : TyOk Tryz.prog 37 ty37 := TyOk.of (by kernel_rfl) (by kernel_rfl)
theorem ok38 : TyOk Tryz.prog 38 ty38 := TyOk.of (by kernel_rfl) (by kernel_rfl)
theorem Ty_38 : Ty 38 = some ty38 := by kernel_rfl
theorem ty38_size : ty38.size = 1 := rfl
theorem ty38_bytes : ty38.bytes = 24 := rfl
theorem ty38_zero : ty38.zero = [.slice none 0 0] := rfl
theorem ty38_agg : ty38.isAgg = false := by kernel_rfl
theorem kd_38 : kd Ty 38 = .slice ty89 := by kernel_rfl
theorem ok39 : TyOk Tryz.prog 39 ty39 := TyOk.of (by kernel_rfl) (by kernel_rfl)
theorem Ty_39 : Ty 39 = some ty39 := by kernel_rfl
theorem ty39_size : ty39.size = 1 := rfl
theorem ty39_bytes : ty39.bytes = 24 := rfl
theorem ty39_zero : ty39.zero = [.slice none 0 0] := rfl
theorem ty39_agg : ty39.isAgg = false := by kernel_rfl
theorem kd_39 : kd Ty 39 = .slice ty91 := by kernel_rfl
theorem ok40 : TyOk Tryz.prog 40 ty40 := TyOk.of (by kernel_rfl) (by kernel_rfl)
theorem ok41 : TyOk Tryz.prog 41 ty41 := TyOk.of (by kernel_rfl) (by kernel_rfl)
theorem Ty_41 : Ty 41 = some ty41 := by kernel_rfl
theorem ty41_size : ty41.size = 6 := rfl
theorem ty41_bytes : ty41.bytes = 112 := rfl
theorem ty41_zero : ty41.zero = [.int .i64 0, .slice none 0 0, .slice none 0 0, .int .i64 0, .slice none 0 0, .slice none 0 0] := rfl
theorem ty41_agg : ty41.isAgg = true := by kernel_rfl
theorem kd_41 : kd Ty 41 = .struct [(0, ty3), (1, ty38), (2, ty24), (3, ty3), (4, ty25), (5, ty39)] := by kernel_rfl
theorem ok42 : TyOk Tryz.prog 42 ty42 := TyOk.of (by kernel_rfl) (by kernel_rfl)
theorem ok43 : TyOk Tryz.prog 43 ty43 := TyOk.of (by kernel_rfl) (by kernel_rfl)
theorem Ty_43 : Ty 43 = some ty43 := by kernel_rfl
theorem ty43_size : ty43.size = 2 := rfl
theorem ty43_bytes : ty43.bytes = 48 := rfl
theorem ty43_zero : ty43.zero = [.slice none 0 0, .slice none 0 0] := rfl
theorem ty43_agg : ty43.isAgg = true := by kernel_rfl
theorem kd_43 : kd Ty 43 = .struct [(0, ty24), (1, ty24)] := by kernel_rfl
theorem ok44 : TyOk Tryz.prog 44 ty44 := TyOk.of (by kernel_rfl) (by kernel_rfl)
theorem ok45 : TyOk Tryz.prog 45 ty45 := TyOk.of (by kernel_rfl) (by kernel_rfl)
theorem ok46 : TyOk Tryz.prog 46 ty46 := TyOk.of (by kernel_rfl) (by kernel_rfl)
theorem ok47 : TyOk Tryz.prog 47 ty47 := TyOk.of (by kernel_rfl) (by kernel_rfl)
theorem ok48 : TyOk Tryz.prog 48 ty48 := TyOk.of (by kernel_rfl) (by kernel_rfl)
theorem ok50 : TyOk Tryz.prog 50 ty50 := TyOk.of (by kernel_rfl) (by kernel_rfl)
theorem ok51 : TyOk Tryz.prog 51 ty51 := TyOk.of (by kernel_rfl) (by kernel_rfl)
theorem ok52 : TyOk Tryz.prog 52 ty52 := TyOk.of (by kernel_rfl) (by kernel_rfl)
theorem ok53 : TyOk Tryz.prog 53 ty53 := TyOk.of (by kernel_rfl) (by kernel_rfl)
theorem ok54 : TyOk Tryz.prog 54 ty54 := TyOk.of (by kernel_rfl) (by kernel_rfl)
theorem ok55 : TyOk Tryz.prog 55 ty55 := TyOk.of (by kernel_rfl) (by kernel_rfl)
theorem ok56 : TyOk Tryz.prog 56 ty56 := TyOk.of (by kernel_rfl) (by kernel_rfl)
theorem ok57 : TyOk Tryz.prog 57 ty57 := TyOk.of (by kernel_rfl) (by kernel_rfl)
theorem ok58 : TyOk Tryz.prog 58 ty58 := TyOk.of (by kernel_rfl) (by kernel_rfl)
theorem Ty_58 : Ty 58 = some ty58 := by kernel_rfl
theorem ty58_size : ty58.size = 3 := rfl
theorem ty58_bytes : ty58.bytes = 32 := rfl
theorem ty58_zero : ty58.zero = [.string ⟨#[]⟩, .int .i64 0, .int .i64 0] := rfl
theorem ty58_agg : ty58.isAgg = true := by kernel_rfl
theorem kd_58 : kd Ty 58 = .struct [(0, ty9), (1, ty3), (2, ty3)] := by kernel_rfl
theorem ok59 : TyOk Tryz.prog 59 ty59 := TyOk.of (by kernel_rfl) (by kernel_rfl)
theorem ok60 : TyOk Tryz.prog 60 ty60 := TyOk.of (by kernel_rfl) (by kernel_rfl)
theorem ok61 : TyOk Tryz.prog 61 ty61 := TyOk.of (by kernel_rfl) (by kernel_rfl)
theorem ok62 : TyOk Tryz.prog 62 ty62 := TyOk.of (by kernel_rfl) (by kernel_rfl)
theorem ok63 : TyOk Tryz.prog 63 ty63 := TyOk.of (by kernel_rfl) (by kernel_rfl)
theorem ok64 : TyOk Tryz.prog 64 ty64 := TyOk.of (by kernel_rfl) (by kernel_rfl)
theorem Ty_64 : Ty 64 = some ty64 := by kernel_rfl
theorem ty64_size : ty64.size = 3 := rfl
theorem ty64_bytes : ty64.bytes = 32 := rfl
theorem ty64_zero : ty64.zero = [.string ⟨#[]⟩, .int .i64 0, .int .i64 0] := rfl
theorem ty64_agg : ty64.isAgg = true := by kernel_rfl
theorem kd_64 : kd Ty 64 = .struct [(0, ty9), (1, ty3), (2, ty3)] := by kernel_rfl
theorem ok65 : TyOk Tryz.prog 65 ty65 := TyOk.of (by kernel_rfl) (by kernel_rfl)
theorem ok66 : TyOk Tryz.prog 66 ty66 := TyOk.of (by kernel_rfl) (by kernel_rfl)
theorem ok67 : TyOk Tryz.prog 67 ty67 := TyOk.of (by kernel_rfl) (by kernel_rfl)
theorem ok68 : TyOk Tryz.prog 68 ty68 := TyOk.of (by kernel_rfl) (by kernel_rfl)
theorem ok69 : TyOk Tryz.prog 69 ty69 := TyOk.of (by kernel_rfl) (by kernel_rfl)
theorem ok70 : TyOk Tryz.prog 70 ty70 := TyOk.of (by kernel_rfl) (by kernel_rfl)
theorem ok71 : TyOk Tryz.prog 71 ty71 := TyOk.of (by kernel_rfl) (by kernel_rfl)
theorem ok72 : TyOk Tryz.prog 72 ty72 := TyOk.of (by kernel_rfl) (by kernel_rfl)
theorem ok73 : TyOk Tryz.prog 73 ty73 := TyOk.of (by kernel_rfl) (by kernel_rfl)
theorem ok74 : TyOk Tryz.prog 74 ty74 := TyOk.of (by kernel_rfl) (by kernel_rfl)
theorem ok75 : TyOk Tryz.prog 75 ty75 := TyOk.of (by kernel_rfl) (by kernel_rfl)
theorem ok76 : TyOk Tryz.prog 76 ty76 := TyOk.of (by kernel_rfl) (by kernel_rfl)
theorem ok77 : TyOk Tryz.prog 77 ty77 := TyOk.of (by kernel_rfl) (by kernel_rfl)
theorem ok78 : TyOk Tryz.prog 78 ty78 := TyOk.of (by kernel_rfl) (by kernel_rfl)
theorem ok79 : TyOk Tryz.prog 79 ty79 := TyOk.of (by kernel_rfl) (by kernel_rfl)
theorem ok80 : TyOk Tryz.prog 80 ty80 := TyOk.of (by kernel_rfl) (by kernel_rfl)
theorem ok81 : TyOk Tryz.prog 81 ty81 := TyOk.of (by kernel_rfl) (by kernel_rfl)
theorem ok82 : TyOk Tryz.prog 82 ty82 := TyOk.of (by kernel_rfl) (by kernel_rfl)
theorem ok83 : TyOk Tryz.prog 83 ty83 := TyOk.of (by kernel_rfl) (by kernel_rfl)
theorem Ty_83 : Ty 83 = some ty83 := by kernel_rfl
theorem ty83_size : ty83.size = 3 := rfl
theorem ty83_bytes : ty83.bytes = 40 := rfl
theorem ty83_zero : ty83.zero = [.int .i64 0, .int .i64 0, .slice none 0 0] := rfl
theorem ty83_agg : ty83.isAgg = true := by kernel_rfl
theorem kd_83 : kd Ty 83 = .struct [(0, ty3), (1, ty3), (2, ty24)] := by kernel_rfl
theorem ok84 : TyOk Tryz.prog 84 ty84 := TyOk.of (by kernel_rfl) (by kernel_rfl)
theorem ok85 : TyOk Tryz.prog 85 ty85 := TyOk.of (by kernel_rfl) (by kernel_rfl)
theorem ok86 : TyOk Tryz.prog 86 ty86 := TyOk.of (by kernel_rfl) (by kernel_rfl)
theorem Ty_86 : Ty 86 = some ty86 := by kernel_rfl
theorem ty86_size : ty86.size = 2 := rfl
theorem ty86_bytes : ty86.bytes = 24 := rfl
theorem ty86_zero : ty86.zero = [.string ⟨#[]⟩, .int .i64 0] := rfl
theorem ty86_agg : ty86.isAgg = true := by kernel_rfl
theorem kd_86 : kd Ty 86 = .struct [(0, ty9), (1, ty3)] := by kernel_rfl
theorem ok87 : TyOk Tryz.prog 87 ty87 := TyOk.of (by kernel_rfl) (by kernel_rfl)
theorem ok88 : TyOk Tryz.prog 88 ty88 := TyOk.of (by kernel_rfl) (by kernel_rfl)
theorem ok89 : TyOk Tryz.prog 89 ty89 := TyOk.of (by kernel_rfl) (by kernel_rfl)
theorem Ty_89 : Ty 89 = some ty89 := by kernel_rfl
theorem ty89_size : ty89.size = 3 := rfl
theorem ty89_bytes : ty89.bytes = 40 := rfl
theorem ty89_zero : ty89.zero = [.int .i64 0, .int .i64 0, .slice none 0 0] := rfl
theorem ty89_agg : ty89.isAgg = true := by kernel_rfl
theorem kd_89 : kd Ty 89 = .struct [(0, ty3), (1, ty3), (2, ty24)] := by kernel_rfl
theorem ok90 : TyOk Tryz.prog 90 ty90 := TyOk.of (by kernel_rfl) (by kernel_rfl)
theorem ok91 : TyOk Tryz.prog 91 ty91 := TyOk.of (by kernel_rfl) (by kernel_rfl)
theorem Ty_91 : Ty 91 = some ty91 := by kernel_rfl
theorem ty91_size : ty91.size = 2 := rfl
theorem ty91_bytes : ty91.bytes = 24 := rfl
theorem ty91_zero : ty91.zero = [.string ⟨#[]⟩, .int .i64 0] := rfl
theorem ty91_agg : ty91.isAgg = true := by kernel_rfl
theorem kd_91 : kd Ty 91 = .struct [(0, ty9), (1, ty3)] := by kernel_rfl
theorem ok92 : TyOk Tryz.prog 92 ty92 := TyOk.of (by kernel_rfl) (by kernel_rfl)
theorem ok93 : TyOk Tryz.prog 93 ty93 := TyOk.of (by kernel_rfl) (by kernel_rfl)
theorem ok94 : TyOk Tryz.prog 94 ty94 := TyOk.of (by kernel_rfl) (by kernel_rfl)
theorem ok95 : TyOk Tryz.prog 95 ty95 := TyOk.of (by kernel_rfl) (by kernel_rfl)
theorem ok96 : TyOk Tryz.prog 96 ty96 := TyOk.of (by kernel_rfl) (by kernel_rfl)
theorem ok97 : TyOk Tryz.prog 97 ty97 := TyOk.of (by kernel_rfl) (by kernel_rfl)
theorem ok98 : TyOk Tryz.prog 98 ty98 := TyOk.of (by kernel_rfl) (by kernel_rfl)
theorem ok99 : TyOk Tryz.prog 99 ty99 := TyOk.of (by kernel_rfl) (by kernel_rfl)
theorem ok100 : TyOk Tryz.prog 100 ty100 := TyOk.of (by kernel_rfl) (by kernel_rfl)
theorem ok101 : TyOk Tryz.prog 101 ty101 := TyOk.of (by kernel_rfl) (by kernel_rfl)
theorem ok103 : TyOk Tryz.prog 103 ty103 := TyOk.of (by kernel_rfl) (by kernel_rfl)
theorem ok104 : TyOk Tryz.prog 104 ty104 := TyOk.of (by kernel_rfl) (by kernel_rfl)
theorem ok105 : TyOk Tryz.prog 105 ty105 := TyOk.of (by kernel_rfl) (by kernel_rfl)
theorem Ty_105 : Ty 105 = some ty105 := by kernel_rfl
theorem ty105_size : ty105.size = 1 := rfl
theorem ty105_bytes : ty105.bytes = 24 := rfl
theorem ty105_zero : ty105.zero = [.slice none 0 0] := rfl
theorem ty105_agg : ty105.isAgg = false := by kernel_rfl
theorem kd_105 : kd Ty 105 = .slice ty123 := by kernel_rfl
theorem ok107 : TyOk Tryz.prog 107 ty107 := TyOk.of (by kernel_rfl) (by kernel_rfl)
theorem ok108 : TyOk Tryz.prog 108 ty108 := TyOk.of (by kernel_rfl) (by kernel_rfl)
theorem ok109 : TyOk Tryz.prog 109 ty109 := TyOk.of (by kernel_rfl) (by kernel_rfl)
theorem ok110 : TyOk Tryz.prog 110 ty110 := TyOk.of (by kernel_rfl) (by kernel_rfl)
theorem ok111 : TyOk Tryz.prog 111 ty111 := TyOk.of (by kernel_rfl) (by kernel_rfl)
theorem ok112 : TyOk Tryz.prog 112 ty112 := TyOk.of (by kernel_rfl) (by kernel_rfl)
theorem ok113 : TyOk Tryz.prog 113 ty113 := TyOk.of (by kernel_rfl) (by kernel_rfl)
theorem ok114 : TyOk Tryz.prog 114 ty114 := TyOk.of (by kernel_rfl) (by kernel_rfl)
theorem ok115 : TyOk Tryz.prog 115 ty115 := TyOk.of (by kernel_rfl) (by kernel_rfl)
theorem ok116 : TyOk Tryz.prog 116 ty116 := TyOk.of (by kernel_rfl) (by kernel_rfl)
theorem ok117 : TyOk Tryz.prog 117 ty117 := TyOk.of (by kernel_rfl) (by kernel_rfl)
theorem ok119 : TyOk Tryz.prog 119 ty119 := TyOk.of (by kernel_rfl) (by kernel_rfl)
theorem ok120 : TyOk Tryz.prog 120 ty120 := TyOk.of (by kernel_rfl) (by kernel_rfl)
theorem ok121 : TyOk Tryz.prog 121 ty121 := TyOk.of (by kernel_rfl) (by kernel_rfl)
theorem ok122 : TyOk Tryz.prog 122 ty122 := TyOk.of (by kernel_rfl) (by kernel_rfl)
theorem ok123 : TyOk Tryz.prog 123 ty123 := TyOk.of (by kernel_rfl) (by kernel_rfl)
theorem Ty_123 : Ty 123 = some ty123 := by kernel_rfl
theorem ty123_size : ty123.size = 2 := rfl
theorem ty123_bytes : ty123.bytes = 16 := rfl
theorem ty123_zero : ty123.zero = [.int .i64 0, .int .i64 0] := rfl
theorem ty123_agg : ty123.isAgg = true := by kernel_rfl
theorem kd_123 : kd Ty 123 = .arr 2 ty3 := by kernel_rfl
theorem ok124 : TyOk Tryz.prog 124 ty124 := TyOk.of (by kernel_rfl) (by kernel_rfl)
theorem Ty_124 : Ty 124 = some ty124 := by kernel_rfl
theorem ty124_size : ty124.size = 1 := rfl
theorem ty124_bytes : ty124.bytes = 8 := rfl
theorem ty124_zero : ty124.zero = [.int .u64 0] := rfl
theorem ty124_agg : ty124.isAgg = false := by kernel_rfl
theorem kd_124 : kd Ty 124 = .int .u64 := by kernel_rfl
theorem ok126 : TyOk Tryz.prog 126 ty126 := TyOk.of (by kernel_rfl) (by kernel_rfl)
theorem ok127 : TyOk Tryz.prog 127 ty127 := TyOk.of (by kernel_rfl) (by kernel_rfl)
theorem ok128 : TyOk Tryz.prog 128 ty128 := TyOk.of (by kernel_rfl) (by kernel_rfl)
theorem ok129 : TyOk Tryz.prog 129 ty129 := TyOk.of (by kernel_rfl) (by kernel_rfl)
theorem ok130 : TyOk Tryz.prog 130 ty130 := TyOk.of (by kernel_rfl) (by kernel_rfl)
theorem ok131 : TyOk Tryz.prog 131 ty131 := TyOk.of (by kernel_rfl) (by kernel_rfl)
theorem ok132 : TyOk Tryz.prog 132 ty132 := TyOk.of (by kernel_rfl) (by kernel_rfl)
theorem ok133 : TyOk Tryz.prog 133 ty133 := TyOk.of (by kernel_rfl) (by kernel_rfl)
theorem ok135 : TyOk Tryz.prog 135 ty135 := TyOk.of (by kernel_rfl) (by kernel_rfl)
theorem ok136 : TyOk Tryz.prog 136 ty136 := TyOk.of (by kernel_rfl) (by kernel_rfl)
theorem ok138 : TyOk Tryz.prog 138 ty138 := TyOk.of (by kernel_rfl) (by kernel_rfl)
theorem ok139 : TyOk Tryz.prog 139 ty139 := TyOk.of (by kernel_rfl) (by kernel_rfl)
theorem ok140 : TyOk Tryz.prog 140 ty140 := TyOk.of (by kernel_rfl) (by kernel_rfl)
theorem ok141 : TyOk Tryz.prog 141 ty141 := TyOk.of (by kernel_rfl) (by kernel_rfl)
theorem ok142 : TyOk Tryz.prog 142 ty142 := TyOk.of (by kernel_rfl) (by kernel_rfl)
theorem ok146 : TyOk Tryz.prog 146 ty146 := TyOk.of (by kernel_rfl) (by kernel_rfl)
theorem ok147 : TyOk Tryz.prog 147 ty147 := TyOk.of (by kernel_rfl) (by kernel_rfl)
theorem ok148 : TyOk Tryz.prog 148 ty148 := TyOk.of (by kernel_rfl) (by kernel_rfl)
theorem ok149 : TyOk Tryz.prog 149 ty149 := TyOk.of (by kernel_rfl) (by kernel_rfl)
theorem ok151 : TyOk Tryz.prog 151 ty151 := TyOk.of (by kernel_rfl) (by kernel_rfl)
theorem ok152 : TyOk Tryz.prog 152 ty152 := TyOk.of (by kernel_rfl) (by kernel_rfl)
theorem ok153 : TyOk Tryz.prog 153 ty153 := TyOk.of (by kernel_rfl) (by kernel_rfl)
theorem ok155 : TyOk Tryz.prog 155 ty155 := TyOk.of (by kernel_rfl) (by kernel_rfl)
theorem ok156 : TyOk Tryz.prog 156 ty156 := TyOk.of (by kernel_rfl) (by kernel_rfl)
theorem ok157 : TyOk Tryz.prog 157 ty157 := TyOk.of (by kernel_rfl) (by kernel_rfl)
theorem ok158 : TyOk Tryz.prog 158 ty158 := TyOk.of (by kernel_rfl) (by kernel_rfl)
theorem ok159 : TyOk Tryz.prog 159 ty159 := TyOk.of (by kernel_rfl) (by kernel_rfl)
theorem ok160 : TyOk Tryz.prog 160 ty160 := TyOk.of (by kernel_rfl) (by kernel_rfl)
theorem ok161 : TyOk Tryz.prog 161 ty161 := TyOk.of (by kernel_rfl) (by kernel_rfl)
theorem ok162 : TyOk Tryz.prog 162 ty162 := TyOk.of (by kernel_rfl) (by kernel_rfl)
theorem ok163 : TyOk Tryz.prog 163 ty163 := TyOk.of (by kernel_rfl) (by kernel_rfl)
theorem ok165 : TyOk Tryz.prog 165 ty165 := TyOk.of (by kernel_rfl) (by kernel_rfl)
theorem ok166 : TyOk Tryz.prog 166 ty166 := TyOk.of (by kernel_rfl) (by kernel_rfl)
theorem ok168 : TyOk Tryz.prog 168 ty168 := TyOk.of (by kernel_rfl) (by kernel_rfl)
theorem ok169 : TyOk Tryz.prog 169 ty169 := TyOk.of (by kernel_rfl) (by kernel_rfl)
theorem ok170 : TyOk Tryz.prog 170 ty170 := TyOk.of (by kernel_rfl) (by kernel_rfl)
theorem ok171 : TyOk Tryz.prog 171 ty171 := TyOk.of (by kernel_rfl) (by kernel_rfl)
theorem ok172 : TyOk Tryz.prog 172 ty172 := TyOk.of (by kernel_rfl) (by kernel_rfl)
theorem ok173 : TyOk Tryz.prog 173 ty173 := TyOk.of (by kernel_rfl) (by kernel_rfl)
theorem ok174 : TyOk Tryz.prog 174 ty174 := TyOk.of (by kernel_rfl) (by kernel_rfl)
theorem ok175 : TyOk Tryz.prog 175 ty175 := TyOk.of (by kernel_rfl) (by kernel_rfl)
theorem ok176 : TyOk Tryz.prog 176 ty176 := TyOk.of (by kernel_rfl) (by kernel_rfl)
theorem ok177 : TyOk Tryz.prog 177 ty177 := TyOk.of (by kernel_rfl) (by kernel_rfl)
theorem Ty_ok : TypesOk Tryz.prog Ty := by
  have h : ∀ p ∈ tyL, TyOk Tryz.prog p.1 p.2 := by
    refine List.forall_mem_cons.2 ⟨ok1, ?_⟩
    refine List.forall_mem_cons.2 ⟨ok2, ?_⟩
    refine List.forall_mem_cons.2 ⟨ok3, ?_⟩
    refine List.forall_mem_cons.2 ⟨ok4, ?_⟩
    refine List.forall_mem_cons.2 ⟨ok5, ?_⟩
    refine List.forall_mem_cons.2 ⟨ok6, ?_⟩
    refine List.forall_mem_cons.2 ⟨ok7, ?_⟩
    refine List.forall_mem_cons.2 ⟨ok9, ?_⟩
    refine List.forall_mem_cons.2 ⟨ok12, ?_⟩
    refine List.forall_mem_cons.2 ⟨ok13, ?_⟩
    refine List.forall_mem_cons.2 ⟨ok15, ?_⟩
    refine List.forall_mem_cons.2 ⟨ok16, ?_⟩
    refine List.forall_mem_cons.2 ⟨ok17, ?_⟩
    refine List.forall_mem_cons.2 ⟨ok18, ?_⟩
    refine List.forall_mem_cons.2 ⟨ok19, ?_⟩
    refine List.forall_mem_cons.2 ⟨ok20, ?_⟩
    refine List.forall_mem_cons.2 ⟨ok21, ?_⟩
    refine List.forall_mem_cons.2 ⟨ok22, ?_⟩
    refine List.forall_mem_cons.2 ⟨ok23, ?_⟩
    refine List.forall_mem_cons.2 ⟨ok24, ?_⟩
    refine List.forall_mem_cons.2 ⟨ok25, ?_⟩
    refine List.forall_mem_cons.2 ⟨ok26, ?_⟩
    refine List.forall_mem_cons.2 ⟨ok27, ?_⟩
    refine List.forall_mem_cons.2 ⟨ok28, ?_⟩
    refine List.forall_mem_cons.2 ⟨ok29, ?_⟩
    refine List.forall_mem_cons.2 ⟨ok30, ?_⟩
    refine List.forall_mem_cons.2 ⟨ok31, ?_⟩
    refine List.forall_mem_cons.2 ⟨ok32, ?_⟩
    refine List.forall_mem_cons.2 ⟨ok33, ?_⟩
    refine List.forall_mem_cons.2 ⟨ok35, ?_⟩
    refine List.forall_mem_cons.2 ⟨ok36, ?_⟩
    refine List.forall_mem_cons.2 ⟨ok37, ?_⟩
    refine List.forall_mem_cons.2 ⟨ok38, ?_⟩
    refine List.forall_mem_cons.2 ⟨ok39, ?_⟩
    refine List.forall_mem_cons.2 ⟨ok40, ?_⟩
    refine List.forall_mem_cons.2 ⟨ok41, ?_⟩
    refine List.forall_mem_cons.2 ⟨ok42, ?_⟩
    refine List.forall_mem_cons.2 ⟨ok43, ?_⟩
    refine List.forall_mem_cons.2 ⟨ok44, ?_⟩
    refine List.forall_mem_cons.2 ⟨ok45, ?_⟩
    refine List.forall_mem_cons.2 ⟨ok46, ?_⟩
    refine List.forall_mem_cons.2 ⟨ok47, ?_⟩
    refine List.forall_mem_cons.2 ⟨ok48, ?_⟩
    refine List.forall_mem_cons.2 ⟨ok50, ?_⟩
    refine List.forall_mem_cons.2 ⟨ok51, ?_⟩
    refine List.forall_mem_cons.2 ⟨ok52, ?_⟩
    refine List.forall_mem_cons.2 ⟨ok53, ?_⟩
    refine List.forall_mem_cons.2 ⟨ok54, ?_⟩
    refine List.forall_mem_cons.2 ⟨ok55, ?_⟩
    refine List.forall_mem_cons.2 ⟨ok56, ?_⟩
    refine List.forall_mem_cons.2 ⟨ok57, ?_⟩
    refine List.forall_mem_cons.2 ⟨ok58, ?_⟩
    refine List.forall_mem_cons.2 ⟨ok59, ?_⟩
    refine List.forall_mem_cons.2 ⟨ok60, ?_⟩
    refine List.forall_mem_cons.2 ⟨ok61, ?_⟩
    refine List.forall_mem_cons.2 ⟨ok62, ?_⟩
    refine List.forall_mem_cons.2 ⟨ok63, ?_⟩
    refine List.forall_mem_cons.2 ⟨ok64, ?_⟩
    refine List.forall_mem_cons.2 ⟨ok65, ?_⟩
    refine List.forall_mem_cons.2 ⟨ok66, ?_⟩
    refine List.forall_mem_cons.2 ⟨ok67, ?_⟩
    refine List.forall_mem_cons.2 ⟨ok68, ?_⟩
    refine List.forall_mem_cons.2 ⟨ok69, ?_⟩
    refine List.forall_mem_cons.2 ⟨ok70, ?_⟩
    refine List.forall_mem_cons.2 ⟨ok71, ?_⟩
    refine List.forall_mem_cons.2 ⟨ok72, ?_⟩
    refine List.forall_mem_cons.2 ⟨ok73, ?_⟩
    refine List.forall_mem_cons.2 ⟨ok74, ?_⟩
    refine List.forall_mem_cons.2 ⟨ok75, ?_⟩
    refine List.forall_mem_cons.2 ⟨ok76, ?_⟩
    refine List.forall_mem_cons.2 ⟨ok77, ?_⟩
    refine List.forall_mem_cons.2 ⟨ok78, ?_⟩
    refine List.forall_mem_cons.2 ⟨ok79, ?_⟩
    refine List.forall_mem_cons.2 ⟨ok80, ?_⟩
    refine List.forall_mem_cons.2 ⟨ok81, ?_⟩
    refine List.forall_mem_cons.2 ⟨ok82, ?_⟩
    refine List.forall_mem_cons.2 ⟨ok83, ?_⟩
    refine List.forall_mem_cons.2 ⟨ok84, ?_⟩
    refine List.forall_mem_cons.2 ⟨ok85, ?_⟩
    refine List.forall_mem_cons.2 ⟨ok86, ?_⟩
    refine List.forall_mem_cons.2 ⟨ok87, ?_⟩
    refine List.forall_mem_cons.2 ⟨ok88, ?_⟩
    refine List.forall_mem_cons.2 ⟨ok89, ?_⟩
    refine List.forall_mem_cons.2 ⟨ok90, ?_⟩
    refine List.forall_mem_cons.2 ⟨ok91, ?_⟩
    refine List.forall_mem_cons.2 ⟨ok92, ?_⟩
    refine List.forall_mem_cons.2 ⟨ok93, ?_⟩
    refine List.forall_mem_cons.2 ⟨ok94, ?_⟩
    refine List.forall_mem_cons.2 ⟨ok95, ?_⟩
    refine List.forall_mem_cons.2 ⟨ok96, ?_⟩
    refine List.forall_mem_cons.2 ⟨ok97, ?_⟩
    refine List.forall_mem_cons.2 ⟨ok98, ?_⟩
    refine List.forall_mem_cons.2 ⟨ok99, ?_⟩
    refine List.forall_mem_cons.2 ⟨ok100, ?_⟩
    refine List.forall_mem_cons.2 ⟨ok101, ?_⟩
    refine List.forall_mem_cons.2 ⟨ok103, ?_⟩
    refine List.forall_mem_cons.2 ⟨ok104, ?_⟩
    refine List.forall_mem_cons.2 ⟨ok105, ?_⟩
    refine List.forall_mem_cons.2 ⟨ok107, ?_⟩
    refine List.forall_mem_cons.2 ⟨ok108, ?_⟩
    refine List.forall_mem_cons.2 ⟨ok109, ?_⟩
    refine List.forall_mem_cons.2 ⟨ok110, ?_⟩
    refine List.forall_mem_cons.2 ⟨ok111, ?_⟩
    refine List.forall_mem_cons.2 ⟨ok112, ?_⟩
    refine List.forall_mem_cons.2 ⟨ok113, ?_⟩
    refine List.forall_mem_cons.2 ⟨ok114, ?_⟩
    refine List.forall_mem_cons.2 ⟨ok115, ?_⟩
    refine List.forall_mem_cons.2 ⟨ok116, ?_⟩
    refine List.forall_mem_cons.2 ⟨ok117, ?_⟩
    refine List.forall_mem_cons.2 ⟨ok119, ?_⟩
    refine List.forall_mem_cons.2 ⟨ok120, ?_⟩
    refine List.forall_mem_cons.2 ⟨ok121, ?_⟩
    refine List.forall_mem_cons.2 ⟨ok122, ?_⟩
    refine List.forall_mem_cons.2 ⟨ok123, ?_⟩
    refine List.forall_mem_cons.2 ⟨ok124, ?_⟩
    refine List.forall_mem_cons.2 ⟨ok126, ?_⟩
    refine List.forall_mem_cons.2 ⟨ok127, ?_⟩
    refine List.forall_mem_cons.2 ⟨ok128, ?_⟩
    refine List.forall_mem_cons.2 ⟨ok129, ?_⟩
    refine List.forall_mem_cons.2 ⟨ok130, ?_⟩
    refine List.forall_mem_cons.2 ⟨ok131, ?_⟩
    refine List.forall_mem_cons.2 ⟨ok132, ?_⟩
    refine List.forall_mem_cons.2 ⟨ok133, ?_⟩
    refine List.forall_mem_cons.2 ⟨ok135, ?_⟩
    refine List.forall_mem_cons.2 ⟨ok136, ?_⟩
    refine List.forall_mem_cons.2 ⟨ok138, ?_⟩
    refine List.forall_mem_cons.2 ⟨ok139, ?_⟩
    refine List.forall_mem_cons.2 ⟨ok140, ?_⟩
    refine List.forall_mem_cons.2 ⟨ok141, ?_⟩
    refine List.forall_mem_cons.2 ⟨ok142, ?_⟩
    refine List.forall_mem_cons.2 ⟨ok146, ?_⟩
    refine List.forall_mem_cons.2 ⟨ok147, ?_⟩
    refine List.forall_mem_cons.2 ⟨ok148, ?_⟩
    refine List.forall_mem_cons.2 ⟨ok149, ?_⟩
    refine List.forall_mem_cons.2 ⟨ok151, ?_⟩
    refine List.forall_mem_cons.2 ⟨ok152, ?_⟩
    refine List.forall_mem_cons.2 ⟨ok153, ?_⟩
    refine List.forall_mem_cons.2 ⟨ok155, ?_⟩
    refine List.forall_mem_cons.2 ⟨ok156, ?_⟩
    refine List.forall_mem_cons.2 ⟨ok157, ?_⟩
    refine List.forall_mem_cons.2 ⟨ok158, ?_⟩
    refine List.forall_mem_cons.2 ⟨ok159, ?_⟩
    refine List.forall_mem_cons.2 ⟨ok160, ?_⟩
    refine List.forall_mem_cons.2 ⟨ok161, ?_⟩
    refine List.forall_mem_cons.2 ⟨ok162, ?_⟩
    refine List.forall_mem_cons.2 ⟨ok163, ?_⟩
    refine List.forall_mem_cons.2 ⟨ok165, ?_⟩
    refine List.forall_mem_cons.2 ⟨ok166, ?_⟩
    refine List.forall_mem_cons.2 ⟨ok168, ?_⟩
    refine List.forall_mem_cons.2 ⟨ok169, ?_⟩
    refine List.forall_mem_cons.2 ⟨ok170, ?_⟩
    refine List.forall_mem_cons.2 ⟨ok171, ?_⟩
    refine List.forall_mem_cons.2 ⟨ok172, ?_⟩
    refine List.forall_mem_cons.2 ⟨ok173, ?_⟩
    refine List.forall_mem_cons.2 ⟨ok174, ?_⟩
    refine List.forall_mem_cons.2 ⟨ok175, ?_⟩
    refine List.forall_mem_cons.2 ⟨ok176, ?_⟩
    refine List.forall_mem_cons.2 ⟨ok177, ?_⟩
    simp
  intro t i hi
  unfold Ty at hi
  cases hf : tyL.find? (fun p => p.1 == t) with
  | none => simp [hf] at hi
  | some p =>
    simp only [hf, Option.map_some, Option.some.injEq] at hi
    have h1 := List.find?_some hf
    have h2 := h p (List.mem_of_find?_eq_some hf)
    simp only [beq_iff_eq] at h1
    rw [← h1, ← hi]
    exact h2
attribute [simp] ty3_size ty4_size ty9_size ty22_size ty23_size ty24_size ty25_size ty26_size ty28_size ty30_size ty36_size ty38_size ty39_size ty41_size ty43_size ty58_size ty64_size ty83_size ty86_size ty89_size ty91_size ty105_size ty123_size ty124_size ty3_agg ty4_agg ty9_agg ty22_agg ty23_agg ty24_agg ty25_agg ty26_agg ty28_agg ty30_agg ty36_agg ty38_agg ty39_agg ty41_agg ty43_agg ty58_agg ty64_agg ty83_agg ty86_agg ty89_agg ty91_agg ty105_agg ty123_agg ty124_agg ty3_zero ty4_zero ty9_zero ty22_zero ty23_zero ty24_zero ty25_zero ty26_zero ty28_zero ty30_zero ty36_zero ty38_zero ty39_zero ty41_zero ty43_zero ty58_zero ty64_zero ty83_zero ty86_zero ty89_zero ty91_zero ty105_zero ty123_zero ty124_zero Ty_3 Ty_4 Ty_9 Ty_22 Ty_23 Ty_24 Ty_25 Ty_26 Ty_28 Ty_30 Ty_36 Ty_38 Ty_39 Ty_41 Ty_43 Ty_58 Ty_64 Ty_83 Ty_86 Ty_89 Ty_91 Ty_105 Ty_123 Ty_124 kd_3 kd_4 kd_9 kd_22 kd_23 kd_24 kd_25 kd_26 kd_28 kd_30 kd_36 kd_38 kd_39 kd_41 kd_43 kd_58 kd_64 kd_83 kd_86 kd_89 kd_91 kd_105 kd_123 kd_124 ty3_bytes ty4_bytes ty9_bytes ty22_bytes ty23_bytes ty24_bytes ty25_bytes ty26_bytes ty28_bytes ty30_bytes ty36_bytes ty38_bytes ty39_bytes ty41_bytes ty43_bytes ty58_bytes ty64_bytes ty83_bytes ty86_bytes ty89_bytes ty91_bytes ty105_bytes ty123_bytes ty124_bytes
end Go.Ab

/- Contracts of impl.within and (impl.Proc).kids, on abstract values; no conditions but a bound on the length. -/
namespace Go.Ab
open Go.Proofs
def within (n lo hi : Int) : Bool := decide (lo ≤ n) && decide (n ≤ hi)

theorem within_ok (n lo hi : Int) : PureC Tryz.prog 72 [int n, int lo, int hi] (fun r => r = bool (within n lo hi)) := by
  refine PureC.of Tryz.func72 rfl Tryz.ntmps72 (by simp) fun Q hQ => ?_
  refine Runs.seqE Ty_ok (by decide) fun k' hk' => ?_
  simp
  refine hk' _ _ _ (Runs.seqE Ty_ok (by decide) fun k' hk' => ?_)
  simp
  by_cases h : lo ≤ n
  all_goals
    simp [h]
    refine hk' _ _ _ (Runs.ret Tryz.func72 (RetOk.one Tryz.results72) (hQ _ _ _ _ (ResOk.v _ _ _) ?_))
    simp [within, h]

structure AmbNode where
  kind : Int
  name : Str
  parent : Int
  deriving Inhabited, DecidableEq
abbrev Proc := List AmbNode
set_option linter.unusedSimpArgs false
end Go.Ab

/- Contracts of impl.prefixWords and impl.nodeText. -/
namespace Go.Ab
open Go.Proofs
set_option linter.unusedSimpArgs false
theorem draws : Tryz.prog.follows .mixedOrders = true := by kernel_rfl
theorem e72 : Ent Tryz.prog 72 := Ent.of Tryz.func72 (by kernel_rfl) rfl
end Go.Ab

/- The abstract machine, part So: the library's sort of strings, laid on a slice of the caller's own. -/
namespace Go.Ab
open Go.Proofs Go.RowKit
set_option linter.unusedSectionVars false

end Go.Ab

/- The abstract machine, part Sv: regions that draw their order and slice arrays of the call's own. -/
namespace Go.Ab
set_option linter.unusedSectionVars false
set_option linter.unusedSimpArgs false
set_option linter.unusedVariables false

def watchOf : AVal → List Id
  | .arr id _ _ _ => [id]
  | _ => []

section
variable (P : Program) (N : Nat) (ops : Array Oper) (W : List Id)

end

section
variable {P : Program} {N : Nat} {ops : Array Oper} {W : List Id}

end

section
variable {P : Program} {f : FuncId} {N : Nat} {k : List Item} {ρ : Env} {H : Heap} {n : Nat} {Q : AVal → Heap → Nat → Prop}
end

section
variable (P : Program) (f : FuncId) (N : Nat) (k : List Item) (Q : AVal → Heap → Nat → Prop) (Ty : Types) (W : List Id) (ops : Array Oper)
end

section
variable {P : Program} {f : FuncId} {N : Nat} {k : List Item} {Q : AVal → Heap → Nat → Prop} {Ty : Types} {W : List Id} {ops : Array Oper} {o : Oper} {L : List Oper} {ρ : Env} {H : Heap} {n : Nat}



end

section
variable {P : Program} {f f' : FuncId} {N : Nat} {k : List Item} {Q : AVal → Heap → Nat → Prop} {Ty : Types} {W : List Id} {L : List Oper} {ρ : Env} {H : Heap} {n : Nat} {K K1 K2 : List OwnE} {ids : List Id} {t : TypeId} {j : TI} {l : List Sh} {v : AVal} {es : List (List AVal)} {o : Oper}
/-- Where an own array of plain cells lies. -/
theorem Sep.at {α : Type} {g : α → List AVal} {xs : List α} (h : Sep H n ((.s l, v, .list true (xs.map g)) :: K) ids) (hf : ∀ t ∈ l, t = .c) : ∀ i ∈ watchOf v, H i = some ⟨l.length, xs.map g⟩ ∧ i.1 < n := fun i hi => by
  obtain ⟨h0, S, h1, h2⟩ := h
  simp only [List.map_cons, Row, Tr] at h1
  obtain ⟨S1, S2, h3, _, rfl, _⟩ := h1
  rcases h3 with ⟨rfl, e, _⟩ | ⟨id, els, es', T, rfl, he, q3, q4, q5, rfl⟩
  · cases hi
  · injection he with _ he
    subst he
    have := rowsP.same hf q4
    subst this
    obtain rfl : i = id := by simpa [watchOf] using hi
    exact ⟨q3, (h2 i (by simp)).1⟩
end
end Go.Ab

/- The abstract machine, part Sw: whether a slice is nil. -/
namespace Go.Ab
section
variable {P : Program} {Ty : Types} {N : Nat} {ρ : Env} {H : Heap} {n : Nat}
end
section
variable {P : Program} {f f' : FuncId} {N : Nat} {k : List Item} {Q : AVal → Heap → Nat → Prop} {Ty : Types} {ops : Array Oper} {L : List Oper} {ρ : Env} {H : Heap} {n : Nat} {K1 K2 : List OwnE} {ids : List Id} {t : TypeId} {j : TI} {l : List Sh} {v : AVal} {es : List (List AVal)} {o : Oper}
end
end Go.Ab

/- The abstract machine, part Sx: regions that draw their order with one call whose result the caller owns; all else stands ahead of it or waits for it. -/
namespace Go.Ab
set_option linter.unusedSectionVars false
set_option linter.unusedVariables false
section
variable (P : Program) (N : Nat) (ops : Array Oper) (κ : Op → Nat) (cix : Nat)
end
section
variable {P : Program} {N : Nat} {ops : Array Oper} {κ : Op → Nat} {cix : Nat}
end
section
variable {P : Program} {f : FuncId} {N : Nat} {k : List Item} {ρ : Env} {H : Heap} {n : Nat} {Q : AVal → Heap → Nat → Prop} {κ : Op → Nat}
end
section
variable (P : Program) (f : FuncId) (N : Nat) (k : List Item) (Q : AVal → Heap → Nat → Prop) (Ty : Types) (κ : Op → Nat) (ops : Array Oper)
end
section
variable {P : Program} {f : FuncId} {N : Nat} {k : List Item} {Q : AVal → Heap → Nat → Prop} {Ty : Types} {κ : Op → Nat} {ops : Array Oper} {o : Oper} {l : List Oper} {ρ : Env} {H : Heap} {n : Nat} {c : Nat}



end
end Go.Ab

/- The abstract machine, part Sy: regions that draw their order, by what is known of the operations that are done. -/
namespace Go.Ab
set_option linter.unusedSectionVars false
set_option linter.unusedVariables false

abbrev Done (L : Array Bool) (j : Nat) : Prop := L.getD j false = true
theorem Done.set {L : Array Bool} {i j : Nat} (h : Done (L.setIfInBounds i true) j) : j = i ∨ Done L j := by
  by_cases hij : i = j
  · exact .inl hij.symm
  · refine .inr ?_
    rw [Done, getD_set_ne false hij] at h
    exact h
section
variable {P : Program} {N : Nat} {ops : Array Oper}
end
section
variable {P : Program} {f : FuncId} {N : Nat} {k : List Item} {ρ : Env} {H : Heap} {n : Nat} {Q : AVal → Heap → Nat → Prop}
end

/-- What is known of slots: of those that stay, and of those that operations fill. -/
def Old (ρ : Env) (B : List (Nat × AVal)) : Prop := ∀ q ∈ B, ρ q.1 = q.2
def Told (L : Array Bool) (ρ : Env) (F : List (Nat × Nat × AVal)) : Prop := ∀ q ∈ F, Done L q.1 → ρ q.2.1 = q.2.2
theorem Old.put {ρ : Env} {B : List (Nat × AVal)} {d : Option Nat} {v : AVal} (h : Old ρ B) (hd : ∀ q ∈ B, d ≠ some q.1) : Old (ρ.put d v) B := fun q hq => by
  cases d with
  | none => exact h q hq
  | some d =>
    have : q.1 ≠ d := fun e => hd q hq (by rw [e])
    simp [Env.put, this, h q hq]
theorem Told.put {L : Array Bool} {ρ : Env} {F F' : List (Nat × Nat × AVal)} {i : Nat} {d : Option Nat} {v : AVal} (h : Told L ρ F) (hF : ∀ q ∈ F', q.1 ≠ i → Done L q.1 → q ∈ F) (hd : ∀ q ∈ F', d = some q.2.1 → q.1 = i) (hv : ∀ q ∈ F', q.1 = i → d = some q.2.1 ∧ q.2.2 = v) :
    Told (L.setIfInBounds i true) (ρ.put d v) F' := fun q hq hdn => by
  by_cases e : q.1 = i
  · obtain ⟨h1, h2⟩ := hv q hq e
    subst h1
    simp [Env.put, h2]
  · have hdone := hdn.set.resolve_left e
    have := h q (hF q hq e hdone) hdone
    cases d with
    | none => exact this
    | some d =>
      have hne : q.2.1 ≠ d := fun he => e (hd q hq (by rw [he]))
      simp [Env.put, hne, this]

structure Reg where
  m : Nat
  c : Nat
  a : Nat
  st : Nat
  d : Nat
  B : List (Nat × AVal)
  F : List AVal → Nat → List (Nat × Nat × AVal)
  ent : List AVal → List OwnE
  ob0 : Ob
  ob1 : List AVal → Ob
  RG : List AVal → Prop
  onC : List Nat
  onA : List Nat
  H0 : Heap
  n0 : Nat
  K : List OwnE
  ids : List Id
section
variable {P : Program} {N : Nat} {ops : Array Oper} {g : Reg}
end
/-- The values that the call gives to its caller. -/
def gv (G : List AVal) (i : Nat) : AVal := G.getD i .undef
@[simp] theorem gv_zero (a : AVal) (l : List AVal) : gv (a :: l) 0 = a := rfl
@[simp] theorem gv_succ (a : AVal) (l : List AVal) (i : Nat) : gv (a :: l) (i + 1) = gv l i := by simp [gv]
theorem Old.nil {ρ : Env} : Old ρ [] := fun q hq => by cases hq
theorem Old.cons {ρ : Env} {t : Nat} {v : AVal} {B : List (Nat × AVal)} (h : ρ t = v) (hb : Old ρ B) : Old ρ ((t, v) :: B) := fun q hq => by
  rcases List.mem_cons.1 hq with rfl | hq
  · exact h
  · exact hb q hq
end Go.Ab
