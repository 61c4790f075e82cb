/- Merged texts (4 of 11) of the proof that ends in My: Ty X P Shelf S Q. -/
import Derived.Test.YtkhhalniblpkcaaGreatDoorAbQm3
import Derived.Test.YtkhhalniblpkcaaGreatDoorProg
import Derived.KernelRfl
import Derived.Shelf.Strings.Builder1
import Derived.Shelf.Strings.Builder2
import Derived.Shelf.Strings.OnBuilder
import Derived.Shelf.Strings.Trim
import Derived.Shelf.Small.Utf8
import Derived.Shelf.Small.Bits
import Derived.Shelf.Small.Strs
import Derived.Shelf.Small.Wraps
import Derived.Shelf.Strconv.Itoa0
import Derived.Shelf.Strings.Search1
import Derived.Shelf.Sort.Plain
import Derived.Shelf.Strings.Prefix
import Derived.Shelf.Unicode.Decode
import Derived.Shelf.Strings.Runes
import Derived.Shelf.Strings.AsciiSet
import Derived.Shelf.Unicode.DecodeSlow
import Derived.Shelf.Unicode.DecodeAny
import Derived.Shelf.Unicode.DecodeLast
import Derived.Ground.Names2Prog
import Derived.Shelf.Slices.Clone
import Derived.Shelf.Slices.CompactS
import Derived.Shelf.Slices.Cells
import Derived.Shelf.Slices.In.SortNone
import Derived.Ground.SlgnProg
import Derived.Shelf.SlicesE.Clone
import Derived.Shelf.Strings.SlTrimAscii
/- The seat's types: what the model's table says of each, as plain data. By program. -/
namespace Go.Ab
open Go.Proofs

theorem TyOk.of {P : Program} {t : TypeId} {s b : Nat} {z : List Value} (h : (P.underlying t).isSome = true) (h2 : (P.info? t).map (fun i => (i.size, i.bytes, i.zero.map Value.cells)) = some (s, b, some z.toArray)) : TyOk P t ⟨(P.underlying t).getD .invalid, s, b, z⟩ := by
  refine ⟨?_, ?_⟩
  · cases hu : P.underlying t with
    | none => simp [hu] at h
    | some d => rfl
  cases hi : P.info? t with
  | none => simp [hi] at h2
  | some info =>
    simp only [hi, Option.map_some, Option.some.injEq, Prod.mk.injEq, Option.map_eq_some_iff] at h2
    obtain ⟨h3, h4, zv, h5, h6⟩ := h2
    exact ⟨info, zv, rfl, h3, h4, h5, h6⟩

noncomputable def ty1 : TI := ⟨(Tryz.prog.underlying 1).getD .invalid, 1, 8, [.nilFunc]⟩
noncomputable def ty2 : TI := ⟨(Tryz.prog.underlying 2).getD .invalid, 1, 8, [.int .i64 0]⟩
noncomputable def ty3 : TI := ⟨(Tryz.prog.underlying 3).getD .invalid, 1, 8, [.int .i64 0]⟩
noncomputable def ty4 : TI := ⟨(Tryz.prog.underlying 4).getD .invalid, 1, 1, [.bool false]⟩
noncomputable def ty5 : TI := ⟨(Tryz.prog.underlying 5).getD .invalid, 1, 1, [.int .u8 0]⟩
noncomputable def ty6 : TI := ⟨(Tryz.prog.underlying 6).getD .invalid, 1, 1, [.int .u8 0]⟩
noncomputable def ty7 : TI := ⟨(Tryz.prog.underlying 7).getD .invalid, 4, 24, [.int .i64 0, .int .i64 0, .bool false, .int .u8 0]⟩
noncomputable def ty9 : TI := ⟨(Tryz.prog.underlying 9).getD .invalid, 1, 16, [.string ⟨#[]⟩]⟩
noncomputable def ty12 : TI := ⟨(Tryz.prog.underlying 12).getD .invalid, 1, 8, [.int .u64 0]⟩
noncomputable def ty13 : TI := ⟨(Tryz.prog.underlying 13).getD .invalid, 2, 24, [.string ⟨#[]⟩, .int .u64 0]⟩
noncomputable def ty15 : TI := ⟨(Tryz.prog.underlying 15).getD .invalid, 1, 8, [.pointer none]⟩
noncomputable def ty16 : TI := ⟨(Tryz.prog.underlying 16).getD .invalid, 1, 8, [.pointer none]⟩
noncomputable def ty17 : TI := ⟨(Tryz.prog.underlying 17).getD .invalid, 1, 8, [.pointer none]⟩
noncomputable def ty18 : TI := ⟨(Tryz.prog.underlying 18).getD .invalid, 1, 8, [.pointer none]⟩
noncomputable def ty19 : TI := ⟨(Tryz.prog.underlying 19).getD .invalid, 1, 8, [.pointer none]⟩
noncomputable def ty20 : TI := ⟨(Tryz.prog.underlying 20).getD .invalid, 1, 16, [.nilIface]⟩
noncomputable def ty21 : TI := ⟨(Tryz.prog.underlying 21).getD .invalid, 1, 4, [.int .i32 0]⟩
noncomputable def ty22 : TI := ⟨(Tryz.prog.underlying 22).getD .invalid, 1, 24, [.slice none 0 0]⟩
noncomputable def ty23 : TI := ⟨(Tryz.prog.underlying 23).getD .invalid, 1, 24, [.slice none 0 0]⟩
noncomputable def ty24 : TI := ⟨(Tryz.prog.underlying 24).getD .invalid, 1, 24, [.slice none 0 0]⟩
noncomputable def ty25 : TI := ⟨(Tryz.prog.underlying 25).getD .invalid, 1, 8, [.nilFunc]⟩
noncomputable def ty26 : TI := ⟨(Tryz.prog.underlying 26).getD .invalid, 1, 24, [.slice none 0 0]⟩
noncomputable def ty27 : TI := ⟨(Tryz.prog.underlying 27).getD .invalid, 1, 24, [.slice none 0 0]⟩
noncomputable def ty28 : TI := ⟨(Tryz.prog.underlying 28).getD .invalid, 1, 24, [.slice none 0 0]⟩
noncomputable def ty30 : TI := ⟨(Tryz.prog.underlying 30).getD .invalid, 1, 8, [.nilFunc]⟩
noncomputable def ty31 : TI := ⟨(Tryz.prog.underlying 31).getD .invalid, 1, 8, [.nilFunc]⟩
noncomputable def ty32 : TI := ⟨(Tryz.prog.underlying 32).getD .invalid, 1, 8, [.nilFunc]⟩
noncomputable def ty33 : TI := ⟨(Tryz.prog.underlying 33).getD .invalid, 1, 8, [.nilFunc]⟩
noncomputable def ty34 : TI := ⟨(Tryz.prog.underlying 34).getD .invalid, 1, 8, [.nilFunc]⟩
noncomputable def ty35 : TI := ⟨(Tryz.prog.underlying 35).getD .invalid, 3, 24, [.int .i64 0, .int .i64 0, .int .i64 0]⟩
noncomputable def ty36 : TI := ⟨(Tryz.prog.underlying 36).getD .invalid, 3, 24, [.int .i64 0, .int .i64 0, .int .i64 0]⟩
noncomputable def ty37 : TI := ⟨(Tryz.prog.underlying 37).getD .invalid, 1, 8, [.nilFunc]⟩
noncomputable def ty38 : TI := ⟨(Tryz.prog.underlying 38).getD .invalid, 3, 24, [.int .i64 0, .int .i64 0, .int .i64 0]⟩
noncomputable def ty39 : TI := ⟨(Tryz.prog.underlying 39).getD .invalid, 1, 8, [.nilFunc]⟩
noncomputable def ty40 : TI := ⟨(Tryz.prog.underlying 40).getD .invalid, 1, 8, [.nilFunc]⟩
noncomputable def ty41 : TI := ⟨(Tryz.prog.underlying 41).getD .invalid, 1, 24, [.slice none 0 0]⟩
noncomputable def ty43 : TI := ⟨(Tryz.prog.underlying 43).getD .invalid, 1, 8, [.nilFunc]⟩
noncomputable def ty44 : TI := ⟨(Tryz.prog.underlying 44).getD .invalid, 1, 8, [.nilFunc]⟩
noncomputable def ty45 : TI := ⟨(Tryz.prog.underlying 45).getD .invalid, 1, 8, [.nilFunc]⟩
noncomputable def ty46 : TI := ⟨(Tryz.prog.underlying 46).getD .invalid, 1, 8, [.nilFunc]⟩
noncomputable def ty47 : TI := ⟨(Tryz.prog.underlying 47).getD .invalid, 1, 8, [.nilFunc]⟩
noncomputable def ty48 : TI := ⟨(Tryz.prog.underlying 48).getD .invalid, 1, 8, [.nilFunc]⟩
noncomputable def ty49 : TI := ⟨(Tryz.prog.underlying 49).getD .invalid, 1, 8, [.nilFunc]⟩
noncomputable def ty50 : TI := ⟨(Tryz.prog.underlying 50).getD .invalid, 1, 8, [.nilFunc]⟩
noncomputable def ty51 : TI := ⟨(Tryz.prog.underlying 51).getD .invalid, 1, 8, [.nilFunc]⟩
noncomputable def ty52 : TI := ⟨(Tryz.prog.underlying 52).getD .invalid, 1, 8, [.nilFunc]⟩
noncomputable def ty53 : TI := ⟨(Tryz.prog.underlying 53).getD .invalid, 1, 8, [.nilFunc]⟩
noncomputable def ty54 : TI := ⟨(Tryz.prog.underlying 54).getD .invalid, 1, 8, [.nilFunc]⟩
noncomputable def ty55 : TI := ⟨(Tryz.prog.underlying 55).getD .invalid, 1, 8, [.nilFunc]⟩
noncomputable def ty56 : TI := ⟨(Tryz.prog.underlying 56).getD .invalid, 1, 8, [.nilFunc]⟩
noncomputable def ty57 : TI := ⟨(Tryz.prog.underlying 57).getD .invalid, 1, 24, [.slice none 0 0]⟩
noncomputable def ty58 : TI := ⟨(Tryz.prog.underlying 58).getD .invalid, 1, 8, [.nilFunc]⟩
noncomputable def ty59 : TI := ⟨(Tryz.prog.underlying 59).getD .invalid, 1, 8, [.nilFunc]⟩
noncomputable def ty60 : TI := ⟨(Tryz.prog.underlying 60).getD .invalid, 1, 8, [.nilFunc]⟩
noncomputable def ty61 : TI := ⟨(Tryz.prog.underlying 61).getD .invalid, 3, 32, [.int .i64 0, .string ⟨#[]⟩, .int .i64 0]⟩
noncomputable def ty62 : TI := ⟨(Tryz.prog.underlying 62).getD .invalid, 3, 32, [.int .i64 0, .string ⟨#[]⟩, .int .i64 0]⟩
noncomputable def ty63 : TI := ⟨(Tryz.prog.underlying 63).getD .invalid, 3, 32, [.int .i64 0, .string ⟨#[]⟩, .int .i64 0]⟩
noncomputable def ty64 : TI := ⟨(Tryz.prog.underlying 64).getD .invalid, 1, 8, [.nilFunc]⟩
noncomputable def ty65 : TI := ⟨(Tryz.prog.underlying 65).getD .invalid, 1, 8, [.nilFunc]⟩
noncomputable def ty66 : TI := ⟨(Tryz.prog.underlying 66).getD .invalid, 1, 8, [.nilFunc]⟩
noncomputable def ty67 : TI := ⟨(Tryz.prog.underlying 67).getD .invalid, 1, 8, [.nilFunc]⟩
noncomputable def ty68 : TI := ⟨(Tryz.prog.underlying 68).getD .invalid, 1, 8, [.nilFunc]⟩
noncomputable def ty69 : TI := ⟨(Tryz.prog.underlying 69).getD .invalid, 1, 8, [.nilFunc]⟩
noncomputable def ty70 : TI := ⟨(Tryz.prog.underlying 70).getD .invalid, 1, 8, [.nilFunc]⟩
noncomputable def ty71 : TI := ⟨(Tryz.prog.underlying 71).getD .invalid, 1, 24, [.slice none 0 0]⟩
noncomputable def ty72 : TI := ⟨(Tryz.prog.underlying 72).getD .invalid, 1, 8, [.nilFunc]⟩
noncomputable def ty73 : TI := ⟨(Tryz.prog.underlying 73).getD .invalid, 1, 8, [.nilFunc]⟩
noncomputable def ty74 : TI := ⟨(Tryz.prog.underlying 74).getD .invalid, 1, 8, [.nilFunc]⟩
noncomputable def ty75 : TI := ⟨(Tryz.prog.underlying 75).getD .invalid, 1, 8, [.nilFunc]⟩
noncomputable def ty76 : TI := ⟨(Tryz.prog.underlying 76).getD .invalid, 1, 24, [.slice none 0 0]⟩
noncomputable def ty78 : TI := ⟨(Tryz.prog.underlying 78).getD .invalid, 1, 8, [.nilFunc]⟩
noncomputable def ty79 : TI := ⟨(Tryz.prog.underlying 79).getD .invalid, 1, 8, [.nilFunc]⟩
noncomputable def ty80 : TI := ⟨(Tryz.prog.underlying 80).getD .invalid, 1, 8, [.nilFunc]⟩
noncomputable def ty81 : TI := ⟨(Tryz.prog.underlying 81).getD .invalid, 1, 8, [.pointer none]⟩
noncomputable def ty82 : TI := ⟨(Tryz.prog.underlying 82).getD .invalid, 3, 48, [.string ⟨#[]⟩, .slice none 0 0, .bool false]⟩
noncomputable def ty83 : TI := ⟨(Tryz.prog.underlying 83).getD .invalid, 3, 48, [.string ⟨#[]⟩, .slice none 0 0, .bool false]⟩
noncomputable def ty84 : TI := ⟨(Tryz.prog.underlying 84).getD .invalid, 1, 8, [.nilFunc]⟩
noncomputable def ty85 : TI := ⟨(Tryz.prog.underlying 85).getD .invalid, 3, 40, [.slice none 0 0, .int .i64 0, .bool false]⟩
noncomputable def ty86 : TI := ⟨(Tryz.prog.underlying 86).getD .invalid, 3, 40, [.slice none 0 0, .int .i64 0, .bool false]⟩
noncomputable def ty87 : TI := ⟨(Tryz.prog.underlying 87).getD .invalid, 1, 8, [.nilFunc]⟩
noncomputable def ty88 : TI := ⟨(Tryz.prog.underlying 88).getD .invalid, 1, 8, [.nilFunc]⟩
noncomputable def ty89 : TI := ⟨(Tryz.prog.underlying 89).getD .invalid, 1, 8, [.nilFunc]⟩
noncomputable def ty90 : TI := ⟨(Tryz.prog.underlying 90).getD .invalid, 1, 8, [.nilFunc]⟩
noncomputable def ty91 : TI := ⟨(Tryz.prog.underlying 91).getD .invalid, 1, 8, [.nilFunc]⟩
noncomputable def ty92 : TI := ⟨(Tryz.prog.underlying 92).getD .invalid, 1, 8, [.nilFunc]⟩
noncomputable def ty93 : TI := ⟨(Tryz.prog.underlying 93).getD .invalid, 1, 24, [.slice none 0 0]⟩
noncomputable def ty94 : TI := ⟨(Tryz.prog.underlying 94).getD .invalid, 1, 8, [.nilFunc]⟩
noncomputable def ty95 : TI := ⟨(Tryz.prog.underlying 95).getD .invalid, 1, 8, [.nilFunc]⟩
noncomputable def ty96 : TI := ⟨(Tryz.prog.underlying 96).getD .invalid, 1, 8, [.nilFunc]⟩
noncomputable def ty97 : TI := ⟨(Tryz.prog.underlying 97).getD .invalid, 1, 8, [.nilFunc]⟩
noncomputable def ty101 : TI := ⟨(Tryz.prog.underlying 101).getD .invalid, 1, 8, [.nilFunc]⟩
noncomputable def ty102 : TI := ⟨(Tryz.prog.underlying 102).getD .invalid, 1, 8, [.nilFunc]⟩
noncomputable def ty103 : TI := ⟨(Tryz.prog.underlying 103).getD .invalid, 1, 8, [.pointer none]⟩
noncomputable def ty104 : TI := ⟨(Tryz.prog.underlying 104).getD .invalid, 1, 8, [.nilFunc]⟩
noncomputable def ty105 : TI := ⟨(Tryz.prog.underlying 105).getD .invalid, 1, 8, [.nilFunc]⟩
noncomputable def ty106 : TI := ⟨(Tryz.prog.underlying 106).getD .invalid, 1, 8, [.int .u64 0]⟩
noncomputable def ty107 : TI := ⟨(Tryz.prog.underlying 107).getD .invalid, 1, 8, [.nilFunc]⟩
noncomputable def ty109 : TI := ⟨(Tryz.prog.underlying 109).getD .invalid, 1, 8, [.nilFunc]⟩
noncomputable def ty110 : TI := ⟨(Tryz.prog.underlying 110).getD .invalid, 1, 8, [.nilFunc]⟩
noncomputable def ty112 : TI := ⟨(Tryz.prog.underlying 112).getD .invalid, 1, 8, [.nilFunc]⟩
noncomputable def ty114 : TI := ⟨(Tryz.prog.underlying 114).getD .invalid, 1, 8, [.nilFunc]⟩
noncomputable def ty115 : TI := ⟨(Tryz.prog.underlying 115).getD .invalid, 1, 8, [.nilFunc]⟩
noncomputable def ty117 : TI := ⟨(Tryz.prog.underlying 117).getD .invalid, 1, 8, [.nilFunc]⟩
noncomputable def ty118 : TI := ⟨(Tryz.prog.underlying 118).getD .invalid, 1, 8, [.nilFunc]⟩
noncomputable def ty119 : TI := ⟨(Tryz.prog.underlying 119).getD .invalid, 1, 8, [.nilFunc]⟩
noncomputable def ty120 : TI := ⟨(Tryz.prog.underlying 120).getD .invalid, 1, 8, [.int .i64 0]⟩
noncomputable def ty122 : TI := ⟨(Tryz.prog.underlying 122).getD .invalid, 1, 8, [.nilFunc]⟩
noncomputable def ty123 : TI := ⟨(Tryz.prog.underlying 123).getD .invalid, 1, 8, [.nilFunc]⟩
noncomputable def ty124 : TI := ⟨(Tryz.prog.underlying 124).getD .invalid, 1, 8, [.nilFunc]⟩
noncomputable def ty125 : TI := ⟨(Tryz.prog.underlying 125).getD .invalid, 1, 8, [.nilFunc]⟩
noncomputable def ty127 : TI := ⟨(Tryz.prog.underlying 127).getD .invalid, 1, 8, [.nilFunc]⟩
noncomputable def ty128 : TI := ⟨(Tryz.prog.underlying 128).getD .invalid, 1, 8, [.nilFunc]⟩
noncomputable def ty129 : TI := ⟨(Tryz.prog.underlying 129).getD .invalid, 1, 4, [.int .u32 0]⟩
noncomputable def ty130 : TI := ⟨(Tryz.prog.underlying 130).getD .invalid, 1, 8, [.nilFunc]⟩
noncomputable def ty131 : TI := ⟨(Tryz.prog.underlying 131).getD .invalid, 1, 8, [.int .u64 0]⟩
noncomputable def ty132 : TI := ⟨(Tryz.prog.underlying 132).getD .invalid, 1, 8, [.pointer none]⟩
noncomputable def ty133 : TI := ⟨(Tryz.prog.underlying 133).getD .invalid, 2, 32, [.pointer none, .slice none 0 0]⟩
noncomputable def ty134 : TI := ⟨(Tryz.prog.underlying 134).getD .invalid, 2, 32, [.pointer none, .slice none 0 0]⟩
noncomputable def ty135 : TI := ⟨(Tryz.prog.underlying 135).getD .invalid, 1, 16, [.nilIface]⟩
noncomputable def ty136 : TI := ⟨(Tryz.prog.underlying 136).getD .invalid, 1, 16, [.nilIface]⟩
noncomputable def ty138 : TI := ⟨(Tryz.prog.underlying 138).getD .invalid, 1, 8, [.nilFunc]⟩
noncomputable def ty139 : TI := ⟨(Tryz.prog.underlying 139).getD .invalid, 1, 8, [.nilFunc]⟩
noncomputable def ty140 : TI := ⟨(Tryz.prog.underlying 140).getD .invalid, 1, 8, [.int .u64 0]⟩
noncomputable def ty141 : TI := ⟨(Tryz.prog.underlying 141).getD .invalid, 1, 8, [.nilFunc]⟩
noncomputable def ty142 : TI := ⟨(Tryz.prog.underlying 142).getD .invalid, 1, 8, [.nilFunc]⟩
noncomputable def ty143 : TI := ⟨(Tryz.prog.underlying 143).getD .invalid, 1, 8, [.nilFunc]⟩
noncomputable def ty144 : TI := ⟨(Tryz.prog.underlying 144).getD .invalid, 1, 8, [.pointer none]⟩
noncomputable def ty145 : TI := ⟨(Tryz.prog.underlying 145).getD .invalid, 1, 8, [.nilFunc]⟩
noncomputable def ty146 : TI := ⟨(Tryz.prog.underlying 146).getD .invalid, 1, 8, [.pointer none]⟩
noncomputable def ty148 : TI := ⟨(Tryz.prog.underlying 148).getD .invalid, 2, 2, [.int .u8 0, .int .u8 0]⟩
noncomputable def ty149 : TI := ⟨(Tryz.prog.underlying 149).getD .invalid, 2, 2, [.int .u8 0, .int .u8 0]⟩
noncomputable def ty150 : TI := ⟨(Tryz.prog.underlying 150).getD .invalid, 32, 32, [.int .u8 0, .int .u8 0, .int .u8 0, .int .u8 0, .int .u8 0, .int .u8 0, .int .u8 0, .int .u8 0, .int .u8 0, .int .u8 0, .int .u8 0, .int .u8 0, .int .u8 0, .int .u8 0, .int .u8 0, .int .u8 0, .int .u8 0, .int .u8 0, .int .u8 0, .int .u8 0, .int .u8 0, .int .u8 0, .int .u8 0, .int .u8 0, .int .u8 0, .int .u8 0, .int .u8 0, .int .u8 0, .int .u8 0, .int .u8 0, .int .u8 0, .int .u8 0]⟩
noncomputable def ty151 : TI := ⟨(Tryz.prog.underlying 151).getD .invalid, 1, 8, [.nilFunc]⟩
noncomputable def ty152 : TI := ⟨(Tryz.prog.underlying 152).getD .invalid, 1, 8, [.nilFunc]⟩
noncomputable def ty153 : TI := ⟨(Tryz.prog.underlying 153).getD .invalid, 1, 8, [.nilFunc]⟩
noncomputable def ty154 : TI := ⟨(Tryz.prog.underlying 154).getD .invalid, 1, 8, [.nilFunc]⟩
noncomputable def ty155 : TI := ⟨(Tryz.prog.underlying 155).getD .invalid, 1, 8, [.pointer none]⟩
noncomputable def ty157 : TI := ⟨(Tryz.prog.underlying 157).getD .invalid, 1, 8, [.nilFunc]⟩
noncomputable def ty158 : TI := ⟨(Tryz.prog.underlying 158).getD .invalid, 1, 8, [.pointer none]⟩
noncomputable def ty159 : TI := ⟨(Tryz.prog.underlying 159).getD .invalid, 1, 8, [.nilFunc]⟩
noncomputable def ty160 : TI := ⟨(Tryz.prog.underlying 160).getD .invalid, 1, 8, [.nilFunc]⟩
noncomputable def ty161 : TI := ⟨(Tryz.prog.underlying 161).getD .invalid, 4, 40, [.pointer none, .pointer none, .pointer none, .string ⟨#[]⟩]⟩
noncomputable def ty163 : TI := ⟨(Tryz.prog.underlying 163).getD .invalid, 0, 0, []⟩
noncomputable def ty164 : TI := ⟨(Tryz.prog.underlying 164).getD .invalid, 0, 0, []⟩
noncomputable def ty166 : TI := ⟨(Tryz.prog.underlying 166).getD .invalid, 1, 8, [.nilFunc]⟩
noncomputable def ty167 : TI := ⟨(Tryz.prog.underlying 167).getD .invalid, 1, 1, [.int .u8 0]⟩
noncomputable def ty168 : TI := ⟨(Tryz.prog.underlying 168).getD .invalid, 1, 1, [.int .u8 0]⟩
noncomputable def ty169 : TI := ⟨(Tryz.prog.underlying 169).getD .invalid, 1, 8, [.nilFunc]⟩
noncomputable def ty170 : TI := ⟨(Tryz.prog.underlying 170).getD .invalid, 1, 4, [.int .i32 0]⟩
noncomputable def ty171 : TI := ⟨(Tryz.prog.underlying 171).getD .invalid, 1, 4, [.int .i32 0]⟩
noncomputable def ty172 : TI := ⟨(Tryz.prog.underlying 172).getD .invalid, 11, 48, [.int .u64 0, .int .u64 0, .int .u32 0, .int .u8 0, .int .u8 0, .int .u8 0, .int .u8 0, .nilFunc, .pointer none, .int .i32 0, .int .i32 0]⟩
noncomputable def ty173 : TI := ⟨(Tryz.prog.underlying 173).getD .invalid, 11, 48, [.int .u64 0, .int .u64 0, .int .u32 0, .int .u8 0, .int .u8 0, .int .u8 0, .int .u8 0, .nilFunc, .pointer none, .int .i32 0, .int .i32 0]⟩
noncomputable def tyL : List (Nat × TI) := [(1, ty1), (2, ty2), (3, ty3), (4, ty4), (5, ty5), (6, ty6), (7, ty7), (9, ty9), (12, ty12), (13, ty13), (15, ty15), (16, ty16), (17, ty17), (18, ty18), (19, ty19), (20, ty20), (21, ty21), (22, ty22), (23, ty23), (24, ty24), (25, ty25), (26, ty26), (27, ty27), (28, ty28), (30, ty30), (31, ty31), (32, ty32), (33, ty33), (34, ty34), (35, ty35), (36, ty36), (37, ty37), (38, ty38), (39, ty39), (40, ty40), (41, ty41), (43, ty43), (44, ty44), (45, ty45), (46, ty46), (47, ty47), (48, ty48), (49, ty49), (50, ty50), (51, ty51), (52, ty52), (53, ty53), (54, ty54), (55, ty55), (56, ty56), (57, ty57), (58, ty58), (59, ty59), (60, ty60), (61, ty61), (62, ty62), (63, ty63), (64, ty64), (65, ty65), (66, ty66), (67, ty67), (68, ty68), (69, ty69), (70, ty70), (71, ty71), (72, ty72), (73, ty73), (74, ty74), (75, ty75), (76, ty76), (78, ty78), (79, ty79), (80, ty80), (81, ty81), (82, ty82), (83, ty83), (84, ty84), (85, ty85), (86, ty86), (87, ty87), (88, ty88), (89, ty89), (90, ty90), (91, ty91), (92, ty92), (93, ty93), (94, ty94), (95, ty95), (96, ty96), (97, ty97), (101, ty101), (102, ty102), (103, ty103), (104, ty104), (105, ty105), (106, ty106), (107, ty107), (109, ty109), (110, ty110), (112, ty112), (114, ty114), (115, ty115), (117, ty117), (118, ty118), (119, ty119), (120, ty120), (122, ty122), (123, ty123), (124, ty124), (125, ty125), (127, ty127), (128, ty128), (129, ty129), (130, ty130), (131, ty131), (132, ty132), (133, ty133), (134, ty134), (135, ty135), (136, ty136), (138, ty138), (139, ty139), (140, ty140), (141, ty141), (142, ty142), (143, ty143), (144, ty144), (145, ty145), (146, ty146), (148, ty148), (149, ty149), (150, ty150), (151, ty151), (152, ty152), (153, ty153), (154, ty154), (155, ty155), (157, ty157), (158, ty158), (159, ty159), (160, ty160), (161, ty161), (163, ty163), (164, ty164), (166, ty166), (167, ty167), (168, ty168), (169, ty169), (170, ty170), (171, ty171), (172, ty172), (173, ty173)]
noncomputable def Ty : Types := fun t => (tyL.find? (fun p => p.1 == t)).map (·.2)
theorem ok1 : TyOk Tryz.prog 1 ty1 := TyOk.of (by kernel_rfl) (by kernel_rfl)
theorem Ty_1 : Ty 1 = some ty1 := by kernel_rfl
theorem ty1_size : ty1.size = 1 := rfl
theorem ty1_bytes : ty1.bytes = 8 := rfl
theorem ty1_zero : ty1.zero = [.nilFunc] := rfl
theorem ty1_agg : ty1.isAgg = false := by kernel_rfl
theorem ok2 : TyOk Tryz.prog 2 ty2 := TyOk.of (by kernel_rfl) (by kernel_rfl)
theorem Ty_2 : Ty 2 = some ty2 := by kernel_rfl
theorem ty2_size : ty2.size = 1 := rfl
theorem ty2_bytes : ty2.bytes = 8 := rfl
theorem ty2_zero : ty2.zero = [.int .i64 0] := rfl
theorem ty2_agg : ty2.isAgg = false := by kernel_rfl
theorem kd_2 : kd Ty 2 = .int .i64 := by kernel_rfl
theorem ok3 : TyOk Tryz.prog 3 ty3 := TyOk.of (by kernel_rfl) (by kernel_rfl)
theorem Ty_3 : Ty 3 = some ty3 := by kernel_rfl
theorem ty3_size : ty3.size = 1 := rfl
theorem ty3_bytes : ty3.bytes = 8 := rfl
theorem ty3_zero : ty3.zero = [.int .i64 0] := rfl
theorem ty3_agg : ty3.isAgg = false := by kernel_rfl
theorem kd_3 : kd Ty 3 = .int .i64 := by kernel_rfl
theorem ok4 : TyOk Tryz.prog 4 ty4 := TyOk.of (by kernel_rfl) (by kernel_rfl)
theorem Ty_4 : Ty 4 = some ty4 := by kernel_rfl
theorem ty4_size : ty4.size = 1 := rfl
theorem ty4_bytes : ty4.bytes = 1 := rfl
theorem ty4_zero : ty4.zero = [.bool false] := rfl
theorem ty4_agg : ty4.isAgg = false := by kernel_rfl
theorem kd_4 : kd Ty 4 = .bool := by kernel_rfl
theorem ok5 : TyOk Tryz.prog 5 ty5 := TyOk.of (by kernel_rfl) (by kernel_rfl)
theorem Ty_5 : Ty 5 = some ty5 := by kernel_rfl
theorem ty5_size : ty5.size = 1 := rfl
theorem ty5_bytes : ty5.bytes = 1 := rfl
theorem ty5_zero : ty5.zero = [.int .u8 0] := rfl
theorem ty5_agg : ty5.isAgg = false := by kernel_rfl
theorem kd_5 : kd Ty 5 = .int .u8 := by kernel_rfl
theorem ok6 : TyOk Tryz.prog 6 ty6 := TyOk.of (by kernel_rfl) (by kernel_rfl)
theorem Ty_6 : Ty 6 = some ty6 := by kernel_rfl
theorem ty6_size : ty6.size = 1 := rfl
theorem ty6_bytes : ty6.bytes = 1 := rfl
theorem ty6_zero : ty6.zero = [.int .u8 0] := rfl
theorem ty6_agg : ty6.isAgg = false := by kernel_rfl
theorem kd_6 : kd Ty 6 = .int .u8 := by kernel_rfl
theorem ok7 : TyOk Tryz.prog 7 ty7 := TyOk.of (by kernel_rfl) (by kernel_rfl)
theorem Ty_7 : Ty 7 = some ty7 := by kernel_rfl
theorem ty7_size : ty7.size = 4 := rfl
theorem ty7_bytes : ty7.bytes = 24 := rfl
theorem ty7_zero : ty7.zero = [.int .i64 0, .int .i64 0, .bool false, .int .u8 0] := rfl
theorem ty7_agg : ty7.isAgg = true := by kernel_rfl
theorem kd_7 : kd Ty 7 = .struct [(0, ty2), (1, ty3), (2, ty4), (3, ty6)] := by kernel_rfl
theorem ok9 : TyOk Tryz.prog 9 ty9 := TyOk.of (by kernel_rfl) (by kernel_rfl)
theorem Ty_9 : Ty 9 = some ty9 := by kernel_rfl
theorem ty9_size : ty9.size = 1 := rfl
theorem ty9_bytes : ty9.bytes = 16 := rfl
theorem ty9_zero : ty9.zero = [.string ⟨#[]⟩] := rfl
theorem ty9_agg : ty9.isAgg = false := by kernel_rfl
theorem kd_9 : kd Ty 9 = .string := by kernel_rfl
theorem ok12 : TyOk Tryz.prog 12 ty12 := TyOk.of (by kernel_rfl) (by kernel_rfl)
theorem Ty_12 : Ty 12 = some ty12 := by kernel_rfl
theorem ty12_size : ty12.size = 1 := rfl
theorem ty12_bytes : ty12.bytes = 8 := rfl
theorem ty12_zero : ty12.zero = [.int .u64 0] := rfl
theorem ty12_agg : ty12.isAgg = false := by kernel_rfl
theorem kd_12 : kd Ty 12 = .int .u64 := by kernel_rfl
theorem ok13 : TyOk Tryz.prog 13 ty13 := TyOk.of (by kernel_rfl) (by kernel_rfl)
theorem Ty_13 : Ty 13 = some ty13 := by kernel_rfl
theorem ty13_size : ty13.size = 2 := rfl
theorem ty13_bytes : ty13.bytes = 24 := rfl
theorem ty13_zero : ty13.zero = [.string ⟨#[]⟩, .int .u64 0] := rfl
theorem ty13_agg : ty13.isAgg = true := by kernel_rfl
theorem kd_13 : kd Ty 13 = .struct [(0, ty9), (1, ty12)] := by kernel_rfl
theorem ok15 : TyOk Tryz.prog 15 ty15 := TyOk.of (by kernel_rfl) (by kernel_rfl)
theorem Ty_15 : Ty 15 = some ty15 := by kernel_rfl
theorem ty15_size : ty15.size = 1 := rfl
theorem ty15_bytes : ty15.bytes = 8 := rfl
theorem ty15_zero : ty15.zero = [.pointer none] := rfl
theorem ty15_agg : ty15.isAgg = false := by kernel_rfl
theorem ok16 : TyOk Tryz.prog 16 ty16 := TyOk.of (by kernel_rfl) (by kernel_rfl)
theorem Ty_16 : Ty 16 = some ty16 := by kernel_rfl
theorem ty16_size : ty16.size = 1 := rfl
theorem ty16_bytes : ty16.bytes = 8 := rfl
theorem ty16_zero : ty16.zero = [.pointer none] := rfl
theorem ty16_agg : ty16.isAgg = false := by kernel_rfl
theorem ok17 : TyOk Tryz.prog 17 ty17 := TyOk.of (by kernel_rfl) (by kernel_rfl)
theorem Ty_17 : Ty 17 = some ty17 := by kernel_rfl
theorem ty17_size : ty17.size = 1 := rfl
theorem ty17_bytes : ty17.bytes = 8 := rfl
theorem ty17_zero : ty17.zero = [.pointer none] := rfl
theorem ty17_agg : ty17.isAgg = false := by kernel_rfl
theorem ok18 : TyOk Tryz.prog 18 ty18 := TyOk.of (by kernel_rfl) (by kernel_rfl)
theorem Ty_18 : Ty 18 = some ty18 := by kernel_rfl
theorem ty18_size : ty18.size = 1 := rfl
theorem ty18_bytes : ty18.bytes = 8 := rfl
theorem ty18_zero : ty18.zero = [.pointer none] := rfl
theorem ty18_agg : ty18.isAgg = true := by kernel_rfl
theorem kd_18 : kd Ty 18 = .struct [(0, ty17)] := by kernel_rfl
theorem ok19 : TyOk Tryz.prog 19 ty19 := TyOk.of (by kernel_rfl) (by kernel_rfl)
theorem Ty_19 : Ty 19 = some ty19 := by kernel_rfl
theorem ty19_size : ty19.size = 1 := rfl
theorem ty19_bytes : ty19.bytes = 8 := rfl
theorem ty19_zero : ty19.zero = [.pointer none] := rfl
theorem ty19_agg : ty19.isAgg = true := by kernel_rfl
theorem kd_19 : kd Ty 19 = .struct [(0, ty17)] := by kernel_rfl
theorem ok20 : TyOk Tryz.prog 20 ty20 := TyOk.of (by kernel_rfl) (by kernel_rfl)
theorem Ty_20 : Ty 20 = some ty20 := by kernel_rfl
theorem ty20_size : ty20.size = 1 := rfl
theorem ty20_bytes : ty20.bytes = 16 := rfl
theorem ty20_zero : ty20.zero = [.nilIface] := rfl
theorem ty20_agg : ty20.isAgg = false := by kernel_rfl
theorem ok21 : TyOk Tryz.prog 21 ty21 := TyOk.of (by kernel_rfl) (by kernel_rfl)
theorem Ty_21 : Ty 21 = some ty21 := by kernel_rfl
theorem ty21_size : ty21.size = 1 := rfl
theorem ty21_bytes : ty21.bytes = 4 := rfl
theorem ty21_zero : ty21.zero = [.int .i32 0] := rfl
theorem ty21_agg : ty21.isAgg = false := by kernel_rfl
theorem kd_21 : kd Ty 21 = .int .i32 := by kernel_rfl
theorem ok22 : TyOk Tryz.prog 22 ty22 := TyOk.of (by kernel_rfl) (by kernel_rfl)
theorem Ty_22 : Ty 22 = some ty22 := by kernel_rfl
theorem ty22_size : ty22.size = 1 := rfl
theorem ty22_bytes : ty22.bytes = 24 := rfl
theorem ty22_zero : ty22.zero = [.slice none 0 0] := rfl
theorem ty22_agg : ty22.isAgg = false := by kernel_rfl
theorem kd_22 : kd Ty 22 = .slice ty62 := by kernel_rfl
theorem ok23 : TyOk Tryz.prog 23 ty23 := TyOk.of (by kernel_rfl) (by kernel_rfl)
theorem Ty_23 : Ty 23 = some ty23 := by kernel_rfl
theorem ty23_size : ty23.size = 1 := rfl
theorem ty23_bytes : ty23.bytes = 24 := rfl
theorem ty23_zero : ty23.zero = [.slice none 0 0] := rfl
theorem ty23_agg : ty23.isAgg = true := by kernel_rfl
theorem kd_23 : kd Ty 23 = .struct [(0, ty22)] := by kernel_rfl
theorem ok24 : TyOk Tryz.prog 24 ty24 := TyOk.of (by kernel_rfl) (by kernel_rfl)
theorem Ty_24 : Ty 24 = some ty24 := by kernel_rfl
theorem ty24_size : ty24.size = 1 := rfl
theorem ty24_bytes : ty24.bytes = 24 := rfl
theorem ty24_zero : ty24.zero = [.slice none 0 0] := rfl
theorem ty24_agg : ty24.isAgg = true := by kernel_rfl
theorem kd_24 : kd Ty 24 = .struct [(0, ty22)] := by kernel_rfl
theorem ok25 : TyOk Tryz.prog 25 ty25 := TyOk.of (by kernel_rfl) (by kernel_rfl)
theorem Ty_25 : Ty 25 = some ty25 := by kernel_rfl
theorem ty25_size : ty25.size = 1 := rfl
theorem ty25_bytes : ty25.bytes = 8 := rfl
theorem ty25_zero : ty25.zero = [.nilFunc] := rfl
theorem ty25_agg : ty25.isAgg = false := by kernel_rfl
theorem ok26 : TyOk Tryz.prog 26 ty26 := TyOk.of (by kernel_rfl) (by kernel_rfl)
theorem Ty_26 : Ty 26 = some ty26 := by kernel_rfl
theorem ty26_size : ty26.size = 1 := rfl
theorem ty26_bytes : ty26.bytes = 24 := rfl
theorem ty26_zero : ty26.zero = [.slice none 0 0] := rfl
theorem ty26_agg : ty26.isAgg = false := by kernel_rfl
theorem kd_26 : kd Ty 26 = .slice ty63 := by kernel_rfl
theorem ok27 : TyOk Tryz.prog 27 ty27 := TyOk.of (by kernel_rfl) (by kernel_rfl)
theorem Ty_27 : Ty 27 = some ty27 := by kernel_rfl
theorem ty27_size : ty27.size = 1 := rfl
theorem ty27_bytes : ty27.bytes = 24 := rfl
theorem ty27_zero : ty27.zero = [.slice none 0 0] := rfl
theorem ty27_agg : ty27.isAgg = true := by kernel_rfl
theorem kd_27 : kd Ty 27 = .struct [(0, ty26)] := by kernel_rfl
theorem ok28 : TyOk Tryz.prog 28 ty28 := TyOk.of (by kernel_rfl) (by kernel_rfl)
theorem Ty_28 : Ty 28 = some ty28 := by kernel_rfl
theorem ty28_size : ty28.size = 1 := rfl
theorem ty28_bytes : ty28.bytes = 24 := rfl
theorem ty28_zero : ty28.zero = [.slice none 0 0] := rfl
theorem ty28_agg : ty28.isAgg = true := by kernel_rfl
theorem kd_28 : kd Ty 28 = .struct [(0, ty26)] := by kernel_rfl
theorem ok30 : TyOk Tryz.prog 30 ty30 := TyOk.of (by kernel_rfl) (by kernel_rfl)
theorem Ty_30 : Ty 30 = some ty30 := by kernel_rfl
theorem ty30_size : ty30.size = 1 := rfl
theorem ty30_bytes : ty30.bytes = 8 := rfl
theorem ty30_zero : ty30.zero = [.nilFunc] := rfl
theorem ty30_agg : ty30.isAgg = false := by kernel_rfl
theorem ok31 : TyOk Tryz.prog 31 ty31 := TyOk.of (by kernel_rfl) (by kernel_rfl)
theorem Ty_31 : Ty 31 = some ty31 := by kernel_rfl
theorem ty31_size : ty31.size = 1 := rfl
theorem ty31_bytes : ty31.bytes = 8 := rfl
theorem ty31_zero : ty31.zero = [.nilFunc] := rfl
theorem ty31_agg : ty31.isAgg = false := by kernel_rfl
theorem ok32 : TyOk Tryz.prog 32 ty32 := TyOk.of (by kernel_rfl) (by kernel_rfl)
theorem Ty_32 : Ty 32 = some ty32 := by kernel_rfl
theorem ty32_size : ty32.size = 1 := rfl
theorem ty32_bytes : ty32.bytes = 8 := rfl
theorem ty32_zero : ty32.zero = [.nilFunc] := rfl
theorem ty32_agg : ty32.isAgg = false := by kernel_rfl
theorem ok33 : TyOk Tryz.prog 33 ty33 := TyOk.of (by kernel_rfl) (by kernel_rfl)
theorem Ty_33 : Ty 33 = some ty33 := by kernel_rfl
theorem ty33_size : ty33.size = 1 := rfl
theorem ty33_bytes : ty33.bytes = 8 := rfl
theorem ty33_zero : ty33.zero = [.nilFunc] := rfl
theorem ty33_agg : ty33.isAgg = false := by kernel_rfl
theorem ok34 : TyOk Tryz.prog 34 ty34 := TyOk.of (by kernel_rfl) (by kernel_rfl)
theorem Ty_34 : Ty 34 = some ty34 := by kernel_rfl
theorem ty34_size : ty34.size = 1 := rfl
theorem ty34_bytes : ty34.bytes = 8 := rfl
theorem ty34_zero : ty34.zero = [.nilFunc] := rfl
theorem ty34_agg : ty34.isAgg = false := by kernel_rfl
theorem ok35 : TyOk Tryz.prog 35 ty35 := TyOk.of (by kernel_rfl) (by kernel_rfl)
theorem Ty_35 : Ty 35 = some ty35 := by kernel_rfl
theorem ty35_size : ty35.size = 3 := rfl
theorem ty35_bytes : ty35.bytes = 24 := rfl
theorem ty35_zero : ty35.zero = [.int .i64 0, .int .i64 0, .int .i64 0] := rfl
theorem ty35_agg : ty35.isAgg = true := by kernel_rfl
theorem kd_35 : kd Ty 35 = .struct [(0, ty3), (1, ty3), (2, ty3)] := by kernel_rfl
theorem ok36 : TyOk Tryz.prog 36 ty36 := TyOk.of (by kernel_rfl) (by kernel_rfl)
theorem Ty_36 : Ty 36 = some ty36 := by kernel_rfl
theorem ty36_size : ty36.size = 3 := rfl
theorem ty36_bytes : ty36.bytes = 24 := rfl
theorem ty36_zero : ty36.zero = [.int .i64 0, .int .i64 0, .int .i64 0] := rfl
theorem ty36_agg : ty36.isAgg = true := by kernel_rfl
theorem kd_36 : kd Ty 36 = .struct [(0, ty3), (1, ty3), (2, ty3)] := by kernel_rfl
theorem ok37 : TyOk Tryz.prog 37 ty37 := TyOk.of (by kernel_rfl) (by kernel_rfl)
theorem Ty_37 : Ty 37 = some ty37 := by kernel_rfl
theorem ty37_size : ty37.size = 1 := rfl
theorem ty37_bytes : ty37.bytes = 8 := rfl
theorem ty37_zero : ty37.zero = [.nilFunc] := rfl
theorem ty37_agg : ty37.isAgg = false := by kernel_rfl
theorem ok38 : TyOk Tryz.prog 38 ty38 := TyOk.of (by kernel_rfl) (by kernel_rfl)
theorem Ty_38 : Ty 38 = some ty38 := by kernel_rfl
theorem ty38_size : ty38.size = 3 := rfl
theorem ty38_bytes : ty38.bytes = 24 := rfl
theorem ty38_zero : ty38.zero = [.int .i64 0, .int .i64 0, .int .i64 0] := rfl
theorem ty38_agg : ty38.isAgg = true := by kernel_rfl
theorem kd_38 : kd Ty 38 = .struct [(0, ty3), (1, ty3), (2, ty3)] := by kernel_rfl
theorem ok39 : TyOk Tryz.prog 39 ty39 := TyOk.of (by kernel_rfl) (by kernel_rfl)
theorem Ty_39 : Ty 39 = some ty39 := by kernel_rfl
theorem ty39_size : ty39.size = 1 := rfl
theorem ty39_bytes : ty39.bytes = 8 := rfl
theorem ty39_zero : ty39.zero = [.nilFunc] := rfl
theorem ty39_agg : ty39.isAgg = false := by kernel_rfl
theorem ok40 : TyOk Tryz.prog 40 ty40 := TyOk.of (by kernel_rfl) (by kernel_rfl)
theorem Ty_40 : Ty 40 = some ty40 := by kernel_rfl
theorem ty40_size : ty40.size = 1 := rfl
theorem ty40_bytes : ty40.bytes = 8 := rfl
theorem ty40_zero : ty40.zero = [.nilFunc] := rfl
theorem ty40_agg : ty40.isAgg = false := by kernel_rfl
theorem ok41 : TyOk Tryz.prog 41 ty41 := TyOk.of (by kernel_rfl) (by kernel_rfl)
theorem Ty_41 : Ty 41 = some ty41 := by kernel_rfl
theorem ty41_size : ty41.size = 1 := rfl
theorem ty41_bytes : ty41.bytes = 24 := rfl
theorem ty41_zero : ty41.zero = [.slice none 0 0] := rfl
theorem ty41_agg : ty41.isAgg = false := by kernel_rfl
theorem kd_41 : kd Ty 41 = .slice ty28 := by kernel_rfl
theorem ok43 : TyOk Tryz.prog 43 ty43 := TyOk.of (by kernel_rfl) (by kernel_rfl)
theorem Ty_43 : Ty 43 = some ty43 := by kernel_rfl
theorem ty43_size : ty43.size = 1 := rfl
theorem ty43_bytes : ty43.bytes = 8 := rfl
theorem ty43_zero : ty43.zero = [.nilFunc] := rfl
theorem ty43_agg : ty43.isAgg = false := by kernel_rfl
theorem ok44 : TyOk Tryz.prog 44 ty44 := TyOk.of (by kernel_rfl) (by kernel_rfl)
theorem Ty_44 : Ty 44 = some ty44 := by kernel_rfl
theorem ty44_size : ty44.size = 1 := rfl
theorem ty44_bytes : ty44.bytes = 8 := rfl
theorem ty44_zero : ty44.zero = [.nilFunc] := rfl
theorem ty44_agg : ty44.isAgg = false := by kernel_rfl
theorem ok45 : TyOk Tryz.prog 45 ty45 := TyOk.of (by kernel_rfl) (by kernel_rfl)
theorem Ty_45 : Ty 45 = some ty45 := by kernel_rfl
theorem ty45_size : ty45.size = 1 := rfl
theorem ty45_bytes : ty45.bytes = 8 := rfl
theorem ty45_zero : ty45.zero = [.nilFunc] := rfl
theorem ty45_agg : ty45.isAgg = false := by kernel_rfl
theorem ok46 : TyOk Tryz.prog 46 ty46 := TyOk.of (by kernel_rfl) (by kernel_rfl)
theorem Ty_46 : Ty 46 = some ty46 := by kernel_rfl
theorem ty46_size : ty46.size = 1 := rfl
theorem ty46_bytes : ty46.bytes = 8 := rfl
theorem ty46_zero : ty46.zero = [.nilFunc] := rfl
theorem ty46_agg : ty46.isAgg = false := by kernel_rfl
theorem ok47 : TyOk Tryz.prog 47 ty47 := TyOk.of (by kernel_rfl) (by kernel_rfl)
theorem Ty_47 : Ty 47 = some ty47 := by kernel_rfl
theorem ty47_size : ty47.size = 1 := rfl
theorem ty47_bytes : ty47.bytes = 8 := rfl
theorem ty47_zero : ty47.zero = [.nilFunc] := rfl
theorem ty47_agg : ty47.isAgg = false := by kernel_rfl
theorem ok48 : TyOk Tryz.prog 48 ty48 := TyOk.of (by kernel_rfl) (by kernel_rfl)
theorem Ty_48 : Ty 48 = some ty48 := by kernel_rfl
theorem ty48_size : ty48.size = 1 := rfl
theorem ty48_bytes : ty48.bytes = 8 := rfl
theorem ty48_zero : ty48.zero = [.nilFunc] := rfl
theorem ty48_agg : ty48.isAgg = false := by kernel_rfl
theorem ok49 : TyOk Tryz.prog 49 ty49 := TyOk.of (by kernel_rfl) (by kernel_rfl)
theorem Ty_49 : Ty 49 = some ty49 := by kernel_rfl
theorem ty49_size : ty49.size = 1 := rfl
theorem ty49_bytes : ty49.bytes = 8 := rfl
theorem ty49_zero : ty49.zero = [.nilFunc] := rfl
theorem ty49_agg : ty49.isAgg = false := by kernel_rfl
theorem ok50 : TyOk Tryz.prog 50 ty50 := TyOk.of (by kernel_rfl) (by kernel_rfl)
theorem Ty_50 : Ty 50 = some ty50 := by kernel_rfl
theorem ty50_size : ty50.size = 1 := rfl
theorem ty50_bytes : ty50.bytes = 8 := rfl
theorem ty50_zero : ty50.zero = [.nilFunc] := rfl
theorem ty50_agg : ty50.isAgg = false := by kernel_rfl
theorem ok51 : TyOk Tryz.prog 51 ty51 := TyOk.of (by kernel_rfl) (by kernel_rfl)
theorem Ty_51 : Ty 51 = some ty51 := by kernel_rfl
theorem ty51_size : ty51.size = 1 := rfl
theorem ty51_bytes : ty51.bytes = 8 := rfl
theorem ty51_zero : ty51.zero = [.nilFunc] := rfl
theorem ty51_agg : ty51.isAgg = false := by kernel_rfl
theorem ok52 : TyOk Tryz.prog 52 ty52 := TyOk.of (by kernel_rfl) (by kernel_rfl)
theorem Ty_52 : Ty 52 = some ty52 := by kernel_rfl
theorem ty52_size : ty52.size = 1 := rfl
theorem ty52_bytes : ty52.bytes = 8 := rfl
theorem ty52_zero : ty52.zero = [.nilFunc] := rfl
theorem ty52_agg : ty52.isAgg = false := by kernel_rfl
theorem ok53 : TyOk Tryz.prog 53 ty53 := TyOk.of (by kernel_rfl) (by kernel_rfl)
theorem Ty_53 : Ty 53 = some ty53 := by kernel_rfl
theorem ty53_size : ty53.size = 1 := rfl
theorem ty53_bytes : ty53.bytes = 8 := rfl
theorem ty53_zero : ty53.zero = [.nilFunc] := rfl
theorem ty53_agg : ty53.isAgg = false := by kernel_rfl
theorem ok54 : TyOk Tryz.prog 54 ty54 := TyOk.of (by kernel_rfl) (by kernel_rfl)
theorem Ty_54 : Ty 54 = some ty54 := by kernel_rfl
theorem ty54_size : ty54.size = 1 := rfl
theorem ty54_bytes : ty54.bytes = 8 := rfl
theorem ty54_zero : ty54.zero = [.nilFunc] := rfl
theorem ty54_agg : ty54.isAgg = false := by kernel_rfl
theorem ok55 : TyOk Tryz.prog 55 ty55 := TyOk.of (by kernel_rfl) (by kernel_rfl)
theorem Ty_55 : Ty 55 = some ty55 := by kernel_rfl
theorem ty55_size : ty55.size = 1 := rfl
theorem ty55_bytes : ty55.bytes = 8 := rfl
theorem ty55_zero : ty55.zero = [.nilFunc] := rfl
theorem ty55_agg : ty55.isAgg = false := by kernel_rfl
theorem ok56 : TyOk Tryz.prog 56 ty56 := TyOk.of (by kernel_rfl) (by kernel_rfl)
theorem Ty_56 : Ty 56 = some ty56 := by kernel_rfl
theorem ty56_size : ty56.size = 1 := rfl
theorem ty56_bytes : ty56.bytes = 8 := rfl
theorem ty56_zero : ty56.zero = [.nilFunc] := rfl
theorem ty56_agg : ty56.isAgg = false := by kernel_rfl
theorem ok57 : TyOk Tryz.prog 57 ty57 := TyOk.of (by kernel_rfl) (by kernel_rfl)
theorem Ty_57 : Ty 57 = some ty57 := by kernel_rfl
theorem ty57_size : ty57.size = 1 := rfl
theorem ty57_bytes : ty57.bytes = 24 := rfl
theorem ty57_zero : ty57.zero = [.slice none 0 0] := rfl
theorem ty57_agg : ty57.isAgg = false := by kernel_rfl
theorem kd_57 : kd Ty 57 = .slice ty9 := by kernel_rfl
theorem ok58 : TyOk Tryz.prog 58 ty58 := TyOk.of (by kernel_rfl) (by kernel_rfl)
theorem Ty_58 : Ty 58 = some ty58 := by kernel_rfl
theorem ty58_size : ty58.size = 1 := rfl
theorem ty58_bytes : ty58.bytes = 8 := rfl
theorem ty58_zero : ty58.zero = [.nilFunc] := rfl
theorem ty58_agg : ty58.isAgg = false := by kernel_rfl
theorem ok59 : TyOk Tryz.prog 59 ty59 := TyOk.of (by kernel_rfl) (by kernel_rfl)
theorem Ty_59 : Ty 59 = some ty59 := by kernel_rfl
theorem ty59_size : ty59.size = 1 := rfl
theorem ty59_bytes : ty59.bytes = 8 := rfl
theorem ty59_zero : ty59.zero = [.nilFunc] := rfl
theorem ty59_agg : ty59.isAgg = false := by kernel_rfl
theorem ok60 : TyOk Tryz.prog 60 ty60 := TyOk.of (by kernel_rfl) (by kernel_rfl)
theorem Ty_60 : Ty 60 = some ty60 := by kernel_rfl
theorem ty60_size : ty60.size = 1 := rfl
theorem ty60_bytes : ty60.bytes = 8 := rfl
theorem ty60_zero : ty60.zero = [.nilFunc] := rfl
theorem ty60_agg : ty60.isAgg = false := by kernel_rfl
theorem ok61 : TyOk Tryz.prog 61 ty61 := TyOk.of (by kernel_rfl) (by kernel_rfl)
theorem Ty_61 : Ty 61 = some ty61 := by kernel_rfl
theorem ty61_size : ty61.size = 3 := rfl
theorem ty61_bytes : ty61.bytes = 32 := rfl
theorem ty61_zero : ty61.zero = [.int .i64 0, .string ⟨#[]⟩, .int .i64 0] := rfl
theorem ty61_agg : ty61.isAgg = true := by kernel_rfl
theorem kd_61 : kd Ty 61 = .struct [(0, ty3), (1, ty9), (2, ty3)] := by kernel_rfl
theorem ok62 : TyOk Tryz.prog 62 ty62 := TyOk.of (by kernel_rfl) (by kernel_rfl)
theorem Ty_62 : Ty 62 = some ty62 := by kernel_rfl
theorem ty62_size : ty62.size = 3 := rfl
theorem ty62_bytes : ty62.bytes = 32 := rfl
theorem ty62_zero : ty62.zero = [.int .i64 0, .string ⟨#[]⟩, .int .i64 0] := rfl
theorem ty62_agg : ty62.isAgg = true := by kernel_rfl
theorem kd_62 : kd Ty 62 = .struct [(0, ty3), (1, ty9), (2, ty3)] := by kernel_rfl
theorem ok63 : TyOk Tryz.prog 63 ty63 := TyOk.of (by kernel_rfl) (by kernel_rfl)
theorem Ty_63 : Ty 63 = some ty63 := by kernel_rfl
theorem ty63_size : ty63.size = 3 := rfl
theorem ty63_bytes : ty63.bytes = 32 := rfl
theorem ty63_zero : ty63.zero = [.int .i64 0, .string ⟨#[]⟩, .int .i64 0] := rfl
theorem ty63_agg : ty63.isAgg = true := by kernel_rfl
theorem kd_63 : kd Ty 63 = .struct [(0, ty3), (1, ty9), (2, ty3)] := by kernel_rfl
theorem ok64 : TyOk Tryz.prog 64 ty64 := TyOk.of (by kernel_rfl) (by kernel_rfl)
theorem Ty_64 : Ty 64 = some ty64 := by kernel_rfl
theorem ty64_size : ty64.size = 1 := rfl
theorem ty64_bytes : ty64.bytes = 8 := rfl
theorem ty64_zero : ty64.zero = [.nilFunc] := rfl
theorem ty64_agg : ty64.isAgg = false := by kernel_rfl
theorem ok65 : TyOk Tryz.prog 65 ty65 := TyOk.of (by kernel_rfl) (by kernel_rfl)
theorem Ty_65 : Ty 65 = some ty65 := by kernel_rfl
theorem ty65_size : ty65.size = 1 := rfl
theorem ty65_bytes : ty65.bytes = 8 := rfl
theorem ty65_zero : ty65.zero = [.nilFunc] := rfl
theorem ty65_agg : ty65.isAgg = false := by kernel_rfl
theorem ok66 : TyOk Tryz.prog 66 ty66 := TyOk.of (by kernel_rfl) (by kernel_rfl)
theorem Ty_66 : Ty 66 = some ty66 := by kernel_rfl
theorem ty66_size : ty66.size = 1 := rfl
theorem ty66_bytes : ty66.bytes = 8 := rfl
theorem ty66_zero : ty66.zero = [.nilFunc] := rfl
theorem ty66_agg : ty66.isAgg = false := by kernel_rfl
theorem ok67 : TyOk Tryz.prog 67 ty67 := TyOk.of (by kernel_rfl) (by kernel_rfl)
theorem Ty_67 : Ty 67 = some ty67 := by kernel_rfl
theorem ty67_size : ty67.size = 1 := rfl
theorem ty67_bytes : ty67.bytes = 8 := rfl
theorem ty67_zero : ty67.zero = [.nilFunc] := rfl
theorem ty67_agg : ty67.isAgg = false := by kernel_rfl
theorem ok68 : TyOk Tryz.prog 68 ty68 := TyOk.of (by kernel_rfl) (by kernel_rfl)
theorem Ty_68 : Ty 68 = some ty68 := by kernel_rfl
theorem ty68_size : ty68.size = 1 := rfl
theorem ty68_bytes : ty68.bytes = 8 := rfl
theorem ty68_zero : ty68.zero = [.nilFunc] := rfl
theorem ty68_agg : ty68.isAgg = false := by kernel_rfl
theorem ok69 : TyOk Tryz.prog 69 ty69 := TyOk.of (by kernel_rfl) (by kernel_rfl)
theorem Ty_69 : Ty 69 = some ty69 := by kernel_rfl
theorem ty69_size : ty69.size = 1 := rfl
theorem ty69_bytes : ty69.bytes = 8 := rfl
theorem ty69_zero : ty69.zero = [.nilFunc] := rfl
theorem ty69_agg : ty69.isAgg = false := by kernel_rfl
theorem ok70 : TyOk Tryz.prog 70 ty70 := TyOk.of (by kernel_rfl) (by kernel_rfl)
theorem Ty_70 : Ty 70 = some ty70 := by kernel_rfl
theorem ty70_size : ty70.size = 1 := rfl
theorem ty70_bytes : ty70.bytes = 8 := rfl
theorem ty70_zero : ty70.zero = [.nilFunc] := rfl
theorem ty70_agg : ty70.isAgg = false := by kernel_rfl
theorem ok71 : TyOk Tryz.prog 71 ty71 := TyOk.of (by kernel_rfl) (by kernel_rfl)
theorem Ty_71 : Ty 71 = some ty71 := by kernel_rfl
theorem ty71_size : ty71.size = 1 := rfl
theorem ty71_bytes : ty71.bytes = 24 := rfl
theorem ty71_zero : ty71.zero = [.slice none 0 0] := rfl
theorem ty71_agg : ty71.isAgg = false := by kernel_rfl
theorem kd_71 : kd Ty 71 = .slice ty3 := by kernel_rfl
theorem ok72 : TyOk Tryz.prog 72 ty72 := TyOk.of (by kernel_rfl) (by kernel_rfl)
theorem Ty_72 : Ty 72 = some ty72 := by kernel_rfl
theorem ty72_size : ty72.size = 1 := rfl
theorem ty72_bytes : ty72.bytes = 8 := rfl
theorem ty72_zero : ty72.zero = [.nilFunc] := rfl
theorem ty72_agg : ty72.isAgg = false := by kernel_rfl
theorem ok73 : TyOk Tryz.prog 73 ty73 := TyOk.of (by kernel_rfl) (by kernel_rfl)
theorem Ty_73 : Ty 73 = some ty73 := by kernel_rfl
theorem ty73_size : ty73.size = 1 := rfl
theorem ty73_bytes : ty73.bytes = 8 := rfl
theorem ty73_zero : ty73.zero = [.nilFunc] := rfl
theorem ty73_agg : ty73.isAgg = false := by kernel_rfl
theorem ok74 : TyOk Tryz.prog 74 ty74 := TyOk.of (by kernel_rfl) (by kernel_rfl)
theorem Ty_74 : Ty 74 = some ty74 := by kernel_rfl
theorem ty74_size : ty74.size = 1 := rfl
theorem ty74_bytes : ty74.bytes = 8 := rfl
theorem ty74_zero : ty74.zero = [.nilFunc] := rfl
theorem ty74_agg : ty74.isAgg = false := by kernel_rfl
theorem ok75 : TyOk Tryz.prog 75 ty75 := TyOk.of (by kernel_rfl) (by kernel_rfl)
theorem Ty_75 : Ty 75 = some ty75 := by kernel_rfl
theorem ty75_size : ty75.size = 1 := rfl
theorem ty75_bytes : ty75.bytes = 8 := rfl
theorem ty75_zero : ty75.zero = [.nilFunc] := rfl
theorem ty75_agg : ty75.isAgg = false := by kernel_rfl
theorem ok76 : TyOk Tryz.prog 76 ty76 := TyOk.of (by kernel_rfl) (by kernel_rfl)
theorem Ty_76 : Ty 76 = some ty76 := by kernel_rfl
theorem ty76_size : ty76.size = 1 := rfl
theorem ty76_bytes : ty76.bytes = 24 := rfl
theorem ty76_zero : ty76.zero = [.slice none 0 0] := rfl
theorem ty76_agg : ty76.isAgg = false := by kernel_rfl
theorem kd_76 : kd Ty 76 = .slice ty38 := by kernel_rfl
theorem ok78 : TyOk Tryz.prog 78 ty78 := TyOk.of (by kernel_rfl) (by kernel_rfl)
theorem Ty_78 : Ty 78 = some ty78 := by kernel_rfl
theorem ty78_size : ty78.size = 1 := rfl
theorem ty78_bytes : ty78.bytes = 8 := rfl
theorem ty78_zero : ty78.zero = [.nilFunc] := rfl
theorem ty78_agg : ty78.isAgg = false := by kernel_rfl
theorem ok79 : TyOk Tryz.prog 79 ty79 := TyOk.of (by kernel_rfl) (by kernel_rfl)
theorem Ty_79 : Ty 79 = some ty79 := by kernel_rfl
theorem ty79_size : ty79.size = 1 := rfl
theorem ty79_bytes : ty79.bytes = 8 := rfl
theorem ty79_zero : ty79.zero = [.nilFunc] := rfl
theorem ty79_agg : ty79.isAgg = false := by kernel_rfl
theorem ok80 : TyOk Tryz.prog 80 ty80 := TyOk.of (by kernel_rfl) (by kernel_rfl)
theorem Ty_80 : Ty 80 = some ty80 := by kernel_rfl
theorem ty80_size : ty80.size = 1 := rfl
theorem ty80_bytes : ty80.bytes = 8 := rfl
theorem ty80_zero : ty80.zero = [.nilFunc] := rfl
theorem ty80_agg : ty80.isAgg = false := by kernel_rfl
theorem ok81 : TyOk Tryz.prog 81 ty81 := TyOk.of (by kernel_rfl) (by kernel_rfl)
theorem Ty_81 : Ty 81 = some ty81 := by kernel_rfl
theorem ty81_size : ty81.size = 1 := rfl
theorem ty81_bytes : ty81.bytes = 8 := rfl
theorem ty81_zero : ty81.zero = [.pointer none] := rfl
theorem ty81_agg : ty81.isAgg = false := by kernel_rfl
theorem ok82 : TyOk Tryz.prog 82 ty82 := TyOk.of (by kernel_rfl) (by kernel_rfl)
theorem Ty_82 : Ty 82 = some ty82 := by kernel_rfl
theorem ty82_size : ty82.size = 3 := rfl
theorem ty82_bytes : ty82.bytes = 48 := rfl
theorem ty82_zero : ty82.zero = [.string ⟨#[]⟩, .slice none 0 0, .bool false] := rfl
theorem ty82_agg : ty82.isAgg = true := by kernel_rfl
theorem kd_82 : kd Ty 82 = .struct [(0, ty9), (1, ty28), (2, ty4)] := by kernel_rfl
theorem ok83 : TyOk Tryz.prog 83 ty83 := TyOk.of (by kernel_rfl) (by kernel_rfl)
theorem Ty_83 : Ty 83 = some ty83 := by kernel_rfl
theorem ty83_size : ty83.size = 3 := rfl
theorem ty83_bytes : ty83.bytes = 48 := rfl
theorem ty83_zero : ty83.zero = [.string ⟨#[]⟩, .slice none 0 0, .bool false] := rfl
theorem ty83_agg : ty83.isAgg = true := by kernel_rfl
theorem kd_83 : kd Ty 83 = .struct [(0, ty9), (1, ty28), (2, ty4)] := by kernel_rfl
theorem ok84 : TyOk Tryz.prog 84 ty84 := TyOk.of (by kernel_rfl) (by kernel_rfl)
theorem Ty_84 : Ty 84 = some ty84 := by kernel_rfl
theorem ty84_size : ty84.size = 1 := rfl
theorem ty84_bytes : ty84.bytes = 8 := rfl
theorem ty84_zero : ty84.zero = [.nilFunc] := rfl
theorem ty84_agg : ty84.isAgg = false := by kernel_rfl
theorem ok85 : TyOk Tryz.prog 85 ty85 := TyOk.of (by kernel_rfl) (by kernel_rfl)
theorem Ty_85 : Ty 85 = some ty85 := by kernel_rfl
theorem ty85_size : ty85.size = 3 := rfl
theorem ty85_bytes : ty85.bytes = 40 := rfl
theorem ty85_zero : ty85.zero = [.slice none 0 0, .int .i64 0, .bool false] := rfl
theorem ty85_agg : ty85.isAgg = true := by kernel_rfl
theorem kd_85 : kd Ty 85 = .struct [(0, ty28), (1, ty3), (2, ty4)] := by kernel_rfl
theorem ok86 : TyOk Tryz.prog 86 ty86 := TyOk.of (by kernel_rfl) (by kernel_rfl)
theorem Ty_86 : Ty 86 = some ty86 := by kernel_rfl
theorem ty86_size : ty86.size = 3 := rfl
theorem ty86_bytes : ty86.bytes = 40 := rfl
theorem ty86_zero : ty86.zero = [.slice none 0 0, .int .i64 0, .bool false] := rfl
theorem ty86_agg : ty86.isAgg = true := by kernel_rfl
theorem kd_86 : kd Ty 86 = .struct [(0, ty28), (1, ty3), (2, ty4)] := by kernel_rfl
theorem ok87 : TyOk Tryz.prog 87 ty87 := TyOk.of (by kernel_rfl) (by kernel_rfl)
theorem Ty_87 : Ty 87 = some ty87 := by kernel_rfl
theorem ty87_size : ty87.size = 1 := rfl
theorem ty87_bytes : ty87.bytes = 8 := rfl
theorem ty87_zero : ty87.zero = [.nilFunc] := rfl
theorem ty87_agg : ty87.isAgg = false := by kernel_rfl
theorem ok88 : TyOk Tryz.prog 88 ty88 := TyOk.of (by kernel_rfl) (by kernel_rfl)
theorem Ty_88 : Ty 88 = some ty88 := by kernel_rfl
theorem ty88_size : ty88.size = 1 := rfl
theorem ty88_bytes : ty88.bytes = 8 := rfl
theorem ty88_zero : ty88.zero = [.nilFunc] := rfl
theorem ty88_agg : ty88.isAgg = false := by kernel_rfl
theorem ok89 : TyOk Tryz.prog 89 ty89 := TyOk.of (by kernel_rfl) (by kernel_rfl)
theorem Ty_89 : Ty 89 = some ty89 := by kernel_rfl
theorem ty89_size : ty89.size = 1 := rfl
theorem ty89_bytes : ty89.bytes = 8 := rfl
theorem ty89_zero : ty89.zero = [.nilFunc] := rfl
theorem ty89_agg : ty89.isAgg = false := by kernel_rfl
theorem ok90 : TyOk Tryz.prog 90 ty90 := TyOk.of (by kernel_rfl) (by kernel_rfl)
theorem Ty_90 : Ty 90 = some ty90 := by kernel_rfl
theorem ty90_size : ty90.size = 1 := rfl
theorem ty90_bytes : ty90.bytes = 8 := rfl
theorem ty90_zero : ty90.zero = [.nilFunc] := rfl
theorem ty90_agg : ty90.isAgg = false := by kernel_rfl
theorem ok91 : TyOk Tryz.prog 91 ty91 := TyOk.of (by kernel_rfl) (by kernel_rfl)
theorem Ty_91 : Ty 91 = some ty91 := by kernel_rfl
theorem ty91_size : ty91.size = 1 := rfl
theorem ty91_bytes : ty91.bytes = 8 := rfl
theorem ty91_zero : ty91.zero = [.nilFunc] := rfl
theorem ty91_agg : ty91.isAgg = false := by kernel_rfl
theorem ok92 : TyOk Tryz.prog 92 ty92 := TyOk.of (by kernel_rfl) (by kernel_rfl)
theorem Ty_92 : Ty 92 = some ty92 := by kernel_rfl
theorem ty92_size : ty92.size = 1 := rfl
theorem ty92_bytes : ty92.bytes = 8 := rfl
theorem ty92_zero : ty92.zero = [.nilFunc] := rfl
theorem ty92_agg : ty92.isAgg = false := by kernel_rfl
theorem ok93 : TyOk Tryz.prog 93 ty93 := TyOk.of (by kernel_rfl) (by kernel_rfl)
theorem Ty_93 : Ty 93 = some ty93 := by kernel_rfl
theorem ty93_size : ty93.size = 1 := rfl
theorem ty93_bytes : ty93.bytes = 24 := rfl
theorem ty93_zero : ty93.zero = [.slice none 0 0] := rfl
theorem ty93_agg : ty93.isAgg = false := by kernel_rfl
theorem kd_93 : kd Ty 93 = .slice ty5 := by kernel_rfl
theorem ok94 : TyOk Tryz.prog 94 ty94 := TyOk.of (by kernel_rfl) (by kernel_rfl)
theorem Ty_94 : Ty 94 = some ty94 := by kernel_rfl
theorem ty94_size : ty94.size = 1 := rfl
theorem ty94_bytes : ty94.bytes = 8 := rfl
theorem ty94_zero : ty94.zero = [.nilFunc] := rfl
theorem ty94_agg : ty94.isAgg = false := by kernel_rfl
theorem ok95 : TyOk Tryz.prog 95 ty95 := TyOk.of (by kernel_rfl) (by kernel_rfl)
theorem Ty_95 : Ty 95 = some ty95 := by kernel_rfl
theorem ty95_size : ty95.size = 1 := rfl
theorem ty95_bytes : ty95.bytes = 8 := rfl
theorem ty95_zero : ty95.zero = [.nilFunc] := rfl
theorem ty95_agg : ty95.isAgg = false := by kernel_rfl
theorem ok96 : TyOk Tryz.prog 96 ty96 := TyOk.of (by kernel_rfl) (by kernel_rfl)
theorem Ty_96 : Ty 96 = some ty96 := by kernel_rfl
theorem ty96_size : ty96.size = 1 := rfl
theorem ty96_bytes : ty96.bytes = 8 := rfl
theorem ty96_zero : ty96.zero = [.nilFunc] := rfl
theorem ty96_agg : ty96.isAgg = false := by kernel_rfl
theorem ok97 : TyOk Tryz.prog 97 ty97 := TyOk.of (by kernel_rfl) (by kernel_rfl)
theorem Ty_97 : Ty 97 = some ty97 := by kernel_rfl
theorem ty97_size : ty97.size = 1 := rfl
theorem ty97_bytes : ty97.bytes = 8 := rfl
theorem ty97_zero : ty97.zero = [.nilFunc] := rfl
theorem ty97_agg : ty97.isAgg = false := by kernel_rfl
theorem ok101 : TyOk Tryz.prog 101 ty101 := TyOk.of (by kernel_rfl) (by kernel_rfl)
theorem Ty_101 : Ty 101 = some ty101 := by kernel_rfl
theorem ty101_size : ty101.size = 1 := rfl
theorem ty101_bytes : ty101.bytes = 8 := rfl
theorem ty101_zero : ty101.zero = [.nilFunc] := rfl
theorem ty101_agg : ty101.isAgg = false := by kernel_rfl
theorem ok102 : TyOk Tryz.prog 102 ty102 := TyOk.of (by kernel_rfl) (by kernel_rfl)
theorem Ty_102 : Ty 102 = some ty102 := by kernel_rfl
theorem ty102_size : ty102.size = 1 := rfl
theorem ty102_bytes : ty102.bytes = 8 := rfl
theorem ty102_zero : ty102.zero = [.nilFunc] := rfl
theorem ty102_agg : ty102.isAgg = false := by kernel_rfl
theorem ok103 : TyOk Tryz.prog 103 ty103 := TyOk.of (by kernel_rfl) (by kernel_rfl)
theorem Ty_103 : Ty 103 = some ty103 := by kernel_rfl
theorem ty103_size : ty103.size = 1 := rfl
theorem ty103_bytes : ty103.bytes = 8 := rfl
theorem ty103_zero : ty103.zero = [.pointer none] := rfl
theorem ty103_agg : ty103.isAgg = false := by kernel_rfl
theorem ok104 : TyOk Tryz.prog 104 ty104 := TyOk.of (by kernel_rfl) (by kernel_rfl)
theorem Ty_104 : Ty 104 = some ty104 := by kernel_rfl
theorem ty104_size : ty104.size = 1 := rfl
theorem ty104_bytes : ty104.bytes = 8 := rfl
theorem ty104_zero : ty104.zero = [.nilFunc] := rfl
theorem ty104_agg : ty104.isAgg = false := by kernel_rfl
theorem ok105 : TyOk Tryz.prog 105 ty105 := TyOk.of (by kernel_rfl) (by kernel_rfl)
theorem Ty_105 : Ty 105 = some ty105 := by kernel_rfl
theorem ty105_size : ty105.size = 1 := rfl
theorem ty105_bytes : ty105.bytes = 8 := rfl
theorem ty105_zero : ty105.zero = [.nilFunc] := rfl
theorem ty105_agg : ty105.isAgg = false := by kernel_rfl
theorem ok106 : TyOk Tryz.prog 106 ty106 := TyOk.of (by kernel_rfl) (by kernel_rfl)
theorem Ty_106 : Ty 106 = some ty106 := by kernel_rfl
theorem ty106_size : ty106.size = 1 := rfl
theorem ty106_bytes : ty106.bytes = 8 := rfl
theorem ty106_zero : ty106.zero = [.int .u64 0] := rfl
theorem ty106_agg : ty106.isAgg = false := by kernel_rfl
theorem kd_106 : kd Ty 106 = .int .u64 := by kernel_rfl
theorem ok107 : TyOk Tryz.prog 107 ty107 := TyOk.of (by kernel_rfl) (by kernel_rfl)
theorem Ty_107 : Ty 107 = some ty107 := by kernel_rfl
theorem ty107_size : ty107.size = 1 := rfl
theorem ty107_bytes : ty107.bytes = 8 := rfl
theorem ty107_zero : ty107.zero = [.nilFunc] := rfl
theorem ty107_agg : ty107.isAgg = false := by kernel_rfl
theorem ok109 : TyOk Tryz.prog 109 ty109 := TyOk.of (by kernel_rfl) (by kernel_rfl)
theorem Ty_109 : Ty 109 = some ty109 := by kernel_rfl
theorem ty109_size : ty109.size = 1 := rfl
theorem ty109_bytes : ty109.bytes = 8 := rfl
theorem ty109_zero : ty109.zero = [.nilFunc] := rfl
theorem ty109_agg : ty109.isAgg = false := by kernel_rfl
theorem ok110 : TyOk Tryz.prog 110 ty110 := TyOk.of (by kernel_rfl) (by kernel_rfl)
theorem Ty_110 : Ty 110 = some ty110 := by kernel_rfl
theorem ty110_size : ty110.size = 1 := rfl
theorem ty110_bytes : ty110.bytes = 8 := rfl
theorem ty110_zero : ty110.zero = [.nilFunc] := rfl
theorem ty110_agg : ty110.isAgg = false := by kernel_rfl
theorem ok112 : TyOk Tryz.prog 112 ty112 := TyOk.of (by kernel_rfl) (by kernel_rfl)
theorem Ty_112 : Ty 112 = some ty112 := by kernel_rfl
theorem ty112_size : ty112.size = 1 := rfl
theorem ty112_bytes : ty112.bytes = 8 := rfl
theorem ty112_zero : ty112.zero = [.nilFunc] := rfl
theorem ty112_agg : ty112.isAgg = false := by kernel_rfl
theorem ok114 : TyOk Tryz.prog 114 ty114 := TyOk.of (by kernel_rfl) (by kernel_rfl)
theorem Ty_114 : Ty 114 = some ty114 := by kernel_rfl
theorem ty114_size : ty114.size = 1 := rfl
theorem ty114_bytes : ty114.bytes = 8 := rfl
theorem ty114_zero : ty114.zero = [.nilFunc] := rfl
theorem ty114_agg : ty114.isAgg = false := by kernel_rfl
theorem ok115 : TyOk Tryz.prog 115 ty115 := TyOk.of (by kernel_rfl) (by kernel_rfl)
theorem Ty_115 : Ty 115 = some ty115 := by kernel_rfl
theorem ty115_size : ty115.size = 1 := rfl
theorem ty115_bytes : ty115.bytes = 8 := rfl
theorem ty115_zero : ty115.zero = [.nilFunc] := rfl
theorem ty115_agg : ty115.isAgg = false := by kernel_rfl
theorem ok117 : TyOk Tryz.prog 117 ty117 := TyOk.of (by kernel_rfl) (by kernel_rfl)
theorem Ty_117 : Ty 117 = some ty117 := by kernel_rfl
theorem ty117_size : ty117.size = 1 := rfl
theorem ty117_bytes : ty117.bytes = 8 := rfl
theorem ty117_zero : ty117.zero = [.nilFunc] := rfl
theorem ty117_agg : ty117.isAgg = false := by kernel_rfl
theorem ok118 : TyOk Tryz.prog 118 ty118 := TyOk.of (by kernel_rfl) (by kernel_rfl)
theorem Ty_118 : Ty 118 = some ty118 := by kernel_rfl
theorem ty118_size : ty118.size = 1 := rfl
theorem ty118_bytes : ty118.bytes = 8 := rfl
theorem ty118_zero : ty118.zero = [.nilFunc] := rfl
theorem ty118_agg : ty118.isAgg = false := by kernel_rfl
theorem ok119 : TyOk Tryz.prog 119 ty119 := TyOk.of (by kernel_rfl) (by kernel_rfl)
theorem Ty_119 : Ty 119 = some ty119 := by kernel_rfl
theorem ty119_size : ty119.size = 1 := rfl
theorem ty119_bytes : ty119.bytes = 8 := rfl
theorem ty119_zero : ty119.zero = [.nilFunc] := rfl
theorem ty119_agg : ty119.isAgg = false := by kernel_rfl
theorem ok120 : TyOk Tryz.prog 120 ty120 := TyOk.of (by kernel_rfl) (by kernel_rfl)
theorem Ty_120 : Ty 120 = some ty120 := by kernel_rfl
theorem ty120_size : ty120.size = 1 := rfl
theorem ty120_bytes : ty120.bytes = 8 := rfl
theorem ty120_zero : ty120.zero = [.int .i64 0] := rfl
theorem ty120_agg : ty120.isAgg = false := by kernel_rfl
theorem kd_120 : kd Ty 120 = .int .i64 := by kernel_rfl
theorem ok122 : TyOk Tryz.prog 122 ty122 := TyOk.of (by kernel_rfl) (by kernel_rfl)
theorem Ty_122 : Ty 122 = some ty122 := by kernel_rfl
theorem ty122_size : ty122.size = 1 := rfl
theorem ty122_bytes : ty122.bytes = 8 := rfl
theorem ty122_zero : ty122.zero = [.nilFunc] := rfl
theorem ty122_agg : ty122.isAgg = false := by kernel_rfl
theorem ok123 : TyOk Tryz.prog 123 ty123 := TyOk.of (by kernel_rfl) (by kernel_rfl)
theorem Ty_123 : Ty 123 = some ty123 := by kernel_rfl
theorem ty123_size : ty123.size = 1 := rfl
theorem ty123_bytes : ty123.bytes = 8 := rfl
theorem ty123_zero : ty123.zero = [.nilFunc] := rfl
theorem ty123_agg : ty123.isAgg = false := by kernel_rfl
theorem ok124 : TyOk Tryz.prog 124 ty124 := TyOk.of (by kernel_rfl) (by kernel_rfl)
theorem Ty_124 : Ty 124 = some ty124 := by kernel_rfl
theorem ty124_size : ty124.size = 1 := rfl
theorem ty124_bytes : ty124.bytes = 8 := rfl
theorem ty124_zero : ty124.zero = [.nilFunc] := rfl
theorem ty124_agg : ty124.isAgg = false := by kernel_rfl
theorem ok125 : TyOk Tryz.prog 125 ty125 := TyOk.of (by kernel_rfl) (by kernel_rfl)
theorem Ty_125 : Ty 125 = some ty125 := by kernel_rfl
theorem ty125_size : ty125.size = 1 := rfl
theorem ty125_bytes : ty125.bytes = 8 := rfl
theorem ty125_zero : ty125.zero = [.nilFunc] := rfl
theorem ty125_agg : ty125.isAgg = false := by kernel_rfl
theorem ok127 : TyOk Tryz.prog 127 ty127 := TyOk.of (by kernel_rfl) (by kernel_rfl)
theorem Ty_127 : Ty 127 = some ty127 := by kernel_rfl
theorem ty127_size : ty127.size = 1 := rfl
theorem ty127_bytes : ty127.bytes = 8 := rfl
theorem ty127_zero : ty127.zero = [.nilFunc] := rfl
theorem ty127_agg : ty127.isAgg = false := by kernel_rfl
theorem ok128 : TyOk Tryz.prog 128 ty128 := TyOk.of (by kernel_rfl) (by kernel_rfl)
theorem Ty_128 : Ty 128 = some ty128 := by kernel_rfl
theorem ty128_size : ty128.size = 1 := rfl
theorem ty128_bytes : ty128.bytes = 8 := rfl
theorem ty128_zero : ty128.zero = [.nilFunc] := rfl
theorem ty128_agg : ty128.isAgg = false := by kernel_rfl
theorem ok129 : TyOk Tryz.prog 129 ty129 := TyOk.of (by kernel_rfl) (by kernel_rfl)
theorem Ty_129 : Ty 129 = some ty129 := by kernel_rfl
theorem ty129_size : ty129.size = 1 := rfl
theorem ty129_bytes : ty129.bytes = 4 := rfl
theorem ty129_zero : ty129.zero = [.int .u32 0] := rfl
theorem ty129_agg : ty129.isAgg = false := by kernel_rfl
theorem kd_129 : kd Ty 129 = .int .u32 := by kernel_rfl
theorem ok130 : TyOk Tryz.prog 130 ty130 := TyOk.of (by kernel_rfl) (by kernel_rfl)
theorem Ty_130 : Ty 130 = some ty130 := by kernel_rfl
theorem ty130_size : ty130.size = 1 := rfl
theorem ty130_bytes : ty130.bytes = 8 := rfl
theorem ty130_zero : ty130.zero = [.nilFunc] := rfl
theorem ty130_agg : ty130.isAgg = false := by kernel_rfl
theorem ok131 : TyOk Tryz.prog 131 ty131 := TyOk.of (by kernel_rfl) (by kernel_rfl)
theorem Ty_131 : Ty 131 = some ty131 := by kernel_rfl
theorem ty131_size : ty131.size = 1 := rfl
theorem ty131_bytes : ty131.bytes = 8 := rfl
theorem ty131_zero : ty131.zero = [.int .u64 0] := rfl
theorem ty131_agg : ty131.isAgg = false := by kernel_rfl
theorem kd_131 : kd Ty 131 = .int .u64 := by kernel_rfl
theorem ok132 : TyOk Tryz.prog 132 ty132 := TyOk.of (by kernel_rfl) (by kernel_rfl)
theorem Ty_132 : Ty 132 = some ty132 := by kernel_rfl
theorem ty132_size : ty132.size = 1 := rfl
theorem ty132_bytes : ty132.bytes = 8 := rfl
theorem ty132_zero : ty132.zero = [.pointer none] := rfl
theorem ty132_agg : ty132.isAgg = false := by kernel_rfl
theorem ok133 : TyOk Tryz.prog 133 ty133 := TyOk.of (by kernel_rfl) (by kernel_rfl)
theorem Ty_133 : Ty 133 = some ty133 := by kernel_rfl
theorem ty133_size : ty133.size = 2 := rfl
theorem ty133_bytes : ty133.bytes = 32 := rfl
theorem ty133_zero : ty133.zero = [.pointer none, .slice none 0 0] := rfl
theorem ty133_agg : ty133.isAgg = true := by kernel_rfl
theorem kd_133 : kd Ty 133 = .struct [(0, ty132), (1, ty93)] := by kernel_rfl
theorem ok134 : TyOk Tryz.prog 134 ty134 := TyOk.of (by kernel_rfl) (by kernel_rfl)
theorem Ty_134 : Ty 134 = some ty134 := by kernel_rfl
theorem ty134_size : ty134.size = 2 := rfl
theorem ty134_bytes : ty134.bytes = 32 := rfl
theorem ty134_zero : ty134.zero = [.pointer none, .slice none 0 0] := rfl
theorem ty134_agg : ty134.isAgg = true := by kernel_rfl
theorem kd_134 : kd Ty 134 = .struct [(0, ty132), (1, ty93)] := by kernel_rfl
theorem ok135 : TyOk Tryz.prog 135 ty135 := TyOk.of (by kernel_rfl) (by kernel_rfl)
theorem Ty_135 : Ty 135 = some ty135 := by kernel_rfl
theorem ty135_size : ty135.size = 1 := rfl
theorem ty135_bytes : ty135.bytes = 16 := rfl
theorem ty135_zero : ty135.zero = [.nilIface] := rfl
theorem ty135_agg : ty135.isAgg = false := by kernel_rfl
theorem ok136 : TyOk Tryz.prog 136 ty136 := TyOk.of (by kernel_rfl) (by kernel_rfl)
theorem Ty_136 : Ty 136 = some ty136 := by kernel_rfl
theorem ty136_size : ty136.size = 1 := rfl
theorem ty136_bytes : ty136.bytes = 16 := rfl
theorem ty136_zero : ty136.zero = [.nilIface] := rfl
theorem ty136_agg : ty136.isAgg = false := by kernel_rfl
theorem ok138 : TyOk Tryz.prog 138 ty138 := TyOk.of (by kernel_rfl) (by kernel_rfl)
theorem Ty_138 : Ty 138 = some ty138 := by kernel_rfl
theorem ty138_size : ty138.size = 1 := rfl
theorem ty138_bytes : ty138.bytes = 8 := rfl
theorem ty138_zero : ty138.zero = [.nilFunc] := rfl
theorem ty138_agg : ty138.isAgg = false := by kernel_rfl
theorem ok139 : TyOk Tryz.prog 139 ty139 := TyOk.of (by kernel_rfl) (by kernel_rfl)
theorem Ty_139 : Ty 139 = some ty139 := by kernel_rfl
theorem ty139_size : ty139.size = 1 := rfl
theorem ty139_bytes : ty139.bytes = 8 := rfl
theorem ty139_zero : ty139.zero = [.nilFunc] := rfl
theorem ty139_agg : ty139.isAgg = false := by kernel_rfl
theorem ok140 : TyOk Tryz.prog 140 ty140 := TyOk.of (by kernel_rfl) (by kernel_rfl)
theorem Ty_140 : Ty 140 = some ty140 := by kernel_rfl
theorem ty140_size : ty140.size = 1 := rfl
theorem ty140_bytes : ty140.bytes = 8 := rfl
theorem ty140_zero : ty140.zero = [.int .u64 0] := rfl
theorem ty140_agg : ty140.isAgg = false := by kernel_rfl
theorem kd_140 : kd Ty 140 = .int .u64 := by kernel_rfl
theorem ok141 : TyOk Tryz.prog 141 ty141 := TyOk.of (by kernel_rfl) (by kernel_rfl)
theorem Ty_141 : Ty 141 = some ty141 := by kernel_rfl
theorem ty141_size : ty141.size = 1 := rfl
theorem ty141_bytes : ty141.bytes = 8 := rfl
theorem ty141_zero : ty141.zero = [.nilFunc] := rfl
theorem ty141_agg : ty141.isAgg = false := by kernel_rfl
theorem ok142 : TyOk Tryz.prog 142 ty142 := TyOk.of (by kernel_rfl) (by kernel_rfl)
theorem Ty_142 : Ty 142 = some ty142 := by kernel_rfl
theorem ty142_size : ty142.size = 1 := rfl
theorem ty142_bytes : ty142.bytes = 8 := rfl
theorem ty142_zero : ty142.zero = [.nilFunc] := rfl
theorem ty142_agg : ty142.isAgg = false := by kernel_rfl
theorem ok143 : TyOk Tryz.prog 143 ty143 := TyOk.of (by kernel_rfl) (by kernel_rfl)
theorem Ty_143 : Ty 143 = some ty143 := by kernel_rfl
theorem ty143_size : ty143.size = 1 := rfl
theorem ty143_bytes : ty143.bytes = 8 := rfl
theorem ty143_zero : ty143.zero = [.nilFunc] := rfl
theorem ty143_agg : ty143.isAgg = false := by kernel_rfl
theorem ok144 : TyOk Tryz.prog 144 ty144 := TyOk.of (by kernel_rfl) (by kernel_rfl)
theorem Ty_144 : Ty 144 = some ty144 := by kernel_rfl
theorem ty144_size : ty144.size = 1 := rfl
theorem ty144_bytes : ty144.bytes = 8 := rfl
theorem ty144_zero : ty144.zero = [.pointer none] := rfl
theorem ty144_agg : ty144.isAgg = false := by kernel_rfl
theorem ok145 : TyOk Tryz.prog 145 ty145 := TyOk.of (by kernel_rfl) (by kernel_rfl)
theorem Ty_145 : Ty 145 = some ty145 := by kernel_rfl
theorem ty145_size : ty145.size = 1 := rfl
theorem ty145_bytes : ty145.bytes = 8 := rfl
theorem ty145_zero : ty145.zero = [.nilFunc] := rfl
theorem ty145_agg : ty145.isAgg = false := by kernel_rfl
theorem ok146 : TyOk Tryz.prog 146 ty146 := TyOk.of (by kernel_rfl) (by kernel_rfl)
theorem Ty_146 : Ty 146 = some ty146 := by kernel_rfl
theorem ty146_size : ty146.size = 1 := rfl
theorem ty146_bytes : ty146.bytes = 8 := rfl
theorem ty146_zero : ty146.zero = [.pointer none] := rfl
theorem ty146_agg : ty146.isAgg = false := by kernel_rfl
theorem ok148 : TyOk Tryz.prog 148 ty148 := TyOk.of (by kernel_rfl) (by kernel_rfl)
theorem Ty_148 : Ty 148 = some ty148 := by kernel_rfl
theorem ty148_size : ty148.size = 2 := rfl
theorem ty148_bytes : ty148.bytes = 2 := rfl
theorem ty148_zero : ty148.zero = [.int .u8 0, .int .u8 0] := rfl
theorem ty148_agg : ty148.isAgg = true := by kernel_rfl
theorem kd_148 : kd Ty 148 = .struct [(0, ty5), (1, ty5)] := by kernel_rfl
theorem ok149 : TyOk Tryz.prog 149 ty149 := TyOk.of (by kernel_rfl) (by kernel_rfl)
theorem Ty_149 : Ty 149 = some ty149 := by kernel_rfl
theorem ty149_size : ty149.size = 2 := rfl
theorem ty149_bytes : ty149.bytes = 2 := rfl
theorem ty149_zero : ty149.zero = [.int .u8 0, .int .u8 0] := rfl
theorem ty149_agg : ty149.isAgg = true := by kernel_rfl
theorem kd_149 : kd Ty 149 = .struct [(0, ty5), (1, ty5)] := by kernel_rfl
theorem ok150 : TyOk Tryz.prog 150 ty150 := TyOk.of (by kernel_rfl) (by kernel_rfl)
theorem Ty_150 : Ty 150 = some ty150 := by kernel_rfl
theorem ty150_size : ty150.size = 32 := rfl
theorem ty150_bytes : ty150.bytes = 32 := rfl
theorem ty150_zero : ty150.zero = [.int .u8 0, .int .u8 0, .int .u8 0, .int .u8 0, .int .u8 0, .int .u8 0, .int .u8 0, .int .u8 0, .int .u8 0, .int .u8 0, .int .u8 0, .int .u8 0, .int .u8 0, .int .u8 0, .int .u8 0, .int .u8 0, .int .u8 0, .int .u8 0, .int .u8 0, .int .u8 0, .int .u8 0, .int .u8 0, .int .u8 0, .int .u8 0, .int .u8 0, .int .u8 0, .int .u8 0, .int .u8 0, .int .u8 0, .int .u8 0, .int .u8 0, .int .u8 0] := rfl
theorem ty150_agg : ty150.isAgg = true := by kernel_rfl
theorem kd_150 : kd Ty 150 = .arr 16 ty149 := by kernel_rfl
theorem ok151 : TyOk Tryz.prog 151 ty151 := TyOk.of (by kernel_rfl) (by kernel_rfl)
theorem Ty_151 : Ty 151 = some ty151 := by kernel_rfl
theorem ty151_size : ty151.size = 1 := rfl
theorem ty151_bytes : ty151.bytes = 8 := rfl
theorem ty151_zero : ty151.zero = [.nilFunc] := rfl
theorem ty151_agg : ty151.isAgg = false := by kernel_rfl
theorem ok152 : TyOk Tryz.prog 152 ty152 := TyOk.of (by kernel_rfl) (by kernel_rfl)
theorem Ty_152 : Ty 152 = some ty152 := by kernel_rfl
theorem ty152_size : ty152.size = 1 := rfl
theorem ty152_bytes : ty152.bytes = 8 := rfl
theorem ty152_zero : ty152.zero = [.nilFunc] := rfl
theorem ty152_agg : ty152.isAgg = false := by kernel_rfl
theorem ok153 : TyOk Tryz.prog 153 ty153 := TyOk.of (by kernel_rfl) (by kernel_rfl)
theorem Ty_153 : Ty 153 = some ty153 := by kernel_rfl
theorem ty153_size : ty153.size = 1 := rfl
theorem ty153_bytes : ty153.bytes = 8 := rfl
theorem ty153_zero : ty153.zero = [.nilFunc] := rfl
theorem ty153_agg : ty153.isAgg = false := by kernel_rfl
theorem ok154 : TyOk Tryz.prog 154 ty154 := TyOk.of (by kernel_rfl) (by kernel_rfl)
theorem Ty_154 : Ty 154 = some ty154 := by kernel_rfl
theorem ty154_size : ty154.size = 1 := rfl
theorem ty154_bytes : ty154.bytes = 8 := rfl
theorem ty154_zero : ty154.zero = [.nilFunc] := rfl
theorem ty154_agg : ty154.isAgg = false := by kernel_rfl
theorem ok155 : TyOk Tryz.prog 155 ty155 := TyOk.of (by kernel_rfl) (by kernel_rfl)
theorem Ty_155 : Ty 155 = some ty155 := by kernel_rfl
theorem ty155_size : ty155.size = 1 := rfl
theorem ty155_bytes : ty155.bytes = 8 := rfl
theorem ty155_zero : ty155.zero = [.pointer none] := rfl
theorem ty155_agg : ty155.isAgg = false := by kernel_rfl
theorem ok157 : TyOk Tryz.prog 157 ty157 := TyOk.of (by kernel_rfl) (by kernel_rfl)
theorem Ty_157 : Ty 157 = some ty157 := by kernel_rfl
theorem ty157_size : ty157.size = 1 := rfl
theorem ty157_bytes : ty157.bytes = 8 := rfl
theorem ty157_zero : ty157.zero = [.nilFunc] := rfl
theorem ty157_agg : ty157.isAgg = false := by kernel_rfl
theorem ok158 : TyOk Tryz.prog 158 ty158 := TyOk.of (by kernel_rfl) (by kernel_rfl)
theorem Ty_158 : Ty 158 = some ty158 := by kernel_rfl
theorem ty158_size : ty158.size = 1 := rfl
theorem ty158_bytes : ty158.bytes = 8 := rfl
theorem ty158_zero : ty158.zero = [.pointer none] := rfl
theorem ty158_agg : ty158.isAgg = false := by kernel_rfl
theorem ok159 : TyOk Tryz.prog 159 ty159 := TyOk.of (by kernel_rfl) (by kernel_rfl)
theorem Ty_159 : Ty 159 = some ty159 := by kernel_rfl
theorem ty159_size : ty159.size = 1 := rfl
theorem ty159_bytes : ty159.bytes = 8 := rfl
theorem ty159_zero : ty159.zero = [.nilFunc] := rfl
theorem ty159_agg : ty159.isAgg = false := by kernel_rfl
theorem ok160 : TyOk Tryz.prog 160 ty160 := TyOk.of (by kernel_rfl) (by kernel_rfl)
theorem Ty_160 : Ty 160 = some ty160 := by kernel_rfl
theorem ty160_size : ty160.size = 1 := rfl
theorem ty160_bytes : ty160.bytes = 8 := rfl
theorem ty160_zero : ty160.zero = [.nilFunc] := rfl
theorem ty160_agg : ty160.isAgg = false := by kernel_rfl
theorem ok161 : TyOk Tryz.prog 161 ty161 := TyOk.of (by kernel_rfl) (by kernel_rfl)
theorem Ty_161 : Ty 161 = some ty161 := by kernel_rfl
theorem ty161_size : ty161.size = 4 := rfl
theorem ty161_bytes : ty161.bytes = 40 := rfl
theorem ty161_zero : ty161.zero = [.pointer none, .pointer none, .pointer none, .string ⟨#[]⟩] := rfl
theorem ty161_agg : ty161.isAgg = true := by kernel_rfl
theorem kd_161 : kd Ty 161 = .struct [(0, ty17), (1, ty17), (2, ty17), (3, ty9)] := by kernel_rfl
theorem ok163 : TyOk Tryz.prog 163 ty163 := TyOk.of (by kernel_rfl) (by kernel_rfl)
theorem Ty_163 : Ty 163 = some ty163 := by kernel_rfl
theorem ty163_size : ty163.size = 0 := rfl
theorem ty163_bytes : ty163.bytes = 0 := rfl
theorem ty163_zero : ty163.zero = [] := rfl
theorem ty163_agg : ty163.isAgg = true := by kernel_rfl
theorem kd_163 : kd Ty 163 = .arr 0 ty16 := by kernel_rfl
theorem ok164 : TyOk Tryz.prog 164 ty164 := TyOk.of (by kernel_rfl) (by kernel_rfl)
theorem Ty_164 : Ty 164 = some ty164 := by kernel_rfl
theorem ty164_size : ty164.size = 0 := rfl
theorem ty164_bytes : ty164.bytes = 0 := rfl
theorem ty164_zero : ty164.zero = [] := rfl
theorem ty164_agg : ty164.isAgg = true := by kernel_rfl
theorem kd_164 : kd Ty 164 = .struct [(0, ty163)] := by kernel_rfl
theorem ok166 : TyOk Tryz.prog 166 ty166 := TyOk.of (by kernel_rfl) (by kernel_rfl)
theorem Ty_166 : Ty 166 = some ty166 := by kernel_rfl
theorem ty166_size : ty166.size = 1 := rfl
theorem ty166_bytes : ty166.bytes = 8 := rfl
theorem ty166_zero : ty166.zero = [.nilFunc] := rfl
theorem ty166_agg : ty166.isAgg = false := by kernel_rfl
theorem ok167 : TyOk Tryz.prog 167 ty167 := TyOk.of (by kernel_rfl) (by kernel_rfl)
theorem Ty_167 : Ty 167 = some ty167 := by kernel_rfl
theorem ty167_size : ty167.size = 1 := rfl
theorem ty167_bytes : ty167.bytes = 1 := rfl
theorem ty167_zero : ty167.zero = [.int .u8 0] := rfl
theorem ty167_agg : ty167.isAgg = false := by kernel_rfl
theorem kd_167 : kd Ty 167 = .int .u8 := by kernel_rfl
theorem ok168 : TyOk Tryz.prog 168 ty168 := TyOk.of (by kernel_rfl) (by kernel_rfl)
theorem Ty_168 : Ty 168 = some ty168 := by kernel_rfl
theorem ty168_size : ty168.size = 1 := rfl
theorem ty168_bytes : ty168.bytes = 1 := rfl
theorem ty168_zero : ty168.zero = [.int .u8 0] := rfl
theorem ty168_agg : ty168.isAgg = false := by kernel_rfl
theorem kd_168 : kd Ty 168 = .int .u8 := by kernel_rfl
theorem ok169 : TyOk Tryz.prog 169 ty169 := TyOk.of (by kernel_rfl) (by kernel_rfl)
theorem Ty_169 : Ty 169 = some ty169 := by kernel_rfl
theorem ty169_size : ty169.size = 1 := rfl
theorem ty169_bytes : ty169.bytes = 8 := rfl
theorem ty169_zero : ty169.zero = [.nilFunc] := rfl
theorem ty169_agg : ty169.isAgg = false := by kernel_rfl
theorem ok170 : TyOk Tryz.prog 170 ty170 := TyOk.of (by kernel_rfl) (by kernel_rfl)
theorem Ty_170 : Ty 170 = some ty170 := by kernel_rfl
theorem ty170_size : ty170.size = 1 := rfl
theorem ty170_bytes : ty170.bytes = 4 := rfl
theorem ty170_zero : ty170.zero = [.int .i32 0] := rfl
theorem ty170_agg : ty170.isAgg = false := by kernel_rfl
theorem kd_170 : kd Ty 170 = .int .i32 := by kernel_rfl
theorem ok171 : TyOk Tryz.prog 171 ty171 := TyOk.of (by kernel_rfl) (by kernel_rfl)
theorem Ty_171 : Ty 171 = some ty171 := by kernel_rfl
theorem ty171_size : ty171.size = 1 := rfl
theorem ty171_bytes : ty171.bytes = 4 := rfl
theorem ty171_zero : ty171.zero = [.int .i32 0] := rfl
theorem ty171_agg : ty171.isAgg = false := by kernel_rfl
theorem kd_171 : kd Ty 171 = .int .i32 := by kernel_rfl
theorem ok172 : TyOk Tryz.prog 172 ty172 := TyOk.of (by kernel_rfl) (by kernel_rfl)
theorem Ty_172 : Ty 172 = some ty172 := by kernel_rfl
theorem ty172_size : ty172.size = 11 := rfl
theorem ty172_bytes : ty172.bytes = 48 := rfl
theorem ty172_zero : ty172.zero = [.int .u64 0, .int .u64 0, .int .u32 0, .int .u8 0, .int .u8 0, .int .u8 0, .int .u8 0, .nilFunc, .pointer none, .int .i32 0, .int .i32 0] := rfl
theorem ty172_agg : ty172.isAgg = true := by kernel_rfl
theorem kd_172 : kd Ty 172 = .struct [(0, ty12), (1, ty12), (2, ty129), (3, ty167), (4, ty5), (5, ty5), (6, ty168), (7, ty169), (8, ty146), (9, ty170), (10, ty171)] := by kernel_rfl
theorem ok173 : TyOk Tryz.prog 173 ty173 := TyOk.of (by kernel_rfl) (by kernel_rfl)
theorem Ty_173 : Ty 173 = some ty173 := by kernel_rfl
theorem ty173_size : ty173.size = 11 := rfl
theorem ty173_bytes : ty173.bytes = 48 := rfl
theorem ty173_zero : ty173.zero = [.int .u64 0, .int .u64 0, .int .u32 0, .int .u8 0, .int .u8 0, .int .u8 0, .int .u8 0, .nilFunc, .pointer none, .int .i32 0, .int .i32 0] := rfl
theorem ty173_agg : ty173.isAgg = true := by kernel_rfl
theorem kd_173 : kd Ty 173 = .struct [(0, ty12), (1, ty12), (2, ty129), (3, ty167), (4, ty5), (5, ty5), (6, ty168), (7, ty169), (8, ty146), (9, ty170), (10, ty171)] := by kernel_rfl
theorem Ty_ok : TypesOk Tryz.prog Ty := by
  have h : ∀ p ∈ tyL, TyOk Tryz.prog p.1 p.2 := by
    refine List.forall_mem_cons.2 ⟨ok1, ?_⟩
    refine List.forall_mem_cons.2 ⟨ok2, ?_⟩
    refine List.forall_mem_cons.2 ⟨ok3, ?_⟩
    refine List.forall_mem_cons.2 ⟨ok4, ?_⟩
    refine List.forall_mem_cons.2 ⟨ok5, ?_⟩
    refine List.forall_mem_cons.2 ⟨ok6, ?_⟩
    refine List.forall_mem_cons.2 ⟨ok7, ?_⟩
    refine List.forall_mem_cons.2 ⟨ok9, ?_⟩
    refine List.forall_mem_cons.2 ⟨ok12, ?_⟩
    refine List.forall_mem_cons.2 ⟨ok13, ?_⟩
    refine List.forall_mem_cons.2 ⟨ok15, ?_⟩
    refine List.forall_mem_cons.2 ⟨ok16, ?_⟩
    refine List.forall_mem_cons.2 ⟨ok17, ?_⟩
    refine List.forall_mem_cons.2 ⟨ok18, ?_⟩
    refine List.forall_mem_cons.2 ⟨ok19, ?_⟩
    refine List.forall_mem_cons.2 ⟨ok20, ?_⟩
    refine List.forall_mem_cons.2 ⟨ok21, ?_⟩
    refine List.forall_mem_cons.2 ⟨ok22, ?_⟩
    refine List.forall_mem_cons.2 ⟨ok23, ?_⟩
    refine List.forall_mem_cons.2 ⟨ok24, ?_⟩
    refine List.forall_mem_cons.2 ⟨ok25, ?_⟩
    refine List.forall_mem_cons.2 ⟨ok26, ?_⟩
    refine List.forall_mem_cons.2 ⟨ok27, ?_⟩
    refine List.forall_mem_cons.2 ⟨ok28, ?_⟩
    refine List.forall_mem_cons.2 ⟨ok30, ?_⟩
    refine List.forall_mem_cons.2 ⟨ok31, ?_⟩
    refine List.forall_mem_cons.2 ⟨ok32, ?_⟩
    refine List.forall_mem_cons.2 ⟨ok33, ?_⟩
    refine List.forall_mem_cons.2 ⟨ok34, ?_⟩
    refine List.forall_mem_cons.2 ⟨ok35, ?_⟩
    refine List.forall_mem_cons.2 ⟨ok36, ?_⟩
    refine List.forall_mem_cons.2 ⟨ok37, ?_⟩
    refine List.forall_mem_cons.2 ⟨ok38, ?_⟩
    refine List.forall_mem_cons.2 ⟨ok39, ?_⟩
    refine List.forall_mem_cons.2 ⟨ok40, ?_⟩
    refine List.forall_mem_cons.2 ⟨ok41, ?_⟩
    refine List.forall_mem_cons.2 ⟨ok43, ?_⟩
    refine List.forall_mem_cons.2 ⟨ok44, ?_⟩
    refine List.forall_mem_cons.2 ⟨ok45, ?_⟩
    refine List.forall_mem_cons.2 ⟨ok46, ?_⟩
    refine List.forall_mem_cons.2 ⟨ok47, ?_⟩
    refine List.forall_mem_cons.2 ⟨ok48, ?_⟩
    refine List.forall_mem_cons.2 ⟨ok49, ?_⟩
    refine List.forall_mem_cons.2 ⟨ok50, ?_⟩
    refine List.forall_mem_cons.2 ⟨ok51, ?_⟩
    refine List.forall_mem_cons.2 ⟨ok52, ?_⟩
    refine List.forall_mem_cons.2 ⟨ok53, ?_⟩
    refine List.forall_mem_cons.2 ⟨ok54, ?_⟩
    refine List.forall_mem_cons.2 ⟨ok55, ?_⟩
    refine List.forall_mem_cons.2 ⟨ok56, ?_⟩
    refine List.forall_mem_cons.2 ⟨ok57, ?_⟩
    refine List.forall_mem_cons.2 ⟨ok58, ?_⟩
    refine List.forall_mem_cons.2 ⟨ok59, ?_⟩
    refine List.forall_mem_cons.2 ⟨ok60, ?_⟩
    refine List.forall_mem_cons.2 ⟨ok61, ?_⟩
    refine List.forall_mem_cons.2 ⟨ok62, ?_⟩
    refine List.forall_mem_cons.2 ⟨ok63, ?_⟩
    refine List.forall_mem_cons.2 ⟨ok64, ?_⟩
    refine List.forall_mem_cons.2 ⟨ok65, ?_⟩
    refine List.forall_mem_cons.2 ⟨ok66, ?_⟩
    refine List.forall_mem_cons.2 ⟨ok67, ?_⟩
    refine List.forall_mem_cons.2 ⟨ok68, ?_⟩
    refine List.forall_mem_cons.2 ⟨ok69, ?_⟩
    refine List.forall_mem_cons.2 ⟨ok70, ?_⟩
    refine List.forall_mem_cons.2 ⟨ok71, ?_⟩
    refine List.forall_mem_cons.2 ⟨ok72, ?_⟩
    refine List.forall_mem_cons.2 ⟨ok73, ?_⟩
    refine List.forall_mem_cons.2 ⟨ok74, ?_⟩
    refine List.forall_mem_cons.2 ⟨ok75, ?_⟩
    refine List.forall_mem_cons.2 ⟨ok76, ?_⟩
    refine List.forall_mem_cons.2 ⟨ok78, ?_⟩
    refine List.forall_mem_cons.2 ⟨ok79, ?_⟩
    refine List.forall_mem_cons.2 ⟨ok80, ?_⟩
    refine List.forall_mem_cons.2 ⟨ok81, ?_⟩
    refine List.forall_mem_cons.2 ⟨ok82, ?_⟩
    refine List.forall_mem_cons.2 ⟨ok83, ?_⟩
    refine List.forall_mem_cons.2 ⟨ok84, ?_⟩
    refine List.forall_mem_cons.2 ⟨ok85, ?_⟩
    refine List.forall_mem_cons.2 ⟨ok86, ?_⟩
    refine List.forall_mem_cons.2 ⟨ok87, ?_⟩
    refine List.forall_mem_cons.2 ⟨ok88, ?_⟩
    refine List.forall_mem_cons.2 ⟨ok89, ?_⟩
    refine List.forall_mem_cons.2 ⟨ok90, ?_⟩
    refine List.forall_mem_cons.2 ⟨ok91, ?_⟩
    refine List.forall_mem_cons.2 ⟨ok92, ?_⟩
    refine List.forall_mem_cons.2 ⟨ok93, ?_⟩
    refine List.forall_mem_cons.2 ⟨ok94, ?_⟩
    refine List.forall_mem_cons.2 ⟨ok95, ?_⟩
    refine List.forall_mem_cons.2 ⟨ok96, ?_⟩
    refine List.forall_mem_cons.2 ⟨ok97, ?_⟩
    refine List.forall_mem_cons.2 ⟨ok101, ?_⟩
    refine List.forall_mem_cons.2 ⟨ok102, ?_⟩
    refine List.forall_mem_cons.2 ⟨ok103, ?_⟩
    refine List.forall_mem_cons.2 ⟨ok104, ?_⟩
    refine List.forall_mem_cons.2 ⟨ok105, ?_⟩
    refine List.forall_mem_cons.2 ⟨ok106, ?_⟩
    refine List.forall_mem_cons.2 ⟨ok107, ?_⟩
    refine List.forall_mem_cons.2 ⟨ok109, ?_⟩
    refine List.forall_mem_cons.2 ⟨ok110, ?_⟩
    refine List.forall_mem_cons.2 ⟨ok112, ?_⟩
    refine List.forall_mem_cons.2 ⟨ok114, ?_⟩
    refine List.forall_mem_cons.2 ⟨ok115, ?_⟩
    refine List.forall_mem_cons.2 ⟨ok117, ?_⟩
    refine List.forall_mem_cons.2 ⟨ok118, ?_⟩
    refine List.forall_mem_cons.2 ⟨ok119, ?_⟩
    refine List.forall_mem_cons.2 ⟨ok120, ?_⟩
    refine List.forall_mem_cons.2 ⟨ok122, ?_⟩
    refine List.forall_mem_cons.2 ⟨ok123, ?_⟩
    refine List.forall_mem_cons.2 ⟨ok124, ?_⟩
    refine List.forall_mem_cons.2 ⟨ok125, ?_⟩
    refine List.forall_mem_cons.2 ⟨ok127, ?_⟩
    refine List.forall_mem_cons.2 ⟨ok128, ?_⟩
    refine List.forall_mem_cons.2 ⟨ok129, ?_⟩
    refine List.forall_mem_cons.2 ⟨ok130, ?_⟩
    refine List.forall_mem_cons.2 ⟨ok131, ?_⟩
    refine List.forall_mem_cons.2 ⟨ok132, ?_⟩
    refine List.forall_mem_cons.2 ⟨ok133, ?_⟩
    refine List.forall_mem_cons.2 ⟨ok134, ?_⟩
    refine List.forall_mem_cons.2 ⟨ok135, ?_⟩
    refine List.forall_mem_cons.2 ⟨ok136, ?_⟩
    refine List.forall_mem_cons.2 ⟨ok138, ?_⟩
    refine List.forall_mem_cons.2 ⟨ok139, ?_⟩
    refine List.forall_mem_cons.2 ⟨ok140, ?_⟩
    refine List.forall_mem_cons.2 ⟨ok141, ?_⟩
    refine List.forall_mem_cons.2 ⟨ok142, ?_⟩
    refine List.forall_mem_cons.2 ⟨ok143, ?_⟩
    refine List.forall_mem_cons.2 ⟨ok144, ?_⟩
    refine List.forall_mem_cons.2 ⟨ok145, ?_⟩
    refine List.forall_mem_cons.2 ⟨ok146, ?_⟩
    refine List.forall_mem_cons.2 ⟨ok148, ?_⟩
    refine List.forall_mem_cons.2 ⟨ok149, ?_⟩
    refine List.forall_mem_cons.2 ⟨ok150, ?_⟩
    refine List.forall_mem_cons.2 ⟨ok151, ?_⟩
    refine List.forall_mem_cons.2 ⟨ok152, ?_⟩
    refine List.forall_mem_cons.2 ⟨ok153, ?_⟩
    refine List.forall_mem_cons.2 ⟨ok154, ?_⟩
    refine List.forall_mem_cons.2 ⟨ok155, ?_⟩
    refine List.forall_mem_cons.2 ⟨ok157, ?_⟩
    refine List.forall_mem_cons.2 ⟨ok158, ?_⟩
    refine List.forall_mem_cons.2 ⟨ok159, ?_⟩
    refine List.forall_mem_cons.2 ⟨ok160, ?_⟩
    refine List.forall_mem_cons.2 ⟨ok161, ?_⟩
    refine List.forall_mem_cons.2 ⟨ok163, ?_⟩
    refine List.forall_mem_cons.2 ⟨ok164, ?_⟩
    refine List.forall_mem_cons.2 ⟨ok166, ?_⟩
    refine List.forall_mem_cons.2 ⟨ok167, ?_⟩
    refine List.forall_mem_cons.2 ⟨ok168, ?_⟩
    refine List.forall_mem_cons.2 ⟨ok169, ?_⟩
    refine List.forall_mem_cons.2 ⟨ok170, ?_⟩
    refine List.forall_mem_cons.2 ⟨ok171, ?_⟩
    refine List.forall_mem_cons.2 ⟨ok172, ?_⟩
    refine List.forall_mem_cons.2 ⟨ok173, ?_⟩
    simp
  intro t i hi
  unfold Ty at hi
  cases hf : tyL.find? (fun p => p.1 == t) with
  | none => simp [hf] at hi
  | some p =>
    simp only [hf, Option.map_some, Option.some.injEq] at hi
    have h1 := List.find?_some hf
    have h2 := h p (List.mem_of_find?_eq_some hf)
    simp only [beq_iff_eq] at h1
    rw [← h1, ← hi]
    exact h2
attribute [simp] ty1_size ty2_size ty3_size ty4_size ty5_size ty6_size ty7_size ty9_size ty12_size ty13_size ty15_size ty16_size ty17_size ty18_size ty19_size ty20_size ty21_size ty22_size ty23_size ty24_size ty25_size ty26_size ty27_size ty28_size ty30_size ty31_size ty32_size ty33_size ty34_size ty35_size ty36_size ty37_size ty38_size ty39_size ty40_size ty41_size ty43_size ty44_size ty45_size ty46_size ty47_size ty48_size ty49_size ty50_size ty51_size ty52_size ty53_size ty54_size ty55_size ty56_size ty57_size ty58_size ty59_size ty60_size ty61_size ty62_size ty63_size ty64_size ty65_size ty66_size ty67_size ty68_size ty69_size ty70_size ty71_size ty72_size ty73_size ty74_size ty75_size ty76_size ty78_size ty79_size ty80_size ty81_size ty82_size ty83_size ty84_size ty85_size ty86_size ty87_size ty88_size ty89_size ty90_size ty91_size ty92_size ty93_size ty94_size ty95_size ty96_size ty97_size ty101_size ty102_size ty103_size ty104_size ty105_size ty106_size ty107_size ty109_size ty110_size ty112_size ty114_size ty115_size ty117_size ty118_size ty119_size ty120_size ty122_size ty123_size ty124_size ty125_size ty127_size ty128_size ty129_size ty130_size ty131_size ty132_size ty133_size ty134_size ty135_size ty136_size ty138_size ty139_size ty140_size ty141_size ty142_size ty143_size ty144_size ty145_size ty146_size ty148_size ty149_size ty150_size ty151_size ty152_size ty153_size ty154_size ty155_size ty157_size ty158_size ty159_size ty160_size ty161_size ty163_size ty164_size ty166_size ty167_size ty168_size ty169_size ty170_size ty171_size ty172_size ty173_size ty1_agg ty2_agg ty3_agg ty4_agg ty5_agg ty6_agg ty7_agg ty9_agg ty12_agg ty13_agg ty15_agg ty16_agg ty17_agg ty18_agg ty19_agg ty20_agg ty21_agg ty22_agg ty23_agg ty24_agg ty25_agg ty26_agg ty27_agg ty28_agg ty30_agg ty31_agg ty32_agg ty33_agg ty34_agg ty35_agg ty36_agg ty37_agg ty38_agg ty39_agg ty40_agg ty41_agg ty43_agg ty44_agg ty45_agg ty46_agg ty47_agg ty48_agg ty49_agg ty50_agg ty51_agg ty52_agg ty53_agg ty54_agg ty55_agg ty56_agg ty57_agg ty58_agg ty59_agg ty60_agg ty61_agg ty62_agg ty63_agg ty64_agg ty65_agg ty66_agg ty67_agg ty68_agg ty69_agg ty70_agg ty71_agg ty72_agg ty73_agg ty74_agg ty75_agg ty76_agg ty78_agg ty79_agg ty80_agg ty81_agg ty82_agg ty83_agg ty84_agg ty85_agg ty86_agg ty87_agg ty88_agg ty89_agg ty90_agg ty91_agg ty92_agg ty93_agg ty94_agg ty95_agg ty96_agg ty97_agg ty101_agg ty102_agg ty103_agg ty104_agg ty105_agg ty106_agg ty107_agg ty109_agg ty110_agg ty112_agg ty114_agg ty115_agg ty117_agg ty118_agg ty119_agg ty120_agg ty122_agg ty123_agg ty124_agg ty125_agg ty127_agg ty128_agg ty129_agg ty130_agg ty131_agg ty132_agg ty133_agg ty134_agg ty135_agg ty136_agg ty138_agg ty139_agg ty140_agg ty141_agg ty142_agg ty143_agg ty144_agg ty145_agg ty146_agg ty148_agg ty149_agg ty150_agg ty151_agg ty152_agg ty153_agg ty154_agg ty155_agg ty157_agg ty158_agg ty159_agg ty160_agg ty161_agg ty163_agg ty164_agg ty166_agg ty167_agg ty168_agg ty169_agg ty170_agg ty171_agg ty172_agg ty173_agg ty1_zero ty2_zero ty3_zero ty4_zero ty5_zero ty6_zero ty7_zero ty9_zero ty12_zero ty13_zero ty15_zero ty16_zero ty17_zero ty18_zero ty19_zero ty20_zero ty21_zero ty22_zero ty23_zero ty24_zero ty25_zero ty26_zero ty27_zero ty28_zero ty30_zero ty31_zero ty32_zero ty33_zero ty34_zero ty35_zero ty36_zero ty37_zero ty38_zero ty39_zero ty40_zero ty41_zero ty43_zero ty44_zero ty45_zero ty46_zero ty47_zero ty48_zero ty49_zero ty50_zero ty51_zero ty52_zero ty53_zero ty54_zero ty55_zero ty56_zero ty57_zero ty58_zero ty59_zero ty60_zero ty61_zero ty62_zero ty63_zero ty64_zero ty65_zero ty66_zero ty67_zero ty68_zero ty69_zero ty70_zero ty71_zero ty72_zero ty73_zero ty74_zero ty75_zero ty76_zero ty78_zero ty79_zero ty80_zero ty81_zero ty82_zero ty83_zero ty84_zero ty85_zero ty86_zero ty87_zero ty88_zero ty89_zero ty90_zero ty91_zero ty92_zero ty93_zero ty94_zero ty95_zero ty96_zero ty97_zero ty101_zero ty102_zero ty103_zero ty104_zero ty105_zero ty106_zero ty107_zero ty109_zero ty110_zero ty112_zero ty114_zero ty115_zero ty117_zero ty118_zero ty119_zero ty120_zero ty122_zero ty123_zero ty124_zero ty125_zero ty127_zero ty128_zero ty129_zero ty130_zero ty131_zero ty132_zero ty133_zero ty134_zero ty135_zero ty136_zero ty138_zero ty139_zero ty140_zero ty141_zero ty142_zero ty143_zero ty144_zero ty145_zero ty146_zero ty148_zero ty149_zero ty150_zero ty151_zero ty152_zero ty153_zero ty154_zero ty155_zero ty157_zero ty158_zero ty159_zero ty160_zero ty161_zero ty163_zero ty164_zero ty166_zero ty167_zero ty168_zero ty169_zero ty170_zero ty171_zero ty172_zero ty173_zero Ty_1 Ty_2 Ty_3 Ty_4 Ty_5 Ty_6 Ty_7 Ty_9 Ty_12 Ty_13 Ty_15 Ty_16 Ty_17 Ty_18 Ty_19 Ty_20 Ty_21 Ty_22 Ty_23 Ty_24 Ty_25 Ty_26 Ty_27 Ty_28 Ty_30 Ty_31 Ty_32 Ty_33 Ty_34 Ty_35 Ty_36 Ty_37 Ty_38 Ty_39 Ty_40 Ty_41 Ty_43 Ty_44 Ty_45 Ty_46 Ty_47 Ty_48 Ty_49 Ty_50 Ty_51 Ty_52 Ty_53 Ty_54 Ty_55 Ty_56 Ty_57 Ty_58 Ty_59 Ty_60 Ty_61 Ty_62 Ty_63 Ty_64 Ty_65 Ty_66 Ty_67 Ty_68 Ty_69 Ty_70 Ty_71 Ty_72 Ty_73 Ty_74 Ty_75 Ty_76 Ty_78 Ty_79 Ty_80 Ty_81 Ty_82 Ty_83 Ty_84 Ty_85 Ty_86 Ty_87 Ty_88 Ty_89 Ty_90 Ty_91 Ty_92 Ty_93 Ty_94 Ty_95 Ty_96 Ty_97 Ty_101 Ty_102 Ty_103 Ty_104 Ty_105 Ty_106 Ty_107 Ty_109 Ty_110 Ty_112 Ty_114 Ty_115 Ty_117 Ty_118 Ty_119 Ty_120 Ty_122 Ty_123 Ty_124 Ty_125 Ty_127 Ty_128 Ty_129 Ty_130 Ty_131 Ty_132 Ty_133 Ty_134 Ty_135 Ty_136 Ty_138 Ty_139 Ty_140 Ty_141 Ty_142 Ty_143 Ty_144 Ty_145 Ty_146 Ty_148 Ty_149 Ty_150 Ty_151 Ty_152 Ty_153 Ty_154 Ty_155 Ty_157 Ty_158 Ty_159 Ty_160 Ty_161 Ty_163 Ty_164 Ty_166 Ty_167 Ty_168 Ty_169 Ty_170 Ty_171 Ty_172 Ty_173 kd_2 kd_3 kd_4 kd_5 kd_6 kd_7 kd_9 kd_12 kd_13 kd_18 kd_19 kd_21 kd_22 kd_23 kd_24 kd_26 kd_27 kd_28 kd_35 kd_36 kd_38 kd_41 kd_57 kd_61 kd_62 kd_63 kd_71 kd_76 kd_82 kd_83 kd_85 kd_86 kd_93 kd_106 kd_120 kd_129 kd_131 kd_133 kd_134 kd_140 kd_148 kd_149 kd_150 kd_161 kd_163 kd_164 kd_167 kd_168 kd_170 kd_171 kd_172 kd_173 ty1_bytes ty2_bytes ty3_bytes ty4_bytes ty5_bytes ty6_bytes ty7_bytes ty9_bytes ty12_bytes ty13_bytes ty15_bytes ty16_bytes ty17_bytes ty18_bytes ty19_bytes ty20_bytes ty21_bytes ty22_bytes ty23_bytes ty24_bytes ty25_bytes ty26_bytes ty27_bytes ty28_bytes ty30_bytes ty31_bytes ty32_bytes ty33_bytes ty34_bytes ty35_bytes ty36_bytes ty37_bytes ty38_bytes ty39_bytes ty40_bytes ty41_bytes ty43_bytes ty44_bytes ty45_bytes ty46_bytes ty47_bytes ty48_bytes ty49_bytes ty50_bytes ty51_bytes ty52_bytes ty53_bytes ty54_bytes ty55_bytes ty56_bytes ty57_bytes ty58_bytes ty59_bytes ty60_bytes ty61_bytes ty62_bytes ty63_bytes ty64_bytes ty65_bytes ty66_bytes ty67_bytes ty68_bytes ty69_bytes ty70_bytes ty71_bytes ty72_bytes ty73_bytes ty74_bytes ty75_bytes ty76_bytes ty78_bytes ty79_bytes ty80_bytes ty81_bytes ty82_bytes ty83_bytes ty84_bytes ty85_bytes ty86_bytes ty87_bytes ty88_bytes ty89_bytes ty90_bytes ty91_bytes ty92_bytes ty93_bytes ty94_bytes ty95_bytes ty96_bytes ty97_bytes ty101_bytes ty102_bytes ty103_bytes ty104_bytes ty105_bytes ty106_bytes ty107_bytes ty109_bytes ty110_bytes ty112_bytes ty114_bytes ty115_bytes ty117_bytes ty118_bytes ty119_bytes ty120_bytes ty122_bytes ty123_bytes ty124_bytes ty125_bytes ty127_bytes ty128_bytes ty129_bytes ty130_bytes ty131_bytes ty132_bytes ty133_bytes ty134_bytes ty135_bytes ty136_bytes ty138_bytes ty139_bytes ty140_bytes ty141_bytes ty142_bytes ty143_bytes ty144_bytes ty145_bytes ty146_bytes ty148_bytes ty149_bytes ty150_bytes ty151_bytes ty152_bytes ty153_bytes ty154_bytes ty155_bytes ty157_bytes ty158_bytes ty159_bytes ty160_bytes ty161_bytes ty163_bytes ty164_bytes ty166_bytes ty167_bytes ty168_bytes ty169_bytes ty170_bytes ty171_bytes ty172_bytes ty173_bytes
end Go.Ab

/- Contracts of impl.within and (impl.Proc).kids, on abstract values; no conditions but a bound on the length. -/
namespace Go.Ab
open Go.Proofs
def within (n lo hi : Int) : Bool := decide (lo ≤ n) && decide (n ≤ hi)

theorem within_ok (n lo hi : Int) : PureC Tryz.prog 43 [int n, int lo, int hi] (fun r => r = bool (within n lo hi)) := by
  refine PureC.of Tryz.func43 rfl Tryz.ntmps43 (by simp) fun Q hQ => ?_
  refine Runs.seqE Ty_ok (by decide) fun k' hk' => ?_
  simp
  refine hk' _ _ _ (Runs.seqE Ty_ok (by decide) fun k' hk' => ?_)
  simp
  by_cases h : lo ≤ n
  all_goals
    simp [h]
    refine hk' _ _ _ (Runs.ret Tryz.func43 (RetOk.one Tryz.results43) (hQ _ _ _ _ (ResOk.v _ _ _) ?_))
    simp [within, h]

structure AmbNode where
  kind : Int
  name : Str
  parent : Int
  deriving Inhabited, DecidableEq
abbrev Proc := List AmbNode
def AmbNode.cells (x : AmbNode) : List AVal := [int x.kind, str x.name, int x.parent]
def encP (t : Bool) (p : Proc) : AVal := .agg [.list t (p.map AmbNode.cells)]
def kidsFrom (p : Proc) (parent : Int) (k : Nat) : List Nat := (List.range k).filter fun i => (p.getD i default).parent == parent
def encInts (t : Bool) (l : List Int) : AVal := .list t (l.map fun i => [int i])
def encNats (t : Bool) (l : List Nat) : AVal := .list t (l.map fun (i : Nat) => [int (i : Int)])

theorem kids_succ (p : Proc) (parent : Int) (k : Nat) : kidsFrom p parent (k + 1) = if (p.getD k default).parent == parent then kidsFrom p parent k ++ [k] else kidsFrom p parent k := by
  simp only [kidsFrom, List.range_succ, List.filter_append, List.filter_cons, List.filter_nil]
  split <;> simp
theorem kids_len (p : Proc) (parent : Int) (k : Nat) : (kidsFrom p parent k).length ≤ k := by
  have := List.length_filter_le (fun i => (p.getD i default).parent == parent) (List.range k)
  simpa [kidsFrom] using this

set_option linter.unusedSimpArgs false
theorem kids_ok (p : Proc) (parent : Int) (hp : p.length ≤ 1048576) : PureC Tryz.prog 54 [encP false p, int parent] (fun r => r = encNats true (kidsFrom p parent p.length)) := by
  refine PureC.of Tryz.func54 rfl Tryz.ntmps54 (by simp) fun Q hQ => ?_
  refine Runs.seqE Ty_ok (by decide) fun k' hk' => ?_
  simp [encP]
  refine hk' _ _ _ (Runs.seqE Ty_ok (by decide) fun k' hk' => ?_)
  simp
  refine hk' _ _ _ (Runs.seq (Runs.seqE Ty_ok (by decide) fun k' hk' => ?_))
  simp
  refine hk' _ _ _ (Runs.block (Runs.loopUp p.length (fun k ρ H n => ρ 1 = int parent ∧ ρ 10 = .list false (p.map AmbNode.cells) ∧ ρ 11 = int p.length ∧ ρ 12 = int k ∧ ρ 5 = .arr (1, 8) (kidsFrom p parent k).length 0 (kidsFrom p parent k).length ∧ H (1, 8) = some ⟨1, (kidsFrom p parent k).map fun (i : Nat) => [int (i : Int)]⟩) ?_ ?_))
  · simp [kidsFrom]
  · rintro k ρ H n hk ⟨h1, h10, h11, h12, h5, hH⟩ IH
    refine Runs.seqE Ty_ok (by decide) fun k' hk' => ?_
    simp [h1, h10, h11, h12, h5]
    refine hk' _ _ _ (Runs.seq (Runs.ite rfl (fun hlt => ?_) (fun hlt => ?_)))
    · simp at hlt
      refine Runs.skip (Runs.seq (Runs.block (Runs.seqE Ty_ok (by decide) fun k' hk' => ?_)))
      simp [h1, h10, h11, h12, h5, hlt, AmbNode.cells]
      refine hk' _ _ _ (Runs.seqE Ty_ok (by decide) fun k' hk' => ?_)
      simp [h1, h10, h11, h12, h5, hlt]
      have hks := kids_succ p parent k
      have hkl := kids_len p parent k
      simp [hlt] at hks
      refine hk' _ _ _ (Runs.ite rfl (fun hpar => ?_) (fun hpar => ?_))
      · simp at hpar
        refine Runs.evalE Ty_ok (by decide) fun k' hk' => ?_
        simp [h1, h10, h11, h12, h5, hlt, hH, show (kidsFrom p parent k).length ≤ 1073741823 by omega]
        refine hk' _ _ _ (Runs.inBlock (Runs.evalE Ty_ok (by decide) fun k' hk' => ?_))
        simp [h1, h10, h11, h12, h5, hlt, wrap_succ (show k < 4611686018427387904 by omega)]
        refine hk' _ _ _ (IH hlt _ _ _ ?_)
        simp [h1, h10, h11, h12, h5, hlt, hks, hpar]
      · simp at hpar
        refine Runs.skip (Runs.inBlock (Runs.evalE Ty_ok (by decide) fun k' hk' => ?_))
        simp [h1, h10, h11, h12, h5, hlt, wrap_succ (show k < 4611686018427387904 by omega)]
        refine hk' _ _ _ (IH hlt _ _ _ ?_)
        simp [h1, h10, h11, h12, h5, hlt, hks, hpar, hH]
    · simp at hlt
      have hkk : k = p.length := by omega
      subst hkk
      refine Runs.exit rfl (Runs.seqE Ty_ok (by decide) fun k' hk' => ?_)
      simp [h5]
      refine hk' _ _ _ (Runs.ret Tryz.func54 (RetOk.one Tryz.results54) (hQ _ _ _ _ (.of ?_) rfl))
      exact Ret.arrF (by simp [hH]; rfl) (by simp <;> exact fun _ _ => .v _)
end Go.Ab

/- Contracts of impl.prefixWords and impl.nodeText. -/
namespace Go.Ab
open Go.Proofs
set_option linter.unusedSimpArgs false
theorem draws : Tryz.prog.follows .mixedOrders = true := by kernel_rfl
theorem e43 : Ent Tryz.prog 43 := Ent.of Tryz.func43 (by kernel_rfl) rfl
theorem e83 : Ent Tryz.prog 83 := Ent.of Tryz.func83 (by kernel_rfl) rfl

def word (k : Nat) : Str := match k with
  | 0 => [105, 110, 32]
  | 1 => [111, 117, 116, 32]
  | _ => [111, 112, 101, 110, 32]
def encStrs (t : Bool) (l : List Str) : AVal := .list t (l.map fun s => [str s])

theorem prefixWords_ok : PureC Tryz.prog 83 [] (fun r => r = encStrs true [word 0, word 1, word 2]) := by
  refine PureC.of Tryz.func83 rfl Tryz.ntmps83 (by simp) fun Q hQ => ?_
  refine Runs.seqE Ty_ok (by decide) fun k' hk' => ?_
  simp
  refine hk' _ _ _ (Runs.seqE Ty_ok (by decide) fun k' hk' => ?_)
  simp [List.range_succ]
  refine hk' _ _ _ (Runs.ret Tryz.func83 (RetOk.one Tryz.results83) (hQ _ _ _ _ (.of (Ret.fresh ?_)) rfl))
  simp [encStrs]

def nodeText (x : AmbNode) (inside : Str) : Str :=
  if x.kind = 0 then x.name ++ [91] ++ inside ++ [93] else word (x.kind - 1).toNat ++ x.name ++ [46, 40] ++ inside ++ [41]

theorem word_len (k : Nat) : (word k).length ≤ 5 := by
  unfold word
  split <;> simp

theorem nodeText_ok (x : AmbNode) (s : Str) (hk : 0 ≤ x.kind ∧ x.kind ≤ 3) (hn : x.name.length ≤ 1073741824) (hs : s.length ≤ 1152921504606846976) : PureC Tryz.prog 64 [.agg x.cells, str s] (fun r => r = str (nodeText x s)) := by
  refine PureC.of Tryz.func64 rfl Tryz.ntmps64 (by simp) fun Q hQ => ?_
  refine Runs.seqE Ty_ok (by decide) fun k' hk' => ?_
  simp
  refine hk' _ _ _ (Runs.seq (Runs.seqE Ty_ok (by decide) fun k' hk' => ?_))
  simp [AmbNode.cells]
  refine hk' _ _ _ (Runs.ite rfl (fun h => ?_) (fun h => ?_))
  · simp at h
    refine Runs.seqE Ty_ok (by decide) fun k' hk' => ?_
    simp (disch := first | omega | simp) [AmbNode.cells, if_pos]

    refine hk' _ _ _ (Runs.ret Tryz.func64 (RetOk.one Tryz.results64) (hQ _ _ _ _ (.v _ _ _) ?_))
    simp [nodeText, h]
  · simp at h
    refine Runs.skip ?_
    refine Runs.seqD Ty_ok kindOp_ok draws (by decide) (by kernel_rfl) fun k' hk' => ?_
    simp [AmbNode.cells]
    refine RunDK.callA Ty_ok kindOp_ok prefixWords_ok e83 .nil (by decide) rfl (by simp) ?_
    obtain ⟨kd, nm, par⟩ := x
    simp only at hk hn h
    have : kd = 1 ∨ kd = 2 ∨ kd = 3 := by omega
    rcases this with rfl | rfl | rfl
    all_goals
      simp (disch := first | omega | simp) [encStrs, word, if_pos]
      refine hk' _ _ _ (Runs.ret Tryz.func64 (RetOk.one Tryz.results64) (hQ _ _ _ _ (.v _ _ _) ?_))
      simp [nodeText, word]
end Go.Ab

/-
  DERIVED: THE SHELF's CONTRACTS AT THIS DUMP, IN PLAIN WORDS (tools/lay-plain.mjs out of 'TryzShelf.lean', which tools/lay-shelf.mjs wrote): THE SAME DECLARATIONS UNDER THE SAME NAMES: 'import', 'namespace', 'open', 'def', 'theorem' AND NOTHING ELSE: no command of the shelf's: FOR A HAND-IN. Each laying: the table of numbers ('.._ren') and one theorem, a field a fact of the dump's own or the kernel's comparison; each contract: ONE APPLICATION.
-/
namespace Go.Proofs
open Go.Shelf
def Tryz.lays169_ren : Go.Shelf.Ren := ⟨fun | 169 => 109 | n => n, fun | 70 => 132 | 9 => 9 | 0 => 0 | 72 => 134 | 37 => 93 | 127 => 146 | 3 => 3 | 5 => 5 | n => n, fun | n => n⟩
theorem Tryz.lays169 : Go.Proofs.Lays.n169 Tryz.prog Tryz.lays169_ren := {
  mixed := by kernel_rfl
  f169 := Tryz.func109.trans (congrArg some (by kernel_rfl))
  t0 := Tryz.underlying0
  a0 := Tryz.isAgg0
  z0 := Tryz.sizeOf0
  v0 := Tryz.zeroValue0
  t3 := Tryz.underlying3
  a3 := Tryz.isAgg3
  z3 := Tryz.sizeOf3
  v3 := Tryz.zeroValue3
  t9 := Tryz.underlying9
  a9 := Tryz.isAgg9
  z9 := Tryz.sizeOf9
  v9 := Tryz.zeroValue9
  t37 := Tryz.underlying93
  a37 := Tryz.isAgg93
  z37 := Tryz.sizeOf93
  v37 := Tryz.zeroValue93
  t70 := Tryz.underlying132
  a70 := Tryz.isAgg132
  z70 := Tryz.sizeOf132
  v70 := Tryz.zeroValue132
  t72 := Tryz.underlying134
  a72 := Tryz.isAgg134
  z72 := Tryz.sizeOf134
  v72 := Tryz.zeroValue134
  t127 := Tryz.underlying146
  a127 := Tryz.isAgg146
  z127 := Tryz.sizeOf146
  v127 := Tryz.zeroValue146 }
theorem Tryz.Builder_Extra_169 : Builder.Extra Tryz.prog Tryz.lays169_ren := {
  sizeBuilder := by kernel_rfl
  liesBuilder := by kernel_rfl
  t5 := Tryz.underlying5
  a5 := Tryz.isAgg5
  z5 := Tryz.sizeOf5
  v5 := Tryz.zeroValue5
  infoByte := by kernel_rfl
  cellsByte := by kernel_rfl
  sizeByte := by kernel_rfl
  neB5 := by decide }
open Go.RowKit in
/-- (*strings.Builder).String: "String returns the accumulated string.": OF A BUILDER THAT HOLDS AT LEAST ONE BYTE. ✋ THE MODEL FREEZES THOSE BYTES IN THE BUFFER (unsafe.String): a later write INTO them ends the model's run without an answer; a later append BEHIND them goes on. The statement's order of evaluation is drawn: one draw. (LAID: no walk: one application.) -/
theorem Tryz.Builder_String (B b : Nat) (l : List UInt8) (w : World) (h : Lib.IsBuilder 134 5 B b (Lib.byteCells l) w) (h0 : l ≠ []) :
    Calls Tryz.prog 109 #[.pointer (some ⟨b, 0, none⟩)] w fun e w' => e = .returned (.string ⟨l.toArray⟩) ∧ Below B w w' := Any.Builder_String Tryz.lays169 Tryz.Builder_Extra_169 B b l w h h0
open Go.RowKit in
/-- (*strings.Builder).String OF A BUILDER THAT HOLDS NO BYTE: the empty string. (Its buffer is nil, or a row of which it has taken nothing yet; where that row has NO capacity the model lays one new block for unsafe.SliceData's 'some address'.) One draw. (LAID: no walk: one application.) -/
theorem Tryz.Builder_String_empty (B b : Nat) (w : World) (h : Lib.IsBuilder 134 5 B b [] w) (hBw : B ≤ w.heap.size) :
    Calls Tryz.prog 109 #[.pointer (some ⟨b, 0, none⟩)] w fun e w' => e = .returned (.string ⟨#[]⟩) ∧ Below B w w' := Any.Builder_String_empty Tryz.lays169 Tryz.Builder_Extra_169 B b w h hBw
open Go.RowKit in
/-- (*strings.Builder).String: "String returns the accumulated string.": WHATEVER THE BUILDER HOLDS. (LAID: no walk: one application.) -/
theorem Tryz.Builder_String_any (B b : Nat) (l : List UInt8) (w : World) (h : Lib.IsBuilder 134 5 B b (Lib.byteCells l) w) (hBw : B ≤ w.heap.size) :
    Calls Tryz.prog 109 #[.pointer (some ⟨b, 0, none⟩)] w fun e w' => e = .returned (.string ⟨l.toArray⟩) ∧ Below B w w' := Any.Builder_String_any Tryz.lays169 Tryz.Builder_Extra_169 B b l w h hBw
def Tryz.lays241_ren : Go.Shelf.Ren := ⟨fun | 241 => 122 | 277 => 130 | n => n, fun | 70 => 132 | 3 => 3 | 0 => 0 | 72 => 134 | 37 => 93 | 5 => 5 | n => n, fun | n => n⟩
theorem Tryz.lays241 : Go.Proofs.Lays.n241 Tryz.prog Tryz.lays241_ren := {
  mixed := by kernel_rfl
  f241 := Tryz.func122.trans (congrArg some (by kernel_rfl))
  f277 := Tryz.func130.trans (congrArg some (by kernel_rfl))
  t0 := Tryz.underlying0
  a0 := Tryz.isAgg0
  z0 := Tryz.sizeOf0
  v0 := Tryz.zeroValue0
  t3 := Tryz.underlying3
  a3 := Tryz.isAgg3
  z3 := Tryz.sizeOf3
  v3 := Tryz.zeroValue3
  t37 := Tryz.underlying93
  a37 := Tryz.isAgg93
  z37 := Tryz.sizeOf93
  v37 := Tryz.zeroValue93
  t70 := Tryz.underlying132
  a70 := Tryz.isAgg132
  z70 := Tryz.sizeOf132
  v70 := Tryz.zeroValue132
  t72 := Tryz.underlying134
  a72 := Tryz.isAgg134
  z72 := Tryz.sizeOf134
  v72 := Tryz.zeroValue134 }
theorem Tryz.Builder_Extra_241 : Builder.Extra Tryz.prog Tryz.lays241_ren := {
  sizeBuilder := by kernel_rfl
  liesBuilder := by kernel_rfl
  t5 := Tryz.underlying5
  a5 := Tryz.isAgg5
  z5 := Tryz.sizeOf5
  v5 := Tryz.zeroValue5
  infoByte := by kernel_rfl
  cellsByte := by kernel_rfl
  sizeByte := by kernel_rfl
  neB5 := by decide }
open Go.RowKit in
/-- (*strings.Builder).grow (no doc but "grow copies the buffer to a new, larger buffer so that there are at least n bytes of capacity beyond len(b.buf)."): AT A BUILDER WITHOUT A BUFFER: a new row of whatever bytes for its buffer, none of them its own yet. Three draws. (LAID: no walk: one application.) -/
theorem Tryz.Builder_grow_fresh (B b n : Nat) (w : World) (hB : B ≤ b) (hbk : w.heap[b]? = some (.cells #[.pointer (some ⟨b, 0, none⟩), .slice none 0 0] 134 (0, 0))) (hBw : B ≤ w.heap.size) (hn : n ≤ 281474976710656) :
    Calls Tryz.prog 122 #[.pointer (some ⟨b, 0, none⟩), .int .i64 n] w fun e w' => e = .returned (.tuple #[]) ∧ (Lib.BuilderAt 134 5 B b (.pointer (some ⟨b, 0, none⟩)) [] w' ∧ Below B w w') := Any.Builder_grow_fresh Tryz.lays241 Tryz.Builder_Extra_241 B b n w hB hbk hBw hn
def Tryz.lays165_ren : Go.Shelf.Ren := ⟨fun | 165 => 107 | 240 => 121 | 241 => 122 | 276 => 129 | 277 => 130 | n => n, fun | 70 => 132 | 3 => 3 | 0 => 0 | 4 => 4 | 9 => 9 | 20 => 20 | 72 => 134 | 37 => 93 | 164 => 158 | 5 => 5 | n => n, fun | n => n⟩
theorem Tryz.lays165 : Go.Proofs.Lays.n165 Tryz.prog Tryz.lays165_ren := {
  mixed := by kernel_rfl
  f165 := Tryz.func107.trans (congrArg some (by kernel_rfl))
  f240 := Tryz.func121.trans (congrArg some (by kernel_rfl))
  f241 := Tryz.func122.trans (congrArg some (by kernel_rfl))
  f276 := Tryz.func129.trans (congrArg some (by kernel_rfl))
  f277 := Tryz.func130.trans (congrArg some (by kernel_rfl))
  t0 := Tryz.underlying0
  a0 := Tryz.isAgg0
  z0 := Tryz.sizeOf0
  v0 := Tryz.zeroValue0
  t3 := Tryz.underlying3
  a3 := Tryz.isAgg3
  z3 := Tryz.sizeOf3
  v3 := Tryz.zeroValue3
  t4 := Tryz.underlying4
  a4 := Tryz.isAgg4
  z4 := Tryz.sizeOf4
  v4 := Tryz.zeroValue4
  t9 := Tryz.underlying9
  a9 := Tryz.isAgg9
  z9 := Tryz.sizeOf9
  v9 := Tryz.zeroValue9
  t20 := Tryz.underlying20
  a20 := Tryz.isAgg20
  z20 := Tryz.sizeOf20
  v20 := Tryz.zeroValue20
  t37 := Tryz.underlying93
  a37 := Tryz.isAgg93
  z37 := Tryz.sizeOf93
  v37 := Tryz.zeroValue93
  t70 := Tryz.underlying132
  a70 := Tryz.isAgg132
  z70 := Tryz.sizeOf132
  v70 := Tryz.zeroValue132
  t72 := Tryz.underlying134
  a72 := Tryz.isAgg134
  z72 := Tryz.sizeOf134
  v72 := Tryz.zeroValue134
  t164 := Tryz.underlying158
  a164 := Tryz.isAgg158
  z164 := Tryz.sizeOf158
  v164 := Tryz.zeroValue158 }
theorem Tryz.Builder_Extra_165 : Builder.Extra Tryz.prog Tryz.lays165_ren := {
  sizeBuilder := by kernel_rfl
  liesBuilder := by kernel_rfl
  t5 := Tryz.underlying5
  a5 := Tryz.isAgg5
  z5 := Tryz.sizeOf5
  v5 := Tryz.zeroValue5
  infoByte := by kernel_rfl
  cellsByte := by kernel_rfl
  sizeByte := by kernel_rfl
  neB5 := by decide }
open Go.RowKit in
/-- (*strings.Builder).Grow AT A BUILDER THAT HAS NOT BEEN WRITTEN ('var b strings.Builder; b.Grow(n)'): "Grow grows b's capacity, if necessary, to guarantee space for another n bytes.": it holds no byte behind it as before it. (LAID: no walk: one application.) -/
theorem Tryz.Builder_Grow_fresh (B b n : Nat) (w : World) (hB : B ≤ b) (hbk : w.heap[b]? = some (.cells #[.pointer none, .slice none 0 0] 134 (0, 0))) (hBw : B ≤ w.heap.size) (hn : n ≤ 281474976710656) :
    Calls Tryz.prog 107 #[.pointer (some ⟨b, 0, none⟩), .int .i64 n] w fun e w' => e = .returned (.tuple #[]) ∧ (Lib.BuilderAt 134 5 B b (.pointer (some ⟨b, 0, none⟩)) [] w' ∧ Below B w w') := Any.Builder_Grow_fresh Tryz.lays165 Tryz.Builder_Extra_165 B b n w hB hbk hBw hn
def Tryz.lays156_ren : Go.Shelf.Ren := ⟨fun | 156 => 86 | 165 => 107 | 166 => 108 | 169 => 109 | 240 => 121 | 241 => 122 | 276 => 129 | 277 => 130 | n => n, fun | 31 => 57 | 9 => 9 | 3 => 3 | 4 => 4 | 0 => 0 | 20 => 20 | 72 => 134 | 76 => 137 | 70 => 132 | 37 => 93 | 75 => 136 | 127 => 146 | 164 => 158 | 5 => 5 | 80 => 110 | n => n, fun | n => n⟩
theorem Tryz.lays156 : Go.Proofs.Lays.n156 Tryz.prog Tryz.lays156_ren := {
  mixed := by kernel_rfl
  f156 := Tryz.func86.trans (congrArg some (by kernel_rfl))
  f165 := Tryz.func107.trans (congrArg some (by kernel_rfl))
  f166 := Tryz.func108.trans (congrArg some (by kernel_rfl))
  f169 := Tryz.func109.trans (congrArg some (by kernel_rfl))
  f240 := Tryz.func121.trans (congrArg some (by kernel_rfl))
  f241 := Tryz.func122.trans (congrArg some (by kernel_rfl))
  f276 := Tryz.func129.trans (congrArg some (by kernel_rfl))
  f277 := Tryz.func130.trans (congrArg some (by kernel_rfl))
  t0 := Tryz.underlying0
  a0 := Tryz.isAgg0
  z0 := Tryz.sizeOf0
  v0 := Tryz.zeroValue0
  t3 := Tryz.underlying3
  a3 := Tryz.isAgg3
  z3 := Tryz.sizeOf3
  v3 := Tryz.zeroValue3
  t4 := Tryz.underlying4
  a4 := Tryz.isAgg4
  z4 := Tryz.sizeOf4
  v4 := Tryz.zeroValue4
  t9 := Tryz.underlying9
  a9 := Tryz.isAgg9
  z9 := Tryz.sizeOf9
  v9 := Tryz.zeroValue9
  t20 := Tryz.underlying20
  a20 := Tryz.isAgg20
  z20 := Tryz.sizeOf20
  v20 := Tryz.zeroValue20
  t31 := Tryz.underlying57
  a31 := Tryz.isAgg57
  z31 := Tryz.sizeOf57
  v31 := Tryz.zeroValue57
  t37 := Tryz.underlying93
  a37 := Tryz.isAgg93
  z37 := Tryz.sizeOf93
  v37 := Tryz.zeroValue93
  t70 := Tryz.underlying132
  a70 := Tryz.isAgg132
  z70 := Tryz.sizeOf132
  v70 := Tryz.zeroValue132
  t72 := Tryz.underlying134
  a72 := Tryz.isAgg134
  z72 := Tryz.sizeOf134
  v72 := Tryz.zeroValue134
  t75 := Tryz.underlying136
  a75 := Tryz.isAgg136
  z75 := Tryz.sizeOf136
  v75 := Tryz.zeroValue136
  t76 := Tryz.underlying137
  a76 := Tryz.isAgg137
  z76 := Tryz.sizeOf137
  v76 := Tryz.zeroValue137
  t127 := Tryz.underlying146
  a127 := Tryz.isAgg146
  z127 := Tryz.sizeOf146
  v127 := Tryz.zeroValue146
  t164 := Tryz.underlying158
  a164 := Tryz.isAgg158
  z164 := Tryz.sizeOf158
  v164 := Tryz.zeroValue158 }
theorem Tryz.Builder_Extra_156 : Builder.Extra Tryz.prog Tryz.lays156_ren := {
  sizeBuilder := by kernel_rfl
  liesBuilder := by kernel_rfl
  t5 := Tryz.underlying5
  a5 := Tryz.isAgg5
  z5 := Tryz.sizeOf5
  v5 := Tryz.zeroValue5
  infoByte := by kernel_rfl
  cellsByte := by kernel_rfl
  sizeByte := by kernel_rfl
  neB5 := by decide }
open Go.RowKit in
/-- No element: the empty string; the world is as it was. (Whatever the slice's address and capacity: a nil slice too.) (LAID: no walk: one application.) -/
theorem Tryz.strings_Join_none (a : Option Addr) (c : Nat) (sep : ByteArray) (w : World) :
    Calls Tryz.prog 86 #[.slice a 0 c, .string sep] w fun e w' => e = .returned (.string ⟨#[]⟩) ∧ w' = w := Any.strings_Join_none Tryz.lays156 Tryz.Builder_Extra_156 a c sep w
open Go.RowKit in
/-- strings.Join: "Join concatenates the elements of its first argument to create a single string. The separator string sep is placed between elements in the resulting string.": HOWEVER MANY ELEMENTS. Below the heap's end the world is as it was. (LAID: no walk: one application.) -/
theorem Tryz.strings_Join (bk o c : Nat) (xs : List ByteArray) (sep : ByteArray) (w : World) (hcells : ∀ (j : Nat) x, xs[j]? = some x → w.cell? ⟨bk, o + j, none⟩ = some (.string x)) (hbk : bk < w.heap.size) (hN : xs.length ≤ 140737488355328) (hcap : xs.length ≤ c) (hlen : (Lib.join (xs.map (·.data.toList)) sep.data.toList).length ≤ 140737488355328) :
    Calls Tryz.prog 86 #[.slice (some ⟨bk, o, none⟩) xs.length c, .string sep] w fun e w' => e = .returned (.string ⟨(Lib.join (xs.map (·.data.toList)) sep.data.toList).toArray⟩) ∧ Below w.heap.size w w' := Any.strings_Join Tryz.lays156 Tryz.Builder_Extra_156 bk o c xs sep w hcells hbk hN hcap hlen
def Tryz.lays231_ren : Go.Shelf.Ren := ⟨fun | 231 => 76 | n => n, fun | 9 => 9 | 5 => 5 | 3 => 3 | 4 => 4 | n => n, fun | n => n⟩
theorem Tryz.lays231 : Go.Proofs.Lays.n231 Tryz.prog Tryz.lays231_ren := {
  mixed := by kernel_rfl
  f231 := Tryz.func76.trans (congrArg some (by kernel_rfl))
  t3 := Tryz.underlying3
  a3 := Tryz.isAgg3
  z3 := Tryz.sizeOf3
  v3 := Tryz.zeroValue3
  t4 := Tryz.underlying4
  a4 := Tryz.isAgg4
  z4 := Tryz.sizeOf4
  v4 := Tryz.zeroValue4
  t5 := Tryz.underlying5
  a5 := Tryz.isAgg5
  z5 := Tryz.sizeOf5
  v5 := Tryz.zeroValue5
  t9 := Tryz.underlying9
  a9 := Tryz.isAgg9
  z9 := Tryz.sizeOf9
  v9 := Tryz.zeroValue9 }
open Go.RowKit in
/-- strings.trimLeftByte (no doc; what TrimLeft and Trim call at a cutset of one ASCII byte): the leading bytes that are c are cut off. The world is as it was. (LAID: no walk: one application.) -/
theorem Tryz.strings_trimLeftByte (s : ByteArray) (c : UInt8) (w : World) :
    Calls Tryz.prog 76 #[.string s, .int .u8 c.toNat] w fun e w' => e = .returned (.string ⟨(Lib.trimLeftB s.data.toList c).toArray⟩) ∧ w' = w := Any.strings_trimLeftByte Tryz.lays231 s c w
def Tryz.lays232_ren : Go.Shelf.Ren := ⟨fun | 232 => 77 | n => n, fun | 9 => 9 | 5 => 5 | 3 => 3 | 4 => 4 | n => n, fun | n => n⟩
theorem Tryz.lays232 : Go.Proofs.Lays.n232 Tryz.prog Tryz.lays232_ren := {
  mixed := by kernel_rfl
  f232 := Tryz.func77.trans (congrArg some (by kernel_rfl))
  t3 := Tryz.underlying3
  a3 := Tryz.isAgg3
  z3 := Tryz.sizeOf3
  v3 := Tryz.zeroValue3
  t4 := Tryz.underlying4
  a4 := Tryz.isAgg4
  z4 := Tryz.sizeOf4
  v4 := Tryz.zeroValue4
  t5 := Tryz.underlying5
  a5 := Tryz.isAgg5
  z5 := Tryz.sizeOf5
  v5 := Tryz.zeroValue5
  t9 := Tryz.underlying9
  a9 := Tryz.isAgg9
  z9 := Tryz.sizeOf9
  v9 := Tryz.zeroValue9 }
open Go.RowKit in
/-- strings.trimRightByte (no doc; what TrimRight and Trim call at a cutset of one ASCII byte): the trailing bytes that are c are cut off. The world is as it was. ('hs': a string's length is a number that an int holds.) (LAID: no walk: one application.) -/
theorem Tryz.strings_trimRightByte (s : ByteArray) (c : UInt8) (w : World) (hs : s.size ≤ 9223372036854775807) :
    Calls Tryz.prog 77 #[.string s, .int .u8 c.toNat] w fun e w' => e = .returned (.string ⟨(Lib.trimRightB s.data.toList c).toArray⟩) ∧ w' = w := Any.strings_trimRightByte Tryz.lays232 s c w hs
def Tryz.lays161_ren : Go.Shelf.Ren := ⟨fun | 161 => 111 | 231 => 76 | 227 => 78 | 233 => 79 | 235 => 81 | 228 => 92 | 197 => 93 | 151 => 94 | 260 => 112 | 152 => 113 | 137 => 124 | 119 => 125 | 224 => 126 | 225 => 127 | 217 => 131 | 266 => 132 | n => n, fun | 9 => 9 | 4 => 4 | 3 => 3 | 5 => 5 | 117 => 100 | 116 => 99 | 0 => 0 | 124 => 103 | 105 => 116 | 21 => 21 | 119 => 147 | 46 => 106 | 139 => 150 | 138 => 149 | n => n, fun | 3 => 0 | 4 => 1 | n => n⟩
theorem Tryz.lays161 : Go.Proofs.Lays.n161 Tryz.prog Tryz.lays161_ren := {
  mixed := by kernel_rfl
  f119 := Tryz.func125.trans (congrArg some (by kernel_rfl))
  f137 := Tryz.func124.trans (congrArg some (by kernel_rfl))
  f151 := Tryz.func94.trans (congrArg some (by kernel_rfl))
  f152 := Tryz.func113.trans (congrArg some (by kernel_rfl))
  f161 := Tryz.func111.trans (congrArg some (by kernel_rfl))
  f197 := Tryz.func93.trans (congrArg some (by kernel_rfl))
  f217 := Tryz.func131.trans (congrArg some (by kernel_rfl))
  f224 := Tryz.func126.trans (congrArg some (by kernel_rfl))
  f225 := Tryz.func127.trans (congrArg some (by kernel_rfl))
  f227 := Tryz.func78.trans (congrArg some (by kernel_rfl))
  f228 := Tryz.func92.trans (congrArg some (by kernel_rfl))
  f231 := Tryz.func76.trans (congrArg some (by kernel_rfl))
  f233 := Tryz.func79.trans (congrArg some (by kernel_rfl))
  f235 := Tryz.func81.trans (congrArg some (by kernel_rfl))
  f260 := Tryz.func112.trans (congrArg some (by kernel_rfl))
  f266 := Tryz.func132.trans (congrArg some (by kernel_rfl))
  t0 := Tryz.underlying0
  a0 := Tryz.isAgg0
  z0 := Tryz.sizeOf0
  v0 := Tryz.zeroValue0
  t3 := Tryz.underlying3
  a3 := Tryz.isAgg3
  z3 := Tryz.sizeOf3
  v3 := Tryz.zeroValue3
  t4 := Tryz.underlying4
  a4 := Tryz.isAgg4
  z4 := Tryz.sizeOf4
  v4 := Tryz.zeroValue4
  t5 := Tryz.underlying5
  a5 := Tryz.isAgg5
  z5 := Tryz.sizeOf5
  v5 := Tryz.zeroValue5
  t9 := Tryz.underlying9
  a9 := Tryz.isAgg9
  z9 := Tryz.sizeOf9
  v9 := Tryz.zeroValue9
  t21 := Tryz.underlying21
  a21 := Tryz.isAgg21
  z21 := Tryz.sizeOf21
  v21 := Tryz.zeroValue21
  t46 := Tryz.underlying106
  a46 := Tryz.isAgg106
  z46 := Tryz.sizeOf106
  v46 := Tryz.zeroValue106
  t105 := Tryz.underlying116
  a105 := Tryz.isAgg116
  z105 := Tryz.sizeOf116
  v105 := Tryz.zeroValue116
  t116 := Tryz.underlying99
  a116 := Tryz.isAgg99
  z116 := Tryz.sizeOf99
  t117 := Tryz.underlying100
  a117 := Tryz.isAgg100
  z117 := Tryz.sizeOf100
  v117 := Tryz.zeroValue100
  t119 := Tryz.underlying147
  a119 := Tryz.isAgg147
  z119 := Tryz.sizeOf147
  t124 := Tryz.underlying103
  a124 := Tryz.isAgg103
  z124 := Tryz.sizeOf103
  v124 := Tryz.zeroValue103
  t138 := Tryz.underlying149
  a138 := Tryz.isAgg149
  z138 := Tryz.sizeOf149
  v138 := Tryz.zeroValue149
  t139 := Tryz.underlying150
  a139 := Tryz.isAgg150
  z139 := Tryz.sizeOf150
  v139 := Tryz.zeroValue150
  g3 := by kernel_rfl
  g4 := by kernel_rfl }
open Go.RowKit in
/-- strings.TrimLeft: "TrimLeft returns a slice of the string s with all leading Unicode code points contained in cutset removed.": AT A cutset OF ONE ASCII BYTE. The world is as it was. (LAID: no walk: one application.) -/
theorem Tryz.strings_TrimLeft_one (s : ByteArray) (c : UInt8) (hc : c.toNat < 128) (w : World) :
    Calls Tryz.prog 111 #[.string s, .string ⟨#[c]⟩] w fun e w' => e = .returned (.string ⟨(Lib.trimLeftB s.data.toList c).toArray⟩) ∧ w' = w := Any.strings_TrimLeft_one Tryz.lays161 s c hc w
def Tryz.lays160_ren : Go.Shelf.Ren := ⟨fun | 160 => 63 | 232 => 77 | 231 => 76 | 227 => 78 | 234 => 80 | 233 => 79 | 236 => 82 | 235 => 81 | 228 => 92 | 271 => 95 | 151 => 94 | 197 => 93 | 120 => 114 | 152 => 113 | 260 => 112 | 137 => 124 | 119 => 125 | 224 => 126 | 225 => 127 | 217 => 131 | 266 => 132 | n => n, fun | 9 => 9 | 4 => 4 | 3 => 3 | 5 => 5 | 117 => 100 | 116 => 99 | 0 => 0 | 124 => 103 | 21 => 21 | 105 => 116 | 46 => 106 | 119 => 147 | 139 => 150 | 138 => 149 | n => n, fun | 3 => 0 | 4 => 1 | n => n⟩
theorem Tryz.lays160 : Go.Proofs.Lays.n160 Tryz.prog Tryz.lays160_ren := {
  mixed := by kernel_rfl
  f119 := Tryz.func125.trans (congrArg some (by kernel_rfl))
  f120 := Tryz.func114.trans (congrArg some (by kernel_rfl))
  f137 := Tryz.func124.trans (congrArg some (by kernel_rfl))
  f151 := Tryz.func94.trans (congrArg some (by kernel_rfl))
  f152 := Tryz.func113.trans (congrArg some (by kernel_rfl))
  f160 := Tryz.func63.trans (congrArg some (by kernel_rfl))
  f197 := Tryz.func93.trans (congrArg some (by kernel_rfl))
  f217 := Tryz.func131.trans (congrArg some (by kernel_rfl))
  f224 := Tryz.func126.trans (congrArg some (by kernel_rfl))
  f225 := Tryz.func127.trans (congrArg some (by kernel_rfl))
  f227 := Tryz.func78.trans (congrArg some (by kernel_rfl))
  f228 := Tryz.func92.trans (congrArg some (by kernel_rfl))
  f231 := Tryz.func76.trans (congrArg some (by kernel_rfl))
  f232 := Tryz.func77.trans (congrArg some (by kernel_rfl))
  f233 := Tryz.func79.trans (congrArg some (by kernel_rfl))
  f234 := Tryz.func80.trans (congrArg some (by kernel_rfl))
  f235 := Tryz.func81.trans (congrArg some (by kernel_rfl))
  f236 := Tryz.func82.trans (congrArg some (by kernel_rfl))
  f260 := Tryz.func112.trans (congrArg some (by kernel_rfl))
  f266 := Tryz.func132.trans (congrArg some (by kernel_rfl))
  f271 := Tryz.func95.trans (congrArg some (by kernel_rfl))
  t0 := Tryz.underlying0
  a0 := Tryz.isAgg0
  z0 := Tryz.sizeOf0
  v0 := Tryz.zeroValue0
  t3 := Tryz.underlying3
  a3 := Tryz.isAgg3
  z3 := Tryz.sizeOf3
  v3 := Tryz.zeroValue3
  t4 := Tryz.underlying4
  a4 := Tryz.isAgg4
  z4 := Tryz.sizeOf4
  v4 := Tryz.zeroValue4
  t5 := Tryz.underlying5
  a5 := Tryz.isAgg5
  z5 := Tryz.sizeOf5
  v5 := Tryz.zeroValue5
  t9 := Tryz.underlying9
  a9 := Tryz.isAgg9
  z9 := Tryz.sizeOf9
  v9 := Tryz.zeroValue9
  t21 := Tryz.underlying21
  a21 := Tryz.isAgg21
  z21 := Tryz.sizeOf21
  v21 := Tryz.zeroValue21
  t46 := Tryz.underlying106
  a46 := Tryz.isAgg106
  z46 := Tryz.sizeOf106
  v46 := Tryz.zeroValue106
  t105 := Tryz.underlying116
  a105 := Tryz.isAgg116
  z105 := Tryz.sizeOf116
  v105 := Tryz.zeroValue116
  t116 := Tryz.underlying99
  a116 := Tryz.isAgg99
  z116 := Tryz.sizeOf99
  t117 := Tryz.underlying100
  a117 := Tryz.isAgg100
  z117 := Tryz.sizeOf100
  v117 := Tryz.zeroValue100
  t119 := Tryz.underlying147
  a119 := Tryz.isAgg147
  z119 := Tryz.sizeOf147
  t124 := Tryz.underlying103
  a124 := Tryz.isAgg103
  z124 := Tryz.sizeOf103
  v124 := Tryz.zeroValue103
  t138 := Tryz.underlying149
  a138 := Tryz.isAgg149
  z138 := Tryz.sizeOf149
  v138 := Tryz.zeroValue149
  t139 := Tryz.underlying150
  a139 := Tryz.isAgg150
  z139 := Tryz.sizeOf150
  v139 := Tryz.zeroValue150
  g3 := by kernel_rfl
  g4 := by kernel_rfl }
open Go.RowKit in
/-- strings.Trim: "Trim returns a slice of the string s with all leading and trailing Unicode code points contained in cutset removed.": AT A cutset OF ONE ASCII BYTE. THE WORLD BEHIND IT: as it was, or (where s is not empty) with ONE DRAW MORE off the tape: the statement 'return trimLeftByte(trimRightByte(s, c), c)' draws its order of evaluation. (LAID: no walk: one application.) -/
theorem Tryz.strings_Trim_one (s : ByteArray) (c : UInt8) (hc : c.toNat < 128) (w : World) (hs : s.size ≤ 9223372036854775807) :
    Calls Tryz.prog 63 #[.string s, .string ⟨#[c]⟩] w fun e w' => e = .returned (.string ⟨(Lib.trimB s.data.toList c).toArray⟩) ∧ (w' = w ∨ w' = w.drew) := Any.strings_Trim_one Tryz.lays160 s c hc w hs
def Tryz.lays119_ren : Go.Shelf.Ren := ⟨fun | 119 => 125 | n => n, fun | 21 => 21 | 4 => 4 | n => n, fun | n => n⟩
theorem Tryz.lays119 : Go.Proofs.Lays.n119 Tryz.prog Tryz.lays119_ren := {
  mixed := by kernel_rfl
  f119 := Tryz.func125.trans (congrArg some (by kernel_rfl))
  t4 := Tryz.underlying4
  a4 := Tryz.isAgg4
  z4 := Tryz.sizeOf4
  v4 := Tryz.zeroValue4
  t21 := Tryz.underlying21
  a21 := Tryz.isAgg21
  z21 := Tryz.sizeOf21
  v21 := Tryz.zeroValue21 }
/-- utf8.ValidRune: "ValidRune reports whether r can be legally encoded as UTF-8. Code points that are out of range or a surrogate half are illegal.": IT RETURNS 'Lib.validRune r'; the world is as it was. (LAID: no walk: one application.) -/
theorem Tryz.utf8_ValidRune (r : Int) (w : World) :
    Calls Tryz.prog 125 #[.int .i32 r] w fun e w' => e = .returned (.bool (Lib.validRune r)) ∧ w' = w := Any.utf8_ValidRune Tryz.lays119 r w
def Tryz.lays120_ren : Go.Shelf.Ren := ⟨fun | 120 => 114 | n => n, fun | 5 => 5 | 4 => 4 | n => n, fun | n => n⟩
theorem Tryz.lays120 : Go.Proofs.Lays.n120 Tryz.prog Tryz.lays120_ren := {
  mixed := by kernel_rfl
  f120 := Tryz.func114.trans (congrArg some (by kernel_rfl))
  t4 := Tryz.underlying4
  a4 := Tryz.isAgg4
  z4 := Tryz.sizeOf4
  v4 := Tryz.zeroValue4
  t5 := Tryz.underlying5
  a5 := Tryz.isAgg5
  z5 := Tryz.sizeOf5
  v5 := Tryz.zeroValue5 }
/-- utf8.RuneStart: "RuneStart reports whether the byte could be the first byte of an encoded, possibly invalid rune. Second and subsequent bytes always have the top two bits set to 10.": IT RETURNS 'Lib.runeStart b'; the world is as it was. ('h0', 'h1': b is a byte: a caller has it of every byte that it was handed.) (LAID: no walk: one application.) -/
theorem Tryz.utf8_RuneStart (b : Int) (w : World) (h0 : 0 ≤ b) (h1 : b < 256) :
    Calls Tryz.prog 114 #[.int .u8 b] w fun e w' => e = .returned (.bool (Lib.runeStart b)) ∧ w' = w := Any.utf8_RuneStart Tryz.lays120 b w h0 h1
def Tryz.lays128_ren : Go.Shelf.Ren := ⟨fun | 128 => 105 | n => n, fun | 51 => 129 | 3 => 3 | 4 => 4 | 46 => 106 | 5 => 5 | 9 => 9 | n => n, fun | n => n⟩
theorem Tryz.lays128 : Go.Proofs.Lays.n128 Tryz.prog Tryz.lays128_ren := {
  mixed := by kernel_rfl
  f128 := Tryz.func105.trans (congrArg some (by kernel_rfl))
  t3 := Tryz.underlying3
  a3 := Tryz.isAgg3
  z3 := Tryz.sizeOf3
  v3 := Tryz.zeroValue3
  t4 := Tryz.underlying4
  a4 := Tryz.isAgg4
  z4 := Tryz.sizeOf4
  v4 := Tryz.zeroValue4
  t5 := Tryz.underlying5
  a5 := Tryz.isAgg5
  z5 := Tryz.sizeOf5
  v5 := Tryz.zeroValue5
  t9 := Tryz.underlying9
  a9 := Tryz.isAgg9
  z9 := Tryz.sizeOf9
  v9 := Tryz.zeroValue9
  t46 := Tryz.underlying106
  a46 := Tryz.isAgg106
  z46 := Tryz.sizeOf106
  v46 := Tryz.zeroValue106
  t51 := Tryz.underlying129
  a51 := Tryz.isAgg129
  z51 := Tryz.sizeOf129
  v51 := Tryz.zeroValue129 }
/-- bits.Len32: "Len32 returns the minimum number of bits required to represent x; the result is 0 for x == 0.": IT RETURNS 'Lib.bitLen x'; the world is as it was. ('h0', 'h1': x is a uint32.) (LAID: no walk: one application.) -/
theorem Tryz.bits_Len32 (x : Int) (w : World) (h0 : 0 ≤ x) (h1 : x ≤ 4294967295) :
    Calls Tryz.prog 105 #[.int .u32 x] w fun e w' => e = .returned (.int .i64 (Lib.bitLen x.toNat)) ∧ w' = w := Any.bits_Len32 Tryz.lays128 x w h0 h1
def Tryz.lays125_ren : Go.Shelf.Ren := ⟨fun | 125 => 85 | 128 => 105 | 129 => 106 | n => n, fun | 46 => 106 | 3 => 3 | 51 => 129 | 53 => 131 | 4 => 4 | 5 => 5 | 9 => 9 | n => n, fun | n => n⟩
theorem Tryz.lays125 : Go.Proofs.Lays.n125 Tryz.prog Tryz.lays125_ren := {
  mixed := by kernel_rfl
  f125 := Tryz.func85.trans (congrArg some (by kernel_rfl))
  f128 := Tryz.func105.trans (congrArg some (by kernel_rfl))
  f129 := Tryz.func106.trans (congrArg some (by kernel_rfl))
  t3 := Tryz.underlying3
  a3 := Tryz.isAgg3
  z3 := Tryz.sizeOf3
  v3 := Tryz.zeroValue3
  t4 := Tryz.underlying4
  a4 := Tryz.isAgg4
  z4 := Tryz.sizeOf4
  v4 := Tryz.zeroValue4
  t5 := Tryz.underlying5
  a5 := Tryz.isAgg5
  z5 := Tryz.sizeOf5
  v5 := Tryz.zeroValue5
  t9 := Tryz.underlying9
  a9 := Tryz.isAgg9
  z9 := Tryz.sizeOf9
  v9 := Tryz.zeroValue9
  t46 := Tryz.underlying106
  a46 := Tryz.isAgg106
  z46 := Tryz.sizeOf106
  v46 := Tryz.zeroValue106
  t51 := Tryz.underlying129
  a51 := Tryz.isAgg129
  z51 := Tryz.sizeOf129
  v51 := Tryz.zeroValue129
  t53 := Tryz.underlying131
  a53 := Tryz.isAgg131
  z53 := Tryz.sizeOf131
  v53 := Tryz.zeroValue131 }
/-- bits.Len: "Len returns the minimum number of bits required to represent x; the result is 0 for x == 0.": IT RETURNS 'Lib.bitLen x'; the world is as it was. (A uint has 64 bits in the model.) ITS CALLEE bits.Len64 IS MET BY ITS OWN CONTRACT OFF THE SHELF (lay that first). (LAID: no walk: one application.) -/
theorem Tryz.bits_Len (x : Int) (w : World) (h0 : 0 ≤ x) (h1 : x ≤ 18446744073709551615) :
    Calls Tryz.prog 85 #[.int .u64 x] w fun e w' => e = .returned (.int .i64 (Lib.bitLen x.toNat)) ∧ w' = w := Any.bits_Len Tryz.lays125 x w h0 h1
def Tryz.lays137_ren : Go.Shelf.Ren := ⟨fun | 137 => 124 | 217 => 131 | 266 => 132 | n => n, fun | 9 => 9 | 5 => 5 | 3 => 3 | n => n, fun | n => n⟩
theorem Tryz.lays137 : Go.Proofs.Lays.n137 Tryz.prog Tryz.lays137_ren := {
  mixed := by kernel_rfl
  f137 := Tryz.func124.trans (congrArg some (by kernel_rfl))
  f217 := Tryz.func131.trans (congrArg some (by kernel_rfl))
  f266 := Tryz.func132.trans (congrArg some (by kernel_rfl))
  t3 := Tryz.underlying3
  a3 := Tryz.isAgg3
  z3 := Tryz.sizeOf3
  v3 := Tryz.zeroValue3
  t5 := Tryz.underlying5
  a5 := Tryz.isAgg5
  z5 := Tryz.sizeOf5
  v5 := Tryz.zeroValue5
  t9 := Tryz.underlying9
  a9 := Tryz.isAgg9
  z9 := Tryz.sizeOf9
  v9 := Tryz.zeroValue9 }
open Go.RowKit in
/-- strings.IndexByte: "IndexByte returns the index of the first instance of c in s, or -1 if c is not present in s.": IT RETURNS 'Lib.indexByte s c'; the world is as it was. (LAID: no walk: one application.) -/
theorem Tryz.strings_IndexByte (s : ByteArray) (c : Int) (w : World) :
    Calls Tryz.prog 124 #[.string s, .int .u8 c] w fun e w' => e = .returned (.int .i64 (Lib.indexByte s.data.toList c.toNat.toUInt8)) ∧ w' = w := Any.strings_IndexByte Tryz.lays137 s c w
def Tryz.lays210_ren : Go.Shelf.Ren := ⟨fun | 210 => 110 | 206 => 123 | n => n, fun | 9 => 9 | 4 => 4 | 3 => 3 | n => n, fun | n => n⟩
theorem Tryz.lays210 : Go.Proofs.Lays.n210 Tryz.prog Tryz.lays210_ren := {
  mixed := by kernel_rfl
  f206 := Tryz.func123.trans (congrArg some (by kernel_rfl))
  f210 := Tryz.func110.trans (congrArg some (by kernel_rfl))
  t3 := Tryz.underlying3
  a3 := Tryz.isAgg3
  z3 := Tryz.sizeOf3
  v3 := Tryz.zeroValue3
  t4 := Tryz.underlying4
  a4 := Tryz.isAgg4
  z4 := Tryz.sizeOf4
  v4 := Tryz.zeroValue4
  t9 := Tryz.underlying9
  a9 := Tryz.isAgg9
  z9 := Tryz.sizeOf9
  v9 := Tryz.zeroValue9 }
open Go.RowKit in
/-- internal/stringslite.CutPrefix (what strings.CutPrefix calls). (LAID: no walk: one application.) -/
theorem Tryz.stringslite_CutPrefix (s p : ByteArray) (w : World) :
    Calls Tryz.prog 110 #[.string s, .string p] w fun e w' => e = .returned (.tuple #[.string ⟨(Lib.trimPrefix s.data.toList p.data.toList).toArray⟩, .bool (Lib.hasPrefix s.data.toList p.data.toList)]) ∧ w' = w := Any.stringslite_CutPrefix Tryz.lays210 s p w
def Tryz.lays103_ren : Go.Shelf.Ren := ⟨fun | 103 => 88 | 210 => 110 | 206 => 123 | n => n, fun | 9 => 9 | 4 => 4 | 24 => 108 | 3 => 3 | n => n, fun | n => n⟩
theorem Tryz.lays103 : Go.Proofs.Lays.n103 Tryz.prog Tryz.lays103_ren := {
  mixed := by kernel_rfl
  f103 := Tryz.func88.trans (congrArg some (by kernel_rfl))
  f206 := Tryz.func123.trans (congrArg some (by kernel_rfl))
  f210 := Tryz.func110.trans (congrArg some (by kernel_rfl))
  t3 := Tryz.underlying3
  a3 := Tryz.isAgg3
  z3 := Tryz.sizeOf3
  v3 := Tryz.zeroValue3
  t4 := Tryz.underlying4
  a4 := Tryz.isAgg4
  z4 := Tryz.sizeOf4
  v4 := Tryz.zeroValue4
  t9 := Tryz.underlying9
  a9 := Tryz.isAgg9
  z9 := Tryz.sizeOf9
  v9 := Tryz.zeroValue9
  t24 := Tryz.underlying108
  a24 := Tryz.isAgg108
  z24 := Tryz.sizeOf108
  v24 := Tryz.zeroValue108 }
open Go.RowKit in
/-- strings.CutPrefix: "CutPrefix returns s without the provided leading prefix string and reports whether it found the prefix. If s doesn't start with prefix, CutPrefix returns s, false. If prefix is the empty string, CutPrefix returns s, true.": IT RETURNS '(Lib.trimPrefix s p, Lib.hasPrefix s p)'; the world is as it was. (LAID: no walk: one application.) -/
theorem Tryz.strings_CutPrefix (s p : ByteArray) (w : World) :
    Calls Tryz.prog 88 #[.string s, .string p] w fun e w' => e = .returned (.tuple #[.string ⟨(Lib.trimPrefix s.data.toList p.data.toList).toArray⟩, .bool (Lib.hasPrefix s.data.toList p.data.toList)]) ∧ w' = w := Any.strings_CutPrefix Tryz.lays103 s p w
def Tryz.lays129_ren : Go.Shelf.Ren := ⟨fun | 129 => 106 | n => n, fun | 53 => 131 | 3 => 3 | 4 => 4 | 46 => 106 | 5 => 5 | 9 => 9 | n => n, fun | n => n⟩
theorem Tryz.lays129 : Go.Proofs.Lays.n129 Tryz.prog Tryz.lays129_ren := {
  mixed := by kernel_rfl
  f129 := Tryz.func106.trans (congrArg some (by kernel_rfl))
  t3 := Tryz.underlying3
  a3 := Tryz.isAgg3
  z3 := Tryz.sizeOf3
  v3 := Tryz.zeroValue3
  t4 := Tryz.underlying4
  a4 := Tryz.isAgg4
  z4 := Tryz.sizeOf4
  v4 := Tryz.zeroValue4
  t5 := Tryz.underlying5
  a5 := Tryz.isAgg5
  z5 := Tryz.sizeOf5
  v5 := Tryz.zeroValue5
  t9 := Tryz.underlying9
  a9 := Tryz.isAgg9
  z9 := Tryz.sizeOf9
  v9 := Tryz.zeroValue9
  t46 := Tryz.underlying106
  a46 := Tryz.isAgg106
  z46 := Tryz.sizeOf106
  v46 := Tryz.zeroValue106
  t53 := Tryz.underlying131
  a53 := Tryz.isAgg131
  z53 := Tryz.sizeOf131
  v53 := Tryz.zeroValue131 }
/-- bits.Len64: "Len64 returns the minimum number of bits required to represent x; the result is 0 for x == 0.": IT RETURNS 'Lib.bitLen x'; the world is as it was. ('h0', 'h1': x is a uint64.) (LAID: no walk: one application.) -/
theorem Tryz.bits_Len64 (x : Int) (w : World) (h0 : 0 ≤ x) (h1 : x ≤ 18446744073709551615) :
    Calls Tryz.prog 106 #[.int .u64 x] w fun e w' => e = .returned (.int .i64 (Lib.bitLen x.toNat)) ∧ w' = w := Any.bits_Len64 Tryz.lays129 x w h0 h1
def Tryz.lays217_ren : Go.Shelf.Ren := ⟨fun | 217 => 131 | 266 => 132 | n => n, fun | 9 => 9 | 5 => 5 | 3 => 3 | n => n, fun | n => n⟩
theorem Tryz.lays217 : Go.Proofs.Lays.n217 Tryz.prog Tryz.lays217_ren := {
  mixed := by kernel_rfl
  f217 := Tryz.func131.trans (congrArg some (by kernel_rfl))
  f266 := Tryz.func132.trans (congrArg some (by kernel_rfl))
  t3 := Tryz.underlying3
  a3 := Tryz.isAgg3
  z3 := Tryz.sizeOf3
  v3 := Tryz.zeroValue3
  t5 := Tryz.underlying5
  a5 := Tryz.isAgg5
  z5 := Tryz.sizeOf5
  v5 := Tryz.zeroValue5
  t9 := Tryz.underlying9
  a9 := Tryz.isAgg9
  z9 := Tryz.sizeOf9
  v9 := Tryz.zeroValue9 }
open Go.RowKit Go.Lib in
/-- internal/stringslite.IndexByte (what strings.IndexByte calls): IT RETURNS 'Lib.indexByte s c'; the world is as it was. (LAID: no walk: one application.) -/
theorem Tryz.stringslite_IndexByte (s : ByteArray) (c : Int) (w : World) :
    Calls Tryz.prog 131 #[.string s, .int .u8 c] w fun e w' => e = .returned (.int .i64 (Lib.indexByte s.data.toList c.toNat.toUInt8)) ∧ w' = w := Any.stringslite_IndexByte Tryz.lays217 s c w
def Tryz.lays224_ren : Go.Shelf.Ren := ⟨fun | 224 => 126 | n => n, fun | 3 => 3 | n => n, fun | n => n⟩
theorem Tryz.lays224 : Go.Proofs.Lays.n224 Tryz.prog Tryz.lays224_ren := {
  mixed := by kernel_rfl
  f224 := Tryz.func126.trans (congrArg some (by kernel_rfl))
  t3 := Tryz.underlying3
  a3 := Tryz.isAgg3
  z3 := Tryz.sizeOf3
  v3 := Tryz.zeroValue3 }
open Go.RowKit Go.Lib in
/-- internal/bytealg.Cutover: "Cutover reports the number of failures of IndexByte we should tolerate before switching over to Index. n is the number of bytes processed so far.": on amd64: (n + 16) / 8. (LAID: no walk: one application.) -/
theorem Tryz.bytealg_Cutover (n : Int) (h0 : 0 ≤ n) (h1 : n < 4611686018427387904) (w : World) :
    Calls Tryz.prog 126 #[.int .i64 n] w fun e w' => e = .returned (.int .i64 ((n + 16) / 8)) ∧ w' = w := Any.bytealg_Cutover Tryz.lays224 n h0 h1 w
def Tryz.lays190_ren : Go.Shelf.Ren := ⟨fun | 190 => 65 | 125 => 85 | 258 => 84 | 128 => 105 | 129 => 106 | 302 => 96 | 303 => 97 | 304 => 98 | 305 => 99 | 306 => 100 | 307 => 101 | 308 => 102 | 309 => 103 | 310 => 104 | 333 => 115 | 329 => 116 | 330 => 117 | 334 => 118 | 335 => 119 | 336 => 120 | 344 => 128 | n => n, fun | 31 => 57 | 9 => 9 | 3 => 3 | 46 => 106 | 0 => 0 | 51 => 129 | 53 => 131 | 4 => 4 | 183 => 121 | 182 => 120 | 131 => 126 | 5 => 5 | 218 => 140 | 222 => 144 | 228 => 155 | 229 => 156 | n => n, fun | n => n⟩
theorem Tryz.lays190 : Go.Proofs.Lays.n190 Tryz.prog Tryz.lays190_ren := {
  mixed := by kernel_rfl
  f125 := Tryz.func85.trans (congrArg some (by kernel_rfl))
  f128 := Tryz.func105.trans (congrArg some (by kernel_rfl))
  f129 := Tryz.func106.trans (congrArg some (by kernel_rfl))
  f190 := Tryz.func65.trans (congrArg some (by kernel_rfl))
  f258 := Tryz.func84.trans (congrArg some (by kernel_rfl))
  f302 := Tryz.func96.trans (congrArg some (by kernel_rfl))
  f303 := Tryz.func97.trans (congrArg some (by kernel_rfl))
  f304 := Tryz.func98.trans (congrArg some (by kernel_rfl))
  f305 := Tryz.func99.trans (congrArg some (by kernel_rfl))
  f306 := Tryz.func100.trans (congrArg some (by kernel_rfl))
  f307 := Tryz.func101.trans (congrArg some (by kernel_rfl))
  f308 := Tryz.func102.trans (congrArg some (by kernel_rfl))
  f309 := Tryz.func103.trans (congrArg some (by kernel_rfl))
  f310 := Tryz.func104.trans (congrArg some (by kernel_rfl))
  f329 := Tryz.func116.trans (congrArg some (by kernel_rfl))
  f330 := Tryz.func117.trans (congrArg some (by kernel_rfl))
  f333 := Tryz.func115.trans (congrArg some (by kernel_rfl))
  f334 := Tryz.func118.trans (congrArg some (by kernel_rfl))
  f335 := Tryz.func119.trans (congrArg some (by kernel_rfl))
  f336 := Tryz.func120.trans (congrArg some (by kernel_rfl))
  f344 := Tryz.func128.trans (congrArg some (by kernel_rfl))
  t0 := Tryz.underlying0
  a0 := Tryz.isAgg0
  z0 := Tryz.sizeOf0
  v0 := Tryz.zeroValue0
  t3 := Tryz.underlying3
  a3 := Tryz.isAgg3
  z3 := Tryz.sizeOf3
  v3 := Tryz.zeroValue3
  t4 := Tryz.underlying4
  a4 := Tryz.isAgg4
  z4 := Tryz.sizeOf4
  v4 := Tryz.zeroValue4
  t5 := Tryz.underlying5
  a5 := Tryz.isAgg5
  z5 := Tryz.sizeOf5
  v5 := Tryz.zeroValue5
  t9 := Tryz.underlying9
  a9 := Tryz.isAgg9
  z9 := Tryz.sizeOf9
  v9 := Tryz.zeroValue9
  t31 := Tryz.underlying57
  a31 := Tryz.isAgg57
  z31 := Tryz.sizeOf57
  v31 := Tryz.zeroValue57
  t46 := Tryz.underlying106
  a46 := Tryz.isAgg106
  z46 := Tryz.sizeOf106
  v46 := Tryz.zeroValue106
  t51 := Tryz.underlying129
  a51 := Tryz.isAgg129
  z51 := Tryz.sizeOf129
  v51 := Tryz.zeroValue129
  t53 := Tryz.underlying131
  a53 := Tryz.isAgg131
  z53 := Tryz.sizeOf131
  v53 := Tryz.zeroValue131
  t131 := Tryz.underlying126
  a131 := Tryz.isAgg126
  z131 := Tryz.sizeOf126
  v131 := Tryz.zeroValue126
  t182 := Tryz.underlying120
  a182 := Tryz.isAgg120
  z182 := Tryz.sizeOf120
  v182 := Tryz.zeroValue120
  t183 := Tryz.underlying121
  a183 := Tryz.isAgg121
  z183 := Tryz.sizeOf121
  v183 := Tryz.zeroValue121
  t218 := Tryz.underlying140
  a218 := Tryz.isAgg140
  z218 := Tryz.sizeOf140
  v218 := Tryz.zeroValue140
  t222 := Tryz.underlying144
  a222 := Tryz.isAgg144
  z222 := Tryz.sizeOf144
  v222 := Tryz.zeroValue144
  t228 := Tryz.underlying155
  a228 := Tryz.isAgg155
  z228 := Tryz.sizeOf155
  v228 := Tryz.zeroValue155
  t229 := Tryz.underlying156
  a229 := Tryz.isAgg156
  z229 := Tryz.sizeOf156
  v229 := Tryz.zeroValue156 }
open Go.Sort Go.RowKit in
theorem Tryz.slices_Sort_string (blk off cap : Nat) (ss : List (List UInt8)) (w : World) (hH : Holds encStr w blk off ss.toArray) (hblk : blk < w.heap.size) (hsz : ss.length < 4611686018427387904) :
    Calls Tryz.prog 65 #[.slice (some ⟨blk, off, none⟩) ss.length cap] w fun e w' =>
      e = .returned (.tuple #[]) ∧ ∃ n os, w' = grow (putRow encStr (Sort.ahead w n) blk off (ss.mergeSort fun x y => decide (x ≤ y)).toArray) os := Any.slices_Sort_string Tryz.lays190 blk off cap ss w hH hblk hsz
def Tryz.lays206_ren : Go.Shelf.Ren := ⟨fun | 206 => 123 | n => n, fun | 9 => 9 | 4 => 4 | 3 => 3 | n => n, fun | n => n⟩
theorem Tryz.lays206 : Go.Proofs.Lays.n206 Tryz.prog Tryz.lays206_ren := {
  mixed := by kernel_rfl
  f206 := Tryz.func123.trans (congrArg some (by kernel_rfl))
  t3 := Tryz.underlying3
  a3 := Tryz.isAgg3
  z3 := Tryz.sizeOf3
  v3 := Tryz.zeroValue3
  t4 := Tryz.underlying4
  a4 := Tryz.isAgg4
  z4 := Tryz.sizeOf4
  v4 := Tryz.zeroValue4
  t9 := Tryz.underlying9
  a9 := Tryz.isAgg9
  z9 := Tryz.sizeOf9
  v9 := Tryz.zeroValue9 }
open Go.RowKit Go.Lib in
/-- internal/stringslite.HasPrefix (what strings.HasPrefix calls). (LAID: no walk: one application.) -/
theorem Tryz.stringslite_HasPrefix (s p : ByteArray) (w : World) :
    Calls Tryz.prog 123 #[.string s, .string p] w fun e w' => e = .returned (.bool (Lib.hasPrefix s.data.toList p.data.toList)) ∧ w' = w := Any.stringslite_HasPrefix Tryz.lays206 s p w
def Tryz.lays197_ren : Go.Shelf.Ren := ⟨fun | 197 => 93 | 260 => 112 | n => n, fun | 9 => 9 | 21 => 21 | 3 => 3 | 4 => 4 | 5 => 5 | 105 => 116 | 119 => 147 | 0 => 0 | 46 => 106 | 139 => 150 | 138 => 149 | n => n, fun | 3 => 0 | 4 => 1 | n => n⟩
theorem Tryz.lays197 : Go.Proofs.Lays.n197 Tryz.prog Tryz.lays197_ren := {
  mixed := by kernel_rfl
  f197 := Tryz.func93.trans (congrArg some (by kernel_rfl))
  f260 := Tryz.func112.trans (congrArg some (by kernel_rfl))
  t0 := Tryz.underlying0
  a0 := Tryz.isAgg0
  z0 := Tryz.sizeOf0
  v0 := Tryz.zeroValue0
  t3 := Tryz.underlying3
  a3 := Tryz.isAgg3
  z3 := Tryz.sizeOf3
  v3 := Tryz.zeroValue3
  t4 := Tryz.underlying4
  a4 := Tryz.isAgg4
  z4 := Tryz.sizeOf4
  v4 := Tryz.zeroValue4
  t5 := Tryz.underlying5
  a5 := Tryz.isAgg5
  z5 := Tryz.sizeOf5
  v5 := Tryz.zeroValue5
  t9 := Tryz.underlying9
  a9 := Tryz.isAgg9
  z9 := Tryz.sizeOf9
  v9 := Tryz.zeroValue9
  t21 := Tryz.underlying21
  a21 := Tryz.isAgg21
  z21 := Tryz.sizeOf21
  v21 := Tryz.zeroValue21
  t46 := Tryz.underlying106
  a46 := Tryz.isAgg106
  z46 := Tryz.sizeOf106
  v46 := Tryz.zeroValue106
  t105 := Tryz.underlying116
  a105 := Tryz.isAgg116
  z105 := Tryz.sizeOf116
  v105 := Tryz.zeroValue116
  t119 := Tryz.underlying147
  a119 := Tryz.isAgg147
  z119 := Tryz.sizeOf147
  t138 := Tryz.underlying149
  a138 := Tryz.isAgg149
  z138 := Tryz.sizeOf149
  v138 := Tryz.zeroValue149
  t139 := Tryz.underlying150
  a139 := Tryz.isAgg150
  z139 := Tryz.sizeOf150
  v139 := Tryz.zeroValue150
  g3 := by kernel_rfl
  g4 := by kernel_rfl }
open Go.RowKit Go.Lib in
/-- unicode/utf8.DecodeRuneInString: "DecodeRuneInString is like DecodeRune but its input is a string.": ("DecodeRune unpacks the first UTF-8 encoding in p and returns the rune and its width in bytes."): WHERE s BEGINS WITH AN ASCII BYTE x: (x, 1). (LAID: no walk: one application.) -/
theorem Tryz.utf8_DecodeRuneInString_ascii (s : ByteArray) (x : UInt8) (w : World) (h0 : s.data.toList[0]? = some x) (hx : x.toNat < 128) :
    Calls Tryz.prog 93 #[.string s] w fun e w' => e = .returned (.tuple #[.int .i32 x.toNat, .int .i64 1]) ∧ w' = w := Any.utf8_DecodeRuneInString_ascii Tryz.lays197 s x w h0 hx
def Tryz.lays152_ren : Go.Shelf.Ren := ⟨fun | 152 => 113 | 137 => 124 | 119 => 125 | 224 => 126 | 225 => 127 | 217 => 131 | 266 => 132 | n => n, fun | 9 => 9 | 21 => 21 | 3 => 3 | 4 => 4 | 5 => 5 | 0 => 0 | 46 => 106 | n => n, fun | n => n⟩
theorem Tryz.lays152 : Go.Proofs.Lays.n152 Tryz.prog Tryz.lays152_ren := {
  mixed := by kernel_rfl
  f119 := Tryz.func125.trans (congrArg some (by kernel_rfl))
  f137 := Tryz.func124.trans (congrArg some (by kernel_rfl))
  f152 := Tryz.func113.trans (congrArg some (by kernel_rfl))
  f217 := Tryz.func131.trans (congrArg some (by kernel_rfl))
  f224 := Tryz.func126.trans (congrArg some (by kernel_rfl))
  f225 := Tryz.func127.trans (congrArg some (by kernel_rfl))
  f266 := Tryz.func132.trans (congrArg some (by kernel_rfl))
  t0 := Tryz.underlying0
  a0 := Tryz.isAgg0
  z0 := Tryz.sizeOf0
  v0 := Tryz.zeroValue0
  t3 := Tryz.underlying3
  a3 := Tryz.isAgg3
  z3 := Tryz.sizeOf3
  v3 := Tryz.zeroValue3
  t4 := Tryz.underlying4
  a4 := Tryz.isAgg4
  z4 := Tryz.sizeOf4
  v4 := Tryz.zeroValue4
  t5 := Tryz.underlying5
  a5 := Tryz.isAgg5
  z5 := Tryz.sizeOf5
  v5 := Tryz.zeroValue5
  t9 := Tryz.underlying9
  a9 := Tryz.isAgg9
  z9 := Tryz.sizeOf9
  v9 := Tryz.zeroValue9
  t21 := Tryz.underlying21
  a21 := Tryz.isAgg21
  z21 := Tryz.sizeOf21
  v21 := Tryz.zeroValue21
  t46 := Tryz.underlying106
  a46 := Tryz.isAgg106
  z46 := Tryz.sizeOf106
  v46 := Tryz.zeroValue106 }
open Go.RowKit Go.Lib in
theorem Tryz.strings_IndexRune_ascii (s : ByteArray) (r : Int) (w : World) (h0 : 0 ≤ r) (h1 : r < 128) :
    Calls Tryz.prog 113 #[.string s, .int .i32 r] w fun e w' => e = .returned (.int .i64 (Lib.indexByte s.data.toList r.toNat.toUInt8)) ∧ w' = w := Any.strings_IndexRune_ascii Tryz.lays152 s r w h0 h1
def Tryz.lays151_ren : Go.Shelf.Ren := ⟨fun | 151 => 94 | 152 => 113 | 137 => 124 | 119 => 125 | 224 => 126 | 225 => 127 | 217 => 131 | 266 => 132 | n => n, fun | 9 => 9 | 21 => 21 | 4 => 4 | 3 => 3 | 5 => 5 | 0 => 0 | 46 => 106 | n => n, fun | n => n⟩
theorem Tryz.lays151 : Go.Proofs.Lays.n151 Tryz.prog Tryz.lays151_ren := {
  mixed := by kernel_rfl
  f119 := Tryz.func125.trans (congrArg some (by kernel_rfl))
  f137 := Tryz.func124.trans (congrArg some (by kernel_rfl))
  f151 := Tryz.func94.trans (congrArg some (by kernel_rfl))
  f152 := Tryz.func113.trans (congrArg some (by kernel_rfl))
  f217 := Tryz.func131.trans (congrArg some (by kernel_rfl))
  f224 := Tryz.func126.trans (congrArg some (by kernel_rfl))
  f225 := Tryz.func127.trans (congrArg some (by kernel_rfl))
  f266 := Tryz.func132.trans (congrArg some (by kernel_rfl))
  t0 := Tryz.underlying0
  a0 := Tryz.isAgg0
  z0 := Tryz.sizeOf0
  v0 := Tryz.zeroValue0
  t3 := Tryz.underlying3
  a3 := Tryz.isAgg3
  z3 := Tryz.sizeOf3
  v3 := Tryz.zeroValue3
  t4 := Tryz.underlying4
  a4 := Tryz.isAgg4
  z4 := Tryz.sizeOf4
  v4 := Tryz.zeroValue4
  t5 := Tryz.underlying5
  a5 := Tryz.isAgg5
  z5 := Tryz.sizeOf5
  v5 := Tryz.zeroValue5
  t9 := Tryz.underlying9
  a9 := Tryz.isAgg9
  z9 := Tryz.sizeOf9
  v9 := Tryz.zeroValue9
  t21 := Tryz.underlying21
  a21 := Tryz.isAgg21
  z21 := Tryz.sizeOf21
  v21 := Tryz.zeroValue21
  t46 := Tryz.underlying106
  a46 := Tryz.isAgg106
  z46 := Tryz.sizeOf106
  v46 := Tryz.zeroValue106 }
open Go.RowKit Go.Lib in
theorem Tryz.strings_ContainsRune_ascii (s : ByteArray) (r : Int) (w : World) (h0 : 0 ≤ r) (h1 : r < 128) :
    Calls Tryz.prog 94 #[.string s, .int .i32 r] w fun e w' => e = .returned (.bool (decide (0 ≤ Lib.indexByte s.data.toList r.toNat.toUInt8))) ∧ w' = w := Any.strings_ContainsRune_ascii Tryz.lays151 s r w h0 h1
def Tryz.lays227_ren : Go.Shelf.Ren := ⟨fun | 227 => 78 | n => n, fun | 9 => 9 | 116 => 99 | 4 => 4 | 0 => 0 | 3 => 3 | 5 => 5 | n => n, fun | n => n⟩
theorem Tryz.lays227 : Go.Proofs.Lays.n227 Tryz.prog Tryz.lays227_ren := {
  mixed := by kernel_rfl
  f227 := Tryz.func78.trans (congrArg some (by kernel_rfl))
  t0 := Tryz.underlying0
  a0 := Tryz.isAgg0
  z0 := Tryz.sizeOf0
  v0 := Tryz.zeroValue0
  t3 := Tryz.underlying3
  a3 := Tryz.isAgg3
  z3 := Tryz.sizeOf3
  v3 := Tryz.zeroValue3
  t4 := Tryz.underlying4
  a4 := Tryz.isAgg4
  z4 := Tryz.sizeOf4
  v4 := Tryz.zeroValue4
  t5 := Tryz.underlying5
  a5 := Tryz.isAgg5
  z5 := Tryz.sizeOf5
  v5 := Tryz.zeroValue5
  t9 := Tryz.underlying9
  a9 := Tryz.isAgg9
  z9 := Tryz.sizeOf9
  v9 := Tryz.zeroValue9
  t116 := Tryz.underlying99
  a116 := Tryz.isAgg99
  z116 := Tryz.sizeOf99 }
open Go.RowKit Go.Lib in
theorem Tryz.strings_makeASCIISet (hv116 : ∀ w, (zeroValue 99).run Tryz.prog w = .ok (.agg (Array.replicate 256 (.bool false))) w) (chars : ByteArray) (w : World) (hs : chars.size < 4294967281) (hascii : ∀ (j : Nat) b, chars.data.toList[j]? = some b → b.toNat < 128) :
    Calls Tryz.prog 78 #[.string chars] w fun e w' => e = .returned (.tuple #[.agg (Lib.setCells chars.data.toList), .bool true]) ∧ w' = w.alloc (.cells (Lib.setCells chars.data.toList) 99) := Any.strings_makeASCIISet Tryz.lays227 hv116 (by kernel_rfl) chars w hs hascii
def Tryz.lays228_ren : Go.Shelf.Ren := ⟨fun | 228 => 92 | n => n, fun | 124 => 103 | 5 => 5 | 4 => 4 | 0 => 0 | 116 => 99 | n => n, fun | n => n⟩
theorem Tryz.lays228 : Go.Proofs.Lays.n228 Tryz.prog Tryz.lays228_ren := {
  mixed := by kernel_rfl
  f228 := Tryz.func92.trans (congrArg some (by kernel_rfl))
  t0 := Tryz.underlying0
  a0 := Tryz.isAgg0
  z0 := Tryz.sizeOf0
  v0 := Tryz.zeroValue0
  t4 := Tryz.underlying4
  a4 := Tryz.isAgg4
  z4 := Tryz.sizeOf4
  v4 := Tryz.zeroValue4
  t5 := Tryz.underlying5
  a5 := Tryz.isAgg5
  z5 := Tryz.sizeOf5
  v5 := Tryz.zeroValue5
  t116 := Tryz.underlying99
  a116 := Tryz.isAgg99
  z116 := Tryz.sizeOf99
  t124 := Tryz.underlying103
  a124 := Tryz.isAgg103
  z124 := Tryz.sizeOf103
  v124 := Tryz.zeroValue103 }
open Go.RowKit Go.Lib in
/-- '(as *asciiSet) contains(c)': 'as[c]': the set lies at block b, whole. (LAID: no walk: one application.) -/
theorem Tryz.asciiSet_contains (b : Nat) (x : UInt8) (v : Bool) (w : World) (hc : w.cell? ⟨b, x.toNat, none⟩ = some (.bool v)) :
    Calls Tryz.prog 92 #[.pointer (some ⟨b, 0, none⟩), .int .u8 x.toNat] w fun e w' => e = .returned (.bool v) ∧ w' = w := Any.asciiSet_contains Tryz.lays228 b x v w hc
def Tryz.lays260_ren : Go.Shelf.Ren := ⟨fun | 260 => 112 | n => n, fun | 9 => 9 | 21 => 21 | 3 => 3 | 4 => 4 | 5 => 5 | 119 => 147 | 0 => 0 | 46 => 106 | 139 => 150 | 138 => 149 | n => n, fun | 3 => 0 | 4 => 1 | n => n⟩
theorem Tryz.lays260 : Go.Proofs.Lays.n260 Tryz.prog Tryz.lays260_ren := {
  mixed := by kernel_rfl
  f260 := Tryz.func112.trans (congrArg some (by kernel_rfl))
  t0 := Tryz.underlying0
  a0 := Tryz.isAgg0
  z0 := Tryz.sizeOf0
  v0 := Tryz.zeroValue0
  t3 := Tryz.underlying3
  a3 := Tryz.isAgg3
  z3 := Tryz.sizeOf3
  v3 := Tryz.zeroValue3
  t4 := Tryz.underlying4
  a4 := Tryz.isAgg4
  z4 := Tryz.sizeOf4
  v4 := Tryz.zeroValue4
  t5 := Tryz.underlying5
  a5 := Tryz.isAgg5
  z5 := Tryz.sizeOf5
  v5 := Tryz.zeroValue5
  t9 := Tryz.underlying9
  a9 := Tryz.isAgg9
  z9 := Tryz.sizeOf9
  v9 := Tryz.zeroValue9
  t21 := Tryz.underlying21
  a21 := Tryz.isAgg21
  z21 := Tryz.sizeOf21
  v21 := Tryz.zeroValue21
  t46 := Tryz.underlying106
  a46 := Tryz.isAgg106
  z46 := Tryz.sizeOf106
  v46 := Tryz.zeroValue106
  t119 := Tryz.underlying147
  a119 := Tryz.isAgg147
  z119 := Tryz.sizeOf147
  t138 := Tryz.underlying149
  a138 := Tryz.isAgg149
  z138 := Tryz.sizeOf149
  v138 := Tryz.zeroValue149
  t139 := Tryz.underlying150
  a139 := Tryz.isAgg150
  z139 := Tryz.sizeOf150
  v139 := Tryz.zeroValue150
  g3 := by kernel_rfl
  g4 := by kernel_rfl }
open Go.RowKit Go.Lib in
theorem Tryz.utf8_decodeRuneInStringSlow (s : ByteArray) (w : World) (hT : Lib.Utf8Tabs 0 1 w) :
    Calls Tryz.prog 112 #[.string s] w fun e w' => e = .returned (.tuple #[.int .i32 (Lib.decodeGo s).1, .int .i64 (Lib.decodeGo s).2]) ∧ Below w.heap.size w w' := Any.utf8_decodeRuneInStringSlow Tryz.lays260 s w hT
open Go.RowKit Go.Lib in
/-- **unicode/utf8.DecodeRuneInString AT EVERY STRING.** (LAID: no walk: one application.) -/
theorem Tryz.utf8_DecodeRuneInString (s : ByteArray) (w : World) (hT : Lib.Utf8Tabs 0 1 w) :
    Calls Tryz.prog 93 #[.string s] w fun e w' => e = .returned (.tuple #[.int .i32 (Lib.decodeGo s).1, .int .i64 (Lib.decodeGo s).2]) ∧ Below w.heap.size w w' := Any.utf8_DecodeRuneInString Tryz.lays197 s w hT
def Tryz.lays271_ren : Go.Shelf.Ren := ⟨fun | 271 => 95 | 120 => 114 | 197 => 93 | 260 => 112 | n => n, fun | 9 => 9 | 21 => 21 | 3 => 3 | 4 => 4 | 5 => 5 | 105 => 116 | 119 => 147 | 0 => 0 | 46 => 106 | 139 => 150 | 138 => 149 | n => n, fun | 3 => 0 | 4 => 1 | n => n⟩
theorem Tryz.lays271 : Go.Proofs.Lays.n271 Tryz.prog Tryz.lays271_ren := {
  mixed := by kernel_rfl
  f120 := Tryz.func114.trans (congrArg some (by kernel_rfl))
  f197 := Tryz.func93.trans (congrArg some (by kernel_rfl))
  f260 := Tryz.func112.trans (congrArg some (by kernel_rfl))
  f271 := Tryz.func95.trans (congrArg some (by kernel_rfl))
  t0 := Tryz.underlying0
  a0 := Tryz.isAgg0
  z0 := Tryz.sizeOf0
  v0 := Tryz.zeroValue0
  t3 := Tryz.underlying3
  a3 := Tryz.isAgg3
  z3 := Tryz.sizeOf3
  v3 := Tryz.zeroValue3
  t4 := Tryz.underlying4
  a4 := Tryz.isAgg4
  z4 := Tryz.sizeOf4
  v4 := Tryz.zeroValue4
  t5 := Tryz.underlying5
  a5 := Tryz.isAgg5
  z5 := Tryz.sizeOf5
  v5 := Tryz.zeroValue5
  t9 := Tryz.underlying9
  a9 := Tryz.isAgg9
  z9 := Tryz.sizeOf9
  v9 := Tryz.zeroValue9
  t21 := Tryz.underlying21
  a21 := Tryz.isAgg21
  z21 := Tryz.sizeOf21
  v21 := Tryz.zeroValue21
  t46 := Tryz.underlying106
  a46 := Tryz.isAgg106
  z46 := Tryz.sizeOf106
  v46 := Tryz.zeroValue106
  t105 := Tryz.underlying116
  a105 := Tryz.isAgg116
  z105 := Tryz.sizeOf116
  v105 := Tryz.zeroValue116
  t119 := Tryz.underlying147
  a119 := Tryz.isAgg147
  z119 := Tryz.sizeOf147
  t138 := Tryz.underlying149
  a138 := Tryz.isAgg149
  z138 := Tryz.sizeOf149
  v138 := Tryz.zeroValue149
  t139 := Tryz.underlying150
  a139 := Tryz.isAgg150
  z139 := Tryz.sizeOf150
  v139 := Tryz.zeroValue150
  g3 := by kernel_rfl
  g4 := by kernel_rfl }
open Go.RowKit Go.Lib in
/-- **unicode/utf8.DecodeLastRuneInString AT EVERY STRING.** (LAID: no walk: one application.) -/
theorem Tryz.utf8_DecodeLastRuneInString (s : ByteArray) (w : World) (hs : s.size ≤ 9223372036854775807) (hT : Lib.Utf8Tabs 0 1 w) :
    Calls Tryz.prog 95 #[.string s] w fun e w' => e = .returned (.tuple #[.int .i32 (Lib.decodeLastL s.data.toList).1, .int .i64 (Lib.decodeLastL s.data.toList).2]) ∧ Below w.heap.size w w' := Any.utf8_DecodeLastRuneInString Tryz.lays271 s w hs hT
def Tryz.laysNm216_ren : Go.Shelf.Ren := ⟨fun | 16 => 69 | n => n, fun | 24 => 57 | 9 => 9 | 4 => 4 | n => n, fun | n => n⟩
theorem Tryz.laysNm216 : Go.Proofs.Lays2.n16 Tryz.prog Tryz.laysNm216_ren := {
  mixed := by kernel_rfl
  f16 := Tryz.func69.trans (congrArg some (by kernel_rfl))
  t4 := Tryz.underlying4
  a4 := Tryz.isAgg4
  z4 := Tryz.sizeOf4
  v4 := Tryz.zeroValue4
  t9 := Tryz.underlying9
  a9 := Tryz.isAgg9
  z9 := Tryz.sizeOf9
  v9 := Tryz.zeroValue9
  t24 := Tryz.underlying57
  a24 := Tryz.isAgg57
  z24 := Tryz.sizeOf57
  v24 := Tryz.zeroValue57
  i9 := by kernel_rfl }
open Go.RowKit Go.Lib in
/-- slices.Clone at []string: "Clone returns a copy of the slice. The elements are copied using assignment, so this is a shallow clone. The result may have additional unused capacity. The result preserves the nilness of s.": OF A SLICE THAT IS NOT nil IT RETURNS A SLICE THAT IS NOT nil, OF THE SAME ELEMENTS, IN MEMORY OF THE CALL's OWN: in the how-to's words (6f): 'w'.ownsRow B e 1 v' n cells': v' begins at the head of a row among the blocks from B on (B: the heap's size at the call), not frozen, whose first cells are the elements · 'Below B w w'': below B all is as it was. The capacity is whatever the run-time gives. 'zs': what the cells behind the slice's address hold; 'zs.take n': its elements. (LAID: no walk: one application.) -/
theorem Tryz.slices_Clone_string (b off n c : Nat) (zs : List ByteArray) (w : World) (hz : n ≤ zs.length) (hbig : n * 16 ≤ 140737488355328) (hc : ∀ j, j < zs.length → w.cell? ⟨b, off + j, none⟩ = some (.string (zs.getD j ByteArray.empty))) :
    Calls Tryz.prog 69 #[.slice (some ⟨b, off, none⟩) n c] w fun e w' => ∃ v', e = .returned v' ∧ w'.ownsRow w.heap.size 9 1 v' n ((zs.take n).map (Value.string)) ∧ v' ≠ .slice none 0 0 ∧ Below w.heap.size w w' := Any.slices_Clone_string Tryz.laysNm216 b off n c zs w hz hbig hc
open Go.RowKit Go.Lib in
/-- The same at nil: nil comes back; the world is as it was. (LAID: no walk: one application.) -/
theorem Tryz.slices_Clone_string_nil (n c : Nat) (w : World) :
    Calls Tryz.prog 69 #[.slice none n c] w fun e w' => e = .returned (.slice none 0 0) ∧ w' = w := Any.slices_Clone_string_nil Tryz.laysNm216 n c w
open Go.RowKit Go.Lib in
/-- The same at a slice of length 0 that is not nil, WHATEVER ITS ADDRESS (no cell is asked for): a slice that is not nil and owns nothing comes back. (LAID: no walk: one application.) -/
theorem Tryz.slices_Clone_string_zero (a : Addr) (c : Nat) (w : World) :
    Calls Tryz.prog 69 #[.slice (some a) 0 c] w fun e w' => ∃ v', e = .returned v' ∧ w'.ownsRow w.heap.size 9 1 v' 0 [] ∧ v' ≠ .slice none 0 0 ∧ Below w.heap.size w w' := Any.slices_Clone_string_zero Tryz.laysNm216 a c w
def Tryz.lays194_ren : Go.Shelf.Ren := ⟨fun | 194 => 70 | n => n, fun | 31 => 57 | 9 => 9 | 3 => 3 | 4 => 4 | 0 => 0 | n => n, fun | n => n⟩
theorem Tryz.lays194 : Go.Proofs.Lays.n194 Tryz.prog Tryz.lays194_ren := {
  mixed := by kernel_rfl
  f194 := Tryz.func70.trans (congrArg some (by kernel_rfl))
  t0 := Tryz.underlying0
  a0 := Tryz.isAgg0
  z0 := Tryz.sizeOf0
  v0 := Tryz.zeroValue0
  t3 := Tryz.underlying3
  a3 := Tryz.isAgg3
  z3 := Tryz.sizeOf3
  v3 := Tryz.zeroValue3
  t4 := Tryz.underlying4
  a4 := Tryz.isAgg4
  z4 := Tryz.sizeOf4
  v4 := Tryz.zeroValue4
  t9 := Tryz.underlying9
  a9 := Tryz.isAgg9
  z9 := Tryz.sizeOf9
  v9 := Tryz.zeroValue9
  t31 := Tryz.underlying57
  a31 := Tryz.isAgg57
  z31 := Tryz.sizeOf57
  v31 := Tryz.zeroValue57 }
open Go.RowKit Go.Lib Go.Sort in
/-- slices.Compact at []string, over an array: the library's two loops are walked. (LAID: no walk: one application.) -/
theorem Tryz.slices_Compact_string_arr (blk off cap : Nat) (d : Array (List UInt8)) (w : World) (hH : Holds encStr w blk off d) (hsz : d.size ≤ 9223372036854775807) (hcap : d.size ≤ cap) :
    Calls Tryz.prog 70 #[.slice (some ⟨blk, off, none⟩) d.size cap] w fun e w' => e = .returned (.slice (some ⟨blk, off, none⟩) (compactUpTo d d.size).length cap) ∧ ∃ q, w' = putRow encStr (Sort.ahead w q) blk off (compactUpTo d d.size ++ List.replicate (d.size - (compactUpTo d d.size).length) []).toArray := Any.slices_Compact_string_arr Tryz.lays194 blk off cap d w hH hsz hcap
open Go.RowKit Go.Lib Go.Sort in
/-- slices.Compact at []string: "Compact replaces consecutive runs of equal elements with a single copy. This is like the uniq command found on Unix. Compact modifies the contents of the slice s and returns the modified slice, which may have a smaller length. Compact zeroes the elements between the new length and the original length. The result preserves the nilness of s.": IT RETURNS THE SLICE CUT TO 'Lib.compact zs'; ITS CELLS HOLD 'Lib.compact zs', THEN ZERO VALUES up to the old length; all else is as it was, but for the count of draws. IN THE WORDS OF slices.Sort's CONTRACT ('Holds', 'putRow'): so the everyday 'slices.Sort(xs); xs = slices.Compact(xs)' goes from the one contract to the other. It asks 'zs.length ≤ cap' (every slice's: the reslicing 's[:k]' looks at it). Length 0, nil: '.._empty'. (LAID: no walk: one application.) -/
theorem Tryz.slices_Compact_string (blk off cap : Nat) (zs : List (List UInt8)) (w : World) (hH : Holds encStr w blk off zs.toArray) (hsz : zs.length ≤ 9223372036854775807) (hcap : zs.length ≤ cap) :
    Calls Tryz.prog 70 #[.slice (some ⟨blk, off, none⟩) zs.length cap] w fun e w' => e = .returned (.slice (some ⟨blk, off, none⟩) (Lib.compact zs).length cap) ∧ ∃ q, w' = putRow encStr (Sort.ahead w q) blk off (Lib.compact zs ++ List.replicate (zs.length - (Lib.compact zs).length) []).toArray := Any.slices_Compact_string Tryz.lays194 blk off cap zs w hH hsz hcap
open Go.RowKit Go.Lib Go.Sort in
/-- The same at a slice of length 0, a nil one too: it comes back as it is. (LAID: no walk: one application.) -/
theorem Tryz.slices_Compact_string_empty (a : Option Addr) (cap : Nat) (w : World) :
    Calls Tryz.prog 70 #[.slice a 0 cap] w fun e w' => e = .returned (.slice a 0 cap) ∧ w' = w := Any.slices_Compact_string_empty Tryz.lays194 a cap w
open Go.RowKit Go.Lib Go.Sort in
/-- slices.Compact at []string, of an argument. (LAID: no walk: one application.) -/
theorem Tryz.slices_Compact_string_cells (b off n c : Nat) (Sx : Nat → ByteArray) (w : World) (hbig : n ≤ 9223372036854775807) (hcap : n ≤ c) (hc : ∀ i, i < n → w.cell? ⟨b, off + i, none⟩ = some (.string (Sx i))) (hf : ∀ j, j < n → w.frozen? ⟨b, off + j, none⟩ = false) :
    Calls Tryz.prog 70 #[.slice (some ⟨b, off, none⟩) n c] w fun e w' => e = .returned (.slice (some ⟨b, off, none⟩) (Lib.compact (Lib.strsOf Sx n)).length c) ∧ ∃ q, w' = (w.drewN q).setCells b off ((Lib.compact (Lib.strsOf Sx n) ++ List.replicate (n - (Lib.compact (Lib.strsOf Sx n)).length) []).map encStr) := Any.slices_Compact_string_cells Tryz.lays194 b off n c Sx w hbig hcap hc hf
open Go.RowKit Go.Sort in
/-- .. and plain. (LAID: no walk: one application.) -/
theorem Tryz.slices_Sort_string_none (p : Option Addr) (cap : Nat) (w : World) :
    Calls Tryz.prog 65 #[.slice p 0 cap] w fun e w' => e = .returned (.tuple #[]) ∧ w' = w := Any.slices_Sort_string_none Tryz.lays190 p cap w
def Tryz.laysSlE041_f69_ren : Go.Shelf.Ren := ⟨fun | 41 => 69 | n => n, fun | 22 => 57 | 23 => 9 | 4 => 4 | n => n, fun | n => n⟩
theorem Tryz.laysSlE041_f69 : Go.Proofs.SlLaysE0.n41 Tryz.prog Tryz.laysSlE041_f69_ren := {
  mixed := by kernel_rfl
  f41 := ⟨Tryz.f69.name, by decide, Tryz.func69.trans (congrArg some (by kernel_rfl))⟩
  t4 := Tryz.underlying4
  a4 := Tryz.isAgg4
  z4 := Tryz.sizeOf4
  v4 := Tryz.zeroValue4
  t22 := Tryz.underlying57
  a22 := Tryz.isAgg57
  z22 := Tryz.sizeOf57
  v22 := Tryz.zeroValue57 }
open Go.RowKit Go.Lib in
/-- slices.Clone: "Clone returns a copy of the slice. The elements are copied using assignment, so this is a shallow clone. The result may have additional unused capacity. The result preserves the nilness of s.": OF A SLICE THAT IS NOT nil IT RETURNS A SLICE THAT IS NOT nil, OF THE SAME CELLS, IN MEMORY OF THE CALL's OWN ('ownsRow': the how-to's 6f); below the heap's size at the call all is as it was. (LAID AT THE INSTANCE 'slices.Clone[[]string,string]': no walk: one application.) -/
theorem Tryz.slices_Clone (i0 : TypeInfo) (z : Value) (size bytes : Nat) (hi : Tryz.prog.info? 9 = some i0) (hz0 : i0.zero = some z) (hz1 : i0.size = size) (hz2 : i0.bytes = bytes) (hzs : z.cells.size = size) (hsz : 0 < size) (z23 : ∀ w, (Go.sizeOf 9).run Tryz.prog w = .ok size w) (b off n c : Nat) (news : List Value) (w : World) (hl : news.length = n * size) (hn : n ≤ maxLen) (hbig : n * bytes ≤ 140737488355328) (hc : ∀ j u, news[j]? = some u → w.cell? ⟨b, off + j, none⟩ = some u) (h1 : ∀ u ∈ news, u.oneCell' = true) :
    Calls Tryz.prog 69 #[.slice (some ⟨b, off, none⟩) n c] w fun e w' => ∃ v', e = .returned v' ∧ w'.ownsRow w.heap.size 9 size v' n news ∧ v' ≠ .slice none 0 0 ∧ Below w.heap.size w w' := AnyE.slices_Clone Tryz.laysSlE041_f69 i0 z size bytes hi hz0 hz1 hz2 hzs hsz z23 b off n c news w hl hn hbig hc h1
open Go.RowKit Go.Lib in
/-- The same at nil: nil comes back; the world is as it was; nothing is asked of the element's type. (LAID AT THE INSTANCE 'slices.Clone[[]string,string]': no walk: one application.) -/
theorem Tryz.slices_Clone_nil (n c : Nat) (w : World) :
    Calls Tryz.prog 69 #[.slice none n c] w fun e w' => e = .returned (.slice none 0 0) ∧ w' = w := AnyE.slices_Clone_nil Tryz.laysSlE041_f69 n c w
end Go.Proofs

/- The abstract machine, part S: the library's functions, by the shelf's contracts. -/
namespace Go.Ab
open Go.Proofs Go.RowKit

/-- A contract of the shelf's as one of the machine's. -/
theorem PureC.of_below {P : Program} {f : FuncId} {args : List AVal} {R : AVal → Prop}
    (h : ∀ (c : Ctx) (xs : List Value), (∀ id, c.H id = none) → RepL c args xs → Calls P f xs.toArray c.w fun e w' => ∃ x v, e = .returned x ∧ R v ∧ Fresh v ∧ (∀ c' : Ctx, Rep c' v x) ∧ Below c.w.heap.size c.w w') : PureC P f args R := by
  intro c xs hH hn g r
  refine (h c xs (by intro id; rw [hH]; rfl) r).mono ?_
  rintro e w' ⟨x, v, he, hR, hf, hv, hb⟩
  obtain ⟨hk, hg⟩ := more_blocks g w' ⟨hb.os, hb.tape, hb.output⟩ hb.size hb.block
  exact ⟨x, v, { c with w := w' }, he, rfl, ⟨v, .of (Ret.fresh hf), hR⟩, hv _, hg, hk⟩

theorem RepL.one1 {c : Ctx} {a : AVal} {xs : List Value} (r : RepL c [a] xs) : ∃ x, xs = [x] ∧ Rep c a x := by
  obtain ⟨hl, hr⟩ := r
  match xs, hl with
  | [x], _ => exact ⟨x, rfl, hr 0 a x rfl rfl⟩

theorem RepL.two2 {c : Ctx} {a b : AVal} {xs : List Value} (r : RepL c [a, b] xs) : ∃ x y, xs = [x, y] ∧ Rep c a x ∧ Rep c b y := by
  obtain ⟨hl, hr⟩ := r
  match xs, hl with
  | [x, y], _ => exact ⟨x, y, rfl, hr 0 a x rfl rfl, hr 1 b y rfl rfl⟩

theorem trim_ok (s cut : Str) (hs : s.length ≤ 4611686018427387904) (hc : cut.length ≤ 1000) (ha : cut.all (fun b => decide (b.toNat < 128)) = true) : PureC Tryz.prog 63 [str s, str cut] (fun r => r = str (Lib.trimS s cut)) := by
  refine PureC.of_below fun c xs _ r => ?_
  obtain ⟨x, y, rfl, hx, hy⟩ := r.two2
  rw [hx.v_inv, hy.v_inv]
  refine (Any.strings_Trim_laid Tryz.lays160 (by kernel_rfl) ⟨s.toArray⟩ ⟨cut.toArray⟩ c.w (by simp; omega) (by simp; omega) (ascii_of_all (by simpa using ha))).mono ?_
  rintro e w' ⟨he, hb⟩
  exact ⟨_, _, he, rfl, .v _, fun _ => .v _, by simpa using hb⟩

theorem trimLeft_ok (s cut : Str) (hc : cut.length ≤ 1000) (ha : cut.all (fun b => decide (b.toNat < 128)) = true) : PureC Tryz.prog 111 [str s, str cut] (fun r => r = str (Lib.trimLeftS s cut)) := by
  refine PureC.of_below fun c xs _ r => ?_
  obtain ⟨x, y, rfl, hx, hy⟩ := r.two2
  rw [hx.v_inv, hy.v_inv]
  refine (Any.strings_TrimLeft_laid Tryz.lays161 (by kernel_rfl) ⟨s.toArray⟩ ⟨cut.toArray⟩ c.w (by simp; omega) (ascii_of_all (by simpa using ha))).mono ?_
  rintro e w' ⟨he, hb⟩
  exact ⟨_, _, he, rfl, .v _, fun _ => .v _, by simpa using hb⟩

theorem cell_of_none {w : World} {a : Addr} {x : Value} (h : w.cell? a = some x) : a.block < w.heap.size := by
  unfold World.cell? at h
  rcases Nat.lt_or_ge a.block w.heap.size with hl | hl
  · exact hl
  · have : w.heap[a.block]? = none := Array.getElem?_eq_none hl
    rw [this] at h
    simp at h

theorem map_get1 {α β : Type} {f : α → β} {l : List α} {i : Nat} {b : β} (h : (l.map f)[i]? = some b) : ∃ a, l[i]? = some a ∧ b = f a := by
  rw [List.getElem?_map] at h
  cases ha : l[i]? with
  | none => simp [ha] at h
  | some a => simp only [ha, Option.map_some, Option.some.injEq] at h; exact ⟨a, rfl, h.symm⟩

theorem join_ok (l : List Str) (sep : Str) (hl : l.length ≤ 140737488355328) (hj : (Lib.join l sep).length ≤ 140737488355328) : PureC Tryz.prog 86 [.list false (l.map fun s => [str s]), str sep] (fun r => r = str (Lib.join l sep)) := by
  refine PureC.of_below fun c xs _ r => ?_
  obtain ⟨x, y, rfl, hx, hy⟩ := r.two2
  rw [hy.v_inv]
  generalize he : l.map (fun s => [str s]) = els at hx
  cases hx with
  | lnil =>
    have : l = [] := by simpa using he
    subst this
    refine (Tryz.strings_Join_none none 0 ⟨sep.toArray⟩ c.w).mono ?_
    rintro e w' ⟨he, hb⟩
    exact ⟨_, _, he, rfl, .v _, fun _ => .v _, hb ▸ Below.refl _ _⟩
  | list _ _ a cap sz cell hsp hcap hm hsz hc hr =>
    subst he
    by_cases hne : l = []
    · subst hne
      refine (Tryz.strings_Join_none (some a) cap ⟨sep.toArray⟩ c.w).mono ?_
      rintro e w' ⟨he, hb⟩
      exact ⟨_, _, he, rfl, .v _, fun _ => .v _, hb ▸ Below.refl _ _⟩
    have hsp := hsp (by simpa using hne)
    obtain ⟨bk, o, sp⟩ := a
    simp only at hsp
    subst hsp
    have hone : ∀ (j : Nat) s, l[j]? = some s → sz = 1 ∧ c.w.cell? ⟨bk, o + j, none⟩ = some (.string ⟨s.toArray⟩) := by
      intro j s hj
      have hg : (l.map fun s => [str s])[j]? = some [str s] := by rw [List.getElem?_map, hj]; rfl
      have h1 := hsz j _ hg
      simp at h1
      have h2 := hc j _ 0 _ hg rfl
      have h3 := (hr j _ 0 _ hg rfl).v_inv
      subst h1
      simp at h2
      rw [h3] at h2
      exact ⟨rfl, h2⟩
    have hlen : (l.map fun s => [str s]).length = (l.map fun s => ByteArray.mk s.toArray).length := by simp
    · rw [hlen]
      have hbk : bk < c.w.heap.size := (hm (by simpa using hne)).2.1
      have hmm : (l.map fun s => ByteArray.mk s.toArray).map (fun b => b.data.toList) = l := by simp [Function.comp_def]
      have H := Tryz.strings_Join bk o cap (l.map fun s => ByteArray.mk s.toArray) ⟨sep.toArray⟩ c.w (fun j x hx => by
        obtain ⟨s, hs, rfl⟩ := map_get1 hx
        exact (hone j s hs).2) hbk (by rw [List.length_map]; exact hl) (by rw [← hlen]; exact hcap) (by rw [hmm]; exact hj)
      rw [hmm] at H
      refine H.mono ?_
      rintro e w' ⟨he, hb⟩
      exact ⟨_, _, he, rfl, .v _, fun _ => .v _, hb⟩
end Go.Ab

/- Contracts of impl.joinTexts and (impl.Proc).textIn, at valid processes. -/
namespace Go.Ab
open Go.Proofs
set_option linter.unusedSimpArgs false
theorem e58 : Ent Tryz.prog 58 := Ent.of Tryz.func58 (by kernel_rfl) rfl
theorem e54 : Ent Tryz.prog 54 := Ent.of Tryz.func54 (by kernel_rfl) rfl
theorem e64 : Ent Tryz.prog 64 := Ent.of Tryz.func64 (by kernel_rfl) rfl
theorem e66 : Ent Tryz.prog 66 := Ent.of Tryz.func66 (by kernel_rfl) rfl
theorem e63 : Ent Tryz.prog 63 := Ent.of Tryz.func63 (by kernel_rfl) rfl
theorem e86 : Ent Tryz.prog 86 := Ent.of Tryz.func86 (by kernel_rfl) rfl

def joinTexts (l : List Str) : Str := if l = [] then [48] else Lib.join l [124]

theorem joinTexts_ok (l : List Str) (hl : l.length ≤ 1073741824) (hj : (Lib.join l [124]).length ≤ 140737488355328) : PureC Tryz.prog 66 [encStrs false l] (fun r => r = str (joinTexts l)) := by
  refine PureC.of Tryz.func66 rfl Tryz.ntmps66 (by simp) fun Q hQ => ?_
  refine Runs.seqE Ty_ok (by decide) fun k' hk' => ?_
  simp
  refine hk' _ _ _ (Runs.seq (Runs.seqE Ty_ok (by decide) fun k' hk' => ?_))
  simp [encStrs]
  refine hk' _ _ _ (Runs.ite rfl (fun h => ?_) (fun h => ?_))
  · simp at h
    refine Runs.seqE Ty_ok (by decide) fun k' hk' => ?_
    simp
    refine hk' _ _ _ (Runs.ret Tryz.func66 (RetOk.one Tryz.results66) (hQ _ _ _ _ (.v _ _ _) ?_))
    simp [joinTexts, h]
  · simp at h
    refine Runs.skip (Runs.seqE Ty_ok (by decide) fun k' hk' => ?_)
    simp [encStrs]
    refine RunK.callA Ty_ok (join_ok l [124] (by omega) hj) e86 (.cons (.listF (fr := false) (by simp)) (.cons (.v _ _ _) .nil)) (by decide) (by decide) rfl (by simp) ?_
    rintro _ rfl
    simp
    refine hk' _ _ _ (Runs.ret Tryz.func66 (RetOk.one Tryz.results66) (hQ _ _ _ _ (.v _ _ _) ?_))
    simp [joinTexts, h]

def textIn (p : Proc) : Nat → Int → Str
  | 0, _ => []
  | d + 1, parent => joinTexts ((kidsFrom p parent p.length).map fun k => nodeText (p.getD k default) (textIn p d k))

structure Valid (p : Proc) : Prop where
  len : p.length ≤ 8
  kind : ∀ i, i < p.length → 0 ≤ (p.getD i default).kind ∧ (p.getD i default).kind ≤ 3
  name : ∀ i, i < p.length → (p.getD i default).name.length ≤ 4
  up : ∀ i, i < p.length → -1 ≤ (p.getD i default).parent ∧ (p.getD i default).parent < i

theorem nodeText_len (x : AmbNode) (s : Str) (hn : x.name.length ≤ 4) : (nodeText x s).length ≤ s.length + 12 := by
  have := word_len (x.kind - 1).toNat
  unfold nodeText
  split <;> simp only [List.length_append, List.length_cons, List.length_nil] <;> omega

theorem join_len (l : List Str) (sep : Str) (B : Nat) (h : ∀ s ∈ l, s.length ≤ B) : (Lib.join l sep).length ≤ l.length * (B + sep.length) := by
  induction l with
  | nil => simp [Lib.join]
  | cons a l ih =>
    have h1 := h a (by simp)
    have h2 := ih fun s hs => h s (by simp [hs])
    have h3 : (Lib.join (a :: l) sep).length ≤ a.length + sep.length + (Lib.join l sep).length := by
      cases l with
      | nil => simp [Lib.join]
      | cons b l => simp [Lib.join, List.intercalate]; omega
    have : (a :: l).length * (B + sep.length) = l.length * (B + sep.length) + (B + sep.length) := by rw [List.length_cons, Nat.add_mul, Nat.one_mul]
    omega

theorem kids_mem {p : Proc} {parent : Int} {n k : Nat} (h : k ∈ kidsFrom p parent n) : k < n ∧ (p.getD k default).parent = parent := by
  simp only [kidsFrom, List.mem_filter, List.mem_range, beq_iff_eq] at h
  exact h

theorem textIn_len {p : Proc} (hp : Valid p) : ∀ (d : Nat) (parent : Int), (textIn p d parent).length + 15 ≤ 16 * 8 ^ d
  | 0, _ => by simp [textIn]
  | d + 1, parent => by
    simp only [textIn]
    unfold joinTexts
    have h8 : 8 ^ (d + 1) = 8 * 8 ^ d := by rw [Nat.pow_succ, Nat.mul_comm]
    have h1 : 0 < 8 ^ d := Nat.pos_of_ne_zero (by simp)
    split
    · simp; omega
    · have := join_len ((kidsFrom p parent p.length).map fun k => nodeText (p.getD k default) (textIn p d k)) [124] (16 * 8 ^ d - 15 + 12) (fun s hs => by
        simp only [List.mem_map] at hs
        obtain ⟨k, hk, rfl⟩ := hs
        have h1 := nodeText_len (p.getD k default) (textIn p d k) (hp.name k (kids_mem hk).1)
        have h2 := textIn_len hp d k
        omega)
      have hl := kids_len p parent p.length
      have h9 := hp.len
      simp only [List.length_map, List.length_singleton] at this
      have hm : (kidsFrom p parent p.length).length * (16 * 8 ^ d - 15 + 12 + 1) ≤ 8 * (16 * 8 ^ d - 15 + 12 + 1) := Nat.mul_le_mul_right _ (by omega)
      omega

theorem old_encP (t : Bool) (p : Proc) : old (encP t p) = encP false p := by
  simp [encP, old_agg, old_list, AmbNode.cells, old_v]
theorem imm_encP (t : Bool) (p : Proc) : Imm (encP t p) := by
  simp [encP, AmbNode.cells]
theorem ArgOk.encP {H : Heap} {n : Nat} (t : Bool) (p : Proc) : ArgOk H n (encP t p) (encP false p) := ArgOk.imm' (imm_encP t p) (old_encP t p)
theorem ArgOk.node {H : Heap} {n : Nat} (x : AmbNode) : ArgOk H n (.agg x.cells) (.agg x.cells) := ArgOk.aggF (by simp [AmbNode.cells])

theorem textIn_ok {p : Proc} (hp : Valid p) : ∀ (d : Nat) (parent : Int), -1 ≤ parent → parent < p.length → (p.length : Int) - parent ≤ d → d ≤ 9 →
    PureC Tryz.prog 58 [encP false p, int parent] (fun r => r = str (textIn p d parent))
  | 0, parent, _, h1, h2, _ => by omega
  | d + 1, parent, h0, h1, h2, hd => by
    have hp8 := hp.len
    refine PureC.of Tryz.func58 rfl Tryz.ntmps58 (by simp) fun Q hQ => ?_
    refine Runs.seqE Ty_ok (by decide) fun k' hk' => ?_
    simp [encP]   -- R0
    refine hk' _ _ _ ?_
    refine Runs.seqE Ty_ok (by decide) fun k' hk' => ?_
    simp   -- R1
    refine hk' _ _ _ ?_
    refine Runs.seq ?_
    refine Runs.seqE Ty_ok (by decide) fun k' hk' => ?_
    simp   -- R2
    -- t11 := value f110(t9, t10)
    refine RunK.callA Ty_ok (kids_ok p parent (by omega)) e54 (.cons (ArgOk.encP false p) (.cons (.v _ _ _) .nil)) (by decide) (by decide) rfl (by simp [encP]) ?_
    rintro _ rfl
    simp [encNats]
    refine hk' _ _ _ ?_
    have hkl := kids_len p parent p.length
    refine Runs.block (Runs.loopUp (kidsFrom p parent p.length).length (fun k ρ H n => ρ 2 = .ptr (0, 2) 1 0 0 ∧ H (0, 2) = some ⟨1, [[.list false (p.map AmbNode.cells)]]⟩ ∧ ρ 11 = .list true ((kidsFrom p parent p.length).map fun (i : Nat) => [int (i : Int)]) ∧ ρ 12 = int (kidsFrom p parent p.length).length ∧ ρ 13 = int k ∧ ρ 5 = .arr (1, 8) k 0 k ∧ H (1, 8) = some ⟨1, ((kidsFrom p parent p.length).take k).map fun i => [str (nodeText (p.getD i default) (textIn p d i))]⟩) ?_ ?_)
    · simp
    · rintro k ρ H n hk ⟨h2, hH2, h11, h12, h13, h5, hH⟩ IH
      refine Runs.seqE Ty_ok (by decide) fun k' hk' => ?_
      simp [h11, h12, h13]   -- R3
      refine hk' _ _ _ ?_
      refine Runs.seq ?_
      refine Runs.ite rfl (fun hc1 => ?_) (fun hc1 => ?_)   -- t14
      · simp at hc1
        refine Runs.skip ?_
        refine Runs.seq ?_
        refine Runs.block ?_
        refine Runs.seqE Ty_ok (by decide) fun k' hk' => ?_
        simp [h11, h12, h13, hc1]   -- R4
        refine hk' _ _ _ ?_
        have him : (kidsFrom p parent p.length)[k] ∈ kidsFrom p parent p.length := List.getElem_mem hc1
        have hsk : (kidsFrom p parent p.length).take (k + 1) = (kidsFrom p parent p.length).take k ++ [(kidsFrom p parent p.length)[k]] := List.take_succ_eq_append_getElem hc1
        generalize (kidsFrom p parent p.length)[k] = i at him hsk ⊢
        obtain ⟨hilt, hip⟩ := kids_mem him
        have hup := hp.up i hilt
        have hkd := hp.kind i hilt
        have hnm := hp.name i hilt
        have hpd : 8 ^ d ≤ 8 ^ 8 := Nat.pow_le_pow_right (by omega) (by omega)
        have htl := textIn_len hp d i
        refine Runs.evalDE Ty_ok kindOp_ok draws (by decide) (by kernel_rfl) fun k' hk' => ?_
        simp [h11, h12, h13, h2, hH2, h5, hH, hc1, hilt, AmbNode.cells]   -- R5
        refine RunDK.callA Ty_ok kindOp_ok (textIn_ok hp d i (by omega) (by omega) (by omega) (by omega)) e58 (.cons (ArgOk.encP false p) (.cons (.v _ _ _) .nil)) (by decide) rfl (by simp [encP, AmbNode.cells]) ?_
        simp
        refine RunDK.callA Ty_ok kindOp_ok (nodeText_ok (p.getD i default) (textIn p d i) hkd (by omega) (by omega)) e64 (.cons (ArgOk.node _) (.cons (.v _ _ _) .nil)) (by decide) rfl (by simp [AmbNode.cells, hilt]) ?_
        simp [h5, hH, show k ≤ 1073741823 by omega, Nat.min_eq_left hk]
        refine hk' _ _ _ (Runs.inBlock (Runs.evalE Ty_ok (by decide) fun k' hk' => ?_))
        simp [h13, wrap_succ (show k < 4611686018427387904 by omega)]
        refine hk' _ _ _ (IH hc1 _ _ _ ?_)
        simp [h2, h11, h12, hH2, hsk]
      · simp at hc1
        have hke : k = (kidsFrom p parent p.length).length := by omega
        subst hke
        refine Runs.exit rfl (Runs.seqE Ty_ok (by decide) fun k' hk' => ?_)
        simp [h5]
        have hjl := join_len ((kidsFrom p parent p.length).map fun k => nodeText (p.getD k default) (textIn p d k)) [124] (16 * 8 ^ d - 15 + 12) (fun s hs => by
          simp only [List.mem_map] at hs
          obtain ⟨k, hk, rfl⟩ := hs
          have h1 := nodeText_len (p.getD k default) (textIn p d k) (hp.name k (kids_mem hk).1)
          have h2 := textIn_len hp d k
          omega)
        simp only [List.length_map, List.length_singleton] at hjl
        have hm : (kidsFrom p parent p.length).length * (16 * 8 ^ d - 15 + 12 + 1) ≤ 8 * (16 * 8 ^ d - 15 + 12 + 1) := Nat.mul_le_mul_right _ (by omega)
        have hpd : 8 ^ d ≤ 8 ^ 8 := Nat.pow_le_pow_right (by omega) (by omega)
        refine RunK.callA Ty_ok (joinTexts_ok ((kidsFrom p parent p.length).map fun k => nodeText (p.getD k default) (textIn p d k)) (by simp; omega) (by omega)) e66 (.cons (.arrF (g := (kidsFrom p parent p.length).length) (id := (1, 8)) (sz := 1) (by simp [live, hH]) (by simp)) .nil) (by decide) (by decide) rfl (by simp [h5]) ?_
        rintro _ rfl
        simp
        refine hk' _ _ _ (Runs.ret Tryz.func58 (RetOk.one Tryz.results58) (hQ _ _ _ _ (.v _ _ _) ?_))
        simp [textIn]
end Go.Ab
