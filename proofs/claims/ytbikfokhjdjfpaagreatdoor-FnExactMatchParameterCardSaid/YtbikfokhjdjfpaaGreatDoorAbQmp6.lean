/- Merged texts (6 of 17) of the proof that ends in Mpy: Shelf S Q V Ga Sn Vp W Gb Gc Gd Ge Gf Gg Gh Gi. -/
import Derived.Test.YtbikfokhjdjfpaaGreatDoorAbQmp5
import Derived.Shelf.Strings.Trim
import Derived.Shelf.Small.Utf8
import Derived.Shelf.Small.Strs
import Derived.Shelf.Small.Wraps
import Derived.Shelf.Strings.Search1
import Derived.Shelf.Sort.Plain
import Derived.Shelf.Strings.Runes
import Derived.Shelf.Strings.AsciiSet
import Derived.Shelf.Bits.Mul64
import Derived.Shelf.Unicode.DecodeSlow
import Derived.Shelf.Slices.Turned
import Derived.Ground.Names2Prog
import Derived.Shelf.Slices.Clone
import Derived.Shelf.Slices.CompactI
import Derived.Shelf.Slices.CompactS
import Derived.Shelf.Slices.In.SortNone
import Derived.Test.YtbikfokhjdjfpaaGreatDoorProg
import Derived.Shelf.Strings.SlTrimAscii
import Derived.Lib.Join
/-
 DERIVED: THE SHELF's CONTRACTS AT THIS DUMP,IN PLAIN WORDS (tools/lay-plain.mjs out of 'TryzShelf.lean',which tools/lay-shelf.mjs wrote): THE SAME DECLARATIONS UNDER THE SAME NAMES: 'import','namespace','open','def','theorem' AND NOTHING ELSE: no command of the shelf's: FOR A HAND-IN. Each laying: the table of numbers ('.._ren') and one theorem,a field a fact of the dump's own or the kernel's comparison;each contract: ONE APPLICATION.
-/
namespace Go.Proofs
open Go.Shelf
def Tryz.ym:Go.Shelf.Ren:=⟨fun | 160=>233 | 232=>255 | 231=>254 | 227=>256 | 234=>258 | 233=>257 | 236=>260 | 235=>259 | 228=>267 | 271=>270 | 151=>269 | 197=>268 | 120=>274 | 152=>273 | 260=>272 | 137=>275 | 119=>276 | 224=>277 | 225=>278 | 217=>279 | 266=>280 | n=>n,fun | 9=>9 | 4=>4 | 3=>3 | 5=>5 | 117=>239 | 116=>238 | 0=>0 | 124=>242 | 21=>21 | 105=>248 | 46=>144 | 119=>253 | 139=>256 | 138=>255 | n=>n,fun | 3=>0 | 4=>1 | n=>n⟩
theorem Tryz.Fw:Go.Proofs.Lays.n160 Tryz.prog Tryz.ym:={
 mixed:=by kernel_rfl
 f119:=Tryz.func276.trans (congrArg some (by kernel_rfl))
 f120:=Tryz.func274.trans (congrArg some (by kernel_rfl))
 f137:=Tryz.func275.trans (congrArg some (by kernel_rfl))
 f151:=Tryz.func269.trans (congrArg some (by kernel_rfl))
 f152:=Tryz.func273.trans (congrArg some (by kernel_rfl))
 f160:=Tryz.func233.trans (congrArg some (by kernel_rfl))
 f197:=Tryz.func268.trans (congrArg some (by kernel_rfl))
 f217:=Tryz.func279.trans (congrArg some (by kernel_rfl))
 f224:=Tryz.func277.trans (congrArg some (by kernel_rfl))
 f225:=Tryz.func278.trans (congrArg some (by kernel_rfl))
 f227:=Tryz.func256.trans (congrArg some (by kernel_rfl))
 f228:=Tryz.func267.trans (congrArg some (by kernel_rfl))
 f231:=Tryz.func254.trans (congrArg some (by kernel_rfl))
 f232:=Tryz.func255.trans (congrArg some (by kernel_rfl))
 f233:=Tryz.func257.trans (congrArg some (by kernel_rfl))
 f234:=Tryz.func258.trans (congrArg some (by kernel_rfl))
 f235:=Tryz.func259.trans (congrArg some (by kernel_rfl))
 f236:=Tryz.func260.trans (congrArg some (by kernel_rfl))
 f260:=Tryz.func272.trans (congrArg some (by kernel_rfl))
 f266:=Tryz.func280.trans (congrArg some (by kernel_rfl))
 f271:=Tryz.func270.trans (congrArg some (by kernel_rfl))
 t0:=Tryz.underlying0
 a0:=Tryz.isAgg0
 z0:=Tryz.sizeOf0
 v0:=Tryz.zeroValue0
 t3:=Tryz.underlying3
 a3:=Tryz.isAgg3
 z3:=Tryz.sizeOf3
 v3:=Tryz.zeroValue3
 t4:=Tryz.underlying4
 a4:=Tryz.isAgg4
 z4:=Tryz.sizeOf4
 v4:=Tryz.zeroValue4
 t5:=Tryz.underlying5
 a5:=Tryz.isAgg5
 z5:=Tryz.sizeOf5
 v5:=Tryz.zeroValue5
 t9:=Tryz.underlying9
 a9:=Tryz.isAgg9
 z9:=Tryz.sizeOf9
 v9:=Tryz.zeroValue9
 t21:=Tryz.underlying21
 a21:=Tryz.isAgg21
 z21:=Tryz.sizeOf21
 v21:=Tryz.zeroValue21
 t46:=Tryz.underlying144
 a46:=Tryz.isAgg144
 z46:=Tryz.sizeOf144
 v46:=Tryz.zeroValue144
 t105:=Tryz.underlying248
 a105:=Tryz.isAgg248
 z105:=Tryz.sizeOf248
 v105:=Tryz.zeroValue248
 t116:=Tryz.underlying238
 a116:=Tryz.isAgg238
 z116:=Tryz.sizeOf238
 t117:=Tryz.underlying239
 a117:=Tryz.isAgg239
 z117:=Tryz.sizeOf239
 v117:=Tryz.zeroValue239
 t119:=Tryz.underlying253
 a119:=Tryz.isAgg253
 z119:=Tryz.sizeOf253
 t124:=Tryz.underlying242
 a124:=Tryz.isAgg242
 z124:=Tryz.sizeOf242
 v124:=Tryz.zeroValue242
 t138:=Tryz.underlying255
 a138:=Tryz.isAgg255
 z138:=Tryz.sizeOf255
 v138:=Tryz.zeroValue255
 t139:=Tryz.underlying256
 a139:=Tryz.isAgg256
 z139:=Tryz.sizeOf256
 v139:=Tryz.zeroValue256
 g3:=by kernel_rfl
 g4:=by kernel_rfl }
def Tryz.wL:Go.Shelf.Ren:=⟨fun | 189=>82 | 125=>130 | 257=>129 | 128=>183 | 129=>184 | 294=>174 | 295=>175 | 296=>176 | 297=>177 | 298=>178 | 299=>179 | 216=>180 | 300=>181 | 301=>182 | 328=>216 | 329=>217 | 330=>218 | 331=>219 | 332=>220 | 215=>193 | 343=>247 | n=>n,fun | 28=>24 | 3=>3 | 46=>144 | 0=>0 | 51=>182 | 53=>184 | 4=>4 | 183=>174 | 182=>173 | 131=>179 | 5=>5 | 9=>9 | 218=>203 | 222=>207 | 228=>226 | 229=>227 | n=>n,fun | n=>n⟩
theorem Tryz.A8:Go.Proofs.Lays.n189 Tryz.prog Tryz.wL:={
 mixed:=by kernel_rfl
 f125:=Tryz.func130.trans (congrArg some (by kernel_rfl))
 f128:=Tryz.func183.trans (congrArg some (by kernel_rfl))
 f129:=Tryz.func184.trans (congrArg some (by kernel_rfl))
 f189:=Tryz.func82.trans (congrArg some (by kernel_rfl))
 f215:=Tryz.func193.trans (congrArg some (by kernel_rfl))
 f216:=Tryz.func180.trans (congrArg some (by kernel_rfl))
 f257:=Tryz.func129.trans (congrArg some (by kernel_rfl))
 f294:=Tryz.func174.trans (congrArg some (by kernel_rfl))
 f295:=Tryz.func175.trans (congrArg some (by kernel_rfl))
 f296:=Tryz.func176.trans (congrArg some (by kernel_rfl))
 f297:=Tryz.func177.trans (congrArg some (by kernel_rfl))
 f298:=Tryz.func178.trans (congrArg some (by kernel_rfl))
 f299:=Tryz.func179.trans (congrArg some (by kernel_rfl))
 f300:=Tryz.func181.trans (congrArg some (by kernel_rfl))
 f301:=Tryz.func182.trans (congrArg some (by kernel_rfl))
 f328:=Tryz.func216.trans (congrArg some (by kernel_rfl))
 f329:=Tryz.func217.trans (congrArg some (by kernel_rfl))
 f330:=Tryz.func218.trans (congrArg some (by kernel_rfl))
 f331:=Tryz.func219.trans (congrArg some (by kernel_rfl))
 f332:=Tryz.func220.trans (congrArg some (by kernel_rfl))
 f343:=Tryz.func247.trans (congrArg some (by kernel_rfl))
 t0:=Tryz.underlying0
 a0:=Tryz.isAgg0
 z0:=Tryz.sizeOf0
 v0:=Tryz.zeroValue0
 t3:=Tryz.underlying3
 a3:=Tryz.isAgg3
 z3:=Tryz.sizeOf3
 v3:=Tryz.zeroValue3
 t4:=Tryz.underlying4
 a4:=Tryz.isAgg4
 z4:=Tryz.sizeOf4
 v4:=Tryz.zeroValue4
 t5:=Tryz.underlying5
 a5:=Tryz.isAgg5
 z5:=Tryz.sizeOf5
 v5:=Tryz.zeroValue5
 t9:=Tryz.underlying9
 a9:=Tryz.isAgg9
 z9:=Tryz.sizeOf9
 v9:=Tryz.zeroValue9
 t28:=Tryz.underlying24
 a28:=Tryz.isAgg24
 z28:=Tryz.sizeOf24
 v28:=Tryz.zeroValue24
 t46:=Tryz.underlying144
 a46:=Tryz.isAgg144
 z46:=Tryz.sizeOf144
 v46:=Tryz.zeroValue144
 t51:=Tryz.underlying182
 a51:=Tryz.isAgg182
 z51:=Tryz.sizeOf182
 v51:=Tryz.zeroValue182
 t53:=Tryz.underlying184
 a53:=Tryz.isAgg184
 z53:=Tryz.sizeOf184
 v53:=Tryz.zeroValue184
 t131:=Tryz.underlying179
 a131:=Tryz.isAgg179
 z131:=Tryz.sizeOf179
 v131:=Tryz.zeroValue179
 t182:=Tryz.underlying173
 a182:=Tryz.isAgg173
 z182:=Tryz.sizeOf173
 v182:=Tryz.zeroValue173
 t183:=Tryz.underlying174
 a183:=Tryz.isAgg174
 z183:=Tryz.sizeOf174
 v183:=Tryz.zeroValue174
 t218:=Tryz.underlying203
 a218:=Tryz.isAgg203
 z218:=Tryz.sizeOf203
 v218:=Tryz.zeroValue203
 t222:=Tryz.underlying207
 a222:=Tryz.isAgg207
 z222:=Tryz.sizeOf207
 v222:=Tryz.zeroValue207
 t228:=Tryz.underlying226
 a228:=Tryz.isAgg226
 z228:=Tryz.sizeOf226
 v228:=Tryz.zeroValue226
 t229:=Tryz.underlying227
 a229:=Tryz.isAgg227
 z229:=Tryz.sizeOf227
 v229:=Tryz.zeroValue227 }
open Go.Sort Go.RowKit in
theorem Tryz.slices_Sort_int (blk off cap:Nat) (zs:List Int) (w:World) (hH:Holds (Value.int .i64) w blk off zs.toArray) (hblk:blk<w.heap.size) (hsz:zs.length<4611686018427387904) :
  Calls Tryz.prog 82 #[.slice (some ⟨blk,off,none⟩) zs.length cap] w fun e w'=>
   e = .returned (.tuple #[])∧∃ n os,w'=grow (putRow (Value.int .i64) (Sort.ahead w n) blk off (zs.mergeSort fun x y=>decide (x≤y)).toArray) os:=Any.slices_Sort_int Tryz.A8 blk off cap zs w hH hblk hsz
def Tryz.yb:Go.Shelf.Ren:=⟨fun | 190=>159 | 125=>130 | 258=>202 | 128=>183 | 129=>184 | 302=>235 | 303=>236 | 304=>237 | 305=>238 | 306=>239 | 307=>240 | 308=>241 | 309=>242 | 310=>243 | 333=>261 | 329=>217 | 330=>218 | 334=>262 | 335=>263 | 336=>264 | 344=>271 | n=>n,fun | 31=>25 | 9=>9 | 3=>3 | 46=>144 | 0=>0 | 51=>182 | 53=>184 | 4=>4 | 183=>174 | 182=>173 | 131=>179 | 5=>5 | 218=>203 | 222=>207 | 228=>226 | 229=>227 | n=>n,fun | n=>n⟩
theorem Tryz.AQ:Go.Proofs.Lays.n190 Tryz.prog Tryz.yb:={
 mixed:=by kernel_rfl
 f125:=Tryz.func130.trans (congrArg some (by kernel_rfl))
 f128:=Tryz.func183.trans (congrArg some (by kernel_rfl))
 f129:=Tryz.func184.trans (congrArg some (by kernel_rfl))
 f190:=Tryz.func159.trans (congrArg some (by kernel_rfl))
 f258:=Tryz.func202.trans (congrArg some (by kernel_rfl))
 f302:=Tryz.func235.trans (congrArg some (by kernel_rfl))
 f303:=Tryz.func236.trans (congrArg some (by kernel_rfl))
 f304:=Tryz.func237.trans (congrArg some (by kernel_rfl))
 f305:=Tryz.func238.trans (congrArg some (by kernel_rfl))
 f306:=Tryz.func239.trans (congrArg some (by kernel_rfl))
 f307:=Tryz.func240.trans (congrArg some (by kernel_rfl))
 f308:=Tryz.func241.trans (congrArg some (by kernel_rfl))
 f309:=Tryz.func242.trans (congrArg some (by kernel_rfl))
 f310:=Tryz.func243.trans (congrArg some (by kernel_rfl))
 f329:=Tryz.func217.trans (congrArg some (by kernel_rfl))
 f330:=Tryz.func218.trans (congrArg some (by kernel_rfl))
 f333:=Tryz.func261.trans (congrArg some (by kernel_rfl))
 f334:=Tryz.func262.trans (congrArg some (by kernel_rfl))
 f335:=Tryz.func263.trans (congrArg some (by kernel_rfl))
 f336:=Tryz.func264.trans (congrArg some (by kernel_rfl))
 f344:=Tryz.func271.trans (congrArg some (by kernel_rfl))
 t0:=Tryz.underlying0
 a0:=Tryz.isAgg0
 z0:=Tryz.sizeOf0
 v0:=Tryz.zeroValue0
 t3:=Tryz.underlying3
 a3:=Tryz.isAgg3
 z3:=Tryz.sizeOf3
 v3:=Tryz.zeroValue3
 t4:=Tryz.underlying4
 a4:=Tryz.isAgg4
 z4:=Tryz.sizeOf4
 v4:=Tryz.zeroValue4
 t5:=Tryz.underlying5
 a5:=Tryz.isAgg5
 z5:=Tryz.sizeOf5
 v5:=Tryz.zeroValue5
 t9:=Tryz.underlying9
 a9:=Tryz.isAgg9
 z9:=Tryz.sizeOf9
 v9:=Tryz.zeroValue9
 t31:=Tryz.underlying25
 a31:=Tryz.isAgg25
 z31:=Tryz.sizeOf25
 v31:=Tryz.zeroValue25
 t46:=Tryz.underlying144
 a46:=Tryz.isAgg144
 z46:=Tryz.sizeOf144
 v46:=Tryz.zeroValue144
 t51:=Tryz.underlying182
 a51:=Tryz.isAgg182
 z51:=Tryz.sizeOf182
 v51:=Tryz.zeroValue182
 t53:=Tryz.underlying184
 a53:=Tryz.isAgg184
 z53:=Tryz.sizeOf184
 v53:=Tryz.zeroValue184
 t131:=Tryz.underlying179
 a131:=Tryz.isAgg179
 z131:=Tryz.sizeOf179
 v131:=Tryz.zeroValue179
 t182:=Tryz.underlying173
 a182:=Tryz.isAgg173
 z182:=Tryz.sizeOf173
 v182:=Tryz.zeroValue173
 t183:=Tryz.underlying174
 a183:=Tryz.isAgg174
 z183:=Tryz.sizeOf174
 v183:=Tryz.zeroValue174
 t218:=Tryz.underlying203
 a218:=Tryz.isAgg203
 z218:=Tryz.sizeOf203
 v218:=Tryz.zeroValue203
 t222:=Tryz.underlying207
 a222:=Tryz.isAgg207
 z222:=Tryz.sizeOf207
 v222:=Tryz.zeroValue207
 t228:=Tryz.underlying226
 a228:=Tryz.isAgg226
 z228:=Tryz.sizeOf226
 v228:=Tryz.zeroValue226
 t229:=Tryz.underlying227
 a229:=Tryz.isAgg227
 z229:=Tryz.sizeOf227
 v229:=Tryz.zeroValue227 }
open Go.Sort Go.RowKit in
theorem Tryz.slices_Sort_string (blk off cap:Nat) (ss:List (List UInt8)) (w:World) (hH:Holds encStr w blk off ss.toArray) (hblk:blk<w.heap.size) (hsz:ss.length<4611686018427387904) :
  Calls Tryz.prog 159 #[.slice (some ⟨blk,off,none⟩) ss.length cap] w fun e w'=>
   e = .returned (.tuple #[])∧∃ n os,w'=grow (putRow encStr (Sort.ahead w n) blk off (ss.mergeSort fun x y=>decide (x≤y)).toArray) os:=Any.slices_Sort_string Tryz.AQ blk off cap ss w hH hblk hsz
def Tryz.wB:Go.Shelf.Ren:=⟨fun | 212=>224 | 263=>249 | 264=>250 | n=>n,fun | 46=>144 | 51=>182 | 146=>230 | 53=>184 | 148=>232 | n=>n,fun | n=>n⟩
theorem Tryz.E6:Go.Proofs.Lays.n212 Tryz.prog Tryz.wB:={
 mixed:=by kernel_rfl
 f212:=Tryz.func224.trans (congrArg some (by kernel_rfl))
 f263:=Tryz.func249.trans (congrArg some (by kernel_rfl))
 f264:=Tryz.func250.trans (congrArg some (by kernel_rfl))
 t46:=Tryz.underlying144
 a46:=Tryz.isAgg144
 z46:=Tryz.sizeOf144
 v46:=Tryz.zeroValue144
 t51:=Tryz.underlying182
 a51:=Tryz.isAgg182
 z51:=Tryz.sizeOf182
 v51:=Tryz.zeroValue182
 t53:=Tryz.underlying184
 a53:=Tryz.isAgg184
 z53:=Tryz.sizeOf184
 v53:=Tryz.zeroValue184
 t146:=Tryz.underlying230
 a146:=Tryz.isAgg230
 z146:=Tryz.sizeOf230
 v146:=Tryz.zeroValue230
 t148:=Tryz.underlying232
 a148:=Tryz.isAgg232
 z148:=Tryz.sizeOf232
 v148:=Tryz.zeroValue232 }
open Go.RowKit Go.Lib in
theorem Tryz.bits_Mul (x y:Nat) (hx:x<18446744073709551616) (hy:y<18446744073709551616) (w:World) :
  Calls Tryz.prog 224 #[.int .u64 x,.int .u64 y] w fun e w'=>e = .returned (.tuple #[.int .u64 ((x * y / 18446744073709551616:Nat):Int),.int .u64 ((x * y % 18446744073709551616:Nat):Int)])∧w'=w:=Any.bits_Mul Tryz.E6 x y hx hy w
def Tryz.tD:Go.Shelf.Ren:=⟨fun | 20=>168 | n=>n,fun | 22=>24 | 3=>3 | 4=>4 | 0=>0 | n=>n,fun | n=>n⟩
theorem Tryz.uf:Go.Proofs.Lays2.n20 Tryz.prog Tryz.tD:={
 mixed:=by kernel_rfl
 f20:=Tryz.func168.trans (congrArg some (by kernel_rfl))
 t0:=Tryz.underlying0
 a0:=Tryz.isAgg0
 z0:=Tryz.sizeOf0
 v0:=Tryz.zeroValue0
 t3:=Tryz.underlying3
 a3:=Tryz.isAgg3
 z3:=Tryz.sizeOf3
 v3:=Tryz.zeroValue3
 t4:=Tryz.underlying4
 a4:=Tryz.isAgg4
 z4:=Tryz.sizeOf4
 v4:=Tryz.zeroValue4
 t22:=Tryz.underlying24
 a22:=Tryz.isAgg24
 z22:=Tryz.sizeOf24
 v22:=Tryz.zeroValue24
 i3:=by kernel_rfl }
open Go.RowKit Go.Lib Go.Sort in
theorem Tryz.slices_Compact_int (blk off cap:Nat) (zs:List Int) (w:World) (hH:Holds (Value.int .i64) w blk off zs.toArray) (hsz:zs.length≤9223372036854775807) (hcap:zs.length≤cap) :
  Calls Tryz.prog 168 #[.slice (some ⟨blk,off,none⟩) zs.length cap] w fun e w'=>e = .returned (.slice (some ⟨blk,off,none⟩) (Lib.compact zs).length cap)∧∃ q,w'=putRow (Value.int .i64) (Sort.ahead w q) blk off (Lib.compact zs++List.replicate (zs.length - (Lib.compact zs).length) 0).toArray:=Any.slices_Compact_int Tryz.uf blk off cap zs w hH hsz hcap
open Go.RowKit Go.Lib Go.Sort in
theorem Tryz.slices_Compact_int_empty (a:Option Addr) (cap:Nat) (w:World) :
  Calls Tryz.prog 168 #[.slice a 0 cap] w fun e w'=>e = .returned (.slice a 0 cap)∧w'=w:=Any.slices_Compact_int_empty Tryz.uf a cap w
def Tryz.xL:Go.Shelf.Ren:=⟨fun | 194=>160 | n=>n,fun | 31=>25 | 9=>9 | 3=>3 | 4=>4 | 0=>0 | n=>n,fun | n=>n⟩
theorem Tryz.AN:Go.Proofs.Lays.n194 Tryz.prog Tryz.xL:={
 mixed:=by kernel_rfl
 f194:=Tryz.func160.trans (congrArg some (by kernel_rfl))
 t0:=Tryz.underlying0
 a0:=Tryz.isAgg0
 z0:=Tryz.sizeOf0
 v0:=Tryz.zeroValue0
 t3:=Tryz.underlying3
 a3:=Tryz.isAgg3
 z3:=Tryz.sizeOf3
 v3:=Tryz.zeroValue3
 t4:=Tryz.underlying4
 a4:=Tryz.isAgg4
 z4:=Tryz.sizeOf4
 v4:=Tryz.zeroValue4
 t9:=Tryz.underlying9
 a9:=Tryz.isAgg9
 z9:=Tryz.sizeOf9
 v9:=Tryz.zeroValue9
 t31:=Tryz.underlying25
 a31:=Tryz.isAgg25
 z31:=Tryz.sizeOf25
 v31:=Tryz.zeroValue25 }
open Go.RowKit Go.Lib Go.Sort in
theorem Tryz.slices_Compact_string (blk off cap:Nat) (zs:List (List UInt8)) (w:World) (hH:Holds encStr w blk off zs.toArray) (hsz:zs.length≤9223372036854775807) (hcap:zs.length≤cap) :
  Calls Tryz.prog 160 #[.slice (some ⟨blk,off,none⟩) zs.length cap] w fun e w'=>e = .returned (.slice (some ⟨blk,off,none⟩) (Lib.compact zs).length cap)∧∃ q,w'=putRow encStr (Sort.ahead w q) blk off (Lib.compact zs++List.replicate (zs.length - (Lib.compact zs).length) []).toArray:=Any.slices_Compact_string Tryz.AN blk off cap zs w hH hsz hcap
open Go.RowKit Go.Lib Go.Sort in
theorem Tryz.slices_Compact_string_empty (a:Option Addr) (cap:Nat) (w:World) :
  Calls Tryz.prog 160 #[.slice a 0 cap] w fun e w'=>e = .returned (.slice a 0 cap)∧w'=w:=Any.slices_Compact_string_empty Tryz.AN a cap w
open Go.RowKit Go.Sort in
theorem Tryz.slices_Sort_string_none (p:Option Addr) (cap:Nat) (w:World) :
  Calls Tryz.prog 159 #[.slice p 0 cap] w fun e w'=>e = .returned (.tuple #[])∧w'=w:=Any.slices_Sort_string_none Tryz.AQ p cap w
open Go.RowKit Go.Sort in
theorem Tryz.slices_Sort_int_none (p:Option Addr) (cap:Nat) (w:World) :
  Calls Tryz.prog 82 #[.slice p 0 cap] w fun e w'=>e = .returned (.tuple #[])∧w'=w:=Any.slices_Sort_int_none Tryz.A8 p cap w
end Go.Proofs
/- The abstract machine, part S: the library's functions, by the shelf's contracts. -/
namespace Go.Ab
open Go.Proofs Go.RowKit
theorem aq.wC {P:Program} {f:FuncId} {args:List ag} {R:ag→Prop}
  (h:∀ (c:Ctx) (xs:List Value),(∀ id,c.H id=none)→dG c args xs→Calls P f xs.toArray c.w fun e w'=>∃ x v,e = .returned x∧R v∧bJ v∧(∀ c':Ctx,Rep c' v x)∧Below c.w.heap.size c.w w'):aq P f args R:=by
 intro c xs hH hn g r
 refine (h c xs (by intro id;rw[hH];rfl) r).mono ?_
 rintro e w' ⟨x,v,he,hR,hf,hv,hb⟩
 obtain⟨hk,hg⟩:=cN g w' ⟨hb.os,hb.tape,hb.output⟩ hb.size hb.block
 exact⟨x,v,{ c with w:=w' },he,rfl,⟨v,.of (Ret.fresh hf),hR⟩,hv _,hg,hk⟩
theorem dG.HS {c:Ctx} {a b:ag} {xs:List Value} (r:dG c [a,b] xs):∃ x y,xs=[x,y]∧Rep c a x∧Rep c b y:=by
 obtain⟨hl,hr⟩:=r
 match xs,hl with
 | [x,y],_=>exact⟨x,y,rfl,hr 0 a x rfl rfl,hr 1 b y rfl rfl⟩
theorem E5 (s cut:Str) (hs:s.length≤4611686018427387904) (hc:cut.length≤1000) (ha:cut.all (fun b=>decide (b.toNat<128))=true):aq Tryz.prog 233 [str s,str cut] (fun r=>r=str (Lib.trimS s cut)):=by
 refine aq.wC fun c xs _ r=>?_
 obtain⟨x,y,rfl,hx,hy⟩:=r.HS
 rw[hx.bS,hy.bS]
 refine (Any.strings_Trim_laid Tryz.Fw (by kernel_rfl) ⟨s.toArray⟩ ⟨cut.toArray⟩ c.w (by simp;omega) (by simp;omega) (ascii_of_all (by simpa using ha))).mono ?_
 rintro e w' ⟨he,hb⟩
 exact⟨_,_,he,rfl,.v _,fun _=>.v _,by simpa using hb⟩
end Go.Ab
/- Contracts of impl.joinTexts and (impl.IQ).textIn, at valid processes. -/
namespace Go.Ab
open Go.Proofs
set_option linter.unusedSimpArgs false
theorem IC:Ent Tryz.prog 233:=Ent.of Tryz.func233 (by kernel_rfl) rfl
end Go.Ab
/- Contracts of impl.isName, impl.IsProcess and impl.ProcessText. -/
namespace Go.Ab
open Go.Proofs
set_option linter.unusedSimpArgs false
theorem Hf:Ent Tryz.prog 197:=Ent.of Tryz.func197 (by kernel_rfl) rfl
def lower (c:UInt8):Bool:=decide (97≤c.toNat) && decide (c.toNat≤122)
def oU (s:Str):Bool:=within s.length 1 4 && s.all lower
def alpha:Str:=[97,98,99,100,101,102,103,104,105,106,107,108,109,110,111,112,113,114,115,116,117,118,119,120,121,122]
set_option maxRecDepth 10000 in
theorem wV (c:UInt8):alpha.contains c=lower c:=by
 have h:∀ n:Fin 256,alpha.contains (UInt8.ofNat n.val)=lower (UInt8.ofNat n.val):=by decide
 have:=h ⟨c.toNat,c.toNat_lt⟩
 simpa using this
theorem dropWhile_nil {q:UInt8→Bool}:∀ l:Str,l.dropWhile q=[]↔l.all q=true
 | []=>by simp
 | a::l=>by
  rw[List.dropWhile_cons]
  cases h:q a<;>simp[h,dropWhile_nil l]
theorem me {q:UInt8→Bool}:∀ l:Str,(l.dropWhile q).reverse.all q=true→l.all q=true
 | [],_=>by simp
 | a::l,h=>by
  rw[List.dropWhile_cons] at h
  cases hq:q a
  ·simp[hq] at h
  ·simp only[hq,if_true] at h
   have:=me l h
   simp only[List.all_cons,hq,this,Bool.and_self]
theorem By (s:Str):(Lib.trimS s alpha=[])↔s.all lower=true:=by
 have he:(fun c=>alpha.contains c)=lower:=funext wV
 unfold Lib.trimS Lib.trimLeftS Lib.trimRightS
 rw[he,dropWhile_nil]
 constructor
 ·intro h
  have:=me _ h
  simpa using this
 ·intro h
  have h2:s.reverse.dropWhile lower=[]:=by rw[dropWhile_nil];simpa using h
  rw[h2]
  rfl
theorem tY (s:Str) (hs:s.length≤4294967296):aq Tryz.prog 197 [str s] (fun r=>r=bool (oU s)):=by
 refine aq.of Tryz.func197 rfl Tryz.ntmps197 (by simp) fun Q hQ=>?_
 refine aa.au ae (by decide) fun k' hk'=>?_
 simp   -- R0
 apply hk'
 refine aa.au ae (by decide) fun k' hk'=>?_
 simp   -- R1
 refine aG.aB ae (dL s.length 1 4) tx (.cons (.v _ _ _) (.cons (.v _ _ _) (.cons (.v _ _ _) .nil))) (by decide) (by decide) rfl (by simp) ?_
 rintro _ rfl
 cases hw:within s.length 1 4
 ·simp[hw]
  apply hk'
  exact aa.ret Tryz.func197 (aK.one Tryz.results197) (hQ _ _ _ _ (.v _ _ _) (by simp[oU,hw]))
 ·simp[hw]
  refine aG.aB ae (E5 s alpha (by omega) (by decide) (by decide)) IC (.cons (.v _ _ _) (.cons (.v _ _ _) .nil)) (by decide) (by decide) rfl (by simp[alpha]) ?_
  rintro _ rfl
  simp[hw]
  apply hk'
  refine aa.ret Tryz.func197 (aK.one Tryz.results197) (hQ _ _ _ _ (.v _ _ _) ?_)
  have:=By s
  cases h:s.all lower<;>simp[h] at this<;>simp[oU,hw,h,this]
end Go.Ab
/- Bigraphs as values: types of data, and what a valid one is. -/
namespace Go.Ab
set_option linter.unusedSimpArgs false
structure Control where
 name:Str
 ports:Int
 kind:Int
 deriving Inhabited,DecidableEq
structure aj where
 control:Int
 parent:Int
 links:List Int
 deriving Inhabited,DecidableEq
structure aA where
 name:Str
 link:Int
 deriving Inhabited,DecidableEq
structure Big where
 roots:Int
 nodes:List aj
 sites:List Int
 edges:Int
 outer:List Str
 inner:List aA
 deriving Inhabited,DecidableEq
abbrev Sig:=List Control
def gp {α:Type} (fr:Bool) (f:α→List ag) (l:List α):List ag:=[.list fr (l.map f)]
def Control.cells (x:Control):List ag:=[str x.name,int x.ports,int x.kind]
def aA.cells (x:aA):List ag:=[str x.name,int x.link]
def aj.cells (t:Bool) (x:aj):List ag:=[int x.control,int x.parent,.list t (x.links.map al)]
def bl (t:Bool) (s:Sig):ag:=.list t (s.map Control.cells)
def encI (t:Bool) (l:List Int):ag:=.list t (l.map al)
def encS (t:Bool) (l:List Str):ag:=.list t (l.map aL)
def cb (t:Bool) (l:List aA):ag:=.list t (l.map aA.cells)
def bW (t:Bool) (l:List aj):ag:=.list t (l.map (aj.cells t))
def Big.cells (t:Bool) (b:Big):List ag:=[int b.roots,bW t b.nodes,encI t b.sites,int b.edges,encS t b.outer,cb t b.inner]
def cv (t:Bool) (b:Big):ag:=.agg (b.cells t)
theorem tH (l:List Int):∀ e ∈ l.map al,∀ a ∈ e,flat a=true:=by simp[al]
theorem tG (l:List Str):∀ e ∈ l.map aL,∀ a ∈ e,flat a=true:=by simp[aL]
theorem rV (l:List aA):∀ e ∈ l.map aA.cells,∀ a ∈ e,flat a=true:=by simp[aA.cells]
theorem xB (l:Sig):∀ e ∈ l.map Control.cells,∀ a ∈ e,flat a=true:=by simp[Control.cells]
theorem qN (t:Bool) (l:List Int):old (encI t l)=encI false l:=by rw[encI,gf,dN (tH l)];rfl
theorem wJ (t:Bool) (l:List Str):old (encS t l)=encS false l:=by rw[encS,gf,dN (tG l)];rfl
theorem yj (t:Bool) (l:List aA):old (cb t l)=cb false l:=by rw[cb,gf,dN (rV l)];rfl
theorem zb (t:Bool) (l:Sig):old (bl t l)=bl false l:=by rw[bl,gf,dN (xB l)];rfl
theorem xT (t:Bool) (x:aj):(x.cells t).map old=x.cells false:=by
 simp only[aj.cells,List.map_cons,List.map_nil,FM]
 have:=qN t x.links
 simp only[encI] at this
 rw[this]
theorem qR (t:Bool) (l:List aj):old (bW t l)=bW false l:=by
 rw[bW,gf,List.map_map]
 simp only[bW]
 congr 1
 exact List.map_congr_left fun x _=>xT t x
theorem EU (t:Bool) (b:Big):old (cv t b)=cv false b:=by
 simp only[cv,Big.cells,qH,List.map_cons,List.map_nil,FM,qR,qN,wJ,yj]
theorem sG (t:Bool) (l:List Int):Imm (encI t l):=.list _ _ fun e he a ha=>Imm.flat (tH l e he a ha)
theorem xH (t:Bool) (l:List Str):Imm (encS t l):=.list _ _ fun e he a ha=>Imm.flat (tG l e he a ha)
theorem xA (t:Bool) (l:List aA):Imm (cb t l):=.list _ _ fun e he a ha=>Imm.flat (rV l e he a ha)
theorem Ao (t:Bool) (l:Sig):Imm (bl t l):=.list _ _ fun e he a ha=>Imm.flat (xB l e he a ha)
theorem wI (t:Bool) (x:aj):∀ a ∈ x.cells t,Imm a:=by
 intro a ha
 simp only[aj.cells,List.mem_cons,List.not_mem_nil,or_false] at ha
 rcases ha with rfl | rfl | rfl
 ·exact .v _
 ·exact .v _
 ·exact sG t x.links
theorem sM (t:Bool) (l:List aj):Imm (bW t l):=by
 refine .list _ _ fun e he a ha=>?_
 obtain⟨x,_,rfl⟩:=List.mem_map.1 he
 exact wI t x a ha
theorem DJ (t:Bool) (b:Big):Imm (cv t b):=by
 refine .agg _ fun a ha=>?_
 simp only[Big.cells,List.mem_cons,List.not_mem_nil,or_false] at ha
 rcases ha with rfl | rfl | rfl | rfl | rfl | rfl
 ·exact .v _
 ·exact sM t _
 ·exact sG t _
 ·exact .v _
 ·exact xH t _
 ·exact xA t _
section
variable {H:ak} {n:Nat}
theorem aF.encI (t:Bool) (l:List Int):aF H n (encI t l) (encI false l):=aF.vg (sG t l) (qN t l)
theorem aF.encS (t:Bool) (l:List Str):aF H n (encS t l) (encS false l):=aF.vg (xH t l) (wJ t l)
theorem aF.cb (t:Bool) (l:List aA):aF H n (cb t l) (cb false l):=aF.vg (xA t l) (yj t l)
theorem aF.bl (t:Bool) (l:Sig):aF H n (bl t l) (bl false l):=aF.vg (Ao t l) (zb t l)
theorem aF.bW (t:Bool) (l:List aj):aF H n (bW t l) (bW false l):=aF.vg (sM t l) (qR t l)
theorem aF.cv (t:Bool) (b:Big):aF H n (cv t b) (cv false b):=aF.vg (DJ t b) (EU t b)
end
def cO (c:Control):Bool:=oU c.name && within c.ports 0 3 && within c.kind 0 2
def newName (sig:Sig) (i:Nat):Bool := !(sig.take i).any fun d=>d.name == (sig.getD i default).name
def fN (sig:Sig):Bool:=within sig.length 1 6 && (List.range sig.length).all fun i=>cO (sig.getD i default) && newName sig i
def m9 (l:List Str) (i:Nat):Bool:=decide (i=0) || Op.bytesLess (l.getD (i - 1) []) (l.getD i [])
def cQ (l:List Str):Bool:=decide (l.length≤16) && (List.range l.length).all fun i=>oU (l.getD i []) && m9 l i
def dd (b:Big) (l:Int):Bool:=within l 0 (b.edges+b.outer.length - 1)
def bK (sig:Sig) (b:Big) (parent:Int) (below:Nat):Bool:=
 if parent<0 then decide (-b.roots≤parent) else decide (parent<below) && decide ((sig.getD (b.nodes.getD parent.toNat default).control.toNat default).kind ≠ 2)
def cn (sig:Sig) (b:Big) (i:Nat):Bool:=
 within (b.nodes.getD i default).control 0 (sig.length - 1) && bK sig b (b.nodes.getD i default).parent i && decide ((b.nodes.getD i default).links.length=(sig.getD (b.nodes.getD i default).control.toNat default).ports) &&
  (b.nodes.getD i default).links.all (dd b)
def fx (sig:Sig) (b:Big):Bool:=
 fN sig && within b.roots 0 4 && decide (b.nodes.length≤8) && decide (b.sites.length≤4) && within b.edges 0 8 && cQ b.outer && cQ (b.inner.map (·.name)) &&
  (List.range b.nodes.length).all (cn sig b) && b.sites.all (fun p=>bK sig b p b.nodes.length) && b.inner.all (fun w=>dd b w.link)
end Go.Ab
/- The abstract machine, part Sn: short names for what a walk by program says often. -/
namespace Go.Ab
set_option linter.unusedSectionVars false
structure Match where
 nodes:List Int
 roots:List Int
 deriving Inhabited,DecidableEq
def Match.cells (t:Bool) (m:Match):List ag:=[.list t (m.nodes.map al),.list t (m.roots.map al)]
def bO (x:Int × Int):List ag:=[int x.1,int x.2]
abbrev oE {α:Type} (l:List Sh) (f:α→List ag) (v:ag) (es:List α):bT:=(.s l,v,.list true (es.map f))
abbrev oI (v:ag) (es:List Int):bT:=(.s [.c],v,.list true (es.map al))
abbrev oS (v:ag) (es:List Str):bT:=(.s [.c],v,.list true (es.map aL))
abbrev oN (v:ag) (es:List aj):bT:=(.s [.c,.c,.s [.c]],v,.list true (es.map (aj.cells true)))
abbrev oW (v:ag) (es:List aA):bT:=(.s [.c,.c],v,.list true (es.map aA.cells))
section
variable {H H':ak} {n n':Nat} {K:List bT} {ids:List Id} {x:bT}
theorem Sep.f1 {x1:bT} (h:Sep H n (x1::x::K) ids):Sep H n (x::x1::K) ids:=Sep.front (K1:=[x1]) h
theorem Sep.f2 {x1 x2:bT} (h:Sep H n (x1::x2::x::K) ids):Sep H n (x::x1::x2::K) ids:=Sep.front (K1:=[x1,x2]) h
theorem Sep.f3 {x1 x2 x3:bT} (h:Sep H n (x1::x2::x3::x::K) ids):Sep H n (x::x1::x2::x3::K) ids:=Sep.front (K1:=[x1,x2,x3]) h
theorem Sep.f4 {x1 x2 x3 x4:bT} (h:Sep H n (x1::x2::x3::x4::x::K) ids):Sep H n (x::x1::x2::x3::x4::K) ids:=Sep.front (K1:=[x1,x2,x3,x4]) h
theorem Sep.f5 {x1 x2 x3 x4 x5:bT} (h:Sep H n (x1::x2::x3::x4::x5::x::K) ids):Sep H n (x::x1::x2::x3::x4::x5::K) ids:=Sep.front (K1:=[x1,x2,x3,x4,x5]) h
theorem Sep.f6 {x1 x2 x3 x4 x5 x6:bT} (h:Sep H n (x1::x2::x3::x4::x5::x6::x::K) ids):Sep H n (x::x1::x2::x3::x4::x5::x6::K) ids:=Sep.front (K1:=[x1,x2,x3,x4,x5,x6]) h
theorem Sep.f7 {x1 x2 x3 x4 x5 x6 x7:bT} (h:Sep H n (x1::x2::x3::x4::x5::x6::x7::x::K) ids):Sep H n (x::x1::x2::x3::x4::x5::x6::x7::K) ids:=Sep.front (K1:=[x1,x2,x3,x4,x5,x6,x7]) h
theorem Sep.f8 {x1 x2 x3 x4 x5 x6 x7 x8:bT} (h:Sep H n (x1::x2::x3::x4::x5::x6::x7::x8::x::K) ids):Sep H n (x::x1::x2::x3::x4::x5::x6::x7::x8::K) ids:=Sep.front (K1:=[x1,x2,x3,x4,x5,x6,x7,x8]) h
theorem Sep.f9 {x1 x2 x3 x4 x5 x6 x7 x8 x9:bT} (h:Sep H n (x1::x2::x3::x4::x5::x6::x7::x8::x9::x::K) ids):Sep H n (x::x1::x2::x3::x4::x5::x6::x7::x8::x9::K) ids:=Sep.front (K1:=[x1,x2,x3,x4,x5,x6,x7,x8,x9]) h
theorem Sep.f10 {x1 x2 x3 x4 x5 x6 x7 x8 x9 x10:bT} (h:Sep H n (x1::x2::x3::x4::x5::x6::x7::x8::x9::x10::x::K) ids):Sep H n (x::x1::x2::x3::x4::x5::x6::x7::x8::x9::x10::K) ids:=Sep.front (K1:=[x1,x2,x3,x4,x5,x6,x7,x8,x9,x10]) h
theorem Sep.f11 {x1 x2 x3 x4 x5 x6 x7 x8 x9 x10 x11:bT} (h:Sep H n (x1::x2::x3::x4::x5::x6::x7::x8::x9::x10::x11::x::K) ids):Sep H n (x::x1::x2::x3::x4::x5::x6::x7::x8::x9::x10::x11::K) ids:=Sep.front (K1:=[x1,x2,x3,x4,x5,x6,x7,x8,x9,x10,x11]) h
theorem Sep.f12 {x1 x2 x3 x4 x5 x6 x7 x8 x9 x10 x11 x12:bT} (h:Sep H n (x1::x2::x3::x4::x5::x6::x7::x8::x9::x10::x11::x12::x::K) ids):Sep H n (x::x1::x2::x3::x4::x5::x6::x7::x8::x9::x10::x11::x12::K) ids:=Sep.front (K1:=[x1,x2,x3,x4,x5,x6,x7,x8,x9,x10,x11,x12]) h
theorem Sep.f13 {x1 x2 x3 x4 x5 x6 x7 x8 x9 x10 x11 x12 x13:bT} (h:Sep H n (x1::x2::x3::x4::x5::x6::x7::x8::x9::x10::x11::x12::x13::x::K) ids):Sep H n (x::x1::x2::x3::x4::x5::x6::x7::x8::x9::x10::x11::x12::x13::K) ids:=Sep.front (K1:=[x1,x2,x3,x4,x5,x6,x7,x8,x9,x10,x11,x12,x13]) h
theorem Sep.f14 {x1 x2 x3 x4 x5 x6 x7 x8 x9 x10 x11 x12 x13 x14:bT} (h:Sep H n (x1::x2::x3::x4::x5::x6::x7::x8::x9::x10::x11::x12::x13::x14::x::K) ids):Sep H n (x::x1::x2::x3::x4::x5::x6::x7::x8::x9::x10::x11::x12::x13::x14::K) ids:=Sep.front (K1:=[x1,x2,x3,x4,x5,x6,x7,x8,x9,x10,x11,x12,x13,x14]) h
theorem Sep.dr (h:Sep H n (x::K) ids):Sep H n K ids:=Sep.right (K1:=[x]) h
theorem Sep.hd (h:Sep H n (x::K) ids):Sep H n [x] ids:=Sep.left (K1:=[x]) (K2:=K) h
theorem Sep.ap {α:Type} {l:List Sh} {f:α→List ag} {v:ag} {xs ys zs:List α} (hz:zs=xs++ys) (h:Sep H n ((.s l,v,.list true (xs.map f++ys.map f))::K) ids):Sep H n ((.s l,v,.list true (zs.map f))::K) ids:=by
 rw[hz,List.map_append];exact h
theorem Sep.st {α:Type} {l:List Sh} {f:α→List ag} {v:ag} {xs zs:List α} {q:Nat} {y:α} (hz:zs=xs.set q y) (h:Sep H n ((.s l,v,.list true ((xs.map f).set q (f y)))::K) ids):Sep H n ((.s l,v,.list true (zs.map f))::K) ids:=by
 rw[hz,List.map_set];exact h
theorem Sep.oc {l:List Sh} {v e:ag} (h:Sep H n ((.s l,v,e)::K) ids):ar v=some [v]∧Ab.ay v=true:=⟨h.cells,h.ay⟩
end
theorem o1x:(∀ (k:IntKind) (a:Int),ay (.v (.int k a))=true)∧(∀ a:Bool,ay (.v (.bool a))=true)∧(∀ a:ByteArray,ay (.v (.string a))=true)∧ay (.v (.slice none 0 0))=true ∧
  (∀ (fr:Bool) (l:List (List ag)),ay (.list fr l)=true)∧(∀ (id:Id) (g o l:Nat),ay (.arr id g o l)=true)∧∀ (id:Id) (g o l:Nat),ay (.ptr id g o l)=true:=
 ⟨fun _ _=>rfl,fun _=>rfl,fun _=>rfl,rfl,fun _ _=>rfl,fun _ _ _ _=>rfl,fun _ _ _ _=>rfl⟩
theorem cAx:(∀ (k:IntKind) (a:Int),ar (.v (.int k a))=some [.v (.int k a)])∧(∀ a:Bool,ar (.v (.bool a))=some [.v (.bool a)])∧(∀ a:ByteArray,ar (.v (.string a))=some [.v (.string a)])∧ar (.v (.slice none 0 0))=some [.v (.slice none 0 0)] ∧
  (∀ l:List ag,ar (.agg l)=some l)∧(∀ (fr:Bool) (l:List (List ag)),ar (.list fr l)=some [.list fr l])∧(∀ (id:Id) (g o l:Nat),ar (.arr id g o l)=some [.arr id g o l])∧∀ (id:Id) (g o l:Nat),ar (.ptr id g o l)=some [.ptr id g o l]:=
 ⟨fun _ _=>rfl,fun _=>rfl,fun _=>rfl,rfl,fun _=>rfl,fun _ _=>rfl,fun _ _ _ _=>rfl,fun _ _ _ _=>rfl⟩
theorem aF.jT {H:ak} {n:Nat} (t:Bool) (l:List aj):aF H n (.list t (l.map (aj.cells t))) (.list false (l.map (aj.cells false))):=aF.bW t l
theorem ck (t:Bool) (l:List aj):old (.list t (l.map (aj.cells t))) = .list false (l.map (aj.cells false)):=qR t l
theorem wW {Ty:Types} {H:ak} {t:TypeId} {len:Nat} {j:TI} {k:IntKind} {i:Int} {fr:Bool} {cs:List ag} (hk:kd Ty t = .arr len j) (hi:0≤i∧i<len) :
  ah Ty H t (.iptr fr cs) (.v (.int k i))=some (.iptr fr (cs.drop (i.toNat * j.size))):=by
 simp only[ah,hk,cR]
 rw[if_pos hi]
 simp only[kK]
theorem atm {α:Sort _} {x:α} {p:α→Prop} (h:∀ v,v=x→p v):∃ v,v=x∧p v:=⟨x,rfl,h x rfl⟩
abbrev pA (i n:Nat):ag:=.ptr (i,n) 1 0 0
abbrev bC (t:Bool) (b:Big):List ag:=[int b.roots,.list t (b.nodes.map (aj.cells t)),.list t (b.sites.map al),int b.edges,.list t (b.outer.map aL),.list t (b.inner.map aA.cells)]
abbrev mC (t:Bool) (m:Match):List ag:=[.list t (m.nodes.map al),.list t (m.roots.map al)]
abbrev zB:List ag:=[int 0,.v (.slice none 0 0),.v (.slice none 0 0),int 0,.v (.slice none 0 0),.v (.slice none 0 0)]
section
variable {H:ak} {n:Nat}
theorem cY (t:Bool) (l:List Int):aF H n (.list t (l.map al)) (.list false (l.map al)):=aF.encI t l
theorem o6 (t:Bool) (l:List Str):aF H n (.list t (l.map aL)) (.list false (l.map aL)):=aF.encS t l
theorem xW (t:Bool) (l:List aA):aF H n (.list t (l.map aA.cells)) (.list false (l.map aA.cells)):=aF.cb t l
theorem iR (t:Bool) (l:List Control):aF H n (.list t (l.map Control.cells)) (.list false (l.map Control.cells)):=aF.bl t l
theorem bg (t:Bool) (b:Big):aF H n (.agg (bC t b)) (.agg (bC false b)):=aF.cv t b
theorem eY (t:Bool) (m:Match):aF H n (.agg (mC t m)) (.agg (mC false m)):=aF.agg (.cons (cY t m.nodes) (.cons (cY t m.roots) .nil))
end
end Go.Ab
/- Loops that count: how their conditions are met. -/
namespace Go.Ab.Vg
set_option linter.unusedSimpArgs false
set_option linter.unusedVariables false
theorem aw.up {σ τ:Type} {body:σ→(σ→Prop)→Prop} {s:σ} (N:Nat) (idx:σ→Int) (mk:Nat→τ→σ) (hidx:∀ k t,idx (mk k t)=(k:Int)) (I:Nat→τ→Prop) (t0:τ) (hs:s=mk 0 t0) (h0:I 0 t0)
  (step:∀ k t (K:σ→Prop),k≤N→I k t→(k<N→∀ t',I (k+1) t'→K (mk (k+1) t'))→body (mk k t) K):aw body s:=by
 refine⟨fun s=>∃ k t,s=mk k t∧k≤N∧I k t,fun s=>N - (idx s).toNat,⟨0,t0,hs,Nat.zero_le _,h0⟩,?_⟩
 rintro s ⟨k,t,rfl,hk,hI⟩
 refine step k t _ hk hI fun hlt t' hI'=>⟨⟨k+1,t',rfl,hlt,hI'⟩,?_⟩
 show N - (idx _).toNat<N - (idx _).toNat
 rw[hidx,hidx]
 omega
theorem aw.upL {τ:Type} {body:Int × τ→(Int × τ→Prop)→Prop} (N:Nat) (I:Nat→τ→Prop) (t0:τ) (h0:I 0 t0)
  (step:∀ k t (K:Int × τ→Prop),k≤N→I k t→(k<N→∀ t',I (k+1) t'→K (((k:Int)+1),t'))→body ((k:Int),t) K):aw body (0,t0):=
 aw.up N (·.1) (fun k t=>((k:Int),t)) (fun _ _=>rfl) I t0 rfl h0 fun k t K hk hI h=>step k t K hk hI fun hlt t' hI'=>by have:=h hlt t' hI';simpa using this
theorem aw.upR {τ:Type} {body:τ × Int→(τ × Int→Prop)→Prop} (N:Nat) (I:Nat→τ→Prop) (t0:τ) (h0:I 0 t0)
  (step:∀ k t (K:τ × Int→Prop),k≤N→I k t→(k<N→∀ t',I (k+1) t'→K (t',((k:Int)+1)))→body (t,(k:Int)) K):aw body (t0,0):=
 aw.up N (·.2) (fun k t=>(t,(k:Int))) (fun _ _=>rfl) I t0 rfl h0 fun k t K hk hI h=>step k t K hk hI fun hlt t' hI'=>by have:=h hlt t' hI';simpa using this
theorem aw.up1 {body:Int→(Int→Prop)→Prop} (N:Nat) (I:Nat→Prop) (h0:I 0)
  (step:∀ k (K:Int→Prop),k≤N→I k→(k<N→I (k+1)→K ((k:Int)+1))→body (k:Int) K):aw body 0:=
 aw.up (τ:=Unit) N id (fun k _=>(k:Int)) (fun _ _=>rfl) (fun k _=>I k) () rfl h0 fun k _ K hk hI h=>step k K hk hI fun hlt hI'=>by have:=h hlt () hI';simpa using this
theorem aw.byM {σ:Type} {body:σ→(σ→Prop)→Prop} {s:σ} (I:σ→Prop) (m:σ→Nat) (h0:I s) (step:∀ s,I s→body s (fun s'=>I s'∧m s'<m s)):aw body s:=⟨I,m,h0,step⟩
theorem bY {α:Type} [Inhabited α] {l:List α} {k:Nat} (h:k<l.length):at' l (k:Int)=l[k]:=by simp[at',h]
def idxs {α:Type} [Inhabited α] (l:List α) (p:α→Bool) (k:Nat):List Int:=((List.range k).filter fun i:Nat=>p (at' l (i:Int))).map fun i:Nat=>(i:Int)
section
variable {α:Type} [Inhabited α] (l:List α) (p:α→Bool)
theorem ka {k:Nat} (h:p (at' l (k:Int))=true):idxs l p (k+1)=idxs l p k++[(k:Int)]:=by simp[idxs,List.range_succ,h]
theorem na {k:Nat} (h:p (at' l (k:Int))=false):idxs l p (k+1)=idxs l p k:=by simp[idxs,List.range_succ,h]
theorem iA (k:Nat):(idxs l p k).length≤k:=by
 have:=List.length_filter_le (fun i:Nat=>p (at' l (i:Int))) (List.range k)
 simpa[idxs] using this
theorem j0 {k:Nat} {x:Int}:x ∈ idxs l p k↔0≤x∧x<k∧p (at' l x)=true:=by
 simp only[idxs,List.mem_map,List.mem_filter,List.mem_range]
 constructor
 ·rintro⟨i,⟨h1,h2⟩,rfl⟩
  exact⟨by omega,by omega,h2⟩
 ·rintro⟨h1,h2,h3⟩
  exact⟨x.toNat,⟨by omega,by rwa [Int.toNat_of_nonneg h1]⟩,by omega⟩
end
end Go.Ab.Vg
/- Contracts of spec.l1In, spec.l2Name and spec.l12Good. -/
namespace Go.Ab
open Go.Proofs
set_option linter.unusedSimpArgs false
theorem e93:Ent Tryz.prog 93:=Ent.of Tryz.func93 (by kernel_rfl) rfl
theorem G4:Ent Tryz.prog 147:=Ent.of Tryz.func147 (by kernel_rfl) rfl
theorem eZ (n lo hi:Int):aq Tryz.prog 93 [int n,int lo,int hi] (fun r=>r=bool (within n lo hi)):=by
 refine aq.of Tryz.func93 rfl Tryz.ntmps93 (by simp) fun Q hQ=>?_
 refine aa.au ae (by decide) fun k' hk'=>?_
 simp
 refine hk' _ _ _ (aa.au ae (by decide) fun k' hk'=>?_)
 simp
 by_cases h:lo≤n
 all_goals
  simp[h]
  refine hk' _ _ _ (aa.ret Tryz.func93 (aK.one Tryz.results93) (hQ _ _ _ _ (oD.v _ _ _) ?_))
  simp[within,h]
theorem xU {s:Str} {k:Nat} (hk:k<s.length) (h:lower s[k]=false):oU s=false:=by
 have:s.all lower=false:=by
  rw[List.all_eq_false]
  exact⟨s[k],List.getElem_mem hk,by simp[h]⟩
 simp[oU,this]
theorem ug (s:Str) (hs:s.length≤4294967296):aq Tryz.prog 147 [str s] (fun r=>r=bool (oU s)):=by
 refine aq.of Tryz.func147 rfl Tryz.ntmps147 (by simp) fun Q hQ=>?_
 refine aa.au ae (by decide) fun k' hk'=>?_
 simp   -- R0
 apply hk'
 refine aa.seq ?_
 refine aa.au ae (by decide) fun k' hk'=>?_
 simp   -- R1
 apply hk'
 refine aa.block (aa.b6 s.length (fun k ρ H n=>ρ 0=str s∧ρ 3=int k∧(s.take k).all lower=true) ?_ ?_)
 ·simp
 ·rintro k ρ H n hk ⟨h0,h3,hall⟩ IH
  refine aa.seq ?_
  refine aa.au ae (by decide) fun k' hk'=>?_
  simp [h0, h3]   -- R2
  apply hk'
  refine aa.ite rfl (fun hc1 => ?_) (fun hc1 => ?_)   -- t7
  ·simp at hc1
   refine aa.skip ?_
   refine aa.seq ?_
   refine aa.block ?_
   refine aa.au ae (by decide) fun k' hk'=>?_
   simp [h0, h3, hc1]   -- R4
   by_cases ha:(s[k].toNat:Int)<97
   ·simp[ha]
    apply hk'
    refine aa.ite rfl (fun _=>?_) (fun h=>by simp at h)
    refine aa.au ae (by decide) fun k' hk'=>?_
    simp   -- R5
    apply hk'
    refine aa.ret Tryz.func147 (aK.one Tryz.results147) (hQ _ _ _ _ (.v _ _ _) ?_)
    rw[xU hc1 (by simp[lower];omega)]
   ·by_cases hz:(122:Int)<s[k].toNat
    ·simp[ha,hz,h0,h3,hc1]
     apply hk'
     refine aa.ite rfl (fun _=>?_) (fun h=>by simp at h)
     refine aa.au ae (by decide) fun k' hk'=>?_
     simp   -- R5
     apply hk'
     refine aa.ret Tryz.func147 (aK.one Tryz.results147) (hQ _ _ _ _ (.v _ _ _) ?_)
     rw[xU hc1 (by simp[lower];omega)]
    ·simp[ha,hz,h0,h3,hc1]
     apply hk'
     refine aa.ite rfl (fun h=>by simp at h) (fun _=>?_)
     refine aa.skip ?_
     refine aa.inBlock ?_
     refine aa.cg ae (by decide) fun k' hk'=>?_
     simp [h3, aZ (show k < 4611686018427387904 by omega)]   -- R3
     apply hk'
     refine IH hc1 _ _ _ ?_
     rw[List.take_succ_eq_append_getElem hc1,List.all_append,hall]
     simp[h0,lower]
     omega
  ·simp at hc1
   refine aa.exit rfl ?_
   refine aa.au ae (by decide) fun k' hk'=>?_
   simp [h0]   -- R6
   refine aG.aB ae (eZ s.length 1 4) e93 (.cons (.v _ _ _) (.cons (.v _ _ _) (.cons (.v _ _ _) .nil))) (by decide) (by decide) rfl (by simp) ?_
   rintro _ rfl
   simp
   apply hk'
   refine aa.ret Tryz.func147 (aK.one Tryz.results147) (hQ _ _ _ _ (.v _ _ _) ?_)
   rw[List.take_of_length_le hc1] at hall
   simp only[oU,hall,Bool.and_true]
end Go.Ab
/- Contracts of impl.isLink, impl.isParent, impl.isNode and of their like in the reference. -/
namespace Go.Ab
open Go.Proofs
set_option linter.unusedSimpArgs false
theorem Ht:Ent Tryz.prog 154:=Ent.of Tryz.func154 (by kernel_rfl) rfl
theorem Hk:Ent Tryz.prog 104:=Ent.of Tryz.func104 (by kernel_rfl) rfl
theorem HG:Ent Tryz.prog 151:=Ent.of Tryz.func151 (by kernel_rfl) rfl
theorem HN:Ent Tryz.prog 103:=Ent.of Tryz.func103 (by kernel_rfl) rfl
theorem e46:Ent Tryz.prog 46:=Ent.of Tryz.func46 (by kernel_rfl) rfl
theorem e37:Ent Tryz.prog 37:=Ent.of Tryz.func37 (by kernel_rfl) rfl
theorem ud (b:Big) (l:Int) (he:0≤b.edges∧b.edges≤8) (ho:b.outer.length≤1048576):aq Tryz.prog 154 [cv false b,int l] (fun r=>r=bool (dd b l)):=by
 have hw1:IntKind.i64.wrap (b.edges+b.outer.length)=b.edges+b.outer.length:=by rw[wrap64]<;>omega
 have hw2:IntKind.i64.wrap (b.edges+b.outer.length - 1)=b.edges+b.outer.length - 1:=by rw[wrap64]<;>omega
 refine aq.of Tryz.func154 rfl Tryz.ntmps154 (by simp) fun Q hQ=>?_
 refine aa.au ae (by decide) fun k' hk'=>?_
 simp [cv, Big.cells]   -- R0
 apply hk'
 refine aa.au ae (by decide) fun k' hk'=>?_
 simp [encS, hw1, hw2]   -- R1
 refine aG.aB ae (dL l 0 (b.edges+b.outer.length - 1)) tx (.cons (.v _ _ _) (.cons (.v _ _ _) (.cons (.v _ _ _) .nil))) (by decide) (by decide) rfl (by simp) ?_
 rintro _ rfl
 simp
 apply hk'
 exact aa.ret Tryz.func154 (aK.one Tryz.results154) (hQ _ _ _ _ (.v _ _ _) rfl)
theorem tS (b:Big) (l:Int) (he:0≤b.edges∧b.edges≤8) (ho:b.outer.length≤1048576):aq Tryz.prog 104 [cv false b,int l] (fun r=>r=bool (dd b l)):=by
 have hw1:IntKind.i64.wrap (b.edges+b.outer.length)=b.edges+b.outer.length:=by rw[wrap64]<;>omega
 have hw2:IntKind.i64.wrap (b.edges+b.outer.length - 1)=b.edges+b.outer.length - 1:=by rw[wrap64]<;>omega
 refine aq.of Tryz.func104 rfl Tryz.ntmps104 (by simp) fun Q hQ=>?_
 refine aa.au ae (by decide) fun k' hk'=>?_
 simp [cv, Big.cells]   -- R0
 apply hk'
 refine aa.au ae (by decide) fun k' hk'=>?_
 simp [encS, hw1, hw2]   -- R1
 refine aG.aB ae (eZ l 0 (b.edges+b.outer.length - 1)) e93 (.cons (.v _ _ _) (.cons (.v _ _ _) (.cons (.v _ _ _) .nil))) (by decide) (by decide) rfl (by simp) ?_
 rintro _ rfl
 simp
 apply hk'
 exact aa.ret Tryz.func104 (aK.one Tryz.results104) (hQ _ _ _ _ (.v _ _ _) rfl)
def dS (b:Big) (x:Int):Bool:=within x 0 ((b.nodes.length:Int) - 1)
theorem zD (b:Big) (x:Int) (hn:b.nodes.length≤1048576):aq Tryz.prog 46 [cv false b,int x] (fun r=>r=bool (dS b x)):=by
 have hw2:IntKind.i64.wrap ((b.nodes.length:Int) - 1)=(b.nodes.length:Int) - 1:=by rw[wrap64]<;>omega
 refine aq.of Tryz.func46 rfl Tryz.ntmps46 (by simp) fun Q hQ=>?_
 refine aa.au ae (by decide) fun k' hk'=>?_
 simp [cv, Big.cells]   -- R0
 apply hk'
 refine aa.au ae (by decide) fun k' hk'=>?_
 simp [bW, hw2]   -- R1
 refine aG.aB ae (dL x 0 ((b.nodes.length:Int) - 1)) tx (.cons (.v _ _ _) (.cons (.v _ _ _) (.cons (.v _ _ _) .nil))) (by decide) (by decide) rfl (by simp) ?_
 rintro _ rfl
 simp
 apply hk'
 exact aa.ret Tryz.func46 (aK.one Tryz.results46) (hQ _ _ _ _ (.v _ _ _) rfl)
theorem E1 (b:Big) (x:Int) (hn:b.nodes.length≤1048576):aq Tryz.prog 37 [cv false b,int x] (fun r=>r=bool (dS b x)):=by
 have hw2:IntKind.i64.wrap ((b.nodes.length:Int) - 1)=(b.nodes.length:Int) - 1:=by rw[wrap64]<;>omega
 refine aq.of Tryz.func37 rfl Tryz.ntmps37 (by simp) fun Q hQ=>?_
 refine aa.au ae (by decide) fun k' hk'=>?_
 simp [cv, Big.cells]   -- R0
 apply hk'
 refine aa.au ae (by decide) fun k' hk'=>?_
 simp [bW, hw2]   -- R1
 refine aG.aB ae (eZ x 0 ((b.nodes.length:Int) - 1)) e93 (.cons (.v _ _ _) (.cons (.v _ _ _) (.cons (.v _ _ _) .nil))) (by decide) (by decide) rfl (by simp) ?_
 rintro _ rfl
 simp
 apply hk'
 exact aa.ret Tryz.func37 (aK.one Tryz.results37) (hQ _ _ _ _ (.v _ _ _) rfl)
def pV (sig:Sig) (b:Big) (below:Nat):Prop:=∀ i,i<below→0≤(b.nodes.getD i default).control∧(b.nodes.getD i default).control<sig.length
theorem pZ (sig:Sig) (b:Big) (parent:Int) (below:Nat) (hr:0≤b.roots∧b.roots≤4) (hb:below≤b.nodes.length) (hc:pV sig b below) :
  aq Tryz.prog 151 [cv false b,bl false sig,int parent,int below] (fun r=>r=bool (bK sig b parent below)):=by
 refine aq.of Tryz.func151 rfl Tryz.ntmps151 (by simp) fun Q hQ=>?_
 refine aa.au ae (by decide) fun k' hk'=>?_
 simp [cv, Big.cells]   -- R0
 apply hk'
 refine aa.seq ?_
 refine aa.au ae (by decide) fun k' hk'=>?_
 simp   -- R1
 apply hk'
 refine aa.ite rfl (fun hc1 => ?_) (fun hc1 => ?_)   -- t10
 ·have hc1:parent<0:=by simpa using hc1
  have hw:IntKind.i64.wrap (0 - b.roots) = -b.roots:=by rw[wrap64]<;>omega
  refine aa.au ae (by decide) fun k' hk'=>?_
  have hw':IntKind.i64.wrap (-b.roots) = -b.roots:=by rw[wrap64]<;>omega
  simp [hw, hw']   -- R2
  apply hk'
  exact aa.ret Tryz.func151 (aK.one Tryz.results151) (hQ _ _ _ _ (.v _ _ _) (by simp[bK,hc1]))
 ·have hc1:¬ parent<0:=by simpa using hc1
  refine aa.skip ?_
  refine aa.au ae (by decide) fun k' hk'=>?_
  by_cases hlt:parent<(below:Int)
  ·obtain⟨q,rfl⟩:∃ q:Nat,parent=q:=⟨parent.toNat,by omega⟩
   have hq:q<b.nodes.length:=by omega
   have hcq:=hc q (by omega)
   have hg:b.nodes.getD q default=b.nodes[q]:=by simp[hq]
   rw[hg] at hcq
   obtain⟨c,hcc⟩:∃ c:Nat,b.nodes[q].control=c:=⟨b.nodes[q].control.toNat,by omega⟩
   have hcl:c<sig.length:=by omega
   simp [hlt, bW, bl, hq, aj.cells, hcc, hcl, Control.cells, guardOf]   -- R3
   apply hk'
   refine aa.ret Tryz.func151 (aK.one Tryz.results151) (hQ _ _ _ _ (.v _ _ _) ?_)
   have hlt':q<below:=by omega
   simp[bK,hlt',hq,hcc,hcl]
   rfl
  ·simp [hlt, guardOf]   -- R3
   apply hk'
   exact aa.ret Tryz.func151 (aK.one Tryz.results151) (hQ _ _ _ _ (.v _ _ _) (by simp[bK,hc1,hlt]))
theorem rH (sig:Sig) (b:Big) (parent:Int) (below:Nat) (hp:I64 parent) (hr:0≤b.roots∧b.roots≤4) (hb:below≤b.nodes.length) (hc:pV sig b below) :
  aq Tryz.prog 103 [bl false sig,cv false b,int parent,int below] (fun r=>r=bool (bK sig b parent below)):=by
 obtain⟨hp1,hp2⟩:=hp
 refine aq.of Tryz.func103 rfl Tryz.ntmps103 (by simp) fun Q hQ=>?_
 refine aa.au ae (by decide) fun k' hk'=>?_
 simp [cv, Big.cells]   -- R0
 apply hk'
 refine aa.seq ?_
 refine aa.au ae (by decide) fun k' hk'=>?_
 simp   -- R1
 apply hk'
 refine aa.ite rfl (fun hc1 => ?_) (fun hc1 => ?_)   -- t10
 ·have hc1:parent<0:=by simpa using hc1
  have hw:IntKind.i64.wrap (-1 - parent) = -1 - parent:=by rw[wrap64]<;>omega
  have hw2:IntKind.i64.wrap (b.roots - 1)=b.roots - 1:=by rw[wrap64]<;>omega
  refine aa.au ae (by decide) fun k' hk'=>?_
  simp [hw, hw2]   -- R2
  refine aG.aB ae (eZ (-1 - parent) 0 (b.roots - 1)) e93 (.cons (.v _ _ _) (.cons (.v _ _ _) (.cons (.v _ _ _) .nil))) (by decide) (by decide) rfl (by simp) ?_
  rintro _ rfl
  simp
  apply hk'
  refine aa.ret Tryz.func103 (aK.one Tryz.results103) (hQ _ _ _ _ (.v _ _ _) ?_)
  have:within (-1 - parent) 0 (b.roots - 1)=decide (-b.roots≤parent):=by
   simp only[within]
   by_cases h : -b.roots≤parent
   ·simp[h];omega
   ·simp[h];omega
  simp[bK,hc1,this]
 ·have hc1:¬ parent<0:=by simpa using hc1
  refine aa.skip ?_
  refine aa.au ae (by decide) fun k' hk'=>?_
  by_cases hlt:parent<(below:Int)
  ·obtain⟨q,rfl⟩:∃ q:Nat,parent=q:=⟨parent.toNat,by omega⟩
   have hq:q<b.nodes.length:=by omega
   have hcq:=hc q (by omega)
   have hg:b.nodes.getD q default=b.nodes[q]:=by simp[hq]
   rw[hg] at hcq
   obtain⟨c,hcc⟩:∃ c:Nat,b.nodes[q].control=c:=⟨b.nodes[q].control.toNat,by omega⟩
   have hcl:c<sig.length:=by omega
   simp [hlt, bW, bl, hq, aj.cells, hcc, hcl, Control.cells, guardOf]   -- R3
   apply hk'
   refine aa.ret Tryz.func103 (aK.one Tryz.results103) (hQ _ _ _ _ (.v _ _ _) ?_)
   have hlt':q<below:=by omega
   simp[bK,hlt',hq,hcc,hcl]
   rfl
  ·simp [hlt, guardOf]   -- R3
   apply hk'
   exact aa.ret Tryz.func103 (aK.one Tryz.results103) (hQ _ _ _ _ (.v _ _ _) (by simp[bK,hc1,hlt]))
end Go.Ab
/- Contracts of impl.areNames and spec.l2Names. -/
namespace Go.Ab
open Go.Proofs
set_option linter.unusedSimpArgs false
theorem GV:Ent Tryz.prog 149:=Ent.of Tryz.func149 (by kernel_rfl) rfl
theorem Hx:Ent Tryz.prog 100:=Ent.of Tryz.func100 (by kernel_rfl) rfl
theorem wH:∀ (s p:Str),(Op.bytesLess s p || s == p) = !Op.bytesLess p s
 | [],[]=>by simp[Op.bytesLess]
 | [],_::_=>by simp[Op.bytesLess]
 | _::_,[]=>by simp[Op.bytesLess]
 | a::x,b::y=>by
  have ih:=wH x y
  simp only[Op.bytesLess]
  rcases Nat.lt_trichotomy a.toNat b.toNat with h | h | h
  ·have h1:a<b:=h
   have h2:¬ b<a:=fun h'=>by have h':b.toNat<a.toNat:=h';omega
   have h3:(b == a)=false:=by
    rw[beq_eq_false_iff_ne]
    rintro rfl
    omega
   simp[h1,h2,h3]
  ·have h0:a=b:=UInt8.toNat_inj.1 h
   subst h0
   have h2:¬ a<a:=fun h'=>by have h':a.toNat<a.toNat:=h';omega
   simp[h2]
   rw[← ih]
   try (cases Op.bytesLess x y<;>simp)
   try (by_cases hxy:x=y<;>simp[hxy])
  ·have h1:b<a:=h
   have h2:¬ a<b:=fun h'=>by have h':a.toNat<b.toNat:=h';omega
   have h3:(a == b)=false:=by
    rw[beq_eq_false_iff_ne]
    rintro rfl
    omega
   have h4:¬ a=b:=by simpa using h3
   simp[h1,h2,h4]
theorem dM {n k:Nat} {q:Nat→Bool} (hk:k<n) (h:q k=false):(List.range n).all q=false:=by
 rw[List.all_eq_false]
 exact⟨k,by simpa using hk,by simp[h]⟩
theorem dJ {n:Nat} {q:Nat→Bool} (h:∀ i,i<n→q i=true):(List.range n).all q=true:=by
 simpa[List.all_eq_true] using h
def eL (l:List Str) (i:Nat):Bool:=oU (l.getD i []) && m9 l i
theorem fe (l:List Str):cQ l=(decide (l.length≤16) && (List.range l.length).all (eL l)):=rfl
theorem pX (l:List Str) (hl:l.length≤1048576) (hs:∀ s ∈ l,s.length≤1048576):aq Tryz.prog 149 [encS false l] (fun r=>r=bool (cQ l)):=by
 refine aq.of Tryz.func149 rfl Tryz.ntmps149 (by simp) fun Q hQ=>?_
 refine aa.au ae (by decide) fun k' hk'=>?_
 simp [encS]   -- R0
 apply hk'
 refine aa.seq ?_
 refine aa.au ae (by decide) fun k' hk'=>?_
 simp   -- R1
 apply hk'
 refine aa.block (aa.b6 l.length (fun k ρ H n=>ρ 0 = .list false (l.map aL)∧ρ 5 = .list false (l.map aL)∧ρ 6=int l.length∧ρ 7=int k∧∀ i,i<k→eL l i=true) ?_ ?_)
 ·simp
 ·rintro k ρ H n hk ⟨h0,h5,h6,h7,hall⟩ IH
  refine aa.au ae (by decide) fun k' hk'=>?_
  simp [h6, h7]   -- R2
  apply hk'
  refine aa.seq ?_
  refine aa.ite rfl (fun hc1 => ?_) (fun hc1 => ?_)   -- t8
  ·have hc1:k<l.length:=by simpa using hc1
   refine aa.skip ?_
   refine aa.seq ?_
   refine aa.block ?_
   refine aa.au ae (by decide) fun k' hk'=>?_
   simp [h5, h7, hc1, aL]   -- R3
   apply hk'
   refine aa.au ae (by decide) fun k' hk'=>?_
   have fin:∀ ρ:Env,ρ 0 = .list false (l.map aL)→ρ 5 = .list false (l.map aL)→ρ 6=int l.length→ρ 7=int k→ρ 27=bool (!eL l k)→aa Tryz.prog 149 32 k' ρ H n Q:=by
    intro ρ h0 h5 h6 h7 h27
    apply hk'
    refine aa.ite h27 (fun hc2 => ?_) (fun hc2 => ?_)   -- t27
    ·have hb:eL l k=false:=by simpa using hc2
     refine aa.au ae (by decide) fun k' hk'=>?_
     simp   -- R5
     apply hk'
     exact aa.ret Tryz.func149 (aK.one Tryz.results149) (hQ _ _ _ _ (.v _ _ _) (by rw[fe,dM hc1 hb,Bool.and_false]))
    ·have hb:eL l k=true:=by simpa using hc2
     refine aa.skip ?_
     refine aa.inBlock ?_
     refine aa.cg ae (by decide) fun k' hk'=>?_
     simp [h7, aZ (show k < 4611686018427387904 by omega)]   -- R6
     apply hk'
     refine IH hc1 _ _ _ ⟨by simp[h0],by simp[h5],by simp[h6],by simp,fun i hi=>?_⟩
     rcases Nat.lt_or_ge i k with h | h
     ·exact hall i h
     ·rw[show i=k by omega];exact hb
   have hgk:l.getD k []=l[k]:=by simp[hc1]
   simp   -- R4
   refine aG.aB ae (tY l[k] (Nat.le_trans (hs _ (List.getElem_mem hc1)) (by decide))) Hf (.cons (.v _ _ _) .nil) (by decide) (by decide) rfl (by simp) ?_
   rintro _ rfl
   cases hnm:oU l[k]
   ·simp[guardOf]
    exact fin _ (by simp[h0]) (by simp[h5]) (by simp[h6]) (by simp[h7]) (by simp[eL,hc1,hnm])
   ·by_cases hk0:k=0
    ·subst hk0
     simp[guardOf]
     exact fin _ (by simp[h0]) (by simp[h5]) (by simp[h6]) (by simp[h7]) (by simp[eL,hc1,hnm,m9])
    ·have hk1:0<k:=by omega
     have hw:IntKind.i64.wrap ((k:Int) - 1)=((k - 1:Nat):Int):=by rw[wrap64]<;>omega
     have hkl:k - 1<l.length:=by omega
     have hgk1:l.getD (k - 1) []=l[k - 1]:=by simp[hkl]
     have hp:=wH l[k] l[k - 1]
     simp[guardOf,hk1,h0,hw,hkl,aL]
     refine fin _ (by simp[h0]) (by simp[h5]) (by simp[h6]) (by simp[h7]) ?_
     simp only[eL,hgk,hnm,m9,hgk1,hk0,decide_false,Bool.false_or,Bool.true_and]
     rw[← hp]
     simp
  ·have hc1:¬ k<l.length:=by simpa using hc1
   have hke:k=l.length:=by omega
   subst hke
   refine aa.exit rfl ?_
   refine aa.au ae (by decide) fun k' hk'=>?_
   simp [h0]   -- R7
   apply hk'
   refine aa.ret Tryz.func149 (aK.one Tryz.results149) (hQ _ _ _ _ (.v _ _ _) ?_)
   rw[fe,dJ hall]
   simp
   omega
end Go.Ab
/- Contracts of spec.l2Names, impl.innerNames and spec.l2Inner. -/
namespace Go.Ab
open Go.Proofs
set_option linter.unusedSimpArgs false
theorem Iu:Ent Tryz.prog 150:=Ent.of Tryz.func150 (by kernel_rfl) rfl
theorem Io:Ent Tryz.prog 101:=Ent.of Tryz.func101 (by kernel_rfl) rfl
theorem q8 (l:List Str) (hl:l.length≤1048576) (hs:∀ s ∈ l,s.length≤1048576):aq Tryz.prog 100 [encS false l] (fun r=>r=bool (cQ l)):=by
 refine aq.of Tryz.func100 rfl Tryz.ntmps100 (by simp) fun Q hQ=>?_
 refine aa.au ae (by decide) fun k' hk'=>?_
 simp [encS]   -- R0
 apply hk'
 refine aa.seq ?_
 refine aa.au ae (by decide) fun k' hk'=>?_
 simp   -- R1
 apply hk'
 refine aa.block (aa.b6 l.length (fun k ρ H n=>ρ 0 = .list false (l.map aL)∧ρ 3=int k∧∀ i,i<k→eL l i=true) ?_ ?_)
 ·simp
 ·rintro k ρ H n hk ⟨h0,h3,hall⟩ IH
  refine aa.seq ?_
  refine aa.au ae (by decide) fun k' hk'=>?_
  simp [h0, h3]   -- R2
  apply hk'
  refine aa.ite rfl (fun hc1 => ?_) (fun hc1 => ?_)   -- t7
  ·have hc1:k<l.length:=by simpa using hc1
   refine aa.skip ?_
   refine aa.seq ?_
   refine aa.block ?_
   refine aa.eo ae aD bU (by decide) (by kernel_rfl) fun k' hk'=>?_
   have fin:∀ ρ:Env,ρ 0 = .list false (l.map aL)→ρ 3=int k→ρ 31=bool (!eL l k)→aa Tryz.prog 100 35 k' ρ H n Q:=by
    intro ρ h0 h3 h31
    apply hk'
    refine aa.ite h31 (fun hc2=>?_) (fun hc2=>?_)
    ·have hb:eL l k=false:=by simpa using hc2
     refine aa.au ae (by decide) fun k' hk'=>?_
     simp   -- R5
     apply hk'
     exact aa.ret Tryz.func100 (aK.one Tryz.results100) (hQ _ _ _ _ (.v _ _ _) (by rw[fe,dM hc1 hb,Bool.and_false]))
    ·have hb:eL l k=true:=by simpa using hc2
     refine aa.skip ?_
     refine aa.inBlock ?_
     refine aa.cg ae (by decide) fun k' hk'=>?_
     simp [h3, aZ (show k < 4611686018427387904 by omega)]   -- R3
     apply hk'
     refine IH hc1 _ _ _ ⟨by simp[h0],by simp,fun i hi=>?_⟩
     rcases Nat.lt_or_ge i k with h | h
     ·exact hall i h
     ·rw[show i=k by omega];exact hb
   have hgk:l.getD k []=l[k]:=by simp[hc1]
   simp [h0, h3, hc1, aL]   -- R4
   refine bn.aB ae aD (ug l[k] (Nat.le_trans (hs _ (List.getElem_mem hc1)) (by decide))) G4 (.cons (.v _ _ _) .nil) (by decide) rfl (by simp) ?_
   cases hnm:oU l[k]
   ·simp[guardOf]
    exact fin _ (by simp[h0,aL]) (by simp[h3]) (by simp[eL,hc1,hnm])
   ·by_cases hk0:k=0
    ·subst hk0
     simp[h3,guardOf]
     exact fin _ (by simp[h0,aL]) (by simp[h3]) (by simp[eL,hc1,hnm,m9])
    ·have hk1:0<k:=by omega
     have hw:IntKind.i64.wrap ((k:Int) - 1)=((k - 1:Nat):Int):=by rw[wrap64]<;>omega
     have hkl:k - 1<l.length:=by omega
     have hgk1:l.getD (k - 1) []=l[k - 1]:=by simp[hkl]
     simp[guardOf,hk1,h0,h3,hw,hkl,hc1,aL]
     refine fin _ (by simp[h0,aL]) (by simp[h3]) ?_
     simp only[eL,hgk,hnm,m9,hgk1,hk0,decide_false,Bool.false_or,Bool.true_and]
     simp
  ·have hc1:¬ k<l.length:=by simpa using hc1
   have hke:k=l.length:=by omega
   subst hke
   refine aa.exit rfl ?_
   refine aa.au ae (by decide) fun k' hk'=>?_
   simp [h0]   -- R6
   apply hk'
   refine aa.ret Tryz.func100 (aK.one Tryz.results100) (hQ _ _ _ _ (.v _ _ _) ?_)
   rw[fe,dJ hall]
   simp
   omega
def names (b:Big):List Str:=b.inner.map (·.name)
theorem tu (b:Big) (hl:b.inner.length≤1048576):aq Tryz.prog 150 [cv false b] (fun r=>r=encS true (names b)):=by
 refine aq.of Tryz.func150 rfl Tryz.ntmps150 (by simp) fun Q hQ=>?_
 refine aa.au ae (by decide) fun k' hk'=>?_
 simp [cv, Big.cells]   -- R0
 apply hk'
 refine aa.au ae (by decide) fun k' hk'=>?_
 simp   -- R1
 apply hk'
 refine aa.seq ?_
 refine aa.au ae (by decide) fun k' hk'=>?_
 simp [cb]   -- R2
 apply hk'
 refine aa.block (aa.b6 b.inner.length (fun k ρ H n=>ρ 8 = .list false (b.inner.map aA.cells)∧ρ 9=int b.inner.length∧ρ 10=int k∧ρ 3 = .arr (1,6) k 0 k∧H (1,6)=some ⟨1,((names b).take k).map aL⟩) ?_ ?_)
 ·simp
 ·rintro k ρ H n hk ⟨h8,h9,h10,h3,hH⟩ IH
  refine aa.au ae (by decide) fun k' hk'=>?_
  simp [h9, h10]   -- R3
  apply hk'
  refine aa.seq ?_
  refine aa.ite rfl (fun hc1 => ?_) (fun hc1 => ?_)   -- t11
  ·have hc1:k<b.inner.length:=by simpa using hc1
   have htk:(((names b).take k).map aL).length=k:=by simp[names];omega
   have hts:(names b).take (k+1)=(names b).take k++[b.inner[k].name]:=by
    rw[List.take_succ_eq_append_getElem (by simpa[names] using hc1)]
    simp[names]
   refine aa.skip ?_
   refine aa.seq ?_
   refine aa.block ?_
   refine aa.au ae (by decide) fun k' hk'=>?_
   simp [h8, h10, hc1, aA.cells]   -- R4
   apply hk'
   refine aa.cg ae (by decide) fun k' hk'=>?_
   generalize hels:((names b).take k).map aL=els at hH htk
   simp [h3, hH, htk, live, show k ≤ 1073741823 by omega]   -- R5
   apply hk'
   refine aa.inBlock ?_
   refine aa.cg ae (by decide) fun k' hk'=>?_
   simp [h10, aZ (show k < 4611686018427387904 by omega)]   -- R6
   apply hk'
   refine IH hc1 _ _ _ ⟨by simp[h8],by simp[h9],by simp,by simp,?_⟩
   simp[hts,← hels,aL]
  ·have hc1:¬ k<b.inner.length:=by simpa using hc1
   have hke:k=b.inner.length:=by omega
   subst hke
   refine aa.exit rfl ?_
   refine aa.au ae (by decide) fun k' hk'=>?_
   simp [h3]   -- R7
   apply hk'
   have he:(names b).take b.inner.length=names b:=List.take_of_length_le (by simp[names])
   rw[he] at hH
   exact aa.ret Tryz.func150 (aK.one Tryz.results150) (hQ _ _ _ _ (.of (Ret.zS (by simp[live,hH,names];rfl) (by simp[aL]))) rfl)
theorem yR (b:Big) (hl:b.inner.length≤1048576):aq Tryz.prog 101 [cv false b] (fun r=>r=encS true (names b)):=by
 refine aq.of Tryz.func101 rfl Tryz.ntmps101 (by simp) fun Q hQ=>?_
 refine aa.au ae (by decide) fun k' hk'=>?_
 simp [cv, Big.cells]   -- R0
 apply hk'
 refine aa.au ae (by decide) fun k' hk'=>?_
 simp   -- R1
 apply hk'
 refine aa.seq ?_
 refine aa.au ae (by decide) fun k' hk'=>?_
 simp [cb]   -- R2
 apply hk'
 refine aa.block (aa.b6 b.inner.length (fun k ρ H n=>ρ 1 = .ptr (0,1) 1 0 0∧H (0,1)=some ⟨6,[b.cells false]⟩∧ρ 4=int k∧ρ 3 = .arr (1,5) k 0 k∧H (1,5)=some ⟨1,((names b).take k).map aL⟩) ?_ ?_)
 ·simp[Big.cells,cb]
 ·rintro k ρ H n hk ⟨h1,hb,h4,h3,hH⟩ IH
  refine aa.seq ?_
  refine aa.au ae (by decide) fun k' hk'=>?_
  simp [h1, hb, h4, Big.cells, cb]   -- R3
  apply hk'
  refine aa.ite rfl (fun hc1 => ?_) (fun hc1 => ?_)   -- t10
  ·have hc1:k<b.inner.length:=by simpa using hc1
   have htk:(((names b).take k).map aL).length=k:=by simp[names];omega
   have hts:(names b).take (k+1)=(names b).take k++[b.inner[k].name]:=by
    rw[List.take_succ_eq_append_getElem (by simpa[names] using hc1)]
    simp[names]
   refine aa.skip ?_
   refine aa.seq ?_
   refine aa.block ?_
   refine aa.cg ae (by decide) fun k' hk'=>?_
   generalize hels:((names b).take k).map aL=els at hH htk
   simp [h1, hb, h3, h4, hH, htk, hc1, live, Big.cells, cb, aA.cells, show k ≤ 1073741823 by omega]   -- R5
   apply hk'
   refine aa.inBlock ?_
   refine aa.cg ae (by decide) fun k' hk'=>?_
   simp [h4, aZ (show k < 4611686018427387904 by omega)]   -- R4
   apply hk'
   refine IH hc1 _ _ _ ⟨by simp[h1],by simp[hb,Big.cells,cb],by simp,by simp,?_⟩
   simp[hts,← hels,aL]
  ·have hc1:¬ k<b.inner.length:=by simpa using hc1
   have hke:k=b.inner.length:=by omega
   subst hke
   refine aa.exit rfl ?_
   refine aa.au ae (by decide) fun k' hk'=>?_
   simp [h3]   -- R6
   apply hk'
   have he:(names b).take b.inner.length=names b:=List.take_of_length_le (by simp[names])
   rw[he] at hH
   exact aa.ret Tryz.func101 (aK.one Tryz.results101) (hQ _ _ _ _ (.of (Ret.zS (by simp[live,hH,names];rfl) (by simp[aL]))) rfl)
end Go.Ab
/- Contracts of slices.IndexFunc and slices.ContainsFunc at three types. By program. -/
namespace Go.Ab
open Go.Proofs
set_option linter.unusedSimpArgs false
def tA {α:Type} (l:List α) (p:α→Bool):Int:=if l.findIdx p<l.length then (l.findIdx p:Int) else -1
theorem qC {α:Type} {l:List α} {p:α→Bool} {k:Nat} (hk:k<l.length) (h:p l[k]=true) (hno:∀ i (h:i<l.length),i<k→p l[i]=false):tA l p=k:=by
 have:l.findIdx p=k:=(List.findIdx_eq hk).2 ⟨h,fun j hj=>hno j (by omega) hj⟩
 rw[tA,this,if_pos hk]
theorem qE {α:Type} {l:List α} {p:α→Bool} (hno:∀ i (h:i<l.length),p l[i]=false):tA l p = -1:=by
 have:l.findIdx p=l.length:=List.findIdx_eq_length.2 fun x hx=>by
  obtain⟨i,hi,rfl⟩:=List.getElem_of_mem hx
  exact hno i hi
 rw[tA,this,if_neg (Nat.lt_irrefl _)]
theorem o7 {α:Type} (l:List α) (p:α→Bool):decide (0≤tA l p)=l.any p:=by
 unfold tA
 cases h:l.any p
 ·have:l.findIdx p=l.length:=List.findIdx_eq_length.2 fun x hx=>by
   rw[List.any_eq_false] at h
   simpa using h x hx
  rw[if_neg (by omega)]
  simp
 ·have:l.findIdx p<l.length:=by
   rw[List.findIdx_lt_length]
   simpa[List.any_eq_true] using h
  rw[if_pos this]
  simp
theorem Jb:Ent Tryz.prog 200:=Ent.of Tryz.func200 (by kernel_rfl) rfl
theorem DQ:Ent Tryz.prog 152:=Ent.of Tryz.func152 (by kernel_rfl) rfl
theorem tp {H:ak} {n:Nat} {cl:ag} (t:Bool) (l:List (Int)) (p:Int→Bool) (hl:l.length≤1048576) (hcl:∀ x ∈ l,fA Tryz.prog H n cl [int x] (fun r=>r=bool (p x))) :
  cI Tryz.prog 200 [.list t (l.map al),cl] H n (fun r=>r=int (tA l p)):=by
 refine cI.of Tryz.func200 rfl Tryz.ntmps200 (by simp) fun Q _ hQ=>?_
 refine aa.au ae (by decide) fun k' hk'=>?_
 simp   -- R0
 apply hk'
 refine aa.seq ?_
 refine aa.au ae (by decide) fun k' hk'=>?_
 simp   -- R1
 apply hk'
 refine aa.block (aa.b6 l.length (fun k ρ H' n'=>ρ 0 = .list t (l.map al)∧ρ 1=cl∧ρ 7=int l.length∧ρ 8=int k∧H'=H∧n'=n∧∀ i (h:i<l.length),i<k→p l[i]=false) ?_ ?_)
 ·simp
 ·rintro k ρ H' n' hk ⟨h0,h1,h7,h8,rfl,rfl,hno⟩ IH
  refine aa.au ae (by decide) fun k' hk'=>?_
  simp [h7, h8]   -- R2
  apply hk'
  refine aa.seq ?_
  refine aa.ite rfl (fun hc1 => ?_) (fun hc1 => ?_)   -- t9
  ·have hc1:k<l.length:=by simpa using hc1
   refine aa.skip ?_
   refine aa.seq ?_
   refine aa.block ?_
   refine aa.au ae (by decide) fun k' hk'=>?_
   simp [h8]   -- R3
   apply hk'
   refine aa.au ae (by decide) fun k' hk'=>?_
   simp [h0, h1, hc1, al]   -- R4
   refine aG.Ei ae (hcl l[k] (List.getElem_mem hc1)) (by decide) (by decide) (by simp[h1]) (by simp) ?_
   rintro _ rfl
   simp
   apply hk'
   refine aa.ite rfl (fun hc2 => ?_) (fun hc2 => ?_)   -- t16
   ·have hc2:p l[k]=true:=by simpa using hc2
    refine aa.au ae (by decide) fun k' hk'=>?_
    simp   -- R5
    apply hk'
    refine aa.ret Tryz.func200 (aK.one Tryz.results200) (hQ _ _ _ _ (.bnd (.v _)) (Frame.refl _ _) ?_)
    simp[qC hc1 hc2 hno]
   ·have hc2:p l[k]=false:=by simpa using hc2
    refine aa.skip ?_
    refine aa.inBlock ?_
    refine aa.cg ae (by decide) fun k' hk'=>?_
    simp [h8, aZ (show k < 4611686018427387904 by omega)]   -- R6
    apply hk'
    refine IH hc1 _ _ _ ⟨by simp[h0,al],by simp[h1],by simp[h7],by simp,rfl,rfl,fun i h hi=>?_⟩
    rcases Nat.lt_or_ge i k with hik | hik
    ·exact hno i h hik
    ·have:i=k:=by omega
     subst this
     exact hc2
  ·have hc1:¬ k<l.length:=by simpa using hc1
   have hke:k=l.length:=by omega
   subst hke
   refine aa.exit rfl ?_
   refine aa.au ae (by decide) fun k' hk'=>?_
   simp   -- R7
   apply hk'
   refine aa.ret Tryz.func200 (aK.one Tryz.results200) (hQ _ _ _ _ (.bnd (.v _)) (Frame.refl _ _) ?_)
   simp[qE fun i h=>hno i h h]
theorem di {H:ak} {n:Nat} {cl:ag} (t:Bool) (l:List (Int)) (p:Int→Bool) (hl:l.length≤1048576) (hcl:∀ x ∈ l,fA Tryz.prog H n cl [int x] (fun r=>r=bool (p x))) :
  cI Tryz.prog 152 [.list t (l.map al),cl] H n (fun r=>r=bool (l.any p)):=by
 refine cI.of Tryz.func152 rfl Tryz.ntmps152 (by simp) fun Q _ hQ=>?_
 refine aa.au ae (by decide) fun k' hk'=>?_
 simp   -- R0
 apply hk'
 refine aa.au ae (by decide) fun k' hk'=>?_
 simp   -- R1
 refine aG.lW ae (tp t l p hl hcl) Jb (by decide) (by decide) rfl (by simp) ?_
 rintro _ rfl
 simp
 apply hk'
 refine aa.ret Tryz.func152 (aK.one Tryz.results152) (hQ _ _ _ _ (.bnd (.v _)) (Frame.refl _ _) ?_)
 simp[o7]
theorem IA:Ent Tryz.prog 201:=Ent.of Tryz.func201 (by kernel_rfl) rfl
theorem Ih:Ent Tryz.prog 156:=Ent.of Tryz.func156 (by kernel_rfl) rfl
theorem tq {H:ak} {n:Nat} {cl:ag} (t:Bool) (l:List (aA)) (p:aA→Bool) (hl:l.length≤1048576) (hcl:∀ x ∈ l,fA Tryz.prog H n cl [.agg x.cells] (fun r=>r=bool (p x))) :
  cI Tryz.prog 201 [.list t (l.map aA.cells),cl] H n (fun r=>r=int (tA l p)):=by
 refine cI.of Tryz.func201 rfl Tryz.ntmps201 (by simp) fun Q _ hQ=>?_
 refine aa.au ae (by decide) fun k' hk'=>?_
 simp   -- R0
 apply hk'
 refine aa.seq ?_
 refine aa.au ae (by decide) fun k' hk'=>?_
 simp   -- R1
 apply hk'
 refine aa.block (aa.b6 l.length (fun k ρ H' n'=>ρ 0 = .list t (l.map aA.cells)∧ρ 1=cl∧ρ 7=int l.length∧ρ 8=int k∧H'=H∧n'=n∧∀ i (h:i<l.length),i<k→p l[i]=false) ?_ ?_)
 ·simp
 ·rintro k ρ H' n' hk ⟨h0,h1,h7,h8,rfl,rfl,hno⟩ IH
  refine aa.au ae (by decide) fun k' hk'=>?_
  simp [h7, h8]   -- R2
  apply hk'
  refine aa.seq ?_
  refine aa.ite rfl (fun hc1 => ?_) (fun hc1 => ?_)   -- t9
  ·have hc1:k<l.length:=by simpa using hc1
   refine aa.skip ?_
   refine aa.seq ?_
   refine aa.block ?_
   refine aa.au ae (by decide) fun k' hk'=>?_
   simp [h8]   -- R3
   apply hk'
   refine aa.au ae (by decide) fun k' hk'=>?_
   simp [h0, h1, hc1, aA.cells]   -- R4
   refine aG.Ei ae (hcl l[k] (List.getElem_mem hc1)) (by decide) (by decide) (by simp[h1]) (by simp[aA.cells]) ?_
   rintro _ rfl
   simp
   apply hk'
   refine aa.ite rfl (fun hc2 => ?_) (fun hc2 => ?_)   -- t16
   ·have hc2:p l[k]=true:=by simpa using hc2
    refine aa.au ae (by decide) fun k' hk'=>?_
    simp   -- R5
    apply hk'
    refine aa.ret Tryz.func201 (aK.one Tryz.results201) (hQ _ _ _ _ (.bnd (.v _)) (Frame.refl _ _) ?_)
    simp[qC hc1 hc2 hno]
   ·have hc2:p l[k]=false:=by simpa using hc2
    refine aa.skip ?_
    refine aa.inBlock ?_
    refine aa.cg ae (by decide) fun k' hk'=>?_
    simp [h8, aZ (show k < 4611686018427387904 by omega)]   -- R6
    apply hk'
    refine IH hc1 _ _ _ ⟨by simp[h0,aA.cells],by simp[h1],by simp[h7],by simp,rfl,rfl,fun i h hi=>?_⟩
    rcases Nat.lt_or_ge i k with hik | hik
    ·exact hno i h hik
    ·have:i=k:=by omega
     subst this
     exact hc2
  ·have hc1:¬ k<l.length:=by simpa using hc1
   have hke:k=l.length:=by omega
   subst hke
   refine aa.exit rfl ?_
   refine aa.au ae (by decide) fun k' hk'=>?_
   simp   -- R7
   apply hk'
   refine aa.ret Tryz.func201 (aK.one Tryz.results201) (hQ _ _ _ _ (.bnd (.v _)) (Frame.refl _ _) ?_)
   simp[qE fun i h=>hno i h h]
theorem pk {H:ak} {n:Nat} {cl:ag} (t:Bool) (l:List (aA)) (p:aA→Bool) (hl:l.length≤1048576) (hcl:∀ x ∈ l,fA Tryz.prog H n cl [.agg x.cells] (fun r=>r=bool (p x))) :
  cI Tryz.prog 156 [.list t (l.map aA.cells),cl] H n (fun r=>r=bool (l.any p)):=by
 refine cI.of Tryz.func156 rfl Tryz.ntmps156 (by simp) fun Q _ hQ=>?_
 refine aa.au ae (by decide) fun k' hk'=>?_
 simp   -- R0
 apply hk'
 refine aa.au ae (by decide) fun k' hk'=>?_
 simp   -- R1
 refine aG.lW ae (tq t l p hl hcl) IA (by decide) (by decide) rfl (by simp) ?_
 rintro _ rfl
 simp
 apply hk'
 refine aa.ret Tryz.func156 (aK.one Tryz.results156) (hQ _ _ _ _ (.bnd (.v _)) (Frame.refl _ _) ?_)
 simp[o7]
theorem Iw:Ent Tryz.prog 234:=Ent.of Tryz.func234 (by kernel_rfl) rfl
theorem Ju:Ent Tryz.prog 198:=Ent.of Tryz.func198 (by kernel_rfl) rfl
theorem tn {H:ak} {n:Nat} {cl:ag} (t:Bool) (l:List (Control)) (p:Control→Bool) (hl:l.length≤1048576) (hcl:∀ x ∈ l,fA Tryz.prog H n cl [.agg x.cells] (fun r=>r=bool (p x))) :
  cI Tryz.prog 234 [.list t (l.map Control.cells),cl] H n (fun r=>r=int (tA l p)):=by
 refine cI.of Tryz.func234 rfl Tryz.ntmps234 (by simp) fun Q _ hQ=>?_
 refine aa.au ae (by decide) fun k' hk'=>?_
 simp   -- R0
 apply hk'
 refine aa.seq ?_
 refine aa.au ae (by decide) fun k' hk'=>?_
 simp   -- R1
 apply hk'
 refine aa.block (aa.b6 l.length (fun k ρ H' n'=>ρ 0 = .list t (l.map Control.cells)∧ρ 1=cl∧ρ 7=int l.length∧ρ 8=int k∧H'=H∧n'=n∧∀ i (h:i<l.length),i<k→p l[i]=false) ?_ ?_)
 ·simp
 ·rintro k ρ H' n' hk ⟨h0,h1,h7,h8,rfl,rfl,hno⟩ IH
  refine aa.au ae (by decide) fun k' hk'=>?_
  simp [h7, h8]   -- R2
  apply hk'
  refine aa.seq ?_
  refine aa.ite rfl (fun hc1 => ?_) (fun hc1 => ?_)   -- t9
  ·have hc1:k<l.length:=by simpa using hc1
   refine aa.skip ?_
   refine aa.seq ?_
   refine aa.block ?_
   refine aa.au ae (by decide) fun k' hk'=>?_
   simp [h8]   -- R3
   apply hk'
   refine aa.au ae (by decide) fun k' hk'=>?_
   simp [h0, h1, hc1, Control.cells]   -- R4
   refine aG.Ei ae (hcl l[k] (List.getElem_mem hc1)) (by decide) (by decide) (by simp[h1]) (by simp[Control.cells]) ?_
   rintro _ rfl
   simp
   apply hk'
   refine aa.ite rfl (fun hc2 => ?_) (fun hc2 => ?_)   -- t16
   ·have hc2:p l[k]=true:=by simpa using hc2
    refine aa.au ae (by decide) fun k' hk'=>?_
    simp   -- R5
    apply hk'
    refine aa.ret Tryz.func234 (aK.one Tryz.results234) (hQ _ _ _ _ (.bnd (.v _)) (Frame.refl _ _) ?_)
    simp[qC hc1 hc2 hno]
   ·have hc2:p l[k]=false:=by simpa using hc2
    refine aa.skip ?_
    refine aa.inBlock ?_
    refine aa.cg ae (by decide) fun k' hk'=>?_
    simp [h8, aZ (show k < 4611686018427387904 by omega)]   -- R6
    apply hk'
    refine IH hc1 _ _ _ ⟨by simp[h0,Control.cells],by simp[h1],by simp[h7],by simp,rfl,rfl,fun i h hi=>?_⟩
    rcases Nat.lt_or_ge i k with hik | hik
    ·exact hno i h hik
    ·have:i=k:=by omega
     subst this
     exact hc2
  ·have hc1:¬ k<l.length:=by simpa using hc1
   have hke:k=l.length:=by omega
   subst hke
   refine aa.exit rfl ?_
   refine aa.au ae (by decide) fun k' hk'=>?_
   simp   -- R7
   apply hk'
   refine aa.ret Tryz.func234 (aK.one Tryz.results234) (hQ _ _ _ _ (.bnd (.v _)) (Frame.refl _ _) ?_)
   simp[qE fun i h=>hno i h h]
theorem pz {H:ak} {n:Nat} {cl:ag} (t:Bool) (l:List (Control)) (p:Control→Bool) (hl:l.length≤1048576) (hcl:∀ x ∈ l,fA Tryz.prog H n cl [.agg x.cells] (fun r=>r=bool (p x))) :
  cI Tryz.prog 198 [.list t (l.map Control.cells),cl] H n (fun r=>r=bool (l.any p)):=by
 refine cI.of Tryz.func198 rfl Tryz.ntmps198 (by simp) fun Q _ hQ=>?_
 refine aa.au ae (by decide) fun k' hk'=>?_
 simp   -- R0
 apply hk'
 refine aa.au ae (by decide) fun k' hk'=>?_
 simp   -- R1
 refine aG.lW ae (tn t l p hl hcl) Iw (by decide) (by decide) rfl (by simp) ?_
 rintro _ rfl
 simp
 apply hk'
 refine aa.ret Tryz.func198 (aK.one Tryz.results198) (hQ _ _ _ _ (.bnd (.v _)) (Frame.refl _ _) ?_)
 simp[o7]
end Go.Ab
/- Contracts of impl.IsSignature and spec.l2Sig. -/
namespace Go.Ab
open Go.Proofs
set_option linter.unusedSimpArgs false
theorem Jc:Ent Tryz.prog 148:=Ent.of Tryz.func148 (by kernel_rfl) rfl
theorem e99:Ent Tryz.prog 99:=Ent.of Tryz.func99 (by kernel_rfl) rfl
theorem IZ:Ent Tryz.prog 199:=Ent.of Tryz.func199 (by kernel_rfl) rfl
theorem E7 {H:ak} {n:Nat} {X:Id} (c:Control) (hX:H X=some ⟨3,[c.cells]⟩) (d:Control):fA Tryz.prog H n (.fn (.func 199) [] [.ptr X 1 0 0]) [.agg d.cells] (fun r=>r=bool (d.name == c.name)):=by
 refine⟨199,[],[.ptr X 1 0 0],rfl,IZ,?_⟩
 refine cI.of Tryz.func199 rfl Tryz.ntmps199 (by simp) fun Q hB hQ=>?_
 have hXn:=(hB X _ hX).1
 have hX2:¬ X=(n,2):=by rintro rfl;simp at hXn
 refine aa.au ae (by decide) fun k' hk'=>?_
 simp [Control.cells]   -- R0
 apply hk'
 refine aa.au ae (by decide) fun k' hk'=>?_
 simp [hX2, hX, Control.cells]   -- R1
 apply hk'
 exact aa.ret Tryz.func199 (aK.one Tryz.results199) (hQ _ _ _ _ (.bnd (.v _)) (Frame.set (by simp) (Frame.refl _ _)) (by simp))
def jv (sig:Sig) (i:Nat):Bool:=cO (sig.getD i default) && newName sig i
theorem iB (sig:Sig):fN sig=(within sig.length 1 6 && (List.range sig.length).all (jv sig)):=rfl
theorem rC (sig:Sig) (hl:sig.length≤1048576) (hs:∀ c ∈ sig,c.name.length≤1048576):aq Tryz.prog 148 [bl false sig] (fun r=>r=bool (fN sig)):=by
 refine aq.of Tryz.func148 rfl Tryz.ntmps148 (by simp) fun Q hQ=>?_
 refine aa.au ae (by decide) fun k' hk'=>?_
 simp [bl]   -- R0
 apply hk'
 refine aa.seq ?_
 refine aa.au ae (by decide) fun k' hk'=>?_
 simp   -- R1
 refine aG.aB ae (dL sig.length 1 6) tx (.cons (.v _ _ _) (.cons (.v _ _ _) (.cons (.v _ _ _) .nil))) (by decide) (by decide) rfl (by simp) ?_
 rintro _ rfl
 simp
 apply hk'
 refine aa.ite rfl (fun hc1 => ?_) (fun hc1 => ?_)   -- t8
 ·have hw:within sig.length 1 6=false:=by simpa using hc1
  refine aa.au ae (by decide) fun k' hk'=>?_
  simp   -- R2
  apply hk'
  exact aa.ret Tryz.func148 (aK.one Tryz.results148) (hQ _ _ _ _ (.v _ _ _) (by rw[iB,hw,Bool.false_and]))
 ·have hw:within sig.length 1 6=true:=by simpa using hc1
  refine aa.skip ?_
  refine aa.seq ?_
  refine aa.au ae (by decide) fun k' hk'=>?_
  simp   -- R3
  apply hk'
  refine aa.block (aa.b6 sig.length (fun k ρ H n=>ρ 0 = .list false (sig.map Control.cells)∧ρ 9 = .list false (sig.map Control.cells)∧ρ 10=int sig.length∧ρ 11=int k∧∀ i,i<k→jv sig i=true) ?_ ?_)
  ·simp
  ·rintro k ρ H n hk ⟨h0,h9,h10,h11,hall⟩ IH
   refine aa.au ae (by decide) fun k' hk'=>?_
   simp [h10, h11]   -- R4
   apply hk'
   refine aa.seq ?_
   refine aa.ite rfl (fun hc1 => ?_) (fun hc1 => ?_)   -- t12
   ·have hc1:k<sig.length:=by simpa using hc1
    have hgk:sig.getD k default=sig[k]:=by simp[hc1]
    refine aa.skip ?_
    refine aa.seq ?_
    refine aa.block ?_
    refine aa.au ae (by decide) fun k' hk'=>?_
    simp [h9, h11, hc1, Control.cells]   -- R5
    apply hk'
    refine aa.cut (fun ρ H n=>ρ 0 = .list false (sig.map Control.cells)∧ρ 9 = .list false (sig.map Control.cells)∧ρ 10=int sig.length∧ρ 11=int k∧ρ 3=int k∧∃ m,ρ 4 = .ptr (m,4) 1 0 0∧H (m,4)=some ⟨3,[sig[k].cells]⟩) ?_ ?_
    ·exact⟨by simp[h0],by simp[h9],by simp[h10],by simp[h11],by simp,n,by simp,by simp[Control.cells]⟩
    clear hk' h0 h9 h10 h11
    rintro ρ H n ⟨h0,h9,h10,h11,h3,m,h4,hm⟩
    refine aa.au ae (by decide) fun k' hk'=>?_
    have fin:∀ ρ:Env,ρ 0 = .list false (sig.map Control.cells)→ρ 9 = .list false (sig.map Control.cells)→ρ 10=int sig.length→ρ 11=int k→ρ 38=bool (!jv sig k)→aa Tryz.prog 148 40 k' ρ H n Q:=by
     intro ρ h0 h9 h10 h11 h38
     apply hk'
     refine aa.ite h38 (fun hc2 => ?_) (fun hc2 => ?_)   -- t38
     ·have hb:jv sig k=false:=by simpa using hc2
      refine aa.au ae (by decide) fun k' hk'=>?_
      simp   -- R7
      apply hk'
      exact aa.ret Tryz.func148 (aK.one Tryz.results148) (hQ _ _ _ _ (.v _ _ _) (by rw[iB,dM hc1 hb,Bool.and_false]))
     ·have hb:jv sig k=true:=by simpa using hc2
      refine aa.skip ?_
      refine aa.inBlock ?_
      refine aa.cg ae (by decide) fun k' hk'=>?_
      simp [h11, aZ (show k < 4611686018427387904 by omega)]   -- R8
      apply hk'
      refine IH hc1 _ _ _ ⟨by simp[h0],by simp[h9],by simp[h10],by simp,fun i hi=>?_⟩
      rcases Nat.lt_or_ge i k with h | h
      ·exact hall i h
      ·rw[show i=k by omega];exact hb
    have hm':=hm
    simp only[Control.cells] at hm'
    simp [h4, hm']   -- R6
    refine aG.aB ae (tY sig[k].name (Nat.le_trans (hs _ (List.getElem_mem hc1)) (by decide))) Hf (.cons (.v _ _ _) .nil) (by decide) (by decide) rfl (by simp) ?_
    rintro _ rfl
    cases hnm:oU sig[k].name
    ·simp[guardOf]
     exact fin _ (by simp[h0]) (by simp[h9]) (by simp[h10]) (by simp[h11]) (by simp only[jv,hgk,cO,hnm];simp)
    ·simp[h4,hm',guardOf]
     refine aG.aB ae (dL sig[k].ports 0 3) tx (.cons (.v _ _ _) (.cons (.v _ _ _) (.cons (.v _ _ _) .nil))) (by decide) (by decide) rfl (by simp) ?_
     rintro _ rfl
     cases hpo:within sig[k].ports 0 3
     ·simp[guardOf]
      exact fin _ (by simp[h0]) (by simp[h9]) (by simp[h10]) (by simp[h11]) (by simp only[jv,hgk,cO,hnm,hpo];simp)
     ·simp[h4,hm',guardOf]
      refine aG.aB ae (dL sig[k].kind 0 2) tx (.cons (.v _ _ _) (.cons (.v _ _ _) (.cons (.v _ _ _) .nil))) (by decide) (by decide) rfl (by simp) ?_
      rintro _ rfl
      cases hki:within sig[k].kind 0 2
      ·simp[guardOf]
       exact fin _ (by simp[h0]) (by simp[h9]) (by simp[h10]) (by simp[h11]) (by simp only[jv,hgk,cO,hnm,hpo,hki];simp)
      ·have hkl:(k:Int)≤sig.length:=by omega
       simp[h0,h3,h4,hkl,guardOf,Control.cells]
       refine aG.lW ae (pz false (sig.take k) (fun d=>d.name == sig[k].name) (by simp;omega) (fun d _=>E7 sig[k] hm d)) Ju (by decide) (by decide) rfl (by simp[Control.cells]) ?_
       rintro _ rfl
       simp[guardOf]
       refine fin _ (by simp[h0,Control.cells]) (by simp[h9,Control.cells]) (by simp[h10]) (by simp[h11]) ?_
       simp only[jv,hgk,cO,hnm,hpo,hki,newName]
       simp
   ·have hc1:¬ k<sig.length:=by simpa using hc1
    have hke:k=sig.length:=by omega
    subst hke
    refine aa.exit rfl ?_
    refine aa.au ae (by decide) fun k' hk'=>?_
    simp   -- R9
    apply hk'
    exact aa.ret Tryz.func148 (aK.one Tryz.results148) (hQ _ _ _ _ (.v _ _ _) (by rw[iB,hw,dJ hall];rfl))
end Go.Ab
/- Contract of spec.l2Sig. -/
namespace Go.Ab
open Go.Proofs
set_option linter.unusedSimpArgs false
theorem zx {sig:Sig} {i j:Nat} (hi:i<sig.length) (hj:j<i) (h:sig[j].name=sig[i].name):newName sig i=false:=by
 have hg:sig.getD i default=sig[i]:=by simp[hi]
 have:(sig.take i).any (fun d=>d.name == sig[i].name)=true:=by
  rw[List.any_eq_true]
  refine⟨sig[j],?_,by simpa using h⟩
  rw[List.mem_take_iff_getElem]
  exact⟨j,by omega,rfl⟩
 rw[newName,hg,this]
 rfl
theorem xj {sig:Sig} {i:Nat} (hi:i<sig.length) (h:∀ j (hj:j<sig.length),j<i→¬ sig[j].name=sig[i].name):newName sig i=true:=by
 have hg:sig.getD i default=sig[i]:=by simp[hi]
 have:(sig.take i).any (fun d=>d.name == sig[i].name)=false:=by
  rw[List.any_eq_false]
  intro d hd
  rw[List.mem_take_iff_getElem] at hd
  obtain⟨j,hj,rfl⟩:=hd
  have:=h j (by omega) (by omega)
  simpa using this
 rw[newName,hg,this]
 rfl
theorem Ek (sig:Sig) (hl:sig.length≤1048576) (hs:∀ c ∈ sig,c.name.length≤1048576):aq Tryz.prog 99 [bl false sig] (fun r=>r=bool (fN sig)):=by
 refine aq.of Tryz.func99 rfl Tryz.ntmps99 (by simp) fun Q hQ=>?_
 refine aa.au ae (by decide) fun k' hk'=>?_
 simp [bl]   -- R0
 apply hk'
 refine aa.seq ?_
 refine aa.au ae (by decide) fun k' hk'=>?_
 simp   -- R1
 apply hk'
 have bad:∀ k,k<sig.length→jv sig k=false→∀ H n,Q (bool false) H n:=fun k hk hb H n=>hQ _ _ _ _ (.v _ _ _) (by rw[iB,dM hk hb,Bool.and_false])
 refine aa.block (aa.b6 sig.length (fun k ρ H n=>ρ 0 = .list false (sig.map Control.cells)∧ρ 3=int k∧∀ i,i<k→jv sig i=true) ?_ ?_)
 ·simp
 ·rintro k ρ H n hk ⟨h0,h3,hall⟩ IH
  refine aa.seq ?_
  refine aa.au ae (by decide) fun k' hk'=>?_
  simp [h0, h3]   -- R2
  apply hk'
  refine aa.ite rfl (fun hc1 => ?_) (fun hc1 => ?_)   -- t8
  ·have hc1:k<sig.length:=by simpa using hc1
   have hgk:sig.getD k default=sig[k]:=by simp[hc1]
   refine aa.skip ?_
   refine aa.seq ?_
   refine aa.block ?_
   refine aa.seq ?_
   refine aa.au ae (by decide) fun k' hk'=>?_
   have fin:∀ ρ:Env,ρ 0 = .list false (sig.map Control.cells)→ρ 3=int k→ρ 35=bool (!cO sig[k])→aa Tryz.prog 99 55 k' ρ H n Q:=by
    intro ρ h0 h3 h35
    apply hk'
    refine aa.ite h35 (fun hc2 => ?_) (fun hc2 => ?_)   -- t35
    ·have hb:cO sig[k]=false:=by simpa using hc2
     refine aa.au ae (by decide) fun k' hk'=>?_
     simp   -- R5
     apply hk'
     exact aa.ret Tryz.func99 (aK.one Tryz.results99) (bad k hc1 (by rw[jv,hgk,hb,Bool.false_and]) _ _)
    ·have hb:cO sig[k]=true:=by simpa using hc2
     refine aa.skip ?_
     refine aa.au ae (by decide) fun k' hk'=>?_
     simp   -- R6
     apply hk'
     refine aa.block (aa.b6 k (fun j ρ H n=>ρ 0 = .list false (sig.map Control.cells)∧ρ 3=int k∧ρ 4=int j∧∀ q (hq:q<sig.length),q<j→¬ sig[q].name=sig[k].name) ?_ ?_)
     ·simp[h0,h3]
     ·rintro j ρ H n hj ⟨h0,h3,h4,hno⟩ IH2
      refine aa.seq ?_
      refine aa.au ae (by decide) fun k' hk'=>?_
      simp [h3, h4]   -- R7
      apply hk'
      refine aa.ite rfl (fun hc3 => ?_) (fun hc3 => ?_)   -- t38
      ·have hc3:j<k:=by simpa using hc3
       have hjl:j<sig.length:=by omega
       refine aa.skip ?_
       refine aa.seq ?_
       refine aa.block ?_
       refine aa.eo ae aD bU (by decide) (by kernel_rfl) fun k' hk'=>?_
       simp [h0, h3, h4, hc1, hjl, Control.cells]   -- R9
       apply hk'
       refine aa.ite rfl (fun hc4 => ?_) (fun hc4 => ?_)   -- t51
       ·have hc4:sig[j].name=sig[k].name:=by simpa using hc4
        refine aa.au ae (by decide) fun k' hk'=>?_
        simp   -- R10
        apply hk'
        exact aa.ret Tryz.func99 (aK.one Tryz.results99) (bad k hc1 (by rw[jv,zx hc1 hc3 hc4,Bool.and_false]) _ _)
       ·have hc4:¬ sig[j].name=sig[k].name:=by simpa using hc4
        refine aa.skip ?_
        refine aa.inBlock ?_
        refine aa.cg ae (by decide) fun k' hk'=>?_
        simp [h4, aZ (show j < 4611686018427387904 by omega)]   -- R8
        apply hk'
        refine IH2 hc3 _ _ _ ⟨by simp[h0,Control.cells],by simp[h3],by simp,fun q hq hqj=>?_⟩
        rcases Nat.lt_or_ge q j with h | h
        ·exact hno q hq h
        ·have:q=j:=by omega
         subst this
         exact hc4
      ·have hc3:¬ j<k:=by simpa using hc3
       have hje:j=k:=by omega
       subst hje
       refine aa.exit rfl ?_
       refine aa.inBlock ?_
       refine aa.cg ae (by decide) fun k' hk'=>?_
       simp [h3, aZ (show j < 4611686018427387904 by omega)]   -- R3
       apply hk'
       refine IH hc1 _ _ _ ⟨by simp[h0],by simp,fun i hi=>?_⟩
       rcases Nat.lt_or_ge i j with h | h
       ·exact hall i h
       ·rw[show i=j by omega,jv,hgk,hb,xj hc1 hno]
        rfl
   simp [h0, h3, hc1, Control.cells]   -- R4
   refine aG.aB ae (ug sig[k].name (Nat.le_trans (hs _ (List.getElem_mem hc1)) (by decide))) G4 (.cons (.v _ _ _) .nil) (by decide) (by decide) rfl (by simp) ?_
   rintro _ rfl
   cases hnm:oU sig[k].name
   ·simp[guardOf]
    exact fin _ (by simp[h0,Control.cells]) (by simp[h3]) (by simp only[cO,hnm];simp)
   ·simp[h0,h3,hc1,Control.cells,guardOf]
    refine aG.aB ae (eZ sig[k].ports 0 3) e93 (.cons (.v _ _ _) (.cons (.v _ _ _) (.cons (.v _ _ _) .nil))) (by decide) (by decide) rfl (by simp) ?_
    rintro _ rfl
    cases hpo:within sig[k].ports 0 3
    ·simp[guardOf]
     exact fin _ (by simp[h0,Control.cells]) (by simp[h3]) (by simp only[cO,hnm,hpo];simp)
    ·simp[h0,h3,hc1,Control.cells,guardOf]
     refine aG.aB ae (eZ sig[k].kind 0 2) e93 (.cons (.v _ _ _) (.cons (.v _ _ _) (.cons (.v _ _ _) .nil))) (by decide) (by decide) rfl (by simp) ?_
     rintro _ rfl
     simp[guardOf]
     exact fin _ (by simp[h0,Control.cells]) (by simp[h3]) (by simp only[cO,hnm,hpo];simp)
  ·have hc1:¬ k<sig.length:=by simpa using hc1
   have hke:k=sig.length:=by omega
   subst hke
   refine aa.exit rfl ?_
   refine aa.au ae (by decide) fun k' hk'=>?_
   simp [h0]   -- R11
   refine aG.aB ae (eZ sig.length 1 6) e93 (.cons (.v _ _ _) (.cons (.v _ _ _) (.cons (.v _ _ _) .nil))) (by decide) (by decide) rfl (by simp) ?_
   rintro _ rfl
   simp
   apply hk'
   exact aa.ret Tryz.func99 (aK.one Tryz.results99) (hQ _ _ _ _ (.v _ _ _) (by rw[iB,dJ hall,Bool.and_true]))
end Go.Ab
/- Contract of impl.IsBigraph. -/
namespace Go.Ab
open Go.Proofs
set_option linter.unusedSimpArgs false
theorem Gs:Ent Tryz.prog 107:=Ent.of Tryz.func107 (by kernel_rfl) rfl
theorem HW:Ent Tryz.prog 153:=Ent.of Tryz.func153 (by kernel_rfl) rfl
theorem Jd:Ent Tryz.prog 155:=Ent.of Tryz.func155 (by kernel_rfl) rfl
theorem Jg:Ent Tryz.prog 157:=Ent.of Tryz.func157 (by kernel_rfl) rfl
structure bZ (sig:Sig) (b:Big):Prop where
 sigLen:sig.length≤1048576
 sigNames:∀ c ∈ sig,c.name.length≤1048576
 nodesLen:b.nodes.length≤1048576
 sitesLen:b.sites.length≤1048576
 outerLen:b.outer.length≤1048576
 innerLen:b.inner.length≤1048576
 outerNames:∀ s ∈ b.outer,s.length≤1048576
 innerNames:∀ w ∈ b.inner,w.name.length≤1048576
 linksLen:∀ x ∈ b.nodes,x.links.length≤1048576
 parents:∀ x ∈ b.nodes,I64 x.parent
 sites64:∀ p ∈ b.sites,I64 p
theorem Gg {H:ak} {n:Nat} {X:Id} (b:Big) (he:0≤b.edges∧b.edges≤8) (ho:b.outer.length≤1048576) (hX:H X=some ⟨6,[b.cells false]⟩) (l:Int):fA Tryz.prog H n (.fn (.func 153) [] [.ptr X 1 0 0]) [int l] (fun r=>r=bool (!dd b l)):=by
 refine⟨153,[],[.ptr X 1 0 0],rfl,HW,?_⟩
 have hX':=hX
 simp only[Big.cells] at hX'
 refine cI.of Tryz.func153 rfl Tryz.ntmps153 (by simp) fun Q hB hQ=>?_
 refine aa.au ae (by decide) fun k' hk'=>?_
 simp   -- R0
 apply hk'
 refine aa.au ae (by decide) fun k' hk'=>?_
 simp [hX']   -- R1
 refine aG.aB ae (ud b l he ho) Ht (.cons (aF.cv false b) (.cons (.v _ _ _) .nil)) (by decide) (by decide) rfl (by simp[cv,Big.cells]) ?_
 rintro _ rfl
 simp
 apply hk'
 exact aa.ret Tryz.func153 (aK.one Tryz.results153) (hQ _ _ _ _ (.bnd (.v _)) (Frame.refl _ _) (by simp))
theorem F4 {H:ak} {n:Nat} {X:Id} (b:Big) (he:0≤b.edges∧b.edges≤8) (ho:b.outer.length≤1048576) (hX:H X=some ⟨6,[b.cells false]⟩) (w:aA):fA Tryz.prog H n (.fn (.func 157) [] [.ptr X 1 0 0]) [.agg w.cells] (fun r=>r=bool (!dd b w.link)):=by
 refine⟨157,[],[.ptr X 1 0 0],rfl,Jg,?_⟩
 have hX':=hX
 simp only[Big.cells] at hX'
 refine cI.of Tryz.func157 rfl Tryz.ntmps157 (by simp) fun Q hB hQ=>?_
 have hXn:=(hB X _ hX).1
 have hX2:¬ X=(n,2):=by rintro rfl;simp at hXn
 refine aa.au ae (by decide) fun k' hk'=>?_
 simp [aA.cells]   -- R0
 apply hk'
 refine aa.au ae (by decide) fun k' hk'=>?_
 simp [hX2, hX']   -- R1
 refine aG.aB ae (ud b w.link he ho) Ht (.cons (aF.cv false b) (.cons (.v _ _ _) .nil)) (by decide) (by decide) rfl (by simp[cv,Big.cells]) ?_
 rintro _ rfl
 simp
 apply hk'
 exact aa.ret Tryz.func157 (aK.one Tryz.results157) (hQ _ _ _ _ (.bnd (.v _)) (Frame.set (by simp) (Frame.refl _ _)) (by simp))
theorem F7 {H:ak} {n:Nat} {X Y:Id} (sig:Sig) (b:Big) (hr:0≤b.roots∧b.roots≤4) (hc:pV sig b b.nodes.length) (hX:H X=some ⟨6,[b.cells false]⟩) (hY:H Y=some ⟨1,[[bl false sig]]⟩) (p:Int) :
  fA Tryz.prog H n (.fn (.func 155) [] [.ptr X 1 0 0,.ptr Y 1 0 0]) [int p] (fun r=>r=bool (!bK sig b p b.nodes.length)):=by
 refine⟨155,[],[.ptr X 1 0 0,.ptr Y 1 0 0],rfl,Jd,?_⟩
 have hX':=hX
 simp only[Big.cells,bW] at hX'
 have hY':=hY
 simp only[bl] at hY'
 refine cI.of Tryz.func155 rfl Tryz.ntmps155 (by simp) fun Q hB hQ=>?_
 refine aa.au ae (by decide) fun k' hk'=>?_
 simp   -- R0
 apply hk'
 refine aa.au ae (by decide) fun k' hk'=>?_
 simp [hX', hY']   -- R1
 refine aG.aB ae (pZ sig b p b.nodes.length hr (Nat.le_refl _) hc) HG (.cons (aF.cv false b) (.cons (aF.bl false sig) (.cons (.v _ _ _) (.cons (.v _ _ _) .nil)))) (by decide) (by decide) rfl (by simp[cv,Big.cells,bW,bl]) ?_
 rintro _ rfl
 simp
 apply hk'
 exact aa.ret Tryz.func155 (aK.one Tryz.results155) (hQ _ _ _ _ (.bnd (.v _)) (Frame.refl _ _) (by simp))
theorem wU {sig:Sig} {b:Big} {k:Nat} (h:cn sig b k=true) (hk:pV sig b k):pV sig b (k+1):=by
 intro i hi
 rcases Nat.lt_or_ge i k with h1 | h1
 ·exact hk i h1
 ·have:i=k:=by omega
  subst this
  simp only[cn,within,Bool.and_eq_true,decide_eq_true_eq] at h
  omega
def dx (sig:Sig) (b:Big):Bool:=
 fN sig && within b.roots 0 4 && decide (b.nodes.length≤8) && decide (b.sites.length≤4) && within b.edges 0 8 && cQ b.outer && cQ (names b)
theorem eC (sig:Sig) (b:Big):fx sig b=(dx sig b && (List.range b.nodes.length).all (cn sig b) && b.sites.all (fun p=>bK sig b p b.nodes.length) && b.inner.all (fun w=>dd b w.link)):=rfl
theorem uX {α:Type} (l:List α) (p:α→Bool):(l.any fun x => !p x) = !l.all p:=by
 induction l with
 | nil=>rfl
 | cons a l ih=>simp[ih]
theorem kv (sig:Sig) (b:Big) (hs:bZ sig b):aq Tryz.prog 107 [bl false sig,cv false b] (fun r=>r=bool (fx sig b)):=by
 obtain⟨s1,s2,s3,s4,s5,s6,s7,s8,s9,_,_⟩:=hs
 have hnl:(names b).length≤1048576:=by simpa[names] using s6
 have hnn:∀ s ∈ names b,s.length≤1048576:=by
  intro s hs
  obtain⟨w,hw,rfl⟩:=List.mem_map.1 hs
  exact s8 w hw
 refine aq.of Tryz.func107 rfl Tryz.ntmps107 (by simp) fun Q hQ=>?_
 refine aa.au ae (by decide) fun k' hk'=>?_
 simp [bl, cv, Big.cells]   -- R0
 apply hk'
 refine aa.cut (fun ρ H n=>ρ 2 = .ptr (0,2) 1 0 0∧ρ 3 = .ptr (1,3) 1 0 0∧H (0,2)=some ⟨1,[[bl false sig]]⟩∧H (1,3)=some ⟨6,[b.cells false]⟩) ⟨by simp,by simp,by simp[bl],by simp[Big.cells]⟩ ?_
 clear hk'
 rintro ρ H n ⟨h2,h3,hm2,hm3⟩
 have hm2':=hm2
 simp only[bl] at hm2'
 have hm3':=hm3
 simp only[Big.cells,bW,encI,encS,cb] at hm3'
 refine aa.seq ?_
 refine aa.au ae (by decide) fun k' hk'=>?_
 have fin:∀ ρ:Env,ρ 2 = .ptr (0,2) 1 0 0→ρ 3 = .ptr (1,3) 1 0 0→ρ 45=bool (!dx sig b)→aa Tryz.prog 107 101 k' ρ H n Q:=by
  intro ρ h2 h3 h45
  apply hk'
  refine aa.ite h45 (fun hc1 => ?_) (fun hc1 => ?_)   -- t45
  ·have hb:dx sig b=false:=by simpa using hc1
   refine aa.au ae (by decide) fun k' hk'=>?_
   simp   -- R2
   apply hk'
   exact aa.ret Tryz.func107 (aK.one Tryz.results107) (hQ _ _ _ _ (.v _ _ _) (by rw[eC,hb];rfl))
  ·have hb:dx sig b=true:=by simpa using hc1
   have hb':=hb
   simp only[dx,within,Bool.and_eq_true,decide_eq_true_eq] at hb'
   obtain⟨⟨⟨⟨⟨⟨_,hr⟩,hn8⟩,_⟩,hed⟩,_⟩,_⟩:=hb'
   refine aa.skip ?_
   refine aa.seq ?_
   refine aa.au ae (by decide) fun k' hk'=>?_
   simp [h3, hm3']   -- R3
   apply hk'
   refine aa.block (aa.b6 b.nodes.length (fun k ρ H n=>ρ 2 = .ptr (0,2) 1 0 0∧ρ 3 = .ptr (1,3) 1 0 0∧ρ 47 = .list false (b.nodes.map (aj.cells false))∧ρ 48=int b.nodes.length∧ρ 49=int k ∧
    H (0,2)=some ⟨1,[[bl false sig]]⟩∧H (1,3)=some ⟨6,[b.cells false]⟩∧pV sig b k∧(∀ i,i<k→cn sig b i=true)) ?_ ?_)
   ·exact⟨by simp[h2],by simp[h3],by simp,by simp,by simp,hm2,hm3,fun i hi=>by omega,fun i hi=>by omega⟩
   ·clear h2 h3 hm2' hm3'
    rintro k ρ H n hk ⟨h2,h3,h47,h48,h49,hm2,hm3,hctl,hall⟩ IH
    have hm2':=hm2
    simp only[bl] at hm2'
    have hm3':=hm3
    simp only[Big.cells,bW,encI,encS,cb] at hm3'
    refine aa.au ae (by decide) fun k' hk'=>?_
    simp [h48, h49]   -- R4
    apply hk'
    refine aa.seq ?_
    refine aa.ite rfl (fun hc2 => ?_) (fun hc2 => ?_)   -- t50
    ·have hc2:k<b.nodes.length:=by simpa using hc2
     have hgk:b.nodes.getD k default=b.nodes[k]:=by simp[hc2]
     refine aa.skip ?_
     refine aa.seq ?_
     refine aa.block ?_
     refine aa.au ae (by decide) fun k' hk'=>?_
     simp [h47, h49, hc2, aj.cells]   -- R5
     apply hk'
     refine aa.cut (fun ρ H m=>ρ 2 = .ptr (0,2) 1 0 0∧ρ 3 = .ptr (1,3) 1 0 0∧ρ 47 = .list false (b.nodes.map (aj.cells false))∧ρ 48=int b.nodes.length∧ρ 49=int k∧ρ 5=int k∧ρ 6 = .ptr (n,6) 1 0 0 ∧
      H (0,2)=some ⟨1,[[bl false sig]]⟩∧H (1,3)=some ⟨6,[b.cells false]⟩∧H (n,6)=some ⟨3,[b.nodes[k].cells false]⟩∧m=n+1) ?_ ?_
     ·exact⟨by simp[h2],by simp[h3],by simp[h47],by simp[h48],by simp[h49],by simp,by simp,by simp[hm2],by simp[hm3],by simp[aj.cells],rfl⟩
     clear hk' h2 h3 h47 h48 h49 hm2 hm3 hm2' hm3'
     rintro ρ H m ⟨h2,h3,h47,h48,h49,h5,h6,hm2,hm3,hm6,rfl⟩
     have hm2':=hm2
     simp only[bl] at hm2'
     have hm3':=hm3
     simp only[Big.cells,bW,encI,encS,cb] at hm3'
     have hm6':=hm6
     simp only[aj.cells] at hm6'
     refine aa.eo ae aD bU (by decide) (by kernel_rfl) fun k' hk'=>?_
     have fin:∀ ρ:Env,ρ 2 = .ptr (0,2) 1 0 0→ρ 3 = .ptr (1,3) 1 0 0→ρ 47 = .list false (b.nodes.map (aj.cells false))→ρ 48=int b.nodes.length→ρ 49=int k→ρ 87=bool (!cn sig b k)→aa Tryz.prog 107 101 k' ρ H (n+1) Q:=by
      intro ρ h2 h3 h47 h48 h49 h87
      apply hk'
      refine aa.ite h87 (fun hc3 => ?_) (fun hc3 => ?_)   -- t87
      ·have hb:cn sig b k=false:=by simpa using hc3
       refine aa.au ae (by decide) fun k' hk'=>?_
       simp   -- R7
       apply hk'
       exact aa.ret Tryz.func107 (aK.one Tryz.results107) (hQ _ _ _ _ (.v _ _ _) (by rw[eC,dM hc2 hb,Bool.and_false];rfl))
      ·have hb:cn sig b k=true:=by simpa using hc3
       refine aa.skip ?_
       refine aa.inBlock ?_
       refine aa.cg ae (by decide) fun k' hk'=>?_
       simp [h49, aZ (show k < 4611686018427387904 by omega)]   -- R8
       apply hk'
       refine IH hc2 _ _ _ ⟨by simp[h2],by simp[h3],by simp[h47],by simp[h48],by simp,hm2,hm3,wU hb hctl,fun i hi=>?_⟩
       rcases Nat.lt_or_ge i k with h | h
       ·exact hall i h
       ·rw[show i=k by omega];exact hb
     have hw:IntKind.i64.wrap ((sig.length:Int) - 1)=(sig.length:Int) - 1:=by rw[wrap64]<;>omega
     simp [h2, h6, hm2', hm6', hw]   -- R6
     refine bn.aB ae aD (dL b.nodes[k].control 0 ((sig.length:Int) - 1)) tx (.cons (.v _ _ _) (.cons (.v _ _ _) (.cons (.v _ _ _) .nil))) (by decide) rfl (by simp) ?_
     cases q1:within b.nodes[k].control 0 ((sig.length:Int) - 1)
     ·simp[guardOf]
      exact fin _ (by simp[h2]) (by simp[h3]) (by simp[h47]) (by simp[h48]) (by simp[h49]) (by simp only[cn,hgk,q1];simp)
     simp[h2,h3,h5,h6,hm2',hm3',hm6',guardOf]
     refine bn.aB ae aD (pZ sig b b.nodes[k].parent k hr (by omega) hctl) HG (.cons (aF.cv false b) (.cons (aF.bl false sig) (.cons (.v _ _ _) (.cons (.v _ _ _) .nil)))) (by decide) rfl (by simp[cv,Big.cells,bW,encI,encS,cb,bl]) ?_
     cases q2:bK sig b b.nodes[k].parent k
     ·simp[guardOf]
      exact fin _ (by simp[h2]) (by simp[h3]) (by simp[h47]) (by simp[h48]) (by simp[h49]) (by simp only[cn,hgk,q2];simp)
     have q1':=q1
     simp only[within,Bool.and_eq_true,decide_eq_true_eq] at q1'
     obtain⟨c,hc⟩:∃ c:Nat,b.nodes[k].control=c:=⟨b.nodes[k].control.toNat,by omega⟩
     have hcl:c<sig.length:=by omega
     have q1c:=q1
     rw[hc] at q1c
     have hgc:sig.getD c default=sig[c]:=by simp[hcl]
     by_cases q3:(b.nodes[k].links.length:Int)=sig[c].ports
     ·have q3':((b.nodes[k].links.length:Int) != sig[c].ports)=false:=by simpa using q3
      simp[h2,h3,h6,hm2',hm6',hc,hcl,q3',Control.cells,guardOf]
      refine bn.lW ae aD (di false b.nodes[k].links (fun l => !dd b l) (s9 _ (List.getElem_mem hc2)) (fun l _=>Gg b hed s5 hm3 l)) DQ (by decide) rfl (by simp) ?_
      simp
      refine fin _ (by simp[h2]) (by simp[h3]) (by simp[h47]) (by simp[h48]) (by simp[h49]) ?_
      simp only[cn,hgk,q1c,q2,hc,Int.toNat_natCast,hgc,q3,uX]
      simp
     ·have q3':((b.nodes[k].links.length:Int) != sig[c].ports)=true:=by simpa using q3
      simp[h2,h3,h6,hm2',hm6',hc,hcl,q3',Control.cells,guardOf]
      exact fin _ (by simp[h2]) (by simp[h3]) (by simp[h47]) (by simp[h48]) (by simp[h49]) (by simp only[cn,hgk,q1c,q2,hc,Int.toNat_natCast,hgc,q3];simp)
    ·have hc2:¬ k<b.nodes.length:=by simpa using hc2
     have hke:k=b.nodes.length:=by omega
     subst hke
     have hnodes:=dJ hall
     refine aa.exit rfl ?_
     refine aa.au ae (by decide) fun k' hk'=>?_
     simp [h2, h3, hm3']   -- R9
     refine aG.lW ae (di false b.sites (fun p => !bK sig b p b.nodes.length) s4 (fun p _=>F7 sig b hr hctl hm3 hm2 p)) DQ (by decide) (by decide) rfl (by simp) ?_
     rintro _ rfl
     rw[uX]
     cases r1:b.sites.all (fun p=>bK sig b p b.nodes.length)
     ·simp[guardOf]
      apply hk'
      exact aa.ret Tryz.func107 (aK.one Tryz.results107) (hQ _ _ _ _ (.v _ _ _) (by rw[eC,r1];simp))
     ·simp[h3,hm3',guardOf]
      refine aG.lW ae (pk false b.inner (fun w => !dd b w.link) s6 (fun w _=>F4 b hed s5 hm3 w)) Ih (by decide) (by decide) rfl (by simp) ?_
      rintro _ rfl
      rw[uX]
      simp
      apply hk'
      exact aa.ret Tryz.func107 (aK.one Tryz.results107) (hQ _ _ _ _ (.v _ _ _) (by rw[eC,hb,hnodes,r1];simp))
 simp [h2, hm2']   -- R1
 refine aG.aB ae (rC sig s1 s2) Jc (.cons (aF.bl false sig) .nil) (by decide) (by decide) rfl (by simp[bl]) ?_
 rintro _ rfl
 cases p1:fN sig
 ·simp[guardOf]
  exact fin _ (by simp[h2]) (by simp[h3]) (by simp only[dx,p1];simp)
 simp[h3,hm3',guardOf]
 refine aG.aB ae (dL b.roots 0 4) tx (.cons (.v _ _ _) (.cons (.v _ _ _) (.cons (.v _ _ _) .nil))) (by decide) (by decide) rfl (by simp) ?_
 rintro _ rfl
 cases p2:within b.roots 0 4
 ·simp[guardOf]
  exact fin _ (by simp[h2]) (by simp[h3]) (by simp only[dx,p2];simp)
 by_cases p3:(8:Int)<b.nodes.length
 ·simp[h3,hm3',p3,guardOf]
  exact fin _ (by simp[h2]) (by simp[h3]) (by simp only[dx,show ¬ b.nodes.length≤8 by omega];simp)
 by_cases p4:(4:Int)<b.sites.length
 ·simp[h3,hm3',p3,p4,guardOf]
  exact fin _ (by simp[h2]) (by simp[h3]) (by simp only[dx,show ¬ b.sites.length≤4 by omega];simp)
 simp[h3,hm3',p3,p4,guardOf]
 refine aG.aB ae (dL b.edges 0 8) tx (.cons (.v _ _ _) (.cons (.v _ _ _) (.cons (.v _ _ _) .nil))) (by decide) (by decide) rfl (by simp) ?_
 rintro _ rfl
 cases p5:within b.edges 0 8
 ·simp[guardOf]
  exact fin _ (by simp[h2]) (by simp[h3]) (by simp only[dx,p5];simp)
 simp[h3,hm3',guardOf]
 refine aG.aB ae (pX b.outer s5 s7) GV (.cons (aF.encS false b.outer) .nil) (by decide) (by decide) rfl (by simp[encS]) ?_
 rintro _ rfl
 cases p6:cQ b.outer
 ·simp[guardOf]
  exact fin _ (by simp[h2]) (by simp[h3]) (by simp only[dx,p6];simp)
 simp[h3,hm3',guardOf]
 refine aG.aB ae (tu b s6) Iu (.cons (aF.cv false b) .nil) (by decide) (by decide) rfl (by simp[cv,Big.cells,bW,encI,encS,cb]) ?_
 rintro _ rfl
 simp
 refine aG.aB ae (pX (names b) hnl hnn) GV (.cons (aF.encS true (names b)) .nil) (by decide) (by decide) rfl (by simp[encS]) ?_
 rintro _ rfl
 simp
 exact fin _ (by simp[h2]) (by simp[h3]) (by simp only[dx,p1,p2,p5,p6,show b.nodes.length≤8 by omega,show b.sites.length≤4 by omega];simp)
end Go.Ab
/- Contracts of spec.l2Node and spec.l2Good. -/
namespace Go.Ab
open Go.Proofs
set_option linter.unusedSimpArgs false
theorem e39:Ent Tryz.prog 39:=Ent.of Tryz.func39 (by kernel_rfl) rfl
theorem HY:Ent Tryz.prog 102:=Ent.of Tryz.func102 (by kernel_rfl) rfl
theorem vP {α:Type} {l:List α} {p:α→Bool} {k:Nat} (hk:k<l.length) (h:p l[k]=false):l.all p=false:=by
 rw[List.all_eq_false]
 exact⟨l[k],List.getElem_mem hk,by simp[h]⟩
theorem vE {α:Type} {l:List α} {p:α→Bool} (h:∀ i (hi:i<l.length),p l[i]=true):l.all p=true:=by
 rw[List.all_eq_true]
 intro x hx
 obtain⟨i,hi,rfl⟩:=List.getElem_of_mem hx
 exact h i hi
theorem Cj (sig:Sig) (b:Big) (hs:bZ sig b) (k:Nat) (hk:k<b.nodes.length) (hr:0≤b.roots∧b.roots≤4) (he:0≤b.edges∧b.edges≤8) (hctl:pV sig b k) :
  aq Tryz.prog 102 [bl false sig,cv false b,int k] (fun r=>r=bool (cn sig b k)):=by
 have hgk:b.nodes.getD k default=b.nodes[k]:=by simp[hk]
 have hll:=hs.linksLen _ (List.getElem_mem hk)
 have hpar:=hs.parents _ (List.getElem_mem hk)
 have hol:=hs.outerLen
 have hsl:=hs.sigLen
 refine aq.of Tryz.func102 rfl Tryz.ntmps102 (by simp) fun Q hQ=>?_
 refine aa.au ae (by decide) fun k' hk'=>?_
 simp [bl, cv, Big.cells]   -- R0
 apply hk'
 refine aa.au ae (by decide) fun k' hk'=>?_
 simp [bW, hk, aj.cells]   -- R1
 apply hk'
 refine aa.cut (fun ρ H n=>ρ 0 = .list false (sig.map Control.cells)∧ρ 2=int k∧ρ 4 = .ptr (0,4) 1 0 0∧ρ 7 = .ptr (1,7) 1 0 0∧H (0,4)=some ⟨6,[b.cells false]⟩∧H (1,7)=some ⟨3,[b.nodes[k].cells false]⟩) ⟨by simp,by simp,by simp,by simp,by simp[Big.cells,bW,aj.cells],by simp[aj.cells]⟩ ?_
 clear hk'
 rintro ρ H n ⟨h0,h2,h4,h7,hm4,hm7⟩
 have hm4':=hm4
 simp only[Big.cells,bW,encI,encS,cb] at hm4'
 have hm7':=hm7
 simp only[aj.cells] at hm7'
 refine aa.seq ?_
 refine aa.eo ae aD bU (by decide) (by kernel_rfl) fun k' hk'=>?_
 have fin:∀ (ρ:Env) (pre:Bool),ρ 4 = .ptr (0,4) 1 0 0→ρ 7 = .ptr (1,7) 1 0 0→ρ 41=bool (!pre)→cn sig b k=(pre && b.nodes[k].links.all (dd b))→aa Tryz.prog 102 57 k' ρ H n Q:=by
  intro ρ pre h4 h7 h41 hpre
  apply hk'
  refine aa.ite h41 (fun hc1 => ?_) (fun hc1 => ?_)   -- t41
  ·have hb:pre=false:=by simpa using hc1
   refine aa.au ae (by decide) fun k' hk'=>?_
   simp   -- R3
   apply hk'
   exact aa.ret Tryz.func102 (aK.one Tryz.results102) (hQ _ _ _ _ (.v _ _ _) (by rw[hpre,hb];rfl))
  ·have hb:pre=true:=by simpa using hc1
   rw[hb,Bool.true_and] at hpre
   refine aa.skip ?_
   refine aa.seq ?_
   refine aa.au ae (by decide) fun k' hk'=>?_
   simp   -- R4
   apply hk'
   refine aa.block (aa.b6 b.nodes[k].links.length (fun j ρ' H' n'=>ρ' 4 = .ptr (0,4) 1 0 0∧ρ' 7 = .ptr (1,7) 1 0 0∧ρ' 8=int j∧H'=H∧n'=n∧∀ i (hi:i<b.nodes[k].links.length),i<j→dd b b.nodes[k].links[i]=true) ?_ ?_)
   ·exact⟨by simp[h4],by simp[h7],by simp,rfl,rfl,fun i hi h=>by omega⟩
   ·clear h4 h7
    rintro j ρ H' n' hj ⟨h4,h7,h8,rfl,rfl,hall⟩ IH
    refine aa.seq ?_
    refine aa.au ae (by decide) fun k' hk'=>?_
    simp [h7, h8, hm7']   -- R5
    apply hk'
    refine aa.ite rfl (fun hc2 => ?_) (fun hc2 => ?_)   -- t46
    ·have hc2:j<b.nodes[k].links.length:=by simpa using hc2
     refine aa.skip ?_
     refine aa.seq ?_
     refine aa.block ?_
     refine aa.eo ae aD bU (by decide) (by kernel_rfl) fun k' hk'=>?_
     simp [h4, h7, h8, hm4', hm7', hc2, al]   -- R7
     refine bn.aB ae aD (tS b b.nodes[k].links[j] he hol) Hk (.cons (aF.cv false b) (.cons (.v _ _ _) .nil)) (by decide) rfl (by simp[cv,Big.cells,bW,encI,encS,cb,al]) ?_
     simp
     apply hk'
     refine aa.ite rfl (fun hc3 => ?_) (fun hc3 => ?_)   -- t56
     ·have hb3:dd b b.nodes[k].links[j]=false:=by simpa using hc3
      refine aa.au ae (by decide) fun k' hk'=>?_
      simp   -- R8
      apply hk'
      exact aa.ret Tryz.func102 (aK.one Tryz.results102) (hQ _ _ _ _ (.v _ _ _) (by rw[hpre,vP hc2 hb3]))
     ·have hb3:dd b b.nodes[k].links[j]=true:=by simpa using hc3
      refine aa.skip ?_
      refine aa.inBlock ?_
      refine aa.cg ae (by decide) fun k' hk'=>?_
      simp [h8, aZ (show j < 4611686018427387904 by omega)]   -- R6
      apply hk'
      refine IH hc2 _ _ _ ⟨by simp[h4],by simp[h7],by simp,rfl,rfl,fun i hi hij=>?_⟩
      rcases Nat.lt_or_ge i j with h | h
      ·exact hall i hi h
      ·have:i=j:=by omega
       subst this
       exact hb3
    ·have hc2:¬ j<b.nodes[k].links.length:=by simpa using hc2
     have hje:j=b.nodes[k].links.length:=by omega
     subst hje
     refine aa.exit rfl ?_
     refine aa.au ae (by decide) fun k' hk'=>?_
     simp   -- R9
     apply hk'
     exact aa.ret Tryz.func102 (aK.one Tryz.results102) (hQ _ _ _ _ (.v _ _ _) (by rw[hpre,vE fun i hi=>hall i hi hi]))
 have hw:IntKind.i64.wrap ((sig.length:Int) - 1)=(sig.length:Int) - 1:=by rw[wrap64]<;>omega
 simp [h0, h7, hm7', hw]   -- R2
 refine bn.aB ae aD (eZ b.nodes[k].control 0 ((sig.length:Int) - 1)) e93 (.cons (.v _ _ _) (.cons (.v _ _ _) (.cons (.v _ _ _) .nil))) (by decide) rfl (by simp) ?_
 cases q1:within b.nodes[k].control 0 ((sig.length:Int) - 1)
 ·simp[guardOf]
  exact fin _ false (by simp[h4]) (by simp[h7]) (by simp) (by simp only[cn,hgk,q1];simp)
 simp[h0,h2,h4,h7,hm4',hm7',guardOf]
 refine bn.aB ae aD (rH sig b b.nodes[k].parent k hpar hr (by omega) hctl) HN (.cons (aF.bl false sig) (.cons (aF.cv false b) (.cons (.v _ _ _) (.cons (.v _ _ _) .nil)))) (by decide) rfl (by simp[cv,Big.cells,bW,encI,encS,cb,bl]) ?_
 cases q2:bK sig b b.nodes[k].parent k
 ·simp[guardOf]
  exact fin _ false (by simp[h4]) (by simp[h7]) (by simp) (by simp only[cn,hgk,q2];simp)
 have q1':=q1
 simp only[within,Bool.and_eq_true,decide_eq_true_eq] at q1'
 obtain⟨c,hc⟩:∃ c:Nat,b.nodes[k].control=c:=⟨b.nodes[k].control.toNat,by omega⟩
 have hcl:c<sig.length:=by omega
 have q1c:=q1
 rw[hc] at q1c
 have hgc:sig.getD c default=sig[c]:=by simp[hcl]
 by_cases q3:(b.nodes[k].links.length:Int)=sig[c].ports
 ·have q3':((b.nodes[k].links.length:Int) != sig[c].ports)=false:=by simpa using q3
  simp[h0,h7,hm7',hc,hcl,q3',Control.cells,guardOf]
  exact fin _ true (by simp[h4]) (by simp[h7]) (by simp) (by simp only[cn,hgk,q1c,q2,hc,Int.toNat_natCast,hgc,q3];simp)
 ·have q3':((b.nodes[k].links.length:Int) != sig[c].ports)=true:=by simpa using q3
  simp[h0,h7,hm7',hc,hcl,q3',Control.cells,guardOf]
  exact fin _ false (by simp[h4]) (by simp[h7]) (by simp) (by simp only[cn,hgk,q1c,q2,hc,Int.toNat_natCast,hgc,q3];simp)
end Go.Ab
