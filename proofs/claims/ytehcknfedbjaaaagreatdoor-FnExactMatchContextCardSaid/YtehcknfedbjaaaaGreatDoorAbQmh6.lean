/- Merged texts (6 of 18) of the proof that ends in Mhy: Shelf S Q aa Ga Sn Vp W Gb Gc Gd. -/
import Derived.Test.YtehcknfedbjaaaaGreatDoorAbQmh5
import Derived.Shelf.Strings.Trim
import Derived.Shelf.Small.Utf8
import Derived.Shelf.Small.Bits
import Derived.Shelf.Small.Strs
import Derived.Shelf.Small.Wraps
import Derived.Shelf.Strconv.Itoa0
import Derived.Shelf.Strings.Search1
import Derived.Shelf.Sort.Plain
import Derived.Shelf.Strings.Runes
import Derived.Shelf.Strings.AsciiSet
import Derived.Shelf.Bits.Mul64
import Derived.Shelf.Unicode.DecodeSlow
import Derived.Shelf.Slices.Turned
import Derived.Ground.Names2Prog
import Derived.Shelf.Slices.Clone
import Derived.Shelf.Slices.CompactI
import Derived.Shelf.Slices.CompactS
import Derived.Shelf.Slices.In.SortNone
import Derived.Ground.SlsfProg
import Derived.Shelf.SlSortCmp.Insertion
import Derived.Shelf.SlSortCmp.SiftDown1
import Derived.Shelf.SlSortCmp.HeapSort1
import Derived.Shelf.SlSortCmp.Insertion1
import Derived.Shelf.SlSortCmp.Median1
import Derived.Shelf.SlSortCmp.Pivot1
import Derived.Shelf.SlSortCmp.ReverseRange1
import Derived.Shelf.SlSortCmp.PartialInsertion1
import Derived.Shelf.SlSortCmp.PartitionEqual1
import Derived.Shelf.SlSortCmp.Partition1
import Derived.Shelf.SlSortCmp.Pdq1
import Derived.Shelf.SlSortCmp.Whole1
import Derived.Shelf.SlSortCmp.NoneTotal
import Derived.Test.YtehcknfedbjaaaaGreatDoorProg
import Derived.Shelf.Strings.SlTrimAscii
import Derived.Lib.Join
set_option linter.unusedSectionVars false
set_option linter.unusedSimpArgs false
set_option linter.unusedVariables false
open Go.Proofs.Tryz
namespace Go.Proofs
open Go.Shelf
def Tryz.Al:Go.Shelf.Ren:=⟨fun | 160=>225 | 232=>238 | 231=>237 | 227=>239 | 234=>241 | 233=>240 | 236=>243 | 235=>242 | 228=>248 | 271=>251 | 151=>250 | 197=>249 | 120=>255 | 152=>254 | 260=>253 | 137=>256 | 119=>257 | 224=>258 | 225=>259 | 217=>260 | 266=>261 | n=>n,fun | 9=>9 | 4=>4 | 3=>3 | 5=>5 | 117=>233 | 116=>232 | 0=>0 | 124=>236 | 21=>21 | 105=>240 | 46=>107 | 119=>245 | 139=>248 | 138=>247 | n=>n,fun | 3=>0 | 4=>1 | n=>n⟩
theorem Tryz.Ix:Go.Proofs.Lays.n160 prog Tryz.Al:={
 mixed:=by kernel_rfl
 f119:=Tryz.func257.trans (congrArg some (by kernel_rfl))
 f120:=Tryz.func255.trans (congrArg some (by kernel_rfl))
 f137:=Tryz.func256.trans (congrArg some (by kernel_rfl))
 f151:=Tryz.func250.trans (congrArg some (by kernel_rfl))
 f152:=Tryz.func254.trans (congrArg some (by kernel_rfl))
 f160:=Tryz.func225.trans (congrArg some (by kernel_rfl))
 f197:=Tryz.func249.trans (congrArg some (by kernel_rfl))
 f217:=Tryz.func260.trans (congrArg some (by kernel_rfl))
 f224:=Tryz.func258.trans (congrArg some (by kernel_rfl))
 f225:=Tryz.func259.trans (congrArg some (by kernel_rfl))
 f227:=Tryz.func239.trans (congrArg some (by kernel_rfl))
 f228:=Tryz.func248.trans (congrArg some (by kernel_rfl))
 f231:=Tryz.func237.trans (congrArg some (by kernel_rfl))
 f232:=Tryz.func238.trans (congrArg some (by kernel_rfl))
 f233:=Tryz.func240.trans (congrArg some (by kernel_rfl))
 f234:=Tryz.func241.trans (congrArg some (by kernel_rfl))
 f235:=Tryz.func242.trans (congrArg some (by kernel_rfl))
 f236:=Tryz.func243.trans (congrArg some (by kernel_rfl))
 f260:=Tryz.func253.trans (congrArg some (by kernel_rfl))
 f266:=Tryz.func261.trans (congrArg some (by kernel_rfl))
 f271:=Tryz.func251.trans (congrArg some (by kernel_rfl))
 t0:=Tryz.underlying0
 a0:=Tryz.isAgg0
 z0:=Tryz.sizeOf0
 v0:=Tryz.zeroValue0
 t3:=Tryz.underlying3
 a3:=Tryz.isAgg3
 z3:=Tryz.sizeOf3
 v3:=Tryz.zeroValue3
 t4:=Tryz.underlying4
 a4:=Tryz.isAgg4
 z4:=Tryz.sizeOf4
 v4:=Tryz.zeroValue4
 t5:=Tryz.underlying5
 a5:=Tryz.isAgg5
 z5:=Tryz.sizeOf5
 v5:=Tryz.zeroValue5
 t9:=Tryz.underlying9
 a9:=Tryz.isAgg9
 z9:=Tryz.sizeOf9
 v9:=Tryz.zeroValue9
 t21:=Tryz.underlying21
 a21:=Tryz.isAgg21
 z21:=Tryz.sizeOf21
 v21:=Tryz.zeroValue21
 t46:=Tryz.underlying107
 a46:=Tryz.isAgg107
 z46:=Tryz.sizeOf107
 v46:=Tryz.zeroValue107
 t105:=Tryz.underlying240
 a105:=Tryz.isAgg240
 z105:=Tryz.sizeOf240
 v105:=Tryz.zeroValue240
 t116:=Tryz.underlying232
 a116:=Tryz.isAgg232
 z116:=Tryz.sizeOf232
 t117:=Tryz.underlying233
 a117:=Tryz.isAgg233
 z117:=Tryz.sizeOf233
 v117:=Tryz.zeroValue233
 t119:=Tryz.underlying245
 a119:=Tryz.isAgg245
 z119:=Tryz.sizeOf245
 t124:=Tryz.underlying236
 a124:=Tryz.isAgg236
 z124:=Tryz.sizeOf236
 v124:=Tryz.zeroValue236
 t138:=Tryz.underlying247
 a138:=Tryz.isAgg247
 z138:=Tryz.sizeOf247
 v138:=Tryz.zeroValue247
 t139:=Tryz.underlying248
 a139:=Tryz.isAgg248
 z139:=Tryz.sizeOf248
 v139:=Tryz.zeroValue248
 g3:=by kernel_rfl
 g4:=by kernel_rfl }
def Tryz.A8:Go.Shelf.Ren:=⟨fun | 189=>41 | 125=>76 | 257=>75 | 128=>121 | 129=>122 | 294=>112 | 295=>113 | 296=>114 | 297=>115 | 298=>116 | 299=>117 | 216=>118 | 300=>119 | 301=>120 | 328=>178 | 329=>179 | 330=>180 | 331=>181 | 332=>182 | 215=>131 | 343=>214 | n=>n,fun | 28=>24 | 3=>3 | 46=>107 | 0=>0 | 51=>145 | 53=>147 | 4=>4 | 183=>137 | 182=>136 | 131=>142 | 5=>5 | 9=>9 | 218=>183 | 222=>187 | 228=>209 | 229=>210 | n=>n,fun | n=>n⟩
theorem Tryz.DR:Go.Proofs.Lays.n189 prog Tryz.A8:={
 mixed:=by kernel_rfl
 f125:=Tryz.func76.trans (congrArg some (by kernel_rfl))
 f128:=Tryz.func121.trans (congrArg some (by kernel_rfl))
 f129:=Tryz.func122.trans (congrArg some (by kernel_rfl))
 f189:=Tryz.func41.trans (congrArg some (by kernel_rfl))
 f215:=Tryz.func131.trans (congrArg some (by kernel_rfl))
 f216:=Tryz.func118.trans (congrArg some (by kernel_rfl))
 f257:=Tryz.func75.trans (congrArg some (by kernel_rfl))
 f294:=Tryz.func112.trans (congrArg some (by kernel_rfl))
 f295:=Tryz.func113.trans (congrArg some (by kernel_rfl))
 f296:=Tryz.func114.trans (congrArg some (by kernel_rfl))
 f297:=Tryz.func115.trans (congrArg some (by kernel_rfl))
 f298:=Tryz.func116.trans (congrArg some (by kernel_rfl))
 f299:=Tryz.func117.trans (congrArg some (by kernel_rfl))
 f300:=Tryz.func119.trans (congrArg some (by kernel_rfl))
 f301:=Tryz.func120.trans (congrArg some (by kernel_rfl))
 f328:=Tryz.func178.trans (congrArg some (by kernel_rfl))
 f329:=Tryz.func179.trans (congrArg some (by kernel_rfl))
 f330:=Tryz.func180.trans (congrArg some (by kernel_rfl))
 f331:=Tryz.func181.trans (congrArg some (by kernel_rfl))
 f332:=Tryz.func182.trans (congrArg some (by kernel_rfl))
 f343:=Tryz.func214.trans (congrArg some (by kernel_rfl))
 t0:=Tryz.underlying0
 a0:=Tryz.isAgg0
 z0:=Tryz.sizeOf0
 v0:=Tryz.zeroValue0
 t3:=Tryz.underlying3
 a3:=Tryz.isAgg3
 z3:=Tryz.sizeOf3
 v3:=Tryz.zeroValue3
 t4:=Tryz.underlying4
 a4:=Tryz.isAgg4
 z4:=Tryz.sizeOf4
 v4:=Tryz.zeroValue4
 t5:=Tryz.underlying5
 a5:=Tryz.isAgg5
 z5:=Tryz.sizeOf5
 v5:=Tryz.zeroValue5
 t9:=Tryz.underlying9
 a9:=Tryz.isAgg9
 z9:=Tryz.sizeOf9
 v9:=Tryz.zeroValue9
 t28:=Tryz.underlying24
 a28:=Tryz.isAgg24
 z28:=Tryz.sizeOf24
 v28:=Tryz.zeroValue24
 t46:=Tryz.underlying107
 a46:=Tryz.isAgg107
 z46:=Tryz.sizeOf107
 v46:=Tryz.zeroValue107
 t51:=Tryz.underlying145
 a51:=Tryz.isAgg145
 z51:=Tryz.sizeOf145
 v51:=Tryz.zeroValue145
 t53:=Tryz.underlying147
 a53:=Tryz.isAgg147
 z53:=Tryz.sizeOf147
 v53:=Tryz.zeroValue147
 t131:=Tryz.underlying142
 a131:=Tryz.isAgg142
 z131:=Tryz.sizeOf142
 v131:=Tryz.zeroValue142
 t182:=Tryz.underlying136
 a182:=Tryz.isAgg136
 z182:=Tryz.sizeOf136
 v182:=Tryz.zeroValue136
 t183:=Tryz.underlying137
 a183:=Tryz.isAgg137
 z183:=Tryz.sizeOf137
 v183:=Tryz.zeroValue137
 t218:=Tryz.underlying183
 a218:=Tryz.isAgg183
 z218:=Tryz.sizeOf183
 v218:=Tryz.zeroValue183
 t222:=Tryz.underlying187
 a222:=Tryz.isAgg187
 z222:=Tryz.sizeOf187
 v222:=Tryz.zeroValue187
 t228:=Tryz.underlying209
 a228:=Tryz.isAgg209
 z228:=Tryz.sizeOf209
 v228:=Tryz.zeroValue209
 t229:=Tryz.underlying210
 a229:=Tryz.isAgg210
 z229:=Tryz.sizeOf210
 v229:=Tryz.zeroValue210 }
open Go.Sort Go.RowKit in
theorem Tryz.slices_Sort_int (blk off cap:Nat) (zs:List Int) (w:World) (hH:Holds (Value.int .i64) w blk off zs.toArray) (hblk:blk<w.heap.size) (hsz:zs.length<4611686018427387904) :
  Calls prog 41 #[.slice (some ⟨blk,off,none⟩) zs.length cap] w fun e w'=>
   e = .returned (.tuple #[])/\∃ n os,w'=grow (putRow (Value.int .i64) (Sort.ahead w n) blk off (zs.mergeSort fun x y=>decide (x<=y)).toArray) os:=Any.slices_Sort_int Tryz.DR blk off cap zs w hH hblk hsz
def Tryz.zY:Go.Shelf.Ren:=⟨fun | 190=>196 | 125=>76 | 258=>220 | 128=>121 | 129=>122 | 302=>227 | 303=>228 | 304=>229 | 305=>230 | 306=>231 | 307=>232 | 308=>233 | 309=>234 | 310=>235 | 333=>244 | 329=>179 | 330=>180 | 334=>245 | 335=>246 | 336=>247 | 344=>252 | n=>n,fun | 31=>25 | 9=>9 | 3=>3 | 46=>107 | 0=>0 | 51=>145 | 53=>147 | 4=>4 | 183=>137 | 182=>136 | 131=>142 | 5=>5 | 218=>183 | 222=>187 | 228=>209 | 229=>210 | n=>n,fun | n=>n⟩
theorem Tryz.DG:Go.Proofs.Lays.n190 prog Tryz.zY:={
 mixed:=by kernel_rfl
 f125:=Tryz.func76.trans (congrArg some (by kernel_rfl))
 f128:=Tryz.func121.trans (congrArg some (by kernel_rfl))
 f129:=Tryz.func122.trans (congrArg some (by kernel_rfl))
 f190:=Tryz.func196.trans (congrArg some (by kernel_rfl))
 f258:=Tryz.func220.trans (congrArg some (by kernel_rfl))
 f302:=Tryz.func227.trans (congrArg some (by kernel_rfl))
 f303:=Tryz.func228.trans (congrArg some (by kernel_rfl))
 f304:=Tryz.func229.trans (congrArg some (by kernel_rfl))
 f305:=Tryz.func230.trans (congrArg some (by kernel_rfl))
 f306:=Tryz.func231.trans (congrArg some (by kernel_rfl))
 f307:=Tryz.func232.trans (congrArg some (by kernel_rfl))
 f308:=Tryz.func233.trans (congrArg some (by kernel_rfl))
 f309:=Tryz.func234.trans (congrArg some (by kernel_rfl))
 f310:=Tryz.func235.trans (congrArg some (by kernel_rfl))
 f329:=Tryz.func179.trans (congrArg some (by kernel_rfl))
 f330:=Tryz.func180.trans (congrArg some (by kernel_rfl))
 f333:=Tryz.func244.trans (congrArg some (by kernel_rfl))
 f334:=Tryz.func245.trans (congrArg some (by kernel_rfl))
 f335:=Tryz.func246.trans (congrArg some (by kernel_rfl))
 f336:=Tryz.func247.trans (congrArg some (by kernel_rfl))
 f344:=Tryz.func252.trans (congrArg some (by kernel_rfl))
 t0:=Tryz.underlying0
 a0:=Tryz.isAgg0
 z0:=Tryz.sizeOf0
 v0:=Tryz.zeroValue0
 t3:=Tryz.underlying3
 a3:=Tryz.isAgg3
 z3:=Tryz.sizeOf3
 v3:=Tryz.zeroValue3
 t4:=Tryz.underlying4
 a4:=Tryz.isAgg4
 z4:=Tryz.sizeOf4
 v4:=Tryz.zeroValue4
 t5:=Tryz.underlying5
 a5:=Tryz.isAgg5
 z5:=Tryz.sizeOf5
 v5:=Tryz.zeroValue5
 t9:=Tryz.underlying9
 a9:=Tryz.isAgg9
 z9:=Tryz.sizeOf9
 v9:=Tryz.zeroValue9
 t31:=Tryz.underlying25
 a31:=Tryz.isAgg25
 z31:=Tryz.sizeOf25
 v31:=Tryz.zeroValue25
 t46:=Tryz.underlying107
 a46:=Tryz.isAgg107
 z46:=Tryz.sizeOf107
 v46:=Tryz.zeroValue107
 t51:=Tryz.underlying145
 a51:=Tryz.isAgg145
 z51:=Tryz.sizeOf145
 v51:=Tryz.zeroValue145
 t53:=Tryz.underlying147
 a53:=Tryz.isAgg147
 z53:=Tryz.sizeOf147
 v53:=Tryz.zeroValue147
 t131:=Tryz.underlying142
 a131:=Tryz.isAgg142
 z131:=Tryz.sizeOf142
 v131:=Tryz.zeroValue142
 t182:=Tryz.underlying136
 a182:=Tryz.isAgg136
 z182:=Tryz.sizeOf136
 v182:=Tryz.zeroValue136
 t183:=Tryz.underlying137
 a183:=Tryz.isAgg137
 z183:=Tryz.sizeOf137
 v183:=Tryz.zeroValue137
 t218:=Tryz.underlying183
 a218:=Tryz.isAgg183
 z218:=Tryz.sizeOf183
 v218:=Tryz.zeroValue183
 t222:=Tryz.underlying187
 a222:=Tryz.isAgg187
 z222:=Tryz.sizeOf187
 v222:=Tryz.zeroValue187
 t228:=Tryz.underlying209
 a228:=Tryz.isAgg209
 z228:=Tryz.sizeOf209
 v228:=Tryz.zeroValue209
 t229:=Tryz.underlying210
 a229:=Tryz.isAgg210
 z229:=Tryz.sizeOf210
 v229:=Tryz.zeroValue210 }
open Go.Sort Go.RowKit in
theorem Tryz.slices_Sort_string (blk off cap:Nat) (ss:List (List UInt8)) (w:World) (hH:Holds encStr w blk off ss.toArray) (hblk:blk<w.heap.size) (hsz:ss.length<4611686018427387904) :
  Calls prog 196 #[.slice (some ⟨blk,off,none⟩) ss.length cap] w fun e w'=>
   e = .returned (.tuple #[])/\∃ n os,w'=grow (putRow encStr (Sort.ahead w n) blk off (ss.mergeSort fun x y=>decide (x<=y)).toArray) os:=Any.slices_Sort_string Tryz.DG blk off cap ss w hH hblk hsz
def Tryz.Ac:Go.Shelf.Ren:=⟨fun | 212=>194 | 263=>218 | 264=>219 | n=>n,fun | 46=>107 | 51=>145 | 146=>213 | 53=>147 | 148=>215 | n=>n,fun | n=>n⟩
theorem Tryz.Il:Go.Proofs.Lays.n212 prog Tryz.Ac:={
 mixed:=by kernel_rfl
 f212:=Tryz.func194.trans (congrArg some (by kernel_rfl))
 f263:=Tryz.func218.trans (congrArg some (by kernel_rfl))
 f264:=Tryz.func219.trans (congrArg some (by kernel_rfl))
 t46:=Tryz.underlying107
 a46:=Tryz.isAgg107
 z46:=Tryz.sizeOf107
 v46:=Tryz.zeroValue107
 t51:=Tryz.underlying145
 a51:=Tryz.isAgg145
 z51:=Tryz.sizeOf145
 v51:=Tryz.zeroValue145
 t53:=Tryz.underlying147
 a53:=Tryz.isAgg147
 z53:=Tryz.sizeOf147
 v53:=Tryz.zeroValue147
 t146:=Tryz.underlying213
 a146:=Tryz.isAgg213
 z146:=Tryz.sizeOf213
 v146:=Tryz.zeroValue213
 t148:=Tryz.underlying215
 a148:=Tryz.isAgg215
 z148:=Tryz.sizeOf215
 v148:=Tryz.zeroValue215 }
open Go.RowKit Go.Lib in
theorem Tryz.bits_Mul (x y:Nat) (hx:x<18446744073709551616) (hy:y<18446744073709551616) (w:World) :
  Calls prog 194 #[.int .u64 x,.int .u64 y] w fun e w'=>e = .returned (.tuple #[.int .u64 ((x * y / 18446744073709551616:Nat):Int),.int .u64 ((x * y % 18446744073709551616:Nat):Int)])/\w'=w:=Any.bits_Mul Tryz.Il x y hx hy w
def Tryz.vX:Go.Shelf.Ren:=⟨fun | 20=>152 | n=>n,fun | 22=>24 | 3=>3 | 4=>4 | 0=>0 | n=>n,fun | n=>n⟩
theorem Tryz.wz:Go.Proofs.Lays2.n20 prog Tryz.vX:={
 mixed:=by kernel_rfl
 f20:=Tryz.func152.trans (congrArg some (by kernel_rfl))
 t0:=Tryz.underlying0
 a0:=Tryz.isAgg0
 z0:=Tryz.sizeOf0
 v0:=Tryz.zeroValue0
 t3:=Tryz.underlying3
 a3:=Tryz.isAgg3
 z3:=Tryz.sizeOf3
 v3:=Tryz.zeroValue3
 t4:=Tryz.underlying4
 a4:=Tryz.isAgg4
 z4:=Tryz.sizeOf4
 v4:=Tryz.zeroValue4
 t22:=Tryz.underlying24
 a22:=Tryz.isAgg24
 z22:=Tryz.sizeOf24
 v22:=Tryz.zeroValue24
 i3:=by kernel_rfl }
open Go.RowKit Go.Lib Go.Sort in
theorem Tryz.slices_Compact_int (blk off cap:Nat) (zs:List Int) (w:World) (hH:Holds (Value.int .i64) w blk off zs.toArray) (hsz:zs.length<=9223372036854775807) (hcap:zs.length<=cap) :
  Calls prog 152 #[.slice (some ⟨blk,off,none⟩) zs.length cap] w fun e w'=>e = .returned (.slice (some ⟨blk,off,none⟩) (Lib.compact zs).length cap)/\∃ q,w'=putRow (Value.int .i64) (Sort.ahead w q) blk off (Lib.compact zs++List.replicate (zs.length - (Lib.compact zs).length) 0).toArray:=Any.slices_Compact_int Tryz.wz blk off cap zs w hH hsz hcap
open Go.RowKit Go.Lib Go.Sort in
theorem Tryz.slices_Compact_int_empty (a:Option Addr) (cap:Nat) (w:World) :
  Calls prog 152 #[.slice a 0 cap] w fun e w'=>e = .returned (.slice a 0 cap)/\w'=w:=Any.slices_Compact_int_empty Tryz.wz a cap w
def Tryz.AV:Go.Shelf.Ren:=⟨fun | 194=>197 | n=>n,fun | 31=>25 | 9=>9 | 3=>3 | 4=>4 | 0=>0 | n=>n,fun | n=>n⟩
theorem Tryz.DF:Go.Proofs.Lays.n194 prog Tryz.AV:={
 mixed:=by kernel_rfl
 f194:=Tryz.func197.trans (congrArg some (by kernel_rfl))
 t0:=Tryz.underlying0
 a0:=Tryz.isAgg0
 z0:=Tryz.sizeOf0
 v0:=Tryz.zeroValue0
 t3:=Tryz.underlying3
 a3:=Tryz.isAgg3
 z3:=Tryz.sizeOf3
 v3:=Tryz.zeroValue3
 t4:=Tryz.underlying4
 a4:=Tryz.isAgg4
 z4:=Tryz.sizeOf4
 v4:=Tryz.zeroValue4
 t9:=Tryz.underlying9
 a9:=Tryz.isAgg9
 z9:=Tryz.sizeOf9
 v9:=Tryz.zeroValue9
 t31:=Tryz.underlying25
 a31:=Tryz.isAgg25
 z31:=Tryz.sizeOf25
 v31:=Tryz.zeroValue25 }
open Go.RowKit Go.Lib Go.Sort in
theorem Tryz.slices_Compact_string (blk off cap:Nat) (zs:List (List UInt8)) (w:World) (hH:Holds encStr w blk off zs.toArray) (hsz:zs.length<=9223372036854775807) (hcap:zs.length<=cap) :
  Calls prog 197 #[.slice (some ⟨blk,off,none⟩) zs.length cap] w fun e w'=>e = .returned (.slice (some ⟨blk,off,none⟩) (Lib.compact zs).length cap)/\∃ q,w'=putRow encStr (Sort.ahead w q) blk off (Lib.compact zs++List.replicate (zs.length - (Lib.compact zs).length) []).toArray:=Any.slices_Compact_string Tryz.DF blk off cap zs w hH hsz hcap
open Go.RowKit Go.Lib Go.Sort in
theorem Tryz.slices_Compact_string_empty (a:Option Addr) (cap:Nat) (w:World) :
  Calls prog 197 #[.slice a 0 cap] w fun e w'=>e = .returned (.slice a 0 cap)/\w'=w:=Any.slices_Compact_string_empty Tryz.DF a cap w
open Go.RowKit Go.Sort in
theorem Tryz.slices_Sort_string_none (p:Option Addr) (cap:Nat) (w:World) :
  Calls prog 196 #[.slice p 0 cap] w fun e w'=>e = .returned (.tuple #[])/\w'=w:=Any.slices_Sort_string_none Tryz.DG p cap w
open Go.RowKit Go.Sort in
theorem Tryz.slices_Sort_int_none (p:Option Addr) (cap:Nat) (w:World) :
  Calls prog 41 #[.slice p 0 cap] w fun e w'=>e = .returned (.tuple #[])/\w'=w:=Any.slices_Sort_int_none Tryz.DR p cap w
end Go.Proofs
namespace Go.Ab
open Go.Proofs Go.RowKit
theorem aF.AZ {P:Program} {f:FuncId} {args:List au} {R:au->Prop}
  (h:∀ (c:Ctx) (xs:List Value),(∀ id,c.H id=none)->eB c args xs->Calls P f xs.toArray c.w fun e w'=>∃ x v,e = .returned x/\R v/\b4 v/\(∀ c':Ctx,cn c' v x)/\Below c.w.heap.size c.w w'):aF P f args R:=by
 intro c xs hH hn g r;refine (h c xs (by intro id;rw[hH];rfl) r).mono ?_;rintro e w' ⟨x,v,he,hR,hf,hv,hb⟩;obtain⟨hk,hg⟩:=dg g w' ⟨hb.os,hb.tape,hb.output⟩ hb.size hb.block;exact⟨x,v,{ c with w:=w' },he,rfl,⟨v,.of (lO.fresh hf),hR⟩,hv _,hg,hk⟩
theorem eB.two2 {c:Ctx} {a b:au} {xs:List Value} (r:eB c [a,b] xs):∃ x y,xs=[x,y]/\cn c a x/\cn c b y:=by
 obtain⟨hl,hr⟩:=r
 match xs,hl with
 | [x,y],_=>exact⟨x,y,rfl,hr 0 a x rfl rfl,hr 1 b y rfl rfl⟩
theorem Ia (s cut:a6) (hs:s.length<=4611686018427387904) (hc:cut.length<=1000) (ha:cut.all (fun b=>decide (b.toNat<128))=true):aF prog 225 [str s,str cut] (fun r=>r=str (Lib.trimS s cut)):=by
 refine aF.AZ fun c xs _ r=>?_
 obtain⟨x,y,rfl,hx,hy⟩:=r.two2;rw[hx.cd,hy.cd];refine (Any.strings_Trim_laid Tryz.Ix (by kernel_rfl) ⟨s.toArray⟩ ⟨cut.toArray⟩ c.w (by simp;omega) (by simp;omega) (ascii_of_all (by simpa using ha))).mono ?_;rintro e w' ⟨he,hb⟩;exact⟨_,_,he,rfl,.v _,fun _=>.v _,by simpa using hb⟩
end Go.Ab
namespace Go.Ab
open Go.Proofs
theorem e225:a8 prog 225:=a8.of func225 (by kernel_rfl) rfl
end Go.Ab
namespace Go.Ab
open Go.Proofs
theorem e210:a8 prog 210:=a8.of func210 (by kernel_rfl) rfl
def lower (c:UInt8):Bool:=decide (97<=c.toNat) && decide (c.toNat<=122)
def qs (s:a6):Bool:=within s.length 1 4 && s.all lower
def alpha:a6:=[97,98,99,100,101,102,103,104,105,106,107,108,109,110,111,112,113,114,115,116,117,118,119,120,121,122]
set_option maxRecDepth 10000 in
theorem Ad (c:UInt8):alpha.contains c=lower c:=by
 have h:∀ n:Fin 256,alpha.contains (UInt8.ofNat n.val)=lower (UInt8.ofNat n.val):=by decide
 have:=h ⟨c.toNat,c.toNat_lt⟩;simpa using this
theorem dropWhile_nil {q:UInt8->Bool}:∀ l:a6,l.dropWhile q=[]↔l.all q=true
 | []=>by simp
 | a::l=>by
  rw[List.dropWhile_cons];cases h:q a<;>simp[h,dropWhile_nil l]
theorem nJ {q:UInt8->Bool}:∀ l:a6,(l.dropWhile q).reverse.all q=true->l.all q=true
 | [],_=>by simp
 | a::l,h=>by
  rw[List.dropWhile_cons] at h;cases hq:q a
  ·simp[hq] at h
  ·simp only[hq,if_true] at h;have:=nJ l h;simp only[List.all_cons,hq,this,Bool.and_self]
theorem E3 (s:a6):(Lib.trimS s alpha=[])↔s.all lower=true:=by
 have he:(fun c=>alpha.contains c)=lower:=funext Ad;unfold Lib.trimS Lib.trimLeftS Lib.trimRightS;rw[he,dropWhile_nil]
 constructor
 ·intro h;have:=nJ _ h;simpa using this
 ·intro h;have h2:s.reverse.dropWhile lower=[]:=by rw[dropWhile_nil];simpa using h
  rw[h2]
  rfl
theorem wx (s:a6) (hs:s.length<=4294967296):aF prog 210 [str s] (fun r=>r=bool (qs s)):=by
 refine aF.of func210 rfl ntmps210 (by simp) fun Q hQ=>?_
 refine zE fun _ V=>?_
 simp;apply V;refine zE fun _ V=>?_
 simp;refine zA (eE s.length 1 4) vz (.cons (.v _ _ _) (.cons (.v _ _ _) (.cons (.v _ _ _) .nil))) (by simp) ?_;rintro _ rfl;cases hw:within s.length 1 4
 ·simp[hw];apply V;exact J.ret func210 (aU.one results210) (hQ _ _ _ _ (.v _ _ _) (by simp[qs,hw]))
 ·simp[hw];refine zA (Ia s alpha (by omega) (by decide) (by decide)) e225 (.cons (.v _ _ _) (.cons (.v _ _ _) .nil)) (by simp[alpha]) ?_;rintro _ rfl;simp[hw];apply V;refine J.ret func210 (aU.one results210) (hQ _ _ _ _ (.v _ _ _) ?_);have:=E3 s;cases h:s.all lower<;>simp[h] at this<;>simp[qs,hw,h,this]
end Go.Ab
namespace Go.Ab
structure Control where
 name:a6
 ports:Int
 kind:Int
 deriving Inhabited,DecidableEq
structure ay where
 control:Int
 parent:Int
 links:List Int
 deriving Inhabited,DecidableEq
structure aD where
 name:a6
 link:Int
 deriving Inhabited,DecidableEq
structure aG where
 roots:Int
 nodes:List ay
 sites:List Int
 edges:Int
 outer:List a6
 inner:List aD
 deriving Inhabited,DecidableEq
abbrev cP:=List Control
def gL {α:Type} (fr:Bool) (f:α->List au) (l:List α):List au:=[.list fr (l.map f)]
def Control.cells (x:Control):List au:=[str x.name,int x.ports,int x.kind]
def aD.cells (x:aD):List au:=[str x.name,int x.link]
def ay.cells (t:Bool) (x:ay):List au:=[int x.control,int x.parent,.list t (x.links.map aA)]
def bK (t:Bool) (s:cP):au:=.list t (s.map Control.cells)
def encI (t:Bool) (l:List Int):au:=.list t (l.map aA)
def encS (t:Bool) (l:List a6):au:=.list t (l.map aT)
def cI (t:Bool) (l:List aD):au:=.list t (l.map aD.cells)
def cw (t:Bool) (l:List ay):au:=.list t (l.map (ay.cells t))
def aG.cells (t:Bool) (b:aG):List au:=[int b.roots,cw t b.nodes,encI t b.sites,int b.edges,encS t b.outer,cI t b.inner]
def cX (t:Bool) (b:aG):au:=.agg (b.cells t)
theorem wy (l:List Int):∀ e ∈ l.map aA,∀ a ∈ e,flat a=true:=by simp[aA]
theorem wW (l:List a6):∀ e ∈ l.map aT,∀ a ∈ e,flat a=true:=by simp[aT]
theorem uv (l:List aD):∀ e ∈ l.map aD.cells,∀ a ∈ e,flat a=true:=by simp[aD.cells]
theorem As (l:cP):∀ e ∈ l.map Control.cells,∀ a ∈ e,flat a=true:=by simp[Control.cells]
theorem ug (t:Bool) (l:List Int):old (encI t l)=encI false l:=by rw[encI,iy,eG (wy l)];rfl
theorem yW (t:Bool) (l:List a6):old (encS t l)=encS false l:=by rw[encS,iy,eG (wW l)];rfl
theorem Aa (t:Bool) (l:List aD):old (cI t l)=cI false l:=by rw[cI,iy,eG (uv l)];rfl
theorem B7 (t:Bool) (l:cP):old (bK t l)=bK false l:=by rw[bK,iy,eG (As l)];rfl
theorem zm (t:Bool) (x:ay):(x.cells t).map old=x.cells false:=by
 simp only[ay.cells,List.map_cons,List.map_nil,IW];have:=ug t x.links;simp only[encI] at this;rw[this]
theorem uT (t:Bool) (l:List ay):old (cw t l)=cw false l:=by
 rw[cw,iy,List.map_map];simp only[cw]
 congr 1
 exact List.map_congr_left fun x _=>zm t x
theorem GX (t:Bool) (b:aG):old (cX t b)=cX false b:=by
 simp only[cX,aG.cells,te,List.map_cons,List.map_nil,IW,uT,ug,yW,Aa]
theorem um (t:Bool) (l:List Int):j7 (encI t l):=.list _ _ fun e he a ha=>j7.flat (wy l e he a ha)
theorem zM (t:Bool) (l:List a6):j7 (encS t l):=.list _ _ fun e he a ha=>j7.flat (wW l e he a ha)
theorem AT (t:Bool) (l:List aD):j7 (cI t l):=.list _ _ fun e he a ha=>j7.flat (uv l e he a ha)
theorem BC (t:Bool) (l:cP):j7 (bK t l):=.list _ _ fun e he a ha=>j7.flat (As l e he a ha)
theorem Av (t:Bool) (x:ay):∀ a ∈ x.cells t,j7 a:=by
 intro a ha;simp only[ay.cells,List.mem_cons,List.not_mem_nil,or_false] at ha;rcases ha with rfl | rfl | rfl
 ·exact .v _
 ·exact .v _
 ·exact um t x.links
theorem tw (t:Bool) (l:List ay):j7 (cw t l):=by
 refine .list _ _ fun e he a ha=>?_
 obtain⟨x,_,rfl⟩:=List.mem_map.1 he;exact Av t x a ha
theorem Hs (t:Bool) (b:aG):j7 (cX t b):=by
 refine .agg _ fun a ha=>?_
 simp only[aG.cells,List.mem_cons,List.not_mem_nil,or_false] at ha;rcases ha with rfl | rfl | rfl | rfl | rfl | rfl
 ·exact .v _
 ·exact tw t _
 ·exact um t _
 ·exact .v _
 ·exact zM t _
 ·exact AT t _
section
variable {H:ax} {n:Nat}
theorem aQ.encI (t:Bool) (l:List Int):aQ H n (encI t l) (encI false l):=aQ.yL (um t l) (ug t l)
theorem aQ.encS (t:Bool) (l:List a6):aQ H n (encS t l) (encS false l):=aQ.yL (zM t l) (yW t l)
theorem aQ.cI (t:Bool) (l:List aD):aQ H n (cI t l) (cI false l):=aQ.yL (AT t l) (Aa t l)
theorem aQ.bK (t:Bool) (l:cP):aQ H n (bK t l) (bK false l):=aQ.yL (BC t l) (B7 t l)
theorem aQ.cw (t:Bool) (l:List ay):aQ H n (cw t l) (cw false l):=aQ.yL (tw t l) (uT t l)
theorem aQ.cX (t:Bool) (b:aG):aQ H n (cX t b) (cX false b):=aQ.yL (Hs t b) (GX t b)
end
def dF (c:Control):Bool:=qs c.name && within c.ports 0 3 && within c.kind 0 2
def newName (sig:cP) (i:Nat):Bool := !(sig.take i).any fun d=>d.name == (sig.getD i default).name
def hZ (sig:cP):Bool:=within sig.length 1 6 && (List.range sig.length).all fun i=>dF (sig.getD i default) && newName sig i
def l9 (l:List a6) (i:Nat):Bool:=decide (i=0) || Op.bytesLess (l.getD (i - 1) []) (l.getD i [])
def db (l:List a6):Bool:=decide (l.length<=16) && (List.range l.length).all fun i=>qs (l.getD i []) && l9 l i
def dU (b:aG) (l:Int):Bool:=within l 0 (b.edges+b.outer.length - 1)
def cf (sig:cP) (b:aG) (parent:Int) (below:Nat):Bool:=
 if parent<0 then decide (-b.roots<=parent) else decide (parent<below) && decide ((sig.getD (b.nodes.getD parent.toNat default).control.toNat default).kind ≠ 2)
def cR (sig:cP) (b:aG) (i:Nat):Bool:=
 within (b.nodes.getD i default).control 0 (sig.length - 1) && cf sig b (b.nodes.getD i default).parent i && decide ((b.nodes.getD i default).links.length=(sig.getD (b.nodes.getD i default).control.toNat default).ports) &&
  (b.nodes.getD i default).links.all (dU b)
def fQ (sig:cP) (b:aG):Bool:=
 hZ sig && within b.roots 0 4 && decide (b.nodes.length<=8) && decide (b.sites.length<=4) && within b.edges 0 8 && db b.outer && db (b.inner.map (·.name)) &&
  (List.range b.nodes.length).all (cR sig b) && b.sites.all (fun p=>cf sig b p b.nodes.length) && b.inner.all (fun w=>dU b w.link)
end Go.Ab
namespace Go.Ab
structure Match where
 nodes:List Int
 roots:List Int
 deriving Inhabited,DecidableEq
def Match.cells (t:Bool) (m:Match):List au:=[.list t (m.nodes.map aA),.list t (m.roots.map aA)]
def cp (x:Int × Int):List au:=[int x.1,int x.2]
abbrev oE {α:Type} (l:List Sh) (f:α->List au) (v:au) (es:List α):cm:=(.s l,v,.list true (es.map f))
abbrev oI (v:au) (es:List Int):cm:=(.s [.c],v,.list true (es.map aA))
abbrev oS (v:au) (es:List a6):cm:=(.s [.c],v,.list true (es.map aT))
abbrev oN (v:au) (es:List ay):cm:=(.s [.c,.c,.s [.c]],v,.list true (es.map (ay.cells true)))
abbrev oW (v:au) (es:List aD):cm:=(.s [.c,.c],v,.list true (es.map aD.cells))
section
variable {H H':ax} {n n':Nat} {K:List cm} {ids:List Id} {x:cm}
theorem Sep.f1 {x1:cm} (h:Sep H n (x1::x::K) ids):Sep H n (x::x1::K) ids:=Sep.front (K1:=[x1]) h
theorem Sep.f2 {x1 x2:cm} (h:Sep H n (x1::x2::x::K) ids):Sep H n (x::x1::x2::K) ids:=Sep.front (K1:=[x1,x2]) h
theorem Sep.f3 {x1 x2 x3:cm} (h:Sep H n (x1::x2::x3::x::K) ids):Sep H n (x::x1::x2::x3::K) ids:=Sep.front (K1:=[x1,x2,x3]) h
theorem Sep.f4 {x1 x2 x3 x4:cm} (h:Sep H n (x1::x2::x3::x4::x::K) ids):Sep H n (x::x1::x2::x3::x4::K) ids:=Sep.front (K1:=[x1,x2,x3,x4]) h
theorem Sep.f5 {x1 x2 x3 x4 x5:cm} (h:Sep H n (x1::x2::x3::x4::x5::x::K) ids):Sep H n (x::x1::x2::x3::x4::x5::K) ids:=Sep.front (K1:=[x1,x2,x3,x4,x5]) h
theorem Sep.f6 {x1 x2 x3 x4 x5 x6:cm} (h:Sep H n (x1::x2::x3::x4::x5::x6::x::K) ids):Sep H n (x::x1::x2::x3::x4::x5::x6::K) ids:=Sep.front (K1:=[x1,x2,x3,x4,x5,x6]) h
theorem Sep.f7 {x1 x2 x3 x4 x5 x6 x7:cm} (h:Sep H n (x1::x2::x3::x4::x5::x6::x7::x::K) ids):Sep H n (x::x1::x2::x3::x4::x5::x6::x7::K) ids:=Sep.front (K1:=[x1,x2,x3,x4,x5,x6,x7]) h
theorem Sep.f8 {x1 x2 x3 x4 x5 x6 x7 x8:cm} (h:Sep H n (x1::x2::x3::x4::x5::x6::x7::x8::x::K) ids):Sep H n (x::x1::x2::x3::x4::x5::x6::x7::x8::K) ids:=Sep.front (K1:=[x1,x2,x3,x4,x5,x6,x7,x8]) h
theorem Sep.f9 {x1 x2 x3 x4 x5 x6 x7 x8 x9:cm} (h:Sep H n (x1::x2::x3::x4::x5::x6::x7::x8::x9::x::K) ids):Sep H n (x::x1::x2::x3::x4::x5::x6::x7::x8::x9::K) ids:=Sep.front (K1:=[x1,x2,x3,x4,x5,x6,x7,x8,x9]) h
theorem Sep.f10 {x1 x2 x3 x4 x5 x6 x7 x8 x9 x10:cm} (h:Sep H n (x1::x2::x3::x4::x5::x6::x7::x8::x9::x10::x::K) ids):Sep H n (x::x1::x2::x3::x4::x5::x6::x7::x8::x9::x10::K) ids:=Sep.front (K1:=[x1,x2,x3,x4,x5,x6,x7,x8,x9,x10]) h
theorem Sep.f11 {x1 x2 x3 x4 x5 x6 x7 x8 x9 x10 x11:cm} (h:Sep H n (x1::x2::x3::x4::x5::x6::x7::x8::x9::x10::x11::x::K) ids):Sep H n (x::x1::x2::x3::x4::x5::x6::x7::x8::x9::x10::x11::K) ids:=Sep.front (K1:=[x1,x2,x3,x4,x5,x6,x7,x8,x9,x10,x11]) h
theorem Sep.f12 {x1 x2 x3 x4 x5 x6 x7 x8 x9 x10 x11 x12:cm} (h:Sep H n (x1::x2::x3::x4::x5::x6::x7::x8::x9::x10::x11::x12::x::K) ids):Sep H n (x::x1::x2::x3::x4::x5::x6::x7::x8::x9::x10::x11::x12::K) ids:=Sep.front (K1:=[x1,x2,x3,x4,x5,x6,x7,x8,x9,x10,x11,x12]) h
theorem Sep.f13 {x1 x2 x3 x4 x5 x6 x7 x8 x9 x10 x11 x12 x13:cm} (h:Sep H n (x1::x2::x3::x4::x5::x6::x7::x8::x9::x10::x11::x12::x13::x::K) ids):Sep H n (x::x1::x2::x3::x4::x5::x6::x7::x8::x9::x10::x11::x12::x13::K) ids:=Sep.front (K1:=[x1,x2,x3,x4,x5,x6,x7,x8,x9,x10,x11,x12,x13]) h
theorem Sep.f14 {x1 x2 x3 x4 x5 x6 x7 x8 x9 x10 x11 x12 x13 x14:cm} (h:Sep H n (x1::x2::x3::x4::x5::x6::x7::x8::x9::x10::x11::x12::x13::x14::x::K) ids):Sep H n (x::x1::x2::x3::x4::x5::x6::x7::x8::x9::x10::x11::x12::x13::x14::K) ids:=Sep.front (K1:=[x1,x2,x3,x4,x5,x6,x7,x8,x9,x10,x11,x12,x13,x14]) h
theorem Sep.dr (h:Sep H n (x::K) ids):Sep H n K ids:=Sep.right (K1:=[x]) h
theorem Sep.hd (h:Sep H n (x::K) ids):Sep H n [x] ids:=Sep.left (K1:=[x]) (K2:=K) h
theorem Sep.ap {α:Type} {l:List Sh} {f:α->List au} {v:au} {xs ys zs:List α} (hz:zs=xs++ys) (h:Sep H n ((.s l,v,.list true (xs.map f++ys.map f))::K) ids):Sep H n ((.s l,v,.list true (zs.map f))::K) ids:=by
 rw[hz,List.map_append];exact h
theorem Sep.st {α:Type} {l:List Sh} {f:α->List au} {v:au} {xs zs:List α} {q:Nat} {y:α} (hz:zs=xs.set q y) (h:Sep H n ((.s l,v,.list true ((xs.map f).set q (f y)))::K) ids):Sep H n ((.s l,v,.list true (zs.map f))::K) ids:=by
 rw[hz,List.map_set];exact h
theorem Sep.oc {l:List Sh} {v e:au} (h:Sep H n ((.s l,v,e)::K) ids):az v=some [v]/\Ab.aH v=true:=⟨h.cells,h.aH⟩
end
theorem bc:(∀ (k:IntKind) (a:Int),aH (.v (.int k a))=true)/\(∀ a:Bool,aH (.v (.bool a))=true)/\(∀ a:ByteArray,aH (.v (.string a))=true)/\aH (.v (.slice none 0 0))=true /\
  (∀ (fr:Bool) (l:List (List au)),aH (.list fr l)=true)/\(∀ (id:Id) (g o l:Nat),aH (.arr id g o l)=true)/\∀ (id:Id) (g o l:Nat),aH (.ptr id g o l)=true:=
 ⟨fun _ _=>rfl,fun _=>rfl,fun _=>rfl,rfl,fun _ _=>rfl,fun _ _ _ _=>rfl,fun _ _ _ _=>rfl⟩
theorem bq:(∀ (k:IntKind) (a:Int),az (.v (.int k a))=some [.v (.int k a)])/\(∀ a:Bool,az (.v (.bool a))=some [.v (.bool a)])/\(∀ a:ByteArray,az (.v (.string a))=some [.v (.string a)])/\az (.v (.slice none 0 0))=some [.v (.slice none 0 0)] /\
  (∀ l:List au,az (.agg l)=some l)/\(∀ (fr:Bool) (l:List (List au)),az (.list fr l)=some [.list fr l])/\(∀ (id:Id) (g o l:Nat),az (.arr id g o l)=some [.arr id g o l])/\∀ (id:Id) (g o l:Nat),az (.ptr id g o l)=some [.ptr id g o l]:=
 ⟨fun _ _=>rfl,fun _=>rfl,fun _=>rfl,rfl,fun _=>rfl,fun _ _=>rfl,fun _ _ _ _=>rfl,fun _ _ _ _=>rfl⟩
theorem aQ.gO {H:ax} {n:Nat} (t:Bool) (l:List ay):aQ H n (.list t (l.map (ay.cells t))) (.list false (l.map (ay.cells false))):=aQ.cw t l
theorem cO (t:Bool) (l:List ay):old (.list t (l.map (ay.cells t))) = .list false (l.map (ay.cells false)):=uT t l
theorem zw {Ty:Types} {H:ax} {t:TypeId} {len:Nat} {j:TI} {k:IntKind} {i:Int} {fr:Bool} {cs:List au} (hk:kd Ty t = .arr len j) (hi:0<=i/\i<len) :
  av Ty H t (.iptr fr cs) (.v (.int k i))=some (.iptr fr (cs.drop (i.toNat * j.size))):=by
 simp only[av,hk,dk];rw[if_pos hi];simp only[mG]
theorem aE {α:Sort _} {x:α} {p:α->Prop} (h:∀ v,v=x->p v):∃ v,v=x/\p v:=⟨x,rfl,h x rfl⟩
abbrev pA (i n:Nat):au:=.ptr (i,n) 1 0 0
abbrev bC (t:Bool) (b:aG):List au:=[int b.roots,.list t (b.nodes.map (ay.cells t)),.list t (b.sites.map aA),int b.edges,.list t (b.outer.map aT),.list t (b.inner.map aD.cells)]
abbrev mC (t:Bool) (m:Match):List au:=[.list t (m.nodes.map aA),.list t (m.roots.map aA)]
abbrev zB:List au:=[int 0,.v (.slice none 0 0),.v (.slice none 0 0),int 0,.v (.slice none 0 0),.v (.slice none 0 0)]
section
variable {H:ax} {n:Nat}
theorem ef (t:Bool) (l:List Int):aQ H n (.list t (l.map aA)) (.list false (l.map aA)):=aQ.encI t l
theorem o5 (t:Bool) (l:List a6):aQ H n (.list t (l.map aT)) (.list false (l.map aT)):=aQ.encS t l
theorem vA (t:Bool) (l:List aD):aQ H n (.list t (l.map aD.cells)) (.list false (l.map aD.cells)):=aQ.cI t l
theorem j9 (t:Bool) (l:List Control):aQ H n (.list t (l.map Control.cells)) (.list false (l.map Control.cells)):=aQ.bK t l
theorem bB (t:Bool) (b:aG):aQ H n (.agg (bC t b)) (.agg (bC false b)):=aQ.cX t b
theorem fY (t:Bool) (m:Match):aQ H n (.agg (mC t m)) (.agg (mC false m)):=aQ.agg (.cons (ef t m.nodes) (.cons (ef t m.roots) .nil))
end
end Go.Ab
namespace Go.Ab.Vg
theorem aI.up {σ τ:Type} {body:σ->(σ->Prop)->Prop} {s:σ} (N:Nat) (idx:σ->Int) (mk:Nat->τ->σ) (hidx:∀ k t,idx (mk k t)=(k:Int)) (aq:Nat->τ->Prop) (t0:τ) (hs:s=mk 0 t0) (h0:aq 0 t0)
  (step:∀ k t (K:σ->Prop),k<=N->aq k t->(k<N->∀ t',aq (k+1) t'->K (mk (k+1) t'))->body (mk k t) K):aI body s:=by
 refine⟨fun s=>∃ k t,s=mk k t/\k<=N/\aq k t,fun s=>N - (idx s).toNat,⟨0,t0,hs,Nat.zero_le _,h0⟩,?_⟩;rintro s ⟨k,t,rfl,hk,hI⟩;refine step k t _ hk hI fun hlt t' hI'=>⟨⟨k+1,t',rfl,hlt,hI'⟩,?_⟩
 show N - (idx _).toNat<N - (idx _).toNat;rw[hidx,hidx];omega
theorem aI.mS {τ:Type} {body:Int × τ->(Int × τ->Prop)->Prop} (N:Nat) (aq:Nat->τ->Prop) (t0:τ) (h0:aq 0 t0)
  (step:∀ k t (K:Int × τ->Prop),k<=N->aq k t->(k<N->∀ t',aq (k+1) t'->K (((k:Int)+1),t'))->body ((k:Int),t) K):aI body (0,t0):=
 aI.up N (·.1) (fun k t=>((k:Int),t)) (fun _ _=>rfl) aq t0 rfl h0 fun k t K hk hI h=>step k t K hk hI fun hlt t' hI'=>by have:=h hlt t' hI';simpa using this
theorem aI.upR {τ:Type} {body:τ × Int->(τ × Int->Prop)->Prop} (N:Nat) (aq:Nat->τ->Prop) (t0:τ) (h0:aq 0 t0)
  (step:∀ k t (K:τ × Int->Prop),k<=N->aq k t->(k<N->∀ t',aq (k+1) t'->K (t',((k:Int)+1)))->body (t,(k:Int)) K):aI body (t0,0):=
 aI.up N (·.2) (fun k t=>(t,(k:Int))) (fun _ _=>rfl) aq t0 rfl h0 fun k t K hk hI h=>step k t K hk hI fun hlt t' hI'=>by have:=h hlt t' hI';simpa using this
theorem aI.Bi {body:Int->(Int->Prop)->Prop} (N:Nat) (aq:Nat->Prop) (h0:aq 0)
  (step:∀ k (K:Int->Prop),k<=N->aq k->(k<N->aq (k+1)->K ((k:Int)+1))->body (k:Int) K):aI body 0:=
 aI.up (τ:=Unit) N id (fun k _=>(k:Int)) (fun _ _=>rfl) (fun k _=>aq k) () rfl h0 fun k _ K hk hI h=>step k K hk hI fun hlt hI'=>by have:=h hlt () hI';simpa using this
theorem aI.byM {σ:Type} {body:σ->(σ->Prop)->Prop} {s:σ} (aq:σ->Prop) (m:σ->Nat) (h0:aq s) (step:∀ s,aq s->body s (fun s'=>aq s'/\m s'<m s)):aI body s:=⟨aq,m,h0,step⟩
theorem cK {α:Type} [Inhabited α] {l:List α} {k:Nat} (h:k<l.length):at' l (k:Int)=l[k]:=by simp[at',h]
def idxs {α:Type} [Inhabited α] (l:List α) (p:α->Bool) (k:Nat):List Int:=((List.range k).filter fun i:Nat=>p (at' l (i:Int))).map fun i:Nat=>(i:Int)
section
variable {α:Type} [Inhabited α] (l:List α) (p:α->Bool)
theorem lh {k:Nat} (h:p (at' l (k:Int))=true):idxs l p (k+1)=idxs l p k++[(k:Int)]:=by simp[idxs,List.range_succ,h]
theorem oR {k:Nat} (h:p (at' l (k:Int))=false):idxs l p (k+1)=idxs l p k:=by simp[idxs,List.range_succ,h]
theorem jw (k:Nat):(idxs l p k).length<=k:=by
 have:=List.length_filter_le (fun i:Nat=>p (at' l (i:Int))) (List.range k);simpa[idxs] using this
theorem zJ {k:Nat} {x:Int}:x ∈ idxs l p k↔0<=x/\x<k/\p (at' l x)=true:=by
 simp only[idxs,List.mem_map,List.mem_filter,List.mem_range]
 constructor
 ·rintro⟨i,⟨h1,h2⟩,rfl⟩;exact⟨by omega,by omega,h2⟩
 ·rintro⟨h1,h2,h3⟩;exact⟨x.toNat,⟨by omega,by rwa [Int.toNat_of_nonneg h1]⟩,by omega⟩
end
end Go.Ab.Vg
namespace Go.Ab
open Go.Proofs
theorem tW:a8 prog 138:=a8.of func138 (by kernel_rfl) rfl
theorem e191:a8 prog 191:=a8.of func191 (by kernel_rfl) rfl
theorem gn (n lo hi:Int):aF prog 138 [int n,int lo,int hi] (fun r=>r=bool (within n lo hi)):=by
 refine aF.of func138 rfl ntmps138 (by simp) fun Q hQ=>?_
 refine zE fun _ V=>?_
 simp;refine V _ _ _ (zE fun _ V=>?_);simp
 by_cases h:lo<=n
 all_goals
  simp[h];refine V _ _ _ (J.ret func138 (aU.one results138) (hQ _ _ _ _ (qo.v _ _ _) ?_));simp[within,h]
theorem AO {s:a6} {k:Nat} (hk:k<s.length) (h:lower s[k]=false):qs s=false:=by
 have:s.all lower=false:=by
  rw[List.all_eq_false];exact⟨s[k],List.getElem_mem hk,by simp[h]⟩
 simp[qs,this]
theorem wi (s:a6) (hs:s.length<=4294967296):aF prog 191 [str s] (fun r=>r=bool (qs s)):=by
 refine aF.of func191 rfl ntmps191 (by simp) fun Q hQ=>?_
 refine zE fun _ V=>?_
 simp;apply V;refine zS fun _ V=>?_
 simp;apply V;refine J.block (J.cz s.length (fun k O H n=>O 0=str s/\O 3=int k/\(s.take k).all lower=true) ?_ ?_)
 ·simp
 ·rintro k O H n hk ⟨h0,h3,hall⟩ IH;refine zS fun _ V=>?_
  simp [h0, h3];apply V;refine J.ite rfl (fun hc1 => ?_) (fun hc1 => ?_)
  ·simp at hc1;apply zK;apply J.block;refine zE fun _ V=>?_
   simp [h0, h3, hc1]
   by_cases ha:(s[k].toNat:Int)<97
   ·simp[ha];apply V;refine J.ite rfl (fun _=>?_) (fun h=>by simp at h);refine zE fun _ V=>?_
    simp;apply V;refine J.ret func191 (aU.one results191) (hQ _ _ _ _ (.v _ _ _) ?_);rw[AO hc1 (by simp[lower];omega)]
   ·by_cases hz:(122:Int)<s[k].toNat
    ·simp[ha,hz,h0,h3,hc1];apply V;refine J.ite rfl (fun _=>?_) (fun h=>by simp at h);refine zE fun _ V=>?_
     simp;apply V;refine J.ret func191 (aU.one results191) (hQ _ _ _ _ (.v _ _ _) ?_);rw[AO hc1 (by simp[lower];omega)]
    ·simp[ha,hz,h0,h3,hc1];apply V;refine J.ite rfl (fun h=>by simp at h) (fun _=>?_);apply J.skip;refine zI fun _ V=>?_
     simp [h3, bz (show k < 4611686018427387904 by omega)];apply V;refine IH hc1 _ _ _ ?_;rw[List.take_succ_eq_append_getElem hc1,List.all_append,hall];simp[h0,lower];omega
  ·simp at hc1;refine J.exit rfl ?_;refine zE fun _ V=>?_
   simp [h0];refine zA (gn s.length 1 4) tW (.cons (.v _ _ _) (.cons (.v _ _ _) (.cons (.v _ _ _) .nil))) (by simp) ?_;rintro _ rfl;simp;apply V;refine J.ret func191 (aU.one results191) (hQ _ _ _ _ (.v _ _ _) ?_);rw[List.take_of_length_le hc1] at hall;simp only[qs,hall,Bool.and_true]
end Go.Ab
namespace Go.Ab
open Go.Proofs
theorem e169:a8 prog 169:=a8.of func169 (by kernel_rfl) rfl
theorem e143:a8 prog 143:=a8.of func143 (by kernel_rfl) rfl
theorem e167:a8 prog 167:=a8.of func167 (by kernel_rfl) rfl
theorem e142:a8 prog 142:=a8.of func142 (by kernel_rfl) rfl
theorem e145:a8 prog 145:=a8.of func145 (by kernel_rfl) rfl
theorem e216:a8 prog 216:=a8.of func216 (by kernel_rfl) rfl
theorem wj (b:aG) (l:Int) (he:0<=b.edges/\b.edges<=8) (ho:b.outer.length<=1048576):aF prog 169 [cX false b,int l] (fun r=>r=bool (dU b l)):=by
 have hw1:IntKind.i64.wrap (b.edges+b.outer.length)=b.edges+b.outer.length:=by rw[wrap64]<;>omega
 have hw2:IntKind.i64.wrap (b.edges+b.outer.length - 1)=b.edges+b.outer.length - 1:=by rw[wrap64]<;>omega
 refine aF.of func169 rfl ntmps169 (by simp) fun Q hQ=>?_
 refine zE fun _ V=>?_
 simp [cX, aG.cells];apply V;refine zE fun _ V=>?_
 simp [encS, hw1, hw2];refine zA (eE l 0 (b.edges+b.outer.length - 1)) vz (.cons (.v _ _ _) (.cons (.v _ _ _) (.cons (.v _ _ _) .nil))) (by simp) ?_;rintro _ rfl;simp;apply V;exact J.ret func169 (aU.one results169) (hQ _ _ _ _ (.v _ _ _) rfl)
theorem wb (b:aG) (l:Int) (he:0<=b.edges/\b.edges<=8) (ho:b.outer.length<=1048576):aF prog 143 [cX false b,int l] (fun r=>r=bool (dU b l)):=by
 have hw1:IntKind.i64.wrap (b.edges+b.outer.length)=b.edges+b.outer.length:=by rw[wrap64]<;>omega
 have hw2:IntKind.i64.wrap (b.edges+b.outer.length - 1)=b.edges+b.outer.length - 1:=by rw[wrap64]<;>omega
 refine aF.of func143 rfl ntmps143 (by simp) fun Q hQ=>?_
 refine zE fun _ V=>?_
 simp [cX, aG.cells];apply V;refine zE fun _ V=>?_
 simp [encS, hw1, hw2];refine zA (gn l 0 (b.edges+b.outer.length - 1)) tW (.cons (.v _ _ _) (.cons (.v _ _ _) (.cons (.v _ _ _) .nil))) (by simp) ?_;rintro _ rfl;simp;apply V;exact J.ret func143 (aU.one results143) (hQ _ _ _ _ (.v _ _ _) rfl)
def ez (b:aG) (x:Int):Bool:=within x 0 ((b.nodes.length:Int) - 1)
theorem Co (b:aG) (x:Int) (hn:b.nodes.length<=1048576):aF prog 145 [cX false b,int x] (fun r=>r=bool (ez b x)):=by
 have hw2:IntKind.i64.wrap ((b.nodes.length:Int) - 1)=(b.nodes.length:Int) - 1:=by rw[wrap64]<;>omega
 refine aF.of func145 rfl ntmps145 (by simp) fun Q hQ=>?_
 refine zE fun _ V=>?_
 simp [cX, aG.cells];apply V;refine zE fun _ V=>?_
 simp [cw, hw2];refine zA (eE x 0 ((b.nodes.length:Int) - 1)) vz (.cons (.v _ _ _) (.cons (.v _ _ _) (.cons (.v _ _ _) .nil))) (by simp) ?_;rintro _ rfl;simp;apply V;exact J.ret func145 (aU.one results145) (hQ _ _ _ _ (.v _ _ _) rfl)
theorem Im (b:aG) (x:Int) (hn:b.nodes.length<=1048576):aF prog 216 [cX false b,int x] (fun r=>r=bool (ez b x)):=by
 have hw2:IntKind.i64.wrap ((b.nodes.length:Int) - 1)=(b.nodes.length:Int) - 1:=by rw[wrap64]<;>omega
 refine aF.of func216 rfl ntmps216 (by simp) fun Q hQ=>?_
 refine zE fun _ V=>?_
 simp [cX, aG.cells];apply V;refine zE fun _ V=>?_
 simp [cw, hw2];refine zA (gn x 0 ((b.nodes.length:Int) - 1)) tW (.cons (.v _ _ _) (.cons (.v _ _ _) (.cons (.v _ _ _) .nil))) (by simp) ?_;rintro _ rfl;simp;apply V;exact J.ret func216 (aU.one results216) (hQ _ _ _ _ (.v _ _ _) rfl)
def rQ (sig:cP) (b:aG) (below:Nat):Prop:=∀ i,i<below->0<=(b.nodes.getD i default).control/\(b.nodes.getD i default).control<sig.length
theorem sB (sig:cP) (b:aG) (parent:Int) (below:Nat) (hr:0<=b.roots/\b.roots<=4) (hb:below<=b.nodes.length) (hc:rQ sig b below) :
  aF prog 167 [cX false b,bK false sig,int parent,int below] (fun r=>r=bool (cf sig b parent below)):=by
 refine aF.of func167 rfl ntmps167 (by simp) fun Q hQ=>?_
 refine zE fun _ V=>?_
 simp [cX, aG.cells];apply V;refine zS fun _ V=>?_
 simp;apply V;refine J.ite rfl (fun hc1 => ?_) (fun hc1 => ?_)
 ·have hc1:parent<0:=by simpa using hc1
  have hw:IntKind.i64.wrap (0 - b.roots) = -b.roots:=by rw[wrap64]<;>omega
  refine zE fun _ V=>?_
  have hw':IntKind.i64.wrap (-b.roots) = -b.roots:=by rw[wrap64]<;>omega
  simp [hw, hw'];apply V;exact J.ret func167 (aU.one results167) (hQ _ _ _ _ (.v _ _ _) (by simp[cf,hc1]))
 ·have hc1:¬ parent<0:=by simpa using hc1
  apply J.skip;refine zE fun _ V=>?_
  by_cases hlt:parent<(below:Int)
  ·obtain⟨q,rfl⟩:∃ q:Nat,parent=q:=⟨parent.toNat,by omega⟩
   have hq:q<b.nodes.length:=by omega
   have hcq:=hc q (by omega);have hg:b.nodes.getD q default=b.nodes[q]:=by simp[hq]
   rw[hg] at hcq;obtain⟨c,hcc⟩:∃ c:Nat,b.nodes[q].control=c:=⟨b.nodes[q].control.toNat,by omega⟩
   have hcl:c<sig.length:=by omega
   simp [hlt, cw, bK, hq, ay.cells, hcc, hcl, Control.cells, guardOf];apply V;refine J.ret func167 (aU.one results167) (hQ _ _ _ _ (.v _ _ _) ?_);have hlt':q<below:=by omega
   simp[cf,hlt',hq,hcc,hcl]
   rfl
  ·simp [hlt, guardOf];apply V;exact J.ret func167 (aU.one results167) (hQ _ _ _ _ (.v _ _ _) (by simp[cf,hc1,hlt]))
theorem tJ (sig:cP) (b:aG) (parent:Int) (below:Nat) (hp:bh parent) (hr:0<=b.roots/\b.roots<=4) (hb:below<=b.nodes.length) (hc:rQ sig b below) :
  aF prog 142 [bK false sig,cX false b,int parent,int below] (fun r=>r=bool (cf sig b parent below)):=by
 obtain⟨hp1,hp2⟩:=hp;refine aF.of func142 rfl ntmps142 (by simp) fun Q hQ=>?_
 refine zE fun _ V=>?_
 simp [cX, aG.cells];apply V;refine zS fun _ V=>?_
 simp;apply V;refine J.ite rfl (fun hc1 => ?_) (fun hc1 => ?_)
 ·have hc1:parent<0:=by simpa using hc1
  have hw:IntKind.i64.wrap (-1 - parent) = -1 - parent:=by rw[wrap64]<;>omega
  have hw2:IntKind.i64.wrap (b.roots - 1)=b.roots - 1:=by rw[wrap64]<;>omega
  refine zE fun _ V=>?_
  simp [hw, hw2];refine zA (gn (-1 - parent) 0 (b.roots - 1)) tW (.cons (.v _ _ _) (.cons (.v _ _ _) (.cons (.v _ _ _) .nil))) (by simp) ?_;rintro _ rfl;simp;apply V;refine J.ret func142 (aU.one results142) (hQ _ _ _ _ (.v _ _ _) ?_);have:within (-1 - parent) 0 (b.roots - 1)=decide (-b.roots<=parent):=by
   simp only[within]
   by_cases h : -b.roots<=parent
   ·simp[h];omega
   ·simp[h];omega
  simp[cf,hc1,this]
 ·have hc1:¬ parent<0:=by simpa using hc1
  apply J.skip;refine zE fun _ V=>?_
  by_cases hlt:parent<(below:Int)
  ·obtain⟨q,rfl⟩:∃ q:Nat,parent=q:=⟨parent.toNat,by omega⟩
   have hq:q<b.nodes.length:=by omega
   have hcq:=hc q (by omega);have hg:b.nodes.getD q default=b.nodes[q]:=by simp[hq]
   rw[hg] at hcq;obtain⟨c,hcc⟩:∃ c:Nat,b.nodes[q].control=c:=⟨b.nodes[q].control.toNat,by omega⟩
   have hcl:c<sig.length:=by omega
   simp [hlt, cw, bK, hq, ay.cells, hcc, hcl, Control.cells, guardOf];apply V;refine J.ret func142 (aU.one results142) (hQ _ _ _ _ (.v _ _ _) ?_);have hlt':q<below:=by omega
   simp[cf,hlt',hq,hcc,hcl]
   rfl
  ·simp [hlt, guardOf];apply V;exact J.ret func142 (aU.one results142) (hQ _ _ _ _ (.v _ _ _) (by simp[cf,hc1,hlt]))
end Go.Ab
namespace Go.Ab
open Go.Proofs
theorem e165:a8 prog 165:=a8.of func165 (by kernel_rfl) rfl
theorem e139:a8 prog 139:=a8.of func139 (by kernel_rfl) rfl
theorem zn:∀ (s p:a6),(Op.bytesLess s p || s == p) = !Op.bytesLess p s
 | [],[]=>by simp[Op.bytesLess]
 | [],_::_=>by simp[Op.bytesLess]
 | _::_,[]=>by simp[Op.bytesLess]
 | a::x,b::y=>by
  have ih:=zn x y;simp only[Op.bytesLess];rcases Nat.lt_trichotomy a.toNat b.toNat with h | h | h
  ·have h1:a<b:=h;have h2:¬ b<a:=fun h'=>by have h':b.toNat<a.toNat:=h';omega
   have h3:(b == a)=false:=by
    rw[beq_eq_false_iff_ne];rintro rfl;omega
   simp[h1,h2,h3]
  ·have h0:a=b:=UInt8.toNat_inj.1 h;subst h0;have h2:¬ a<a:=fun h'=>by have h':a.toNat<a.toNat:=h';omega
   simp[h2];rw[<- ih];try (cases Op.bytesLess x y<;>simp)
   try (by_cases hxy:x=y<;>simp[hxy])
  ·have h1:b<a:=h;have h2:¬ a<b:=fun h'=>by have h':a.toNat<b.toNat:=h';omega
   have h3:(a == b)=false:=by
    rw[beq_eq_false_iff_ne];rintro rfl;omega
   have h4:¬ a=b:=by simpa using h3
   simp[h1,h2,h4]
theorem eH {n k:Nat} {q:Nat->Bool} (hk:k<n) (h:q k=false):(List.range n).all q=false:=by
 rw[List.all_eq_false];exact⟨k,by simpa using hk,by simp[h]⟩
theorem eI {n:Nat} {q:Nat->Bool} (h:∀ i,i<n->q i=true):(List.range n).all q=true:=by
 simpa[List.all_eq_true] using h
def fM (l:List a6) (i:Nat):Bool:=qs (l.getD i []) && l9 l i
theorem gC (l:List a6):db l=(decide (l.length<=16) && (List.range l.length).all (fM l)):=rfl
theorem sl (l:List a6) (hl:l.length<=1048576) (hs:∀ s ∈ l,s.length<=1048576):aF prog 165 [encS false l] (fun r=>r=bool (db l)):=by
 refine aF.of func165 rfl ntmps165 (by simp) fun Q hQ=>?_
 refine zE fun k' V=>?_
 simp [encS];apply V;refine zS fun k' V=>?_
 simp;apply V;refine J.block (J.cz l.length (fun k O H n=>O 0 = .list false (l.map aT)/\O 5 = .list false (l.map aT)/\O 6=int l.length/\O 7=int k/\∀ i,i<k->fM l i=true) ?_ ?_)
 ·simp
 ·rintro k O H n hk ⟨h0,h5,h6,h7,hall⟩ IH;refine zE fun k' V=>?_
  simp [h6, h7];apply V;apply J.seq;refine J.ite rfl (fun hc1 => ?_) (fun hc1 => ?_)
  ·have hc1:k<l.length:=by simpa using hc1
   apply zK;apply J.block;refine zE fun k' V=>?_
   simp [h5, h7, hc1, aT];apply V;refine zE fun k' V=>?_
   have fin:∀ O:Env,O 0 = .list false (l.map aT)->O 5 = .list false (l.map aT)->O 6=int l.length->O 7=int k->O 27=bool (!fM l k)->J prog 165 32 k' O H n Q:=by
    intro O h0 h5 h6 h7 h27;apply V;refine J.ite h27 (fun hc2 => ?_) (fun hc2 => ?_)
    ·have hb:fM l k=false:=by simpa using hc2
     refine zE fun k' V=>?_
     simp;apply V;exact J.ret func165 (aU.one results165) (hQ _ _ _ _ (.v _ _ _) (by rw[gC,eH hc1 hb,Bool.and_false]))
    ·have hb:fM l k=true:=by simpa using hc2
     apply J.skip;refine zI fun k' V=>?_
     simp [h7, bz (show k < 4611686018427387904 by omega)];apply V;refine IH hc1 _ _ _ ⟨by simp[h0],by simp[h5],by simp[h6],by simp,fun i hi=>?_⟩;rcases Nat.lt_or_ge i k with h | h
     ·exact hall i h
     ·rw[show i=k by omega];exact hb
   have hgk:l.getD k []=l[k]:=by simp[hc1]
   simp;refine zA (wx l[k] (Nat.le_trans (hs _ (List.getElem_mem hc1)) (by decide))) e210 (.cons (.v _ _ _) .nil) (by simp) ?_;rintro _ rfl;cases hnm:qs l[k]
   ·simp[guardOf];exact fin _ (by simp[h0]) (by simp[h5]) (by simp[h6]) (by simp[h7]) (by simp[fM,hc1,hnm])
   ·by_cases hk0:k=0
    ·subst hk0;simp[guardOf];exact fin _ (by simp[h0]) (by simp[h5]) (by simp[h6]) (by simp[h7]) (by simp[fM,hc1,hnm,l9])
    ·have hk1:0<k:=by omega
     have hw:IntKind.i64.wrap ((k:Int) - 1)=((k - 1:Nat):Int):=by rw[wrap64]<;>omega
     have hkl:k - 1<l.length:=by omega
     have hgk1:l.getD (k - 1) []=l[k - 1]:=by simp[hkl]
     have hp:=zn l[k] l[k - 1];simp[guardOf,hk1,h0,hw,hkl,aT];refine fin _ (by simp[h0]) (by simp[h5]) (by simp[h6]) (by simp[h7]) ?_;simp only[fM,hgk,hnm,l9,hgk1,hk0,decide_false,Bool.false_or,Bool.true_and];rw[<- hp];simp
  ·have hc1:¬ k<l.length:=by simpa using hc1
   have hke:k=l.length:=by omega
   subst hke;refine J.exit rfl ?_;refine zE fun k' V=>?_
   simp [h0];apply V;refine J.ret func165 (aU.one results165) (hQ _ _ _ _ (.v _ _ _) ?_);rw[gC,eI hall];simp;omega
end Go.Ab
namespace Go.Ab
open Go.Proofs
theorem e166:a8 prog 166:=a8.of func166 (by kernel_rfl) rfl
theorem e140:a8 prog 140:=a8.of func140 (by kernel_rfl) rfl
theorem vi (l:List a6) (hl:l.length<=1048576) (hs:∀ s ∈ l,s.length<=1048576):aF prog 139 [encS false l] (fun r=>r=bool (db l)):=by
 refine aF.of func139 rfl ntmps139 (by simp) fun Q hQ=>?_
 refine zE fun k' V=>?_
 simp [encS];apply V;refine zS fun k' V=>?_
 simp;apply V;refine J.block (J.cz l.length (fun k O H n=>O 0 = .list false (l.map aT)/\O 3=int k/\∀ i,i<k->fM l i=true) ?_ ?_)
 ·simp
 ·rintro k O H n hk ⟨h0,h3,hall⟩ IH;refine zS fun k' V=>?_
  simp [h0, h3];apply V;refine J.ite rfl (fun hc1 => ?_) (fun hc1 => ?_)
  ·have hc1:k<l.length:=by simpa using hc1
   apply zK;apply J.block;refine J.fC aB aP bZ (by decide) (by kernel_rfl) fun k' V=>?_
   have fin:∀ O:Env,O 0 = .list false (l.map aT)->O 3=int k->O 31=bool (!fM l k)->J prog 139 35 k' O H n Q:=by
    intro O h0 h3 h31;apply V;refine J.ite h31 (fun hc2=>?_) (fun hc2=>?_)
    ·have hb:fM l k=false:=by simpa using hc2
     refine zE fun k' V=>?_
     simp;apply V;exact J.ret func139 (aU.one results139) (hQ _ _ _ _ (.v _ _ _) (by rw[gC,eH hc1 hb,Bool.and_false]))
    ·have hb:fM l k=true:=by simpa using hc2
     apply J.skip;refine zI fun k' V=>?_
     simp [h3, bz (show k < 4611686018427387904 by omega)];apply V;refine IH hc1 _ _ _ ⟨by simp[h0],by simp,fun i hi=>?_⟩;rcases Nat.lt_or_ge i k with h | h
     ·exact hall i h
     ·rw[show i=k by omega];exact hb
   have hgk:l.getD k []=l[k]:=by simp[hc1]
   simp [h0, h3, hc1, aT];refine bN.dA aB aP (wi l[k] (Nat.le_trans (hs _ (List.getElem_mem hc1)) (by decide))) e191 (.cons (.v _ _ _) .nil) (by decide) rfl (by simp) ?_;cases hnm:qs l[k]
   ·simp[guardOf];exact fin _ (by simp[h0,aT]) (by simp[h3]) (by simp[fM,hc1,hnm])
   ·by_cases hk0:k=0
    ·subst hk0;simp[h3,guardOf];exact fin _ (by simp[h0,aT]) (by simp[h3]) (by simp[fM,hc1,hnm,l9])
    ·have hk1:0<k:=by omega
     have hw:IntKind.i64.wrap ((k:Int) - 1)=((k - 1:Nat):Int):=by rw[wrap64]<;>omega
     have hkl:k - 1<l.length:=by omega
     have hgk1:l.getD (k - 1) []=l[k - 1]:=by simp[hkl]
     simp[guardOf,hk1,h0,h3,hw,hkl,hc1,aT];refine fin _ (by simp[h0,aT]) (by simp[h3]) ?_;simp only[fM,hgk,hnm,l9,hgk1,hk0,decide_false,Bool.false_or,Bool.true_and];simp
  ·have hc1:¬ k<l.length:=by simpa using hc1
   have hke:k=l.length:=by omega
   subst hke;refine J.exit rfl ?_;refine zE fun k' V=>?_
   simp [h0];apply V;refine J.ret func139 (aU.one results139) (hQ _ _ _ _ (.v _ _ _) ?_);rw[gC,eI hall];simp;omega
def names (b:aG):List a6:=b.inner.map (·.name)
theorem vF (b:aG) (hl:b.inner.length<=1048576):aF prog 166 [cX false b] (fun r=>r=encS true (names b)):=by
 refine aF.of func166 rfl ntmps166 (by simp) fun Q hQ=>?_
 refine zE fun _ V=>?_
 simp [cX, aG.cells];apply V;refine zE fun _ V=>?_
 simp;apply V;refine zS fun _ V=>?_
 simp [cI];apply V;refine J.block (J.cz b.inner.length (fun k O H n=>O 8 = .list false (b.inner.map aD.cells)/\O 9=int b.inner.length/\O 10=int k/\O 3 = .arr (1,6) k 0 k/\H (1,6)=some ⟨1,((names b).take k).map aT⟩) ?_ ?_)
 ·simp
 ·rintro k O H n hk ⟨h8,h9,h10,h3,hH⟩ IH;refine zE fun _ V=>?_
  simp [h9, h10];apply V;apply J.seq;refine J.ite rfl (fun hc1 => ?_) (fun hc1 => ?_)
  ·have hc1:k<b.inner.length:=by simpa using hc1
   have htk:(((names b).take k).map aT).length=k:=by simp[names];omega
   have hts:(names b).take (k+1)=(names b).take k++[b.inner[k].name]:=by
    rw[List.take_succ_eq_append_getElem (by simpa[names] using hc1)];simp[names]
   apply zK;apply J.block;refine zE fun _ V=>?_
   simp [h8, h10, hc1, aD.cells];apply V;refine zF fun _ V=>?_
   generalize hels:((names b).take k).map aT=els at hH htk;simp [h3, hH, htk, live, show k <= 1073741823 by omega];apply V;refine zI fun _ V=>?_
   simp [h10, bz (show k < 4611686018427387904 by omega)];apply V;refine IH hc1 _ _ _ ⟨by simp[h8],by simp[h9],by simp,by simp,?_⟩;simp[hts,<- hels,aT]
  ·have hc1:¬ k<b.inner.length:=by simpa using hc1
   have hke:k=b.inner.length:=by omega
   subst hke;refine J.exit rfl ?_;refine zE fun _ V=>?_
   simp [h3];apply V;have he:(names b).take b.inner.length=names b:=List.take_of_length_le (by simp[names]);rw[he] at hH;exact J.ret func166 (aU.one results166) (hQ _ _ _ _ (.of (lO.Dm (by simp[live,hH,names];rfl) (by simp[aT]))) rfl)
theorem Ch (b:aG) (hl:b.inner.length<=1048576):aF prog 140 [cX false b] (fun r=>r=encS true (names b)):=by
 refine aF.of func140 rfl ntmps140 (by simp) fun Q hQ=>?_
 refine zE fun _ V=>?_
 simp [cX, aG.cells];apply V;refine zE fun _ V=>?_
 simp;apply V;refine zS fun _ V=>?_
 simp [cI];apply V;refine J.block (J.cz b.inner.length (fun k O H n=>O 1 = .ptr (0,1) 1 0 0/\H (0,1)=some ⟨6,[b.cells false]⟩/\O 4=int k/\O 3 = .arr (1,5) k 0 k/\H (1,5)=some ⟨1,((names b).take k).map aT⟩) ?_ ?_)
 ·simp[aG.cells,cI]
 ·rintro k O H n hk ⟨h1,hb,h4,h3,hH⟩ IH;refine zS fun _ V=>?_
  simp [h1, hb, h4, aG.cells, cI];apply V;refine J.ite rfl (fun hc1 => ?_) (fun hc1 => ?_)
  ·have hc1:k<b.inner.length:=by simpa using hc1
   have htk:(((names b).take k).map aT).length=k:=by simp[names];omega
   have hts:(names b).take (k+1)=(names b).take k++[b.inner[k].name]:=by
    rw[List.take_succ_eq_append_getElem (by simpa[names] using hc1)];simp[names]
   apply zK;apply J.block;refine zF fun _ V=>?_
   generalize hels:((names b).take k).map aT=els at hH htk;simp [h1, hb, h3, h4, hH, htk, hc1, live, aG.cells, cI, aD.cells, show k <= 1073741823 by omega];apply V;refine zI fun _ V=>?_
   simp [h4, bz (show k < 4611686018427387904 by omega)];apply V;refine IH hc1 _ _ _ ⟨by simp[h1],by simp[hb,aG.cells,cI],by simp,by simp,?_⟩;simp[hts,<- hels,aT]
  ·have hc1:¬ k<b.inner.length:=by simpa using hc1
   have hke:k=b.inner.length:=by omega
   subst hke;refine J.exit rfl ?_;refine zE fun _ V=>?_
   simp [h3];apply V;have he:(names b).take b.inner.length=names b:=List.take_of_length_le (by simp[names]);rw[he] at hH;exact J.ret func140 (aU.one results140) (hQ _ _ _ _ (.of (lO.Dm (by simp[live,hH,names];rfl) (by simp[aT]))) rfl)
end Go.Ab
