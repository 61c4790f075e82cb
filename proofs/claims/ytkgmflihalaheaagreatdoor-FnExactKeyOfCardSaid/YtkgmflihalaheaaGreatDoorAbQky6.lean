/- Merged texts (6 of 16) of the proof that ends in Kyy: Shelf S Q aa Ga Sn Vp Kb. -/
import Derived.Test.YtkgmflihalaheaaGreatDoorAbQky5
import Derived.Shelf.Strings.Builder1
import Derived.Shelf.Strings.Builder2
import Derived.Shelf.Strings.OnBuilder
import Derived.Shelf.Strings.Trim
import Derived.Shelf.Small.Utf8
import Derived.Shelf.Small.Strs
import Derived.Shelf.Small.Wraps
import Derived.Shelf.Utf8.RuneCount
import Derived.Shelf.Strconv.Itoa0
import Derived.Shelf.Strconv.Itoa1
import Derived.Shelf.LaysM
import Derived.Shelf.Strconv.Itoa2
import Derived.Shelf.Strconv.Itoa3
import Derived.Shelf.Strings.Search1
import Derived.Shelf.Strings.Search2
import Derived.Shelf.Strings.Search3
import Derived.Shelf.Strings.Cut
import Derived.Shelf.Strings.Count
import Derived.Shelf.Strings.Shaped
import Derived.Shelf.Strings.Split
import Derived.Shelf.Strings.SplitShaped
import Derived.Shelf.Unicode.Decode
import Derived.Shelf.Strings.Runes
import Derived.Shelf.Strings.RuneCount
import Derived.Shelf.Strings.AsciiSet
import Derived.Shelf.Strings.Explode
import Derived.Shelf.Bits.Mul64
import Derived.Shelf.Unicode.DecodeSlow
import Derived.Shelf.Unicode.DecodeAny
import Derived.Shelf.Unicode.DecodeLast
import Derived.Shelf.Slices.Turned
import Derived.Ground.Names2Prog
import Derived.Shelf.Slices.Clone
import Derived.Shelf.Slices.SearchI
import Derived.Ground.SlgnProg
import Derived.Shelf.SlicesE.Clone
import Derived.Test.YtkgmflihalaheaaGreatDoorProg
import Derived.Shelf.Strings.SlTrimAscii
import Derived.Lib.Join
open Go.Proofs.Tryz
set_option linter.unusedSectionVars false
set_option linter.unusedSimpArgs false
set_option linter.unusedVariables false
namespace Go.Proofs
open Go.Shelf
def Tryz.nJ:Go.Shelf.Ren:=⟨fun | 156=>83 | 165=>112 | 166=>113 | 169=>114 | 240=>138 | 241=>139 | 276=>163 | 277=>164 | n=>n,fun | 31=>25 | 9=>9 | 3=>3 | 4=>4 | 0=>0 | 20=>20 | 72=>134 | 76=>138 | 70=>131 | 37=>132 | 75=>137 | 127=>161 | 164=>181 | 5=>5 | 80=>140 | n=>n,fun | n=>n⟩
theorem Tryz.xY:Go.Proofs.Lays.n156 prog Tryz.nJ:={
 mixed:=by kernel_rfl
 f156:=Tryz.func83.trans (congrArg some (by kernel_rfl))
 f165:=Tryz.func112.trans (congrArg some (by kernel_rfl))
 f166:=Tryz.func113.trans (congrArg some (by kernel_rfl))
 f169:=Tryz.func114.trans (congrArg some (by kernel_rfl))
 f240:=Tryz.func138.trans (congrArg some (by kernel_rfl))
 f241:=Tryz.func139.trans (congrArg some (by kernel_rfl))
 f276:=Tryz.func163.trans (congrArg some (by kernel_rfl))
 f277:=Tryz.func164.trans (congrArg some (by kernel_rfl))
 t0:=Tryz.underlying0
 a0:=Tryz.isAgg0
 z0:=Tryz.sizeOf0
 v0:=Tryz.zeroValue0
 t3:=Tryz.underlying3
 a3:=Tryz.isAgg3
 z3:=Tryz.sizeOf3
 v3:=Tryz.zeroValue3
 t4:=Tryz.underlying4
 a4:=Tryz.isAgg4
 z4:=Tryz.sizeOf4
 v4:=Tryz.zeroValue4
 t9:=Tryz.underlying9
 a9:=Tryz.isAgg9
 z9:=Tryz.sizeOf9
 v9:=Tryz.zeroValue9
 t20:=Tryz.underlying20
 a20:=Tryz.isAgg20
 z20:=Tryz.sizeOf20
 v20:=Tryz.zeroValue20
 t31:=Tryz.underlying25
 a31:=Tryz.isAgg25
 z31:=Tryz.sizeOf25
 v31:=Tryz.zeroValue25
 t37:=Tryz.underlying132
 a37:=Tryz.isAgg132
 z37:=Tryz.sizeOf132
 v37:=Tryz.zeroValue132
 t70:=Tryz.underlying131
 a70:=Tryz.isAgg131
 z70:=Tryz.sizeOf131
 v70:=Tryz.zeroValue131
 t72:=Tryz.underlying134
 a72:=Tryz.isAgg134
 z72:=Tryz.sizeOf134
 v72:=Tryz.zeroValue134
 t75:=Tryz.underlying137
 a75:=Tryz.isAgg137
 z75:=Tryz.sizeOf137
 v75:=Tryz.zeroValue137
 t76:=Tryz.underlying138
 a76:=Tryz.isAgg138
 z76:=Tryz.sizeOf138
 v76:=Tryz.zeroValue138
 t127:=Tryz.underlying161
 a127:=Tryz.isAgg161
 z127:=Tryz.sizeOf161
 v127:=Tryz.zeroValue161
 t164:=Tryz.underlying181
 a164:=Tryz.isAgg181
 z164:=Tryz.sizeOf181
 v164:=Tryz.zeroValue181 }
theorem Tryz.gI:Builder.Extra prog Tryz.nJ:={
 sizeBuilder:=by kernel_rfl
 liesBuilder:=by kernel_rfl
 t5:=Tryz.underlying5
 a5:=Tryz.isAgg5
 z5:=Tryz.sizeOf5
 v5:=Tryz.zeroValue5
 infoByte:=by kernel_rfl
 cellsByte:=by kernel_rfl
 sizeByte:=by kernel_rfl
 neB5:=by decide }
open Go.RowKit in
theorem Tryz.strings_Join_none (a:Option Addr) (c:Nat) (sep:ByteArray) (w:World) :
  Calls prog 83 #[.slice a 0 c,.string sep] w fun e w'=>e = .returned (.string ⟨#[]⟩)/\w'=w:=Any.strings_Join_none Tryz.xY Tryz.gI a c sep w
open Go.RowKit in
theorem Tryz.strings_Join (bk o c:Nat) (xs:List ByteArray) (sep:ByteArray) (w:World) (hcells:∀ (j:Nat) x,xs[j]?=some x->w.cell? ⟨bk,o+j,none⟩=some (.string x)) (hbk:bk<w.heap.size) (hN:xs.length<=140737488355328) (dN:xs.length<=c) (hlen:(Lib.join (xs.map (·.data.toList)) sep.data.toList).length<=140737488355328) :
  Calls prog 83 #[.slice (some ⟨bk,o,none⟩) xs.length c,.string sep] w fun e w'=>e = .returned (.string ⟨(Lib.join (xs.map (·.data.toList)) sep.data.toList).toArray⟩)/\Below w.heap.size w w':=Any.strings_Join Tryz.xY Tryz.gI bk o c xs sep w hcells hbk hN dN hlen
def Tryz.ug:Go.Shelf.Ren:=⟨fun | 160=>135 | 232=>156 | 231=>155 | 227=>157 | 234=>159 | 233=>158 | 236=>161 | 235=>160 | 228=>180 | 271=>183 | 151=>182 | 197=>181 | 120=>200 | 152=>199 | 260=>198 | 137=>213 | 119=>214 | 224=>208 | 225=>207 | 217=>206 | 266=>217 | n=>n,fun | 9=>9 | 4=>4 | 3=>3 | 5=>5 | 117=>176 | 116=>175 | 0=>0 | 124=>179 | 21=>21 | 105=>194 | 46=>184 | 119=>226 | 139=>229 | 138=>228 | n=>n,fun | 3=>4 | 4=>5 | n=>n⟩
theorem Tryz.Dm:Go.Proofs.Lays.n160 prog Tryz.ug:={
 mixed:=by kernel_rfl
 f119:=Tryz.func214.trans (congrArg some (by kernel_rfl))
 f120:=Tryz.func200.trans (congrArg some (by kernel_rfl))
 f137:=Tryz.func213.trans (congrArg some (by kernel_rfl))
 f151:=Tryz.func182.trans (congrArg some (by kernel_rfl))
 f152:=Tryz.func199.trans (congrArg some (by kernel_rfl))
 f160:=Tryz.func135.trans (congrArg some (by kernel_rfl))
 f197:=Tryz.func181.trans (congrArg some (by kernel_rfl))
 f217:=Tryz.func206.trans (congrArg some (by kernel_rfl))
 f224:=Tryz.func208.trans (congrArg some (by kernel_rfl))
 f225:=Tryz.func207.trans (congrArg some (by kernel_rfl))
 f227:=Tryz.func157.trans (congrArg some (by kernel_rfl))
 f228:=Tryz.func180.trans (congrArg some (by kernel_rfl))
 f231:=Tryz.func155.trans (congrArg some (by kernel_rfl))
 f232:=Tryz.func156.trans (congrArg some (by kernel_rfl))
 f233:=Tryz.func158.trans (congrArg some (by kernel_rfl))
 f234:=Tryz.func159.trans (congrArg some (by kernel_rfl))
 f235:=Tryz.func160.trans (congrArg some (by kernel_rfl))
 f236:=Tryz.func161.trans (congrArg some (by kernel_rfl))
 f260:=Tryz.func198.trans (congrArg some (by kernel_rfl))
 f266:=Tryz.func217.trans (congrArg some (by kernel_rfl))
 f271:=Tryz.func183.trans (congrArg some (by kernel_rfl))
 t0:=Tryz.underlying0
 a0:=Tryz.isAgg0
 z0:=Tryz.sizeOf0
 v0:=Tryz.zeroValue0
 t3:=Tryz.underlying3
 a3:=Tryz.isAgg3
 z3:=Tryz.sizeOf3
 v3:=Tryz.zeroValue3
 t4:=Tryz.underlying4
 a4:=Tryz.isAgg4
 z4:=Tryz.sizeOf4
 v4:=Tryz.zeroValue4
 t5:=Tryz.underlying5
 a5:=Tryz.isAgg5
 z5:=Tryz.sizeOf5
 v5:=Tryz.zeroValue5
 t9:=Tryz.underlying9
 a9:=Tryz.isAgg9
 z9:=Tryz.sizeOf9
 v9:=Tryz.zeroValue9
 t21:=Tryz.underlying21
 a21:=Tryz.isAgg21
 z21:=Tryz.sizeOf21
 v21:=Tryz.zeroValue21
 t46:=Tryz.underlying184
 a46:=Tryz.isAgg184
 z46:=Tryz.sizeOf184
 v46:=Tryz.zeroValue184
 t105:=Tryz.underlying194
 a105:=Tryz.isAgg194
 z105:=Tryz.sizeOf194
 v105:=Tryz.zeroValue194
 t116:=Tryz.underlying175
 a116:=Tryz.isAgg175
 z116:=Tryz.sizeOf175
 t117:=Tryz.underlying176
 a117:=Tryz.isAgg176
 z117:=Tryz.sizeOf176
 v117:=Tryz.zeroValue176
 t119:=Tryz.underlying226
 a119:=Tryz.isAgg226
 z119:=Tryz.sizeOf226
 t124:=Tryz.underlying179
 a124:=Tryz.isAgg179
 z124:=Tryz.sizeOf179
 v124:=Tryz.zeroValue179
 t138:=Tryz.underlying228
 a138:=Tryz.isAgg228
 z138:=Tryz.sizeOf228
 v138:=Tryz.zeroValue228
 t139:=Tryz.underlying229
 a139:=Tryz.isAgg229
 z139:=Tryz.sizeOf229
 v139:=Tryz.zeroValue229
 g3:=by kernel_rfl
 g4:=by kernel_rfl }
def Tryz.sw:Go.Shelf.Ren:=⟨fun | 171=>111 | 243=>137 | 246=>162 | 283=>184 | 284=>185 | 285=>186 | 286=>187 | 129=>202 | 317=>201 | 318=>203 | 319=>204 | 320=>205 | 337=>215 | 338=>216 | n=>n,fun | 3=>3 | 9=>9 | 2=>2 | 4=>4 | 171=>197 | 0=>0 | 53=>198 | 37=>132 | 5=>5 | 173=>201 | 212=>217 | 51=>203 | 20=>20 | 213=>218 | 46=>184 | 232=>237 | 233=>238 | n=>n,fun | 17=>1 | 18=>6 | 19=>7 | n=>n⟩
theorem Tryz.Bl:Go.Proofs.LaysM.n171 prog Tryz.sw:={
 mixed:=by kernel_rfl
 f129:=Tryz.func202.trans (congrArg some (by kernel_rfl))
 f171:=Tryz.func111.trans (congrArg some (by kernel_rfl))
 f243:=Tryz.func137.trans (congrArg some (by kernel_rfl))
 f246:=Tryz.func162.trans (congrArg some (by kernel_rfl))
 f283:=Tryz.func184.trans (congrArg some (by kernel_rfl))
 f284:=Tryz.func185.trans (congrArg some (by kernel_rfl))
 f285:=Tryz.func186.trans (congrArg some (by kernel_rfl))
 f286:=Tryz.func187.trans (congrArg some (by kernel_rfl))
 f317:=Tryz.func201.trans (congrArg some (by kernel_rfl))
 f318:=Tryz.func203.trans (congrArg some (by kernel_rfl))
 f319:=Tryz.func204.trans (congrArg some (by kernel_rfl))
 f320:=Tryz.func205.trans (congrArg some (by kernel_rfl))
 f337:=Tryz.func215.trans (congrArg some (by kernel_rfl))
 f338:=Tryz.func216.trans (congrArg some (by kernel_rfl))
 t0:=Tryz.underlying0
 a0:=Tryz.isAgg0
 z0:=Tryz.sizeOf0
 v0:=Tryz.zeroValue0
 t2:=Tryz.underlying2
 a2:=Tryz.isAgg2
 z2:=Tryz.sizeOf2
 v2:=Tryz.zeroValue2
 t3:=Tryz.underlying3
 a3:=Tryz.isAgg3
 z3:=Tryz.sizeOf3
 v3:=Tryz.zeroValue3
 t4:=Tryz.underlying4
 a4:=Tryz.isAgg4
 z4:=Tryz.sizeOf4
 v4:=Tryz.zeroValue4
 t5:=Tryz.underlying5
 a5:=Tryz.isAgg5
 z5:=Tryz.sizeOf5
 v5:=Tryz.zeroValue5
 t9:=Tryz.underlying9
 a9:=Tryz.isAgg9
 z9:=Tryz.sizeOf9
 v9:=Tryz.zeroValue9
 t20:=Tryz.underlying20
 a20:=Tryz.isAgg20
 z20:=Tryz.sizeOf20
 v20:=Tryz.zeroValue20
 t37:=Tryz.underlying132
 a37:=Tryz.isAgg132
 z37:=Tryz.sizeOf132
 v37:=Tryz.zeroValue132
 t46:=Tryz.underlying184
 a46:=Tryz.isAgg184
 z46:=Tryz.sizeOf184
 v46:=Tryz.zeroValue184
 t51:=Tryz.underlying203
 a51:=Tryz.isAgg203
 z51:=Tryz.sizeOf203
 v51:=Tryz.zeroValue203
 t53:=Tryz.underlying198
 a53:=Tryz.isAgg198
 z53:=Tryz.sizeOf198
 v53:=Tryz.zeroValue198
 t171:=Tryz.underlying197
 a171:=Tryz.isAgg197
 z171:=Tryz.sizeOf197
 v171:=Tryz.zeroValue197
 t173:=Tryz.underlying201
 a173:=Tryz.isAgg201
 z173:=Tryz.sizeOf201
 v173:=Tryz.zeroValue201
 t212:=Tryz.underlying217
 a212:=Tryz.isAgg217
 z212:=Tryz.sizeOf217
 v212:=Tryz.zeroValue217
 t213:=Tryz.underlying218
 a213:=Tryz.isAgg218
 z213:=Tryz.sizeOf218
 t232:=Tryz.underlying237
 a232:=Tryz.isAgg237
 z232:=Tryz.sizeOf237
 v232:=Tryz.zeroValue237
 t233:=Tryz.underlying238
 a233:=Tryz.isAgg238
 z233:=Tryz.sizeOf238
 v233:=Tryz.zeroValue238
 g17:=by kernel_rfl
 g18:=by kernel_rfl
 g19:=by kernel_rfl
 i0:=by kernel_rfl
 i2:=by kernel_rfl
 i3:=by kernel_rfl
 i4:=by kernel_rfl
 i5:=by kernel_rfl
 i9:=by kernel_rfl
 i20:=by kernel_rfl
 i37:=by kernel_rfl
 i46:=by kernel_rfl
 i51:=by kernel_rfl
 i53:=by kernel_rfl
 i171:=by kernel_rfl
 i173:=by kernel_rfl
 i212:=by kernel_rfl
 i232:=by kernel_rfl
 i233:=by kernel_rfl
 m17:=by kernel_rfl
 m18:=by kernel_rfl
 m19:=by kernel_rfl }
open Go.RowKit Go.Sort Go.Lib in
theorem Tryz.strconv_Itoa (n : Int) (h0 : -9223372036854775808 <= n) (h1 : n <= 9223372036854775807) (w : World) (htab : Lib.TabIs prog w "internal/strconv.uint64pow10" .u64 Lib.pow10Tab) :
  Calls prog 111 #[.int .i64 n] w fun e w'=>e = .returned (.string ⟨(Lib.itoa n).toArray⟩)/\∃ k os,w'=grow (w.drewN k) os:=Any.strconv_Itoa Tryz.Bl n h0 h1 w htab
def Tryz.tt:Go.Shelf.Ren:=⟨fun | 212=>165 | 263=>188 | 264=>189 | n=>n,fun | 46=>184 | 51=>203 | 146=>204 | 53=>198 | 148=>206 | n=>n,fun | n=>n⟩
theorem Tryz.Ef:Go.Proofs.Lays.n212 prog Tryz.tt:={
 mixed:=by kernel_rfl
 f212:=Tryz.func165.trans (congrArg some (by kernel_rfl))
 f263:=Tryz.func188.trans (congrArg some (by kernel_rfl))
 f264:=Tryz.func189.trans (congrArg some (by kernel_rfl))
 t46:=Tryz.underlying184
 a46:=Tryz.isAgg184
 z46:=Tryz.sizeOf184
 v46:=Tryz.zeroValue184
 t51:=Tryz.underlying203
 a51:=Tryz.isAgg203
 z51:=Tryz.sizeOf203
 v51:=Tryz.zeroValue203
 t53:=Tryz.underlying198
 a53:=Tryz.isAgg198
 z53:=Tryz.sizeOf198
 v53:=Tryz.zeroValue198
 t146:=Tryz.underlying204
 a146:=Tryz.isAgg204
 z146:=Tryz.sizeOf204
 v146:=Tryz.zeroValue204
 t148:=Tryz.underlying206
 a148:=Tryz.isAgg206
 z148:=Tryz.sizeOf206
 v148:=Tryz.zeroValue206 }
open Go.RowKit Go.Lib in
theorem Tryz.bits_Mul (x y:Nat) (hx:x<18446744073709551616) (hy:y<18446744073709551616) (w:World) :
  Calls prog 165 #[.int .u64 x,.int .u64 y] w fun e w'=>e = .returned (.tuple #[.int .u64 ((x * y / 18446744073709551616:Nat):Int),.int .u64 ((x * y % 18446744073709551616:Nat):Int)])/\w'=w:=Any.bits_Mul Tryz.Ef x y hx hy w
end Go.Proofs
namespace Go.Ab
open Go.Proofs Go.RowKit
theorem aC.pU {P:Program} {f:FuncId} {args:List I} {R:I->Prop}
  (h:∀ (c:Ctx) (xs:List Value),(∀ id,c.H id=none)->de c args xs->Calls P f xs.toArray c.w fun e w'=>∃ x v,e = .returned x/\R v/\bV v/\(∀ c':Ctx,bT c' v x)/\Below c.w.heap.size c.w w'):aC P f args R:=by
 intro c xs hH hn g r;refine (h c xs (by intro id;rw[hH];rfl) r).mono ?_;rintro e w' ⟨x,v,he,hR,hf,hv,hb⟩;obtain⟨hk,hg⟩:=du g w' ⟨hb.os,hb.tape,hb.output⟩ hb.size hb.block;exact⟨x,v,{ c with w:=w' },he,rfl,⟨v,.of (ic.fresh hf),hR⟩,hv _,hg,hk⟩
theorem de.aF {c:Ctx} {a:I} {xs:List Value} (r:de c [a] xs):∃ x,xs=[x]/\bT c a x:=by
 obtain⟨hl,hr⟩:=r
 match xs,hl with
 | [x],_=>exact⟨x,rfl,hr 0 a x rfl rfl⟩
theorem de.two2 {c:Ctx} {a b:I} {xs:List Value} (r:de c [a,b] xs):∃ x y,xs=[x,y]/\bT c a x/\bT c b y:=by
 obtain⟨hl,hr⟩:=r
 match xs,hl with
 | [x,y],_=>exact⟨x,y,rfl,hr 0 a x rfl rfl,hr 1 b y rfl rfl⟩
theorem Ei (s cut:bc) (hs:s.length<=4611686018427387904) (hc:cut.length<=1000) (ha:cut.all (fun b=>decide (b.toNat<128))=true):aC prog 135 [str s,str cut] (fun r=>r=str (Lib.trimS s cut)):=by
 refine aC.pU fun c xs _ r=>?_
 obtain⟨x,y,rfl,hx,hy⟩:=r.two2;rw[hx.cn,hy.cn];refine (Any.strings_Trim_laid Tryz.Dm (by kernel_rfl) ⟨s.toArray⟩ ⟨cut.toArray⟩ c.w (by simp;omega) (by simp;omega) (ascii_of_all (by simpa using ha))).mono ?_;rintro e w' ⟨he,hb⟩;exact⟨_,_,he,rfl,.v _,fun _=>.v _,by simpa using hb⟩
theorem BU {α β:Type} {f:α->β} {l:List α} {i:Nat} {b:β} (h:(l.map f)[i]?=some b):∃ a,l[i]?=some a/\b=f a:=by
 rw[List.getElem?_map] at h;cases ha:l[i]? with
 | none=>simp[ha] at h
 | some a=>simp only[ha,Option.map_some,Option.some.injEq] at h;exact⟨a,rfl,h.symm⟩
theorem Dk (l:List bc) (sep:bc) (hl:l.length<=140737488355328) (hj:(Lib.join l sep).length<=140737488355328):aC prog 83 [.list false (l.map fun s=>[str s]),str sep] (fun r=>r=str (Lib.join l sep)):=by
 refine aC.pU fun c xs _ r=>?_
 obtain⟨x,y,rfl,hx,hy⟩:=r.two2;rw[hy.cn];generalize he:l.map (fun s=>[str s])=els at hx;cases hx with
 | lnil=>
  have:l=[]:=by simpa using he
  subst this;refine (Tryz.strings_Join_none none 0 ⟨sep.toArray⟩ c.w).mono ?_;rintro e w' ⟨he,hb⟩;exact⟨_,_,he,rfl,.v _,fun _=>.v _,hb ▸ Below.refl _ _⟩
 | list _ _ a cap sz cell hsp dN hm hsz hc hr=>
  subst he
  by_cases hne:l=[]
  ·subst hne;refine (Tryz.strings_Join_none (some a) cap ⟨sep.toArray⟩ c.w).mono ?_;rintro e w' ⟨he,hb⟩;exact⟨_,_,he,rfl,.v _,fun _=>.v _,hb ▸ Below.refl _ _⟩
  have hsp:=hsp (by simpa using hne);obtain⟨bk,o,M⟩:=a;simp only at hsp;subst hsp;have hone:∀ (j:Nat) s,l[j]?=some s->sz=1/\c.w.cell? ⟨bk,o+j,none⟩=some (.string ⟨s.toArray⟩):=by
   intro j s hj;have hg:(l.map fun s=>[str s])[j]?=some [str s]:=by rw[List.getElem?_map,hj];rfl
   have h1:=hsz j _ hg;simp at h1;have h2:=hc j _ 0 _ hg rfl;have h3:=(hr j _ 0 _ hg rfl).cn;subst h1;simp at h2;rw[h3] at h2;exact⟨rfl,h2⟩
  have hlen:(l.map fun s=>[str s]).length=(l.map fun s=>ByteArray.mk s.toArray).length:=by simp
  ·rw[hlen];have hbk:bk<c.w.heap.size:=(hm (by simpa using hne)).2.1;have hmm:(l.map fun s=>ByteArray.mk s.toArray).map (fun b=>b.data.toList)=l:=by simp[Function.comp_def]
   have H:=Tryz.strings_Join bk o cap (l.map fun s=>ByteArray.mk s.toArray) ⟨sep.toArray⟩ c.w (fun j x hx=>by
    obtain⟨s,hs,rfl⟩:=BU hx;exact (hone j s hs).2) hbk (by rw[List.length_map];exact hl) (by rw[<- hlen];exact dN) (by rw[hmm];exact hj)
   rw[hmm] at H;apply H.mono;rintro e w' ⟨he,hb⟩;exact⟨_,_,he,rfl,.v _,fun _=>.v _,hb⟩
end Go.Ab
namespace Go.Ab
open Go.Proofs
theorem e135:aZ prog 135:=aZ.of func135 (by kernel_rfl) rfl
theorem e83:aZ prog 83:=aZ.of func83 (by kernel_rfl) rfl
end Go.Ab
namespace Go.Ab
open Go.Proofs
theorem e106:aZ prog 106:=aZ.of func106 (by kernel_rfl) rfl
def lower (c:UInt8):Bool:=decide (97<=c.toNat) && decide (c.toNat<=122)
def kC (s:bc):Bool:=within s.length 1 4 && s.all lower
def alpha:bc:=[97,98,99,100,101,102,103,104,105,106,107,108,109,110,111,112,113,114,115,116,117,118,119,120,121,122]
set_option maxRecDepth 10000 in
theorem ub (c:UInt8):alpha.contains c=lower c:=by
 have h:∀ n:Fin 256,alpha.contains (UInt8.ofNat n.val)=lower (UInt8.ofNat n.val):=by decide
 have:=h ⟨c.toNat,c.toNat_lt⟩;simpa using this
theorem dropWhile_nil {q:UInt8->Bool}:∀ l:bc,l.dropWhile q=[]↔l.all q=true
 | []=>by simp
 | a::l=>by
  rw[List.dropWhile_cons];cases h:q a<;>simp[h,dropWhile_nil l]
theorem jS {q:UInt8->Bool}:∀ l:bc,(l.dropWhile q).reverse.all q=true->l.all q=true
 | [],_=>by simp
 | a::l,h=>by
  rw[List.dropWhile_cons] at h;cases hq:q a
  ·simp[hq] at h
  ·simp only[hq,if_true] at h;have:=jS l h;simp only[List.all_cons,hq,this,Bool.and_self]
theorem zJ (s:bc):(Lib.trimS s alpha=[])↔s.all lower=true:=by
 have he:(fun c=>alpha.contains c)=lower:=funext ub;unfold Lib.trimS Lib.trimLeftS Lib.trimRightS;rw[he,dropWhile_nil]
 constructor
 ·intro h;have:=jS _ h;simpa using this
 ·intro h;have h2:s.reverse.dropWhile lower=[]:=by rw[dropWhile_nil];simpa using h
  rw[h2]
  rfl
theorem rE (s:bc) (hs:s.length<=4294967296):aC prog 106 [str s] (fun r=>r=bool (kC s)):=by
 refine aC.of func106 rfl ntmps106 (by simp) fun Q hQ=>?_
 refine zE fun _ V=>?_
 simp;apply V;refine zE fun _ V=>?_
 simp;refine zA (eA s.length 1 4) Eu (.cons (.v _ _ _) (.cons (.v _ _ _) (.cons (.v _ _ _) .nil))) (by simp) ?_;rintro _ rfl;cases hw:within s.length 1 4
 ·simp[hw];apply V;exact J.ret func106 (aK.one results106) (hQ _ _ _ _ (.v _ _ _) (by simp[kC,hw]))
 ·simp[hw];refine zA (Ei s alpha (by omega) (by decide) (by decide)) e135 (.cons (.v _ _ _) (.cons (.v _ _ _) .nil)) (by simp[alpha]) ?_;rintro _ rfl;simp[hw];apply V;refine J.ret func106 (aK.one results106) (hQ _ _ _ _ (.v _ _ _) ?_);have:=zJ s;cases h:s.all lower<;>simp[h] at this<;>simp[kC,hw,h,this]
end Go.Ab
namespace Go.Ab
structure Control where
 name:bc
 ports:Int
 kind:Int
 deriving Inhabited,DecidableEq
structure ay where
 control:Int
 parent:Int
 links:List Int
 deriving Inhabited,DecidableEq
structure aN where
 name:bc
 link:Int
 deriving Inhabited,DecidableEq
structure aG where
 roots:Int
 nodes:List ay
 sites:List Int
 edges:Int
 outer:List bc
 inner:List aN
 deriving Inhabited,DecidableEq
abbrev cV:=List Control
def jm {α:Type} (fr:Bool) (f:α->List I) (l:List α):List I:=[.list fr (l.map f)]
def Control.cells (x:Control):List I:=[str x.name,int x.ports,int x.kind]
def aN.cells (x:aN):List I:=[str x.name,int x.link]
def ay.cells (t:Bool) (x:ay):List I:=[int x.control,int x.parent,.list t (x.links.map au)]
def bt (t:Bool) (s:cV):I:=.list t (s.map Control.cells)
def encI (t:Bool) (l:List Int):I:=.list t (l.map au)
def encS (t:Bool) (l:List bc):I:=.list t (l.map a7)
def bH (t:Bool) (l:List aN):I:=.list t (l.map aN.cells)
def bB (t:Bool) (l:List ay):I:=.list t (l.map (ay.cells t))
def aG.cells (t:Bool) (b:aG):List I:=[int b.roots,bB t b.nodes,encI t b.sites,int b.edges,encS t b.outer,bH t b.inner]
def cG (t:Bool) (b:aG):I:=.agg (b.cells t)
theorem rn (l:List Int):∀ e ∈ l.map au,∀ a ∈ e,flat a=true:=by simp[au]
theorem rL (l:List bc):∀ e ∈ l.map a7,∀ a ∈ e,flat a=true:=by simp[a7]
theorem qq (l:List aN):∀ e ∈ l.map aN.cells,∀ a ∈ e,flat a=true:=by simp[aN.cells]
theorem vd (l:cV):∀ e ∈ l.map Control.cells,∀ a ∈ e,flat a=true:=by simp[Control.cells]
theorem qz (t:Bool) (l:List Int):old (encI t l)=encI false l:=by rw[encI,fp,dH (rn l)];rfl
theorem vh (t:Bool) (l:List bc):old (encS t l)=encS false l:=by rw[encS,fp,dH (rL l)];rfl
theorem tB (t:Bool) (l:List aN):old (bH t l)=bH false l:=by rw[bH,fp,dH (qq l)];rfl
theorem wh (t:Bool) (l:cV):old (bt t l)=bt false l:=by rw[bt,fp,dH (vd l)];rfl
theorem ui (t:Bool) (x:ay):(x.cells t).map old=x.cells false:=by
 simp only[ay.cells,List.map_cons,List.map_nil,En];have:=qz t x.links;simp only[encI] at this;rw[this]
theorem qd (t:Bool) (l:List ay):old (bB t l)=bB false l:=by
 rw[bB,fp,List.map_map];simp only[bB]
 congr 1
 exact List.map_congr_left fun x _=>ui t x
theorem CV (t:Bool) (b:aG):old (cG t b)=cG false b:=by
 simp only[cG,aG.cells,oO,List.map_cons,List.map_nil,En,qd,qz,vh,tB]
theorem mh (t:Bool) (l:List Int):fw (encI t l):=.list _ _ fun e he a ha=>fw.flat (rn l e he a ha)
theorem qj (t:Bool) (l:List bc):fw (encS t l):=.list _ _ fun e he a ha=>fw.flat (rL l e he a ha)
theorem qk (t:Bool) (l:List aN):fw (bH t l):=.list _ _ fun e he a ha=>fw.flat (qq l e he a ha)
theorem wX (t:Bool) (l:cV):fw (bt t l):=.list _ _ fun e he a ha=>fw.flat (vd l e he a ha)
theorem tu (t:Bool) (x:ay):∀ a ∈ x.cells t,fw a:=by
 intro a ha;simp only[ay.cells,List.mem_cons,List.not_mem_nil,or_false] at ha;rcases ha with rfl | rfl | rfl
 ·exact .v _
 ·exact .v _
 ·exact mh t x.links
theorem qi (t:Bool) (l:List ay):fw (bB t l):=by
 refine .list _ _ fun e he a ha=>?_
 obtain⟨x,_,rfl⟩:=List.mem_map.1 he;exact tu t x a ha
theorem Bc (t:Bool) (b:aG):fw (cG t b):=by
 refine .agg _ fun a ha=>?_
 simp only[aG.cells,List.mem_cons,List.not_mem_nil,or_false] at ha;rcases ha with rfl | rfl | rfl | rfl | rfl | rfl
 ·exact .v _
 ·exact qi t _
 ·exact mh t _
 ·exact .v _
 ·exact qj t _
 ·exact qk t _
section
variable {H:Heap} {n:Nat}
theorem aM.encI (t:Bool) (l:List Int):aM H n (encI t l) (encI false l):=aM.sr (mh t l) (qz t l)
theorem aM.encS (t:Bool) (l:List bc):aM H n (encS t l) (encS false l):=aM.sr (qj t l) (vh t l)
theorem aM.bH (t:Bool) (l:List aN):aM H n (bH t l) (bH false l):=aM.sr (qk t l) (tB t l)
theorem aM.bt (t:Bool) (l:cV):aM H n (bt t l) (bt false l):=aM.sr (wX t l) (wh t l)
theorem aM.bB (t:Bool) (l:List ay):aM H n (bB t l) (bB false l):=aM.sr (qi t l) (qd t l)
theorem aM.cG (t:Bool) (b:aG):aM H n (cG t b) (cG false b):=aM.sr (Bc t b) (CV t b)
end
def cH (c:Control):Bool:=kC c.name && within c.ports 0 3 && within c.kind 0 2
def newName (sig:cV) (i:Nat):Bool := !(sig.take i).any fun d=>d.name == (sig.getD i default).name
def eM (sig:cV):Bool:=within sig.length 1 6 && (List.range sig.length).all fun i=>cH (sig.getD i default) && newName sig i
def km (l:List bc) (i:Nat):Bool:=decide (i=0) || Op.bytesLess (l.getD (i - 1) []) (l.getD i [])
def cA (l:List bc):Bool:=decide (l.length<=16) && (List.range l.length).all fun i=>kC (l.getD i []) && km l i
def c9 (b:aG) (l:Int):Bool:=within l 0 (b.edges+b.outer.length - 1)
def bZ (sig:cV) (b:aG) (parent:Int) (below:Nat):Bool:=
 if parent<0 then decide (-b.roots<=parent) else decide (parent<below) && decide ((sig.getD (b.nodes.getD parent.toNat default).control.toNat default).kind ≠ 2)
def ck (sig:cV) (b:aG) (i:Nat):Bool:=
 within (b.nodes.getD i default).control 0 (sig.length - 1) && bZ sig b (b.nodes.getD i default).parent i && decide ((b.nodes.getD i default).links.length=(sig.getD (b.nodes.getD i default).control.toNat default).ports) &&
  (b.nodes.getD i default).links.all (c9 b)
def jQ (sig:cV) (b:aG):Bool:=
 eM sig && within b.roots 0 4 && decide (b.nodes.length<=8) && decide (b.sites.length<=4) && within b.edges 0 8 && cA b.outer && cA (b.inner.map (·.name)) &&
  (List.range b.nodes.length).all (ck sig b) && b.sites.all (fun p=>bZ sig b p b.nodes.length) && b.inner.all (fun w=>c9 b w.link)
end Go.Ab
namespace Go.Ab
structure Match where
 nodes:List Int
 roots:List Int
 deriving Inhabited,DecidableEq
abbrev oE {α:Type} (l:List Sh) (f:α->List I) (v:I) (es:List α):bS:=(.s l,v,.list true (es.map f))
abbrev oI (v:I) (es:List Int):bS:=(.s [.c],v,.list true (es.map au))
abbrev oS (v:I) (es:List bc):bS:=(.s [.c],v,.list true (es.map a7))
abbrev oN (v:I) (es:List ay):bS:=(.s [.c,.c,.s [.c]],v,.list true (es.map (ay.cells true)))
abbrev oW (v:I) (es:List aN):bS:=(.s [.c,.c],v,.list true (es.map aN.cells))
section
variable {H H':Heap} {n n':Nat} {K:List bS} {ids:List Id} {x:bS}
theorem Sep.f1 {a:bS} (h:Sep H n (a::x::K) ids):Sep H n (x::a::K) ids:=Sep.front (K1:=[a]) h
theorem Sep.f2 {a b:bS} (h:Sep H n (a::b::x::K) ids):Sep H n (x::a::b::K) ids:=Sep.front (K1:=[a,b]) h
theorem Sep.f3 {a b c:bS} (h:Sep H n (a::b::c::x::K) ids):Sep H n (x::a::b::c::K) ids:=Sep.front (K1:=[a,b,c]) h
theorem Sep.f4 {a b c d:bS} (h:Sep H n (a::b::c::d::x::K) ids):Sep H n (x::a::b::c::d::K) ids:=Sep.front (K1:=[a,b,c,d]) h
theorem Sep.f5 {a b c d e:bS} (h:Sep H n (a::b::c::d::e::x::K) ids):Sep H n (x::a::b::c::d::e::K) ids:=Sep.front (K1:=[a,b,c,d,e]) h
theorem Sep.f6 {a b c d e f:bS} (h:Sep H n (a::b::c::d::e::f::x::K) ids):Sep H n (x::a::b::c::d::e::f::K) ids:=Sep.front (K1:=[a,b,c,d,e,f]) h
theorem Sep.dr (h:Sep H n (x::K) ids):Sep H n K ids:=Sep.right (K1:=[x]) h
theorem Sep.ap {α:Type} {l:List Sh} {f:α->List I} {v:I} {xs ys zs:List α} (hz:zs=xs++ys) (h:Sep H n ((.s l,v,.list true (xs.map f++ys.map f))::K) ids):Sep H n ((.s l,v,.list true (zs.map f))::K) ids:=by
 rw[hz,List.map_append];exact h
theorem Sep.bq {α:Type} [Inhabited α] {f:α->List I} {l:List Sh} {d k:Nat} {z:List I} {K:List bS} {ids:List Id} {xs:List α} (he:xs=List.replicate k default) (hs:Sep H n K ids) (hz:∀ H:Heap,Row H l z (f default) []) :
  Sep (H.set (n,d) ⟨l.length,List.replicate k z⟩) (n+1) ((.s l,.arr (n,d) k 0 k,.list true (xs.map f))::K) ids:=by
 rw[he];exact Sep.addRep hs hz
theorem Sep.st {α:Type} {l:List Sh} {f:α->List I} {v:I} {xs zs:List α} {q:Nat} {y:α} (hz:zs=xs.set q y) (h:Sep H n ((.s l,v,.list true ((xs.map f).set q (f y)))::K) ids):Sep H n ((.s l,v,.list true (zs.map f))::K) ids:=by
 rw[hz,List.map_set];exact h
theorem Sep.oc {l:List Sh} {v e:I} (h:Sep H n ((.s l,v,e)::K) ids):az v=some [v]/\Ab.aF v=true:=⟨h.cells,h.aF⟩
end
theorem bl:(∀ (k:IntKind) (a:Int),aF (.v (.int k a))=true)/\(∀ a:Bool,aF (.v (.bool a))=true)/\(∀ a:ByteArray,aF (.v (.string a))=true)/\aF (.v (.slice none 0 0))=true /\
  (∀ (fr:Bool) (l:List (List I)),aF (.list fr l)=true)/\(∀ (id:Id) (g o l:Nat),aF (.arr id g o l)=true)/\∀ (id:Id) (g o l:Nat),aF (.ptr id g o l)=true:=
 ⟨fun _ _=>rfl,fun _=>rfl,fun _=>rfl,rfl,fun _ _=>rfl,fun _ _ _ _=>rfl,fun _ _ _ _=>rfl⟩
theorem bR:(∀ (k:IntKind) (a:Int),az (.v (.int k a))=some [.v (.int k a)])/\(∀ a:Bool,az (.v (.bool a))=some [.v (.bool a)])/\(∀ a:ByteArray,az (.v (.string a))=some [.v (.string a)])/\az (.v (.slice none 0 0))=some [.v (.slice none 0 0)] /\
  (∀ l:List I,az (.agg l)=some l)/\(∀ (fr:Bool) (l:List (List I)),az (.list fr l)=some [.list fr l])/\(∀ (id:Id) (g o l:Nat),az (.arr id g o l)=some [.arr id g o l])/\∀ (id:Id) (g o l:Nat),az (.ptr id g o l)=some [.ptr id g o l]:=
 ⟨fun _ _=>rfl,fun _=>rfl,fun _=>rfl,rfl,fun _=>rfl,fun _ _=>rfl,fun _ _ _ _=>rfl,fun _ _ _ _=>rfl⟩
theorem aM.nv {H:Heap} {n:Nat} (t:Bool) (l:List ay):aM H n (.list t (l.map (ay.cells t))) (.list false (l.map (ay.cells false))):=aM.bB t l
theorem qM (t:Bool) (l:List ay):old (.list t (l.map (ay.cells t))) = .list false (l.map (ay.cells false)):=qd t l
theorem aH {α:Sort _} {x:α} {p:α->Prop} (h:∀ v,v=x->p v):∃ v,v=x/\p v:=⟨x,rfl,h x rfl⟩
abbrev pA (i n:Nat):I:=.ptr (i,n) 1 0 0
abbrev bC (t:Bool) (b:aG):List I:=[int b.roots,.list t (b.nodes.map (ay.cells t)),.list t (b.sites.map au),int b.edges,.list t (b.outer.map a7),.list t (b.inner.map aN.cells)]
abbrev mC (t:Bool) (m:Match):List I:=[.list t (m.nodes.map au),.list t (m.roots.map au)]
abbrev zB:List I:=[int 0,.v (.slice none 0 0),.v (.slice none 0 0),int 0,.v (.slice none 0 0),.v (.slice none 0 0)]
section
variable {H:Heap} {n:Nat}
theorem db (t:Bool) (l:List Int):aM H n (.list t (l.map au)) (.list false (l.map au)):=aM.encI t l
theorem DJ (t:Bool) (l:List bc):aM H n (.list t (l.map a7)) (.list false (l.map a7)):=aM.encS t l
theorem argW (t:Bool) (l:List aN):aM H n (.list t (l.map aN.cells)) (.list false (l.map aN.cells)):=aM.bH t l
theorem oq (t:Bool) (l:List Control):aM H n (.list t (l.map Control.cells)) (.list false (l.map Control.cells)):=aM.bt t l
theorem dT (t:Bool) (b:aG):aM H n (.agg (bC t b)) (.agg (bC false b)):=aM.cG t b
end
end Go.Ab
namespace Go.Ab.Vg
theorem aL.up {σ τ:Type} {body:σ->(σ->Prop)->Prop} {s:σ} (N:Nat) (idx:σ->Int) (mk:Nat->τ->σ) (hidx:∀ k t,idx (mk k t)=(k:Int)) (aq:Nat->τ->Prop) (t0:τ) (hs:s=mk 0 t0) (h0:aq 0 t0)
  (step:∀ k t (K:σ->Prop),k<=N->aq k t->(k<N->∀ t',aq (k+1) t'->K (mk (k+1) t'))->body (mk k t) K):aL body s:=by
 refine⟨fun s=>∃ k t,s=mk k t/\k<=N/\aq k t,fun s=>N - (idx s).toNat,⟨0,t0,hs,Nat.zero_le _,h0⟩,?_⟩;rintro s ⟨k,t,rfl,hk,hI⟩;refine step k t _ hk hI fun hlt t' hI'=>⟨⟨k+1,t',rfl,hlt,hI'⟩,?_⟩
 show N - (idx _).toNat<N - (idx _).toNat;rw[hidx,hidx];omega
theorem aL.oz {τ:Type} {body:Int × τ->(Int × τ->Prop)->Prop} (N:Nat) (aq:Nat->τ->Prop) (t0:τ) (h0:aq 0 t0)
  (step:∀ k t (K:Int × τ->Prop),k<=N->aq k t->(k<N->∀ t',aq (k+1) t'->K (((k:Int)+1),t'))->body ((k:Int),t) K):aL body (0,t0):=
 aL.up N (·.1) (fun k t=>((k:Int),t)) (fun _ _=>rfl) aq t0 rfl h0 fun k t K hk hI h=>step k t K hk hI fun hlt t' hI'=>by have:=h hlt t' hI';simpa using this
theorem aL.Dc {τ:Type} {body:τ × Int->(τ × Int->Prop)->Prop} (N:Nat) (aq:Nat->τ->Prop) (t0:τ) (h0:aq 0 t0)
  (step:∀ k t (K:τ × Int->Prop),k<=N->aq k t->(k<N->∀ t',aq (k+1) t'->K (t',((k:Int)+1)))->body (t,(k:Int)) K):aL body (t0,0):=
 aL.up N (·.2) (fun k t=>(t,(k:Int))) (fun _ _=>rfl) aq t0 rfl h0 fun k t K hk hI h=>step k t K hk hI fun hlt t' hI'=>by have:=h hlt t' hI';simpa using this
theorem aL.up1 {body:Int->(Int->Prop)->Prop} (N:Nat) (aq:Nat->Prop) (h0:aq 0)
  (step:∀ k (K:Int->Prop),k<=N->aq k->(k<N->aq (k+1)->K ((k:Int)+1))->body (k:Int) K):aL body 0:=
 aL.up (τ:=Unit) N id (fun k _=>(k:Int)) (fun _ _=>rfl) (fun k _=>aq k) () rfl h0 fun k _ K hk hI h=>step k K hk hI fun hlt hI'=>by have:=h hlt () hI';simpa using this
theorem aL.byM {σ:Type} {body:σ->(σ->Prop)->Prop} {s:σ} (aq:σ->Prop) (m:σ->Nat) (h0:aq s) (step:∀ s,aq s->body s (fun s'=>aq s'/\m s'<m s)):aL body s:=⟨aq,m,h0,step⟩
theorem bm {α:Type} [Inhabited α] {l:List α} {k:Nat} (h:k<l.length):at' l (k:Int)=l[k]:=by simp[at',h]
def idxs {α:Type} [Inhabited α] (l:List α) (p:α->Bool) (k:Nat):List Int:=((List.range k).filter fun i:Nat=>p (at' l (i:Int))).map fun i:Nat=>(i:Int)
section
variable {α:Type} [Inhabited α] (l:List α) (p:α->Bool)
theorem tH {k:Nat} (h:p (at' l (k:Int))=true):idxs l p (k+1)=idxs l p k++[(k:Int)]:=by simp[idxs,List.range_succ,h]
theorem xI {k:Nat} (h:p (at' l (k:Int))=false):idxs l p (k+1)=idxs l p k:=by simp[idxs,List.range_succ,h]
theorem tW (k:Nat):(idxs l p k).length<=k:=by
 have:=List.length_filter_le (fun i:Nat=>p (at' l (i:Int))) (List.range k);simpa[idxs] using this
theorem lB {k:Nat} {x:Int}:x ∈ idxs l p k↔0<=x/\x<k/\p (at' l x)=true:=by
 simp only[idxs,List.mem_map,List.mem_filter,List.mem_range]
 constructor
 ·rintro⟨i,⟨h1,h2⟩,rfl⟩;exact⟨by omega,by omega,h2⟩
 ·rintro⟨h1,h2,h3⟩;exact⟨x.toNat,⟨by omega,by rwa [Int.toNat_of_nonneg h1]⟩,by omega⟩
end
end Go.Ab.Vg
namespace Go.Ab.Vg
def cmpL:List Int->List Int->Int
 | [],[]=>0
 | [],_::_ => -1
 | _::_,[]=>1
 | a::x,b::y=>if a<b then -1 else if b<a then 1 else cmpL x y
theorem eF:∀ a:List Int,cmpL a a=0
 | []=>rfl
 | a::x=>by simp[cmpL,eF x]
theorem cmpL_eq:∀ {a b:List Int},cmpL a b=0->a=b
 | [],[],_=>rfl
 | [],_::_,h=>by simp[cmpL] at h
 | _::_,[],h=>by simp[cmpL] at h
 | a::x,b::y,h=>by
  simp only[cmpL] at h
  split at h
  ·omega
  ·split at h
   ·omega
   ·rw[cmpL_eq h,show a=b by omega]
theorem dQ:∀ a b:List Int,cmpL b a = - cmpL a b
 | [],[]=>rfl
 | [],_::_=>rfl
 | _::_,[]=>rfl
 | a::x,b::y=>by
  have:=dQ x y;simp only[cmpL]
  repeat' split
  all_goals omega
theorem er:∀ {a b c:List Int},cmpL a b<0->cmpL b c<0->cmpL a c<0
 | [],[],_,h,_=>by simp[cmpL] at h
 | [],_::_,[],_,h=>by simp[cmpL] at h
 | [],_::_,_::_,_,_=>by simp[cmpL]
 | _::_,[],_,h,_=>by simp[cmpL] at h
 | _::_,_::_,[],_,h=>by simp[cmpL] at h
 | a::x,b::y,c::z,h,k=>by
  have:=@er x y z;simp only[cmpL] at h k ⊢
  repeat' split at h
  all_goals repeat' split at k
  all_goals repeat' split
  all_goals first | omega | (exact this h k)
theorem kW {a b c:List Int} (h:¬ cmpL b a<0) (k:cmpL b c<0):cmpL a c<0:=by
 rcases Int.lt_trichotomy (cmpL a b) 0 with h1 | h1 | h1
 ·exact er h1 k
 ·rw[cmpL_eq h1];exact k
 ·exact absurd (by rw[dQ a b];omega) h
theorem vC (p:List Int):∀ a b:List Int,cmpL (p++a) (p++b)=cmpL a b:=by
 induction p with
 | nil=>simp
 | cons x p ih=>intro a b;simp[cmpL,ih]
end Go.Ab.Vg
