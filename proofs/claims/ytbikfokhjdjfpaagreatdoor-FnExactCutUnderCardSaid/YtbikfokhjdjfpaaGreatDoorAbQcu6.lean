/- Merged texts (6 of 18) of the proof that ends in Cuy: Shelf S Q V Ga Sn Vp W Gb Gc Gd Ge Gf Gg Gh Gi. -/
import Derived.Test.YtbikfokhjdjfpaaGreatDoorAbQcu5
import Derived.Shelf.Strings.Trim
import Derived.Shelf.Small.Utf8
import Derived.Shelf.Small.Strs
import Derived.Shelf.Small.Wraps
import Derived.Shelf.Strings.Search1
import Derived.Shelf.Sort.Plain
import Derived.Shelf.Strings.Runes
import Derived.Shelf.Strings.AsciiSet
import Derived.Shelf.Bits.Mul64
import Derived.Shelf.Unicode.DecodeSlow
import Derived.Shelf.Slices.Turned
import Derived.Ground.Names2Prog
import Derived.Shelf.Slices.Clone
import Derived.Shelf.Slices.CompactI
import Derived.Shelf.Slices.CompactS
import Derived.Shelf.Slices.In.SortNone
import Derived.Test.YtbikfokhjdjfpaaGreatDoorProg
import Derived.Shelf.Strings.SlTrimAscii
import Derived.Lib.Join
/-
 DERIVED: THE SHELF's CONTRACTS AT THIS DUMP,IN PLAIN WORDS (tools/lay-plain.mjs out of 'TryzShelf.lean',which tools/lay-shelf.mjs wrote): THE SAME DECLARATIONS UNDER THE SAME NAMES: 'import','namespace','open','def','theorem' AND NOTHING ELSE: no command of the shelf's: FOR A HAND-IN. Each laying: the table of numbers ('.._ren') and one theorem,a field a fact of the dump's own or the kernel's comparison;each contract: ONE APPLICATION.
-/
namespace Go.Proofs
open Go.Shelf
def Tryz.lays160_ren:Go.Shelf.Ren:=⟨fun | 160=>233 | 232=>255 | 231=>254 | 227=>256 | 234=>258 | 233=>257 | 236=>260 | 235=>259 | 228=>267 | 271=>270 | 151=>269 | 197=>268 | 120=>274 | 152=>273 | 260=>272 | 137=>275 | 119=>276 | 224=>277 | 225=>278 | 217=>279 | 266=>280 | n=>n,fun | 9=>9 | 4=>4 | 3=>3 | 5=>5 | 117=>239 | 116=>238 | 0=>0 | 124=>242 | 21=>21 | 105=>248 | 46=>144 | 119=>253 | 139=>256 | 138=>255 | n=>n,fun | 3=>0 | 4=>1 | n=>n⟩
theorem Tryz.lays160:Go.Proofs.Lays.n160 Tryz.prog Tryz.lays160_ren:={
 mixed:=by kernel_rfl
 f119:=Tryz.func276.trans (congrArg some (by kernel_rfl))
 f120:=Tryz.func274.trans (congrArg some (by kernel_rfl))
 f137:=Tryz.func275.trans (congrArg some (by kernel_rfl))
 f151:=Tryz.func269.trans (congrArg some (by kernel_rfl))
 f152:=Tryz.func273.trans (congrArg some (by kernel_rfl))
 f160:=Tryz.func233.trans (congrArg some (by kernel_rfl))
 f197:=Tryz.func268.trans (congrArg some (by kernel_rfl))
 f217:=Tryz.func279.trans (congrArg some (by kernel_rfl))
 f224:=Tryz.func277.trans (congrArg some (by kernel_rfl))
 f225:=Tryz.func278.trans (congrArg some (by kernel_rfl))
 f227:=Tryz.func256.trans (congrArg some (by kernel_rfl))
 f228:=Tryz.func267.trans (congrArg some (by kernel_rfl))
 f231:=Tryz.func254.trans (congrArg some (by kernel_rfl))
 f232:=Tryz.func255.trans (congrArg some (by kernel_rfl))
 f233:=Tryz.func257.trans (congrArg some (by kernel_rfl))
 f234:=Tryz.func258.trans (congrArg some (by kernel_rfl))
 f235:=Tryz.func259.trans (congrArg some (by kernel_rfl))
 f236:=Tryz.func260.trans (congrArg some (by kernel_rfl))
 f260:=Tryz.func272.trans (congrArg some (by kernel_rfl))
 f266:=Tryz.func280.trans (congrArg some (by kernel_rfl))
 f271:=Tryz.func270.trans (congrArg some (by kernel_rfl))
 t0:=Tryz.underlying0
 a0:=Tryz.isAgg0
 z0:=Tryz.sizeOf0
 v0:=Tryz.zeroValue0
 t3:=Tryz.underlying3
 a3:=Tryz.isAgg3
 z3:=Tryz.sizeOf3
 v3:=Tryz.zeroValue3
 t4:=Tryz.underlying4
 a4:=Tryz.isAgg4
 z4:=Tryz.sizeOf4
 v4:=Tryz.zeroValue4
 t5:=Tryz.underlying5
 a5:=Tryz.isAgg5
 z5:=Tryz.sizeOf5
 v5:=Tryz.zeroValue5
 t9:=Tryz.underlying9
 a9:=Tryz.isAgg9
 z9:=Tryz.sizeOf9
 v9:=Tryz.zeroValue9
 t21:=Tryz.underlying21
 a21:=Tryz.isAgg21
 z21:=Tryz.sizeOf21
 v21:=Tryz.zeroValue21
 t46:=Tryz.underlying144
 a46:=Tryz.isAgg144
 z46:=Tryz.sizeOf144
 v46:=Tryz.zeroValue144
 t105:=Tryz.underlying248
 a105:=Tryz.isAgg248
 z105:=Tryz.sizeOf248
 v105:=Tryz.zeroValue248
 t116:=Tryz.underlying238
 a116:=Tryz.isAgg238
 z116:=Tryz.sizeOf238
 t117:=Tryz.underlying239
 a117:=Tryz.isAgg239
 z117:=Tryz.sizeOf239
 v117:=Tryz.zeroValue239
 t119:=Tryz.underlying253
 a119:=Tryz.isAgg253
 z119:=Tryz.sizeOf253
 t124:=Tryz.underlying242
 a124:=Tryz.isAgg242
 z124:=Tryz.sizeOf242
 v124:=Tryz.zeroValue242
 t138:=Tryz.underlying255
 a138:=Tryz.isAgg255
 z138:=Tryz.sizeOf255
 v138:=Tryz.zeroValue255
 t139:=Tryz.underlying256
 a139:=Tryz.isAgg256
 z139:=Tryz.sizeOf256
 v139:=Tryz.zeroValue256
 g3:=by kernel_rfl
 g4:=by kernel_rfl }
def Tryz.lays190_ren:Go.Shelf.Ren:=⟨fun | 190=>159 | 125=>130 | 258=>202 | 128=>183 | 129=>184 | 302=>235 | 303=>236 | 304=>237 | 305=>238 | 306=>239 | 307=>240 | 308=>241 | 309=>242 | 310=>243 | 333=>261 | 329=>217 | 330=>218 | 334=>262 | 335=>263 | 336=>264 | 344=>271 | n=>n,fun | 31=>25 | 9=>9 | 3=>3 | 46=>144 | 0=>0 | 51=>182 | 53=>184 | 4=>4 | 183=>174 | 182=>173 | 131=>179 | 5=>5 | 218=>203 | 222=>207 | 228=>226 | 229=>227 | n=>n,fun | n=>n⟩
theorem Tryz.lays190:Go.Proofs.Lays.n190 Tryz.prog Tryz.lays190_ren:={
 mixed:=by kernel_rfl
 f125:=Tryz.func130.trans (congrArg some (by kernel_rfl))
 f128:=Tryz.func183.trans (congrArg some (by kernel_rfl))
 f129:=Tryz.func184.trans (congrArg some (by kernel_rfl))
 f190:=Tryz.func159.trans (congrArg some (by kernel_rfl))
 f258:=Tryz.func202.trans (congrArg some (by kernel_rfl))
 f302:=Tryz.func235.trans (congrArg some (by kernel_rfl))
 f303:=Tryz.func236.trans (congrArg some (by kernel_rfl))
 f304:=Tryz.func237.trans (congrArg some (by kernel_rfl))
 f305:=Tryz.func238.trans (congrArg some (by kernel_rfl))
 f306:=Tryz.func239.trans (congrArg some (by kernel_rfl))
 f307:=Tryz.func240.trans (congrArg some (by kernel_rfl))
 f308:=Tryz.func241.trans (congrArg some (by kernel_rfl))
 f309:=Tryz.func242.trans (congrArg some (by kernel_rfl))
 f310:=Tryz.func243.trans (congrArg some (by kernel_rfl))
 f329:=Tryz.func217.trans (congrArg some (by kernel_rfl))
 f330:=Tryz.func218.trans (congrArg some (by kernel_rfl))
 f333:=Tryz.func261.trans (congrArg some (by kernel_rfl))
 f334:=Tryz.func262.trans (congrArg some (by kernel_rfl))
 f335:=Tryz.func263.trans (congrArg some (by kernel_rfl))
 f336:=Tryz.func264.trans (congrArg some (by kernel_rfl))
 f344:=Tryz.func271.trans (congrArg some (by kernel_rfl))
 t0:=Tryz.underlying0
 a0:=Tryz.isAgg0
 z0:=Tryz.sizeOf0
 v0:=Tryz.zeroValue0
 t3:=Tryz.underlying3
 a3:=Tryz.isAgg3
 z3:=Tryz.sizeOf3
 v3:=Tryz.zeroValue3
 t4:=Tryz.underlying4
 a4:=Tryz.isAgg4
 z4:=Tryz.sizeOf4
 v4:=Tryz.zeroValue4
 t5:=Tryz.underlying5
 a5:=Tryz.isAgg5
 z5:=Tryz.sizeOf5
 v5:=Tryz.zeroValue5
 t9:=Tryz.underlying9
 a9:=Tryz.isAgg9
 z9:=Tryz.sizeOf9
 v9:=Tryz.zeroValue9
 t31:=Tryz.underlying25
 a31:=Tryz.isAgg25
 z31:=Tryz.sizeOf25
 v31:=Tryz.zeroValue25
 t46:=Tryz.underlying144
 a46:=Tryz.isAgg144
 z46:=Tryz.sizeOf144
 v46:=Tryz.zeroValue144
 t51:=Tryz.underlying182
 a51:=Tryz.isAgg182
 z51:=Tryz.sizeOf182
 v51:=Tryz.zeroValue182
 t53:=Tryz.underlying184
 a53:=Tryz.isAgg184
 z53:=Tryz.sizeOf184
 v53:=Tryz.zeroValue184
 t131:=Tryz.underlying179
 a131:=Tryz.isAgg179
 z131:=Tryz.sizeOf179
 v131:=Tryz.zeroValue179
 t182:=Tryz.underlying173
 a182:=Tryz.isAgg173
 z182:=Tryz.sizeOf173
 v182:=Tryz.zeroValue173
 t183:=Tryz.underlying174
 a183:=Tryz.isAgg174
 z183:=Tryz.sizeOf174
 v183:=Tryz.zeroValue174
 t218:=Tryz.underlying203
 a218:=Tryz.isAgg203
 z218:=Tryz.sizeOf203
 v218:=Tryz.zeroValue203
 t222:=Tryz.underlying207
 a222:=Tryz.isAgg207
 z222:=Tryz.sizeOf207
 v222:=Tryz.zeroValue207
 t228:=Tryz.underlying226
 a228:=Tryz.isAgg226
 z228:=Tryz.sizeOf226
 v228:=Tryz.zeroValue226
 t229:=Tryz.underlying227
 a229:=Tryz.isAgg227
 z229:=Tryz.sizeOf227
 v229:=Tryz.zeroValue227 }
open Go.Sort Go.RowKit in
theorem Tryz.slices_Sort_string (blk off cap:Nat) (ss:List (List UInt8)) (w:World) (hH:Holds encStr w blk off ss.toArray) (hblk:blk<w.heap.size) (hsz:ss.length<4611686018427387904) :
  Calls Tryz.prog 159 #[.slice (some ⟨blk,off,none⟩) ss.length cap] w fun e w'=>
   e = .returned (.tuple #[])∧∃ n os,w'=grow (putRow encStr (Sort.ahead w n) blk off (ss.mergeSort fun x y=>decide (x≤y)).toArray) os:=Any.slices_Sort_string Tryz.lays190 blk off cap ss w hH hblk hsz
def Tryz.lays194_ren:Go.Shelf.Ren:=⟨fun | 194=>160 | n=>n,fun | 31=>25 | 9=>9 | 3=>3 | 4=>4 | 0=>0 | n=>n,fun | n=>n⟩
theorem Tryz.lays194:Go.Proofs.Lays.n194 Tryz.prog Tryz.lays194_ren:={
 mixed:=by kernel_rfl
 f194:=Tryz.func160.trans (congrArg some (by kernel_rfl))
 t0:=Tryz.underlying0
 a0:=Tryz.isAgg0
 z0:=Tryz.sizeOf0
 v0:=Tryz.zeroValue0
 t3:=Tryz.underlying3
 a3:=Tryz.isAgg3
 z3:=Tryz.sizeOf3
 v3:=Tryz.zeroValue3
 t4:=Tryz.underlying4
 a4:=Tryz.isAgg4
 z4:=Tryz.sizeOf4
 v4:=Tryz.zeroValue4
 t9:=Tryz.underlying9
 a9:=Tryz.isAgg9
 z9:=Tryz.sizeOf9
 v9:=Tryz.zeroValue9
 t31:=Tryz.underlying25
 a31:=Tryz.isAgg25
 z31:=Tryz.sizeOf25
 v31:=Tryz.zeroValue25 }
open Go.RowKit Go.Lib Go.Sort in
theorem Tryz.slices_Compact_string (blk off cap:Nat) (zs:List (List UInt8)) (w:World) (hH:Holds encStr w blk off zs.toArray) (hsz:zs.length≤9223372036854775807) (hcap:zs.length≤cap) :
  Calls Tryz.prog 160 #[.slice (some ⟨blk,off,none⟩) zs.length cap] w fun e w'=>e = .returned (.slice (some ⟨blk,off,none⟩) (Lib.compact zs).length cap)∧∃ q,w'=putRow encStr (Sort.ahead w q) blk off (Lib.compact zs++List.replicate (zs.length - (Lib.compact zs).length) []).toArray:=Any.slices_Compact_string Tryz.lays194 blk off cap zs w hH hsz hcap
open Go.RowKit Go.Lib Go.Sort in
theorem Tryz.slices_Compact_string_empty (a:Option Addr) (cap:Nat) (w:World) :
  Calls Tryz.prog 160 #[.slice a 0 cap] w fun e w'=>e = .returned (.slice a 0 cap)∧w'=w:=Any.slices_Compact_string_empty Tryz.lays194 a cap w
open Go.RowKit Go.Sort in
theorem Tryz.slices_Sort_string_none (p:Option Addr) (cap:Nat) (w:World) :
  Calls Tryz.prog 159 #[.slice p 0 cap] w fun e w'=>e = .returned (.tuple #[])∧w'=w:=Any.slices_Sort_string_none Tryz.lays190 p cap w
end Go.Proofs
/- The abstract machine, part S: the library's functions, by the shelf's contracts. -/
namespace Go.Ab
open Go.Proofs Go.RowKit
theorem PureC.of_below {P:Program} {f:FuncId} {args:List AVal} {R:AVal→Prop}
  (h:∀ (c:Ctx) (xs:List Value),(∀ id,c.H id=none)→RepL c args xs→Calls P f xs.toArray c.w fun e w'=>∃ x v,e = .returned x∧R v∧Fresh v∧(∀ c':Ctx,Rep c' v x)∧Below c.w.heap.size c.w w'):PureC P f args R:=by
 intro c xs hH hn g r
 refine (h c xs (by intro id;rw[hH];rfl) r).mono ?_
 rintro e w' ⟨x,v,he,hR,hf,hv,hb⟩
 obtain⟨hk,hg⟩:=more_blocks g w' ⟨hb.os,hb.tape,hb.output⟩ hb.size hb.block
 exact⟨x,v,{ c with w:=w' },he,rfl,⟨v,.of (Ret.fresh hf),hR⟩,hv _,hg,hk⟩
theorem RepL.one1 {c:Ctx} {a:AVal} {xs:List Value} (r:RepL c [a] xs):∃ x,xs=[x]∧Rep c a x:=by
 obtain⟨hl,hr⟩:=r
 match xs,hl with
 | [x],_=>exact⟨x,rfl,hr 0 a x rfl rfl⟩
theorem RepL.two2 {c:Ctx} {a b:AVal} {xs:List Value} (r:RepL c [a,b] xs):∃ x y,xs=[x,y]∧Rep c a x∧Rep c b y:=by
 obtain⟨hl,hr⟩:=r
 match xs,hl with
 | [x,y],_=>exact⟨x,y,rfl,hr 0 a x rfl rfl,hr 1 b y rfl rfl⟩
theorem trim_ok (s cut:Str) (hs:s.length≤4611686018427387904) (hc:cut.length≤1000) (ha:cut.all (fun b=>decide (b.toNat<128))=true):PureC Tryz.prog 233 [str s,str cut] (fun r=>r=str (Lib.trimS s cut)):=by
 refine PureC.of_below fun c xs _ r=>?_
 obtain⟨x,y,rfl,hx,hy⟩:=r.two2
 rw[hx.v_inv,hy.v_inv]
 refine (Any.strings_Trim_laid Tryz.lays160 (by kernel_rfl) ⟨s.toArray⟩ ⟨cut.toArray⟩ c.w (by simp;omega) (by simp;omega) (ascii_of_all (by simpa using ha))).mono ?_
 rintro e w' ⟨he,hb⟩
 exact⟨_,_,he,rfl,.v _,fun _=>.v _,by simpa using hb⟩
end Go.Ab
/- Contracts of impl.joinTexts and (impl.Proc).textIn, at valid processes. -/
namespace Go.Ab
open Go.Proofs
set_option linter.unusedSimpArgs false
theorem e233:Ent Tryz.prog 233:=Ent.of Tryz.func233 (by kernel_rfl) rfl
theorem ArgOk.node {H:Heap} {n:Nat} (x:AmbNode):ArgOk H n (.agg x.cells) (.agg x.cells):=ArgOk.aggF (by simp[AmbNode.cells])
end Go.Ab
/- Contracts of impl.isName, impl.IsProcess and impl.ProcessText. -/
namespace Go.Ab
open Go.Proofs
set_option linter.unusedSimpArgs false
theorem e197:Ent Tryz.prog 197:=Ent.of Tryz.func197 (by kernel_rfl) rfl
def lower (c:UInt8):Bool:=decide (97≤c.toNat) && decide (c.toNat≤122)
def isNm (s:Str):Bool:=within s.length 1 4 && s.all lower
def alpha:Str:=[97,98,99,100,101,102,103,104,105,106,107,108,109,110,111,112,113,114,115,116,117,118,119,120,121,122]
set_option maxRecDepth 10000 in
theorem alpha_lower (c:UInt8):alpha.contains c=lower c:=by
 have h:∀ n:Fin 256,alpha.contains (UInt8.ofNat n.val)=lower (UInt8.ofNat n.val):=by decide
 have:=h ⟨c.toNat,c.toNat_lt⟩
 simpa using this
theorem dropWhile_nil {q:UInt8→Bool}:∀ l:Str,l.dropWhile q=[]↔l.all q=true
 | []=>by simp
 | a::l=>by
  rw[List.dropWhile_cons]
  cases h:q a<;>simp[h,dropWhile_nil l]
theorem dropWhile_last {q:UInt8→Bool}:∀ l:Str,(l.dropWhile q).reverse.all q=true→l.all q=true
 | [],_=>by simp
 | a::l,h=>by
  rw[List.dropWhile_cons] at h
  cases hq:q a
  ·simp[hq] at h
  ·simp only[hq,if_true] at h
   have:=dropWhile_last l h
   simp only[List.all_cons,hq,this,Bool.and_self]
theorem trimS_nil (s:Str):(Lib.trimS s alpha=[])↔s.all lower=true:=by
 have he:(fun c=>alpha.contains c)=lower:=funext alpha_lower
 unfold Lib.trimS Lib.trimLeftS Lib.trimRightS
 rw[he,dropWhile_nil]
 constructor
 ·intro h
  have:=dropWhile_last _ h
  simpa using this
 ·intro h
  have h2:s.reverse.dropWhile lower=[]:=by rw[dropWhile_nil];simpa using h
  rw[h2]
  rfl
theorem isName_ok (s:Str) (hs:s.length≤4294967296):PureC Tryz.prog 197 [str s] (fun r=>r=bool (isNm s)):=by
 refine PureC.of Tryz.func197 rfl Tryz.ntmps197 (by simp) fun Q hQ=>?_
 refine Runs.seqE Ty_ok (by decide) fun k' hk'=>?_
 simp   -- R0
 apply hk'
 refine Runs.seqE Ty_ok (by decide) fun k' hk'=>?_
 simp   -- R1
 refine RunK.callA Ty_ok (within_ok s.length 1 4) e109 (.cons (.v _ _ _) (.cons (.v _ _ _) (.cons (.v _ _ _) .nil))) (by decide) (by decide) rfl (by simp) ?_
 rintro _ rfl
 cases hw:within s.length 1 4
 ·simp[hw]
  apply hk'
  exact Runs.ret Tryz.func197 (RetOk.one Tryz.results197) (hQ _ _ _ _ (.v _ _ _) (by simp[isNm,hw]))
 ·simp[hw]
  refine RunK.callA Ty_ok (trim_ok s alpha (by omega) (by decide) (by decide)) e233 (.cons (.v _ _ _) (.cons (.v _ _ _) .nil)) (by decide) (by decide) rfl (by simp[alpha]) ?_
  rintro _ rfl
  simp[hw]
  apply hk'
  refine Runs.ret Tryz.func197 (RetOk.one Tryz.results197) (hQ _ _ _ _ (.v _ _ _) ?_)
  have:=trimS_nil s
  cases h:s.all lower<;>simp[h] at this<;>simp[isNm,hw,h,this]
end Go.Ab
/- Bigraphs as values: types of data, and what a valid one is. -/
namespace Go.Ab
set_option linter.unusedSimpArgs false
structure Control where
 name:Str
 ports:Int
 kind:Int
 deriving Inhabited,DecidableEq
structure GNode where
 control:Int
 parent:Int
 links:List Int
 deriving Inhabited,DecidableEq
structure Wire where
 name:Str
 link:Int
 deriving Inhabited,DecidableEq
structure Big where
 roots:Int
 nodes:List GNode
 sites:List Int
 edges:Int
 outer:List Str
 inner:List Wire
 deriving Inhabited,DecidableEq
abbrev Sig:=List Control
def sliceC {α:Type} (fr:Bool) (f:α→List AVal) (l:List α):List AVal:=[.list fr (l.map f)]
def Control.cells (x:Control):List AVal:=[str x.name,int x.ports,int x.kind]
def Wire.cells (x:Wire):List AVal:=[str x.name,int x.link]
def GNode.cells (t:Bool) (x:GNode):List AVal:=[int x.control,int x.parent,.list t (x.links.map intC)]
def encSig (t:Bool) (s:Sig):AVal:=.list t (s.map Control.cells)
def encI (t:Bool) (l:List Int):AVal:=.list t (l.map intC)
def encS (t:Bool) (l:List Str):AVal:=.list t (l.map strC)
def encW (t:Bool) (l:List Wire):AVal:=.list t (l.map Wire.cells)
def encN (t:Bool) (l:List GNode):AVal:=.list t (l.map (GNode.cells t))
def Big.cells (t:Bool) (b:Big):List AVal:=[int b.roots,encN t b.nodes,encI t b.sites,int b.edges,encS t b.outer,encW t b.inner]
def encB (t:Bool) (b:Big):AVal:=.agg (b.cells t)
theorem ints_flat (l:List Int):∀ e ∈ l.map intC,∀ a ∈ e,flat a=true:=by simp[intC]
theorem strs_flat (l:List Str):∀ e ∈ l.map strC,∀ a ∈ e,flat a=true:=by simp[strC]
theorem wires_flat (l:List Wire):∀ e ∈ l.map Wire.cells,∀ a ∈ e,flat a=true:=by simp[Wire.cells]
theorem sig_flat (l:Sig):∀ e ∈ l.map Control.cells,∀ a ∈ e,flat a=true:=by simp[Control.cells]
theorem old_encI (t:Bool) (l:List Int):old (encI t l)=encI false l:=by rw[encI,old_list,maps_old_flat (ints_flat l)];rfl
theorem old_encS (t:Bool) (l:List Str):old (encS t l)=encS false l:=by rw[encS,old_list,maps_old_flat (strs_flat l)];rfl
theorem old_encW (t:Bool) (l:List Wire):old (encW t l)=encW false l:=by rw[encW,old_list,maps_old_flat (wires_flat l)];rfl
theorem old_encSig (t:Bool) (l:Sig):old (encSig t l)=encSig false l:=by rw[encSig,old_list,maps_old_flat (sig_flat l)];rfl
theorem old_node (t:Bool) (x:GNode):(x.cells t).map old=x.cells false:=by
 simp only[GNode.cells,List.map_cons,List.map_nil,old_v]
 have:=old_encI t x.links
 simp only[encI] at this
 rw[this]
theorem old_encN (t:Bool) (l:List GNode):old (encN t l)=encN false l:=by
 rw[encN,old_list,List.map_map]
 simp only[encN]
 congr 1
 exact List.map_congr_left fun x _=>old_node t x
theorem old_encB (t:Bool) (b:Big):old (encB t b)=encB false b:=by
 simp only[encB,Big.cells,old_agg,List.map_cons,List.map_nil,old_v,old_encN,old_encI,old_encS,old_encW]
theorem imm_encI (t:Bool) (l:List Int):Imm (encI t l):=.list _ _ fun e he a ha=>Imm.flat (ints_flat l e he a ha)
theorem imm_encS (t:Bool) (l:List Str):Imm (encS t l):=.list _ _ fun e he a ha=>Imm.flat (strs_flat l e he a ha)
theorem imm_encW (t:Bool) (l:List Wire):Imm (encW t l):=.list _ _ fun e he a ha=>Imm.flat (wires_flat l e he a ha)
theorem imm_encSig (t:Bool) (l:Sig):Imm (encSig t l):=.list _ _ fun e he a ha=>Imm.flat (sig_flat l e he a ha)
theorem imm_node (t:Bool) (x:GNode):∀ a ∈ x.cells t,Imm a:=by
 intro a ha
 simp only[GNode.cells,List.mem_cons,List.not_mem_nil,or_false] at ha
 rcases ha with rfl | rfl | rfl
 ·exact .v _
 ·exact .v _
 ·exact imm_encI t x.links
theorem imm_encN (t:Bool) (l:List GNode):Imm (encN t l):=by
 refine .list _ _ fun e he a ha=>?_
 obtain⟨x,_,rfl⟩:=List.mem_map.1 he
 exact imm_node t x a ha
theorem imm_encB (t:Bool) (b:Big):Imm (encB t b):=by
 refine .agg _ fun a ha=>?_
 simp only[Big.cells,List.mem_cons,List.not_mem_nil,or_false] at ha
 rcases ha with rfl | rfl | rfl | rfl | rfl | rfl
 ·exact .v _
 ·exact imm_encN t _
 ·exact imm_encI t _
 ·exact .v _
 ·exact imm_encS t _
 ·exact imm_encW t _
section
variable {H:Heap} {n:Nat}
theorem ArgOk.encI (t:Bool) (l:List Int):ArgOk H n (encI t l) (encI false l):=ArgOk.imm' (imm_encI t l) (old_encI t l)
theorem ArgOk.encS (t:Bool) (l:List Str):ArgOk H n (encS t l) (encS false l):=ArgOk.imm' (imm_encS t l) (old_encS t l)
theorem ArgOk.encW (t:Bool) (l:List Wire):ArgOk H n (encW t l) (encW false l):=ArgOk.imm' (imm_encW t l) (old_encW t l)
theorem ArgOk.encSig (t:Bool) (l:Sig):ArgOk H n (encSig t l) (encSig false l):=ArgOk.imm' (imm_encSig t l) (old_encSig t l)
theorem ArgOk.encN (t:Bool) (l:List GNode):ArgOk H n (encN t l) (encN false l):=ArgOk.imm' (imm_encN t l) (old_encN t l)
theorem ArgOk.encB (t:Bool) (b:Big):ArgOk H n (encB t b) (encB false b):=ArgOk.imm' (imm_encB t b) (old_encB t b)
end
def okControl (c:Control):Bool:=isNm c.name && within c.ports 0 3 && within c.kind 0 2
def newName (sig:Sig) (i:Nat):Bool := !(sig.take i).any fun d=>d.name == (sig.getD i default).name
def goodSig (sig:Sig):Bool:=within sig.length 1 6 && (List.range sig.length).all fun i=>okControl (sig.getD i default) && newName sig i
def ascends (l:List Str) (i:Nat):Bool:=decide (i=0) || Op.bytesLess (l.getD (i - 1) []) (l.getD i [])
def goodNames (l:List Str):Bool:=decide (l.length≤16) && (List.range l.length).all fun i=>isNm (l.getD i []) && ascends l i
def okLink (b:Big) (l:Int):Bool:=within l 0 (b.edges+b.outer.length - 1)
def okParent (sig:Sig) (b:Big) (parent:Int) (below:Nat):Bool:=
 if parent<0 then decide (-b.roots≤parent) else decide (parent<below) && decide ((sig.getD (b.nodes.getD parent.toNat default).control.toNat default).kind ≠ 2)
def okNodeB (sig:Sig) (b:Big) (i:Nat):Bool:=
 within (b.nodes.getD i default).control 0 (sig.length - 1) && okParent sig b (b.nodes.getD i default).parent i && decide ((b.nodes.getD i default).links.length=(sig.getD (b.nodes.getD i default).control.toNat default).ports) &&
  (b.nodes.getD i default).links.all (okLink b)
def goodB (sig:Sig) (b:Big):Bool:=
 goodSig sig && within b.roots 0 4 && decide (b.nodes.length≤8) && decide (b.sites.length≤4) && within b.edges 0 8 && goodNames b.outer && goodNames (b.inner.map (·.name)) &&
  (List.range b.nodes.length).all (okNodeB sig b) && b.sites.all (fun p=>okParent sig b p b.nodes.length) && b.inner.all (fun w=>okLink b w.link)
end Go.Ab
/- The abstract machine, part Sn: short names for what a walk by program says often. -/
namespace Go.Ab
set_option linter.unusedSectionVars false
structure Match where
 nodes:List Int
 roots:List Int
 deriving Inhabited,DecidableEq
def Match.cells (t:Bool) (m:Match):List AVal:=[.list t (m.nodes.map intC),.list t (m.roots.map intC)]
def intC2 (x:Int × Int):List AVal:=[int x.1,int x.2]
def intC3 (x:Int × Int × Int):List AVal:=[int x.1,int x.2.1,int x.2.2]
abbrev oE {α:Type} (l:List Sh) (f:α→List AVal) (v:AVal) (es:List α):OwnE:=(.s l,v,.list true (es.map f))
abbrev oI (v:AVal) (es:List Int):OwnE:=(.s [.c],v,.list true (es.map intC))
abbrev oS (v:AVal) (es:List Str):OwnE:=(.s [.c],v,.list true (es.map strC))
abbrev oN (v:AVal) (es:List GNode):OwnE:=(.s [.c,.c,.s [.c]],v,.list true (es.map (GNode.cells true)))
abbrev oW (v:AVal) (es:List Wire):OwnE:=(.s [.c,.c],v,.list true (es.map Wire.cells))
section
variable {H H':Heap} {n n':Nat} {K:List OwnE} {ids:List Id} {x:OwnE}
theorem Sep.f1 {x1:OwnE} (h:Sep H n (x1::x::K) ids):Sep H n (x::x1::K) ids:=Sep.front (K1:=[x1]) h
theorem Sep.f2 {x1 x2:OwnE} (h:Sep H n (x1::x2::x::K) ids):Sep H n (x::x1::x2::K) ids:=Sep.front (K1:=[x1,x2]) h
theorem Sep.f3 {x1 x2 x3:OwnE} (h:Sep H n (x1::x2::x3::x::K) ids):Sep H n (x::x1::x2::x3::K) ids:=Sep.front (K1:=[x1,x2,x3]) h
theorem Sep.f4 {x1 x2 x3 x4:OwnE} (h:Sep H n (x1::x2::x3::x4::x::K) ids):Sep H n (x::x1::x2::x3::x4::K) ids:=Sep.front (K1:=[x1,x2,x3,x4]) h
theorem Sep.f5 {x1 x2 x3 x4 x5:OwnE} (h:Sep H n (x1::x2::x3::x4::x5::x::K) ids):Sep H n (x::x1::x2::x3::x4::x5::K) ids:=Sep.front (K1:=[x1,x2,x3,x4,x5]) h
theorem Sep.f6 {x1 x2 x3 x4 x5 x6:OwnE} (h:Sep H n (x1::x2::x3::x4::x5::x6::x::K) ids):Sep H n (x::x1::x2::x3::x4::x5::x6::K) ids:=Sep.front (K1:=[x1,x2,x3,x4,x5,x6]) h
theorem Sep.f7 {x1 x2 x3 x4 x5 x6 x7:OwnE} (h:Sep H n (x1::x2::x3::x4::x5::x6::x7::x::K) ids):Sep H n (x::x1::x2::x3::x4::x5::x6::x7::K) ids:=Sep.front (K1:=[x1,x2,x3,x4,x5,x6,x7]) h
theorem Sep.f8 {x1 x2 x3 x4 x5 x6 x7 x8:OwnE} (h:Sep H n (x1::x2::x3::x4::x5::x6::x7::x8::x::K) ids):Sep H n (x::x1::x2::x3::x4::x5::x6::x7::x8::K) ids:=Sep.front (K1:=[x1,x2,x3,x4,x5,x6,x7,x8]) h
theorem Sep.f9 {x1 x2 x3 x4 x5 x6 x7 x8 x9:OwnE} (h:Sep H n (x1::x2::x3::x4::x5::x6::x7::x8::x9::x::K) ids):Sep H n (x::x1::x2::x3::x4::x5::x6::x7::x8::x9::K) ids:=Sep.front (K1:=[x1,x2,x3,x4,x5,x6,x7,x8,x9]) h
theorem Sep.f10 {x1 x2 x3 x4 x5 x6 x7 x8 x9 x10:OwnE} (h:Sep H n (x1::x2::x3::x4::x5::x6::x7::x8::x9::x10::x::K) ids):Sep H n (x::x1::x2::x3::x4::x5::x6::x7::x8::x9::x10::K) ids:=Sep.front (K1:=[x1,x2,x3,x4,x5,x6,x7,x8,x9,x10]) h
theorem Sep.f11 {x1 x2 x3 x4 x5 x6 x7 x8 x9 x10 x11:OwnE} (h:Sep H n (x1::x2::x3::x4::x5::x6::x7::x8::x9::x10::x11::x::K) ids):Sep H n (x::x1::x2::x3::x4::x5::x6::x7::x8::x9::x10::x11::K) ids:=Sep.front (K1:=[x1,x2,x3,x4,x5,x6,x7,x8,x9,x10,x11]) h
theorem Sep.f12 {x1 x2 x3 x4 x5 x6 x7 x8 x9 x10 x11 x12:OwnE} (h:Sep H n (x1::x2::x3::x4::x5::x6::x7::x8::x9::x10::x11::x12::x::K) ids):Sep H n (x::x1::x2::x3::x4::x5::x6::x7::x8::x9::x10::x11::x12::K) ids:=Sep.front (K1:=[x1,x2,x3,x4,x5,x6,x7,x8,x9,x10,x11,x12]) h
theorem Sep.f13 {x1 x2 x3 x4 x5 x6 x7 x8 x9 x10 x11 x12 x13:OwnE} (h:Sep H n (x1::x2::x3::x4::x5::x6::x7::x8::x9::x10::x11::x12::x13::x::K) ids):Sep H n (x::x1::x2::x3::x4::x5::x6::x7::x8::x9::x10::x11::x12::x13::K) ids:=Sep.front (K1:=[x1,x2,x3,x4,x5,x6,x7,x8,x9,x10,x11,x12,x13]) h
theorem Sep.f14 {x1 x2 x3 x4 x5 x6 x7 x8 x9 x10 x11 x12 x13 x14:OwnE} (h:Sep H n (x1::x2::x3::x4::x5::x6::x7::x8::x9::x10::x11::x12::x13::x14::x::K) ids):Sep H n (x::x1::x2::x3::x4::x5::x6::x7::x8::x9::x10::x11::x12::x13::x14::K) ids:=Sep.front (K1:=[x1,x2,x3,x4,x5,x6,x7,x8,x9,x10,x11,x12,x13,x14]) h
theorem Sep.dr (h:Sep H n (x::K) ids):Sep H n K ids:=Sep.right (K1:=[x]) h
theorem Sep.hd (h:Sep H n (x::K) ids):Sep H n [x] ids:=Sep.left (K1:=[x]) (K2:=K) h
theorem Sep.ap {α:Type} {l:List Sh} {f:α→List AVal} {v:AVal} {xs ys zs:List α} (hz:zs=xs++ys) (h:Sep H n ((.s l,v,.list true (xs.map f++ys.map f))::K) ids):Sep H n ((.s l,v,.list true (zs.map f))::K) ids:=by
 rw[hz,List.map_append];exact h
theorem Sep.st {α:Type} {l:List Sh} {f:α→List AVal} {v:AVal} {xs zs:List α} {q:Nat} {y:α} (hz:zs=xs.set q y) (h:Sep H n ((.s l,v,.list true ((xs.map f).set q (f y)))::K) ids):Sep H n ((.s l,v,.list true (zs.map f))::K) ids:=by
 rw[hz,List.map_set];exact h
theorem Sep.oc {l:List Sh} {v e:AVal} (h:Sep H n ((.s l,v,e)::K) ids):cellsA v=some [v]∧Ab.one1 v=true:=⟨h.cells,h.one1⟩
end
theorem o1x:(∀ (k:IntKind) (a:Int),one1 (.v (.int k a))=true)∧(∀ a:Bool,one1 (.v (.bool a))=true)∧(∀ a:ByteArray,one1 (.v (.string a))=true)∧one1 (.v (.slice none 0 0))=true ∧
  (∀ (fr:Bool) (l:List (List AVal)),one1 (.list fr l)=true)∧(∀ (id:Id) (g o l:Nat),one1 (.arr id g o l)=true)∧∀ (id:Id) (g o l:Nat),one1 (.ptr id g o l)=true:=
 ⟨fun _ _=>rfl,fun _=>rfl,fun _=>rfl,rfl,fun _ _=>rfl,fun _ _ _ _=>rfl,fun _ _ _ _=>rfl⟩
theorem cAx:(∀ (k:IntKind) (a:Int),cellsA (.v (.int k a))=some [.v (.int k a)])∧(∀ a:Bool,cellsA (.v (.bool a))=some [.v (.bool a)])∧(∀ a:ByteArray,cellsA (.v (.string a))=some [.v (.string a)])∧cellsA (.v (.slice none 0 0))=some [.v (.slice none 0 0)] ∧
  (∀ l:List AVal,cellsA (.agg l)=some l)∧(∀ (fr:Bool) (l:List (List AVal)),cellsA (.list fr l)=some [.list fr l])∧(∀ (id:Id) (g o l:Nat),cellsA (.arr id g o l)=some [.arr id g o l])∧∀ (id:Id) (g o l:Nat),cellsA (.ptr id g o l)=some [.ptr id g o l]:=
 ⟨fun _ _=>rfl,fun _=>rfl,fun _=>rfl,rfl,fun _=>rfl,fun _ _=>rfl,fun _ _ _ _=>rfl,fun _ _ _ _=>rfl⟩
theorem ArgOk.nest_Node {H:Heap} {n:Nat} (t:Bool) (l:List GNode):ArgOk H n (.list t (l.map (GNode.cells t))) (.list false (l.map (GNode.cells false))):=ArgOk.encN t l
theorem old_nest_Node (t:Bool) (l:List GNode):old (.list t (l.map (GNode.cells t))) = .list false (l.map (GNode.cells false)):=old_encN t l
theorem ixa_i {Ty:Types} {H:Heap} {t:TypeId} {len:Nat} {j:TI} {k:IntKind} {i:Int} {fr:Bool} {cs:List AVal} (hk:kd Ty t = .arr len j) (hi:0≤i∧i<len) :
  indexAddrF Ty H t (.iptr fr cs) (.v (.int k i))=some (.iptr fr (cs.drop (i.toNat * j.size))):=by
 simp only[indexAddrF,hk,viewOf]
 rw[if_pos hi]
 simp only[ptrAdd]
theorem atm {α:Sort _} {x:α} {p:α→Prop} (h:∀ v,v=x→p v):∃ v,v=x∧p v:=⟨x,rfl,h x rfl⟩
abbrev pA (i n:Nat):AVal:=.ptr (i,n) 1 0 0
abbrev bC (t:Bool) (b:Big):List AVal:=[int b.roots,.list t (b.nodes.map (GNode.cells t)),.list t (b.sites.map intC),int b.edges,.list t (b.outer.map strC),.list t (b.inner.map Wire.cells)]
abbrev mC (t:Bool) (m:Match):List AVal:=[.list t (m.nodes.map intC),.list t (m.roots.map intC)]
abbrev zB:List AVal:=[int 0,.v (.slice none 0 0),.v (.slice none 0 0),int 0,.v (.slice none 0 0),.v (.slice none 0 0)]
section
variable {H:Heap} {n:Nat}
theorem argI (t:Bool) (l:List Int):ArgOk H n (.list t (l.map intC)) (.list false (l.map intC)):=ArgOk.encI t l
theorem argS (t:Bool) (l:List Str):ArgOk H n (.list t (l.map strC)) (.list false (l.map strC)):=ArgOk.encS t l
theorem argW (t:Bool) (l:List Wire):ArgOk H n (.list t (l.map Wire.cells)) (.list false (l.map Wire.cells)):=ArgOk.encW t l
theorem argC (t:Bool) (l:List Control):ArgOk H n (.list t (l.map Control.cells)) (.list false (l.map Control.cells)):=ArgOk.encSig t l
theorem argB (t:Bool) (b:Big):ArgOk H n (.agg (bC t b)) (.agg (bC false b)):=ArgOk.encB t b
end
end Go.Ab
/- Loops that count: how their conditions are met. -/
namespace Go.Ab.Vg
set_option linter.unusedSimpArgs false
set_option linter.unusedVariables false
theorem loopW.up {σ τ:Type} {body:σ→(σ→Prop)→Prop} {s:σ} (N:Nat) (idx:σ→Int) (mk:Nat→τ→σ) (hidx:∀ k t,idx (mk k t)=(k:Int)) (I:Nat→τ→Prop) (t0:τ) (hs:s=mk 0 t0) (h0:I 0 t0)
  (step:∀ k t (K:σ→Prop),k≤N→I k t→(k<N→∀ t',I (k+1) t'→K (mk (k+1) t'))→body (mk k t) K):loopW body s:=by
 refine⟨fun s=>∃ k t,s=mk k t∧k≤N∧I k t,fun s=>N - (idx s).toNat,⟨0,t0,hs,Nat.zero_le _,h0⟩,?_⟩
 rintro s ⟨k,t,rfl,hk,hI⟩
 refine step k t _ hk hI fun hlt t' hI'=>⟨⟨k+1,t',rfl,hlt,hI'⟩,?_⟩
 show N - (idx _).toNat<N - (idx _).toNat
 rw[hidx,hidx]
 omega
theorem loopW.upL {τ:Type} {body:Int × τ→(Int × τ→Prop)→Prop} (N:Nat) (I:Nat→τ→Prop) (t0:τ) (h0:I 0 t0)
  (step:∀ k t (K:Int × τ→Prop),k≤N→I k t→(k<N→∀ t',I (k+1) t'→K (((k:Int)+1),t'))→body ((k:Int),t) K):loopW body (0,t0):=
 loopW.up N (·.1) (fun k t=>((k:Int),t)) (fun _ _=>rfl) I t0 rfl h0 fun k t K hk hI h=>step k t K hk hI fun hlt t' hI'=>by have:=h hlt t' hI';simpa using this
theorem loopW.upR {τ:Type} {body:τ × Int→(τ × Int→Prop)→Prop} (N:Nat) (I:Nat→τ→Prop) (t0:τ) (h0:I 0 t0)
  (step:∀ k t (K:τ × Int→Prop),k≤N→I k t→(k<N→∀ t',I (k+1) t'→K (t',((k:Int)+1)))→body (t,(k:Int)) K):loopW body (t0,0):=
 loopW.up N (·.2) (fun k t=>(t,(k:Int))) (fun _ _=>rfl) I t0 rfl h0 fun k t K hk hI h=>step k t K hk hI fun hlt t' hI'=>by have:=h hlt t' hI';simpa using this
theorem loopW.up1 {body:Int→(Int→Prop)→Prop} (N:Nat) (I:Nat→Prop) (h0:I 0)
  (step:∀ k (K:Int→Prop),k≤N→I k→(k<N→I (k+1)→K ((k:Int)+1))→body (k:Int) K):loopW body 0:=
 loopW.up (τ:=Unit) N id (fun k _=>(k:Int)) (fun _ _=>rfl) (fun k _=>I k) () rfl h0 fun k _ K hk hI h=>step k K hk hI fun hlt hI'=>by have:=h hlt () hI';simpa using this
theorem loopW.byM {σ:Type} {body:σ→(σ→Prop)→Prop} {s:σ} (I:σ→Prop) (m:σ→Nat) (h0:I s) (step:∀ s,I s→body s (fun s'=>I s'∧m s'<m s)):loopW body s:=⟨I,m,h0,step⟩
theorem at_lt {α:Type} [Inhabited α] {l:List α} {k:Nat} (h:k<l.length):at' l (k:Int)=l[k]:=by simp[at',h]
def idxs {α:Type} [Inhabited α] (l:List α) (p:α→Bool) (k:Nat):List Int:=((List.range k).filter fun i:Nat=>p (at' l (i:Int))).map fun i:Nat=>(i:Int)
section
variable {α:Type} [Inhabited α] (l:List α) (p:α→Bool)
theorem idxs_yes {k:Nat} (h:p (at' l (k:Int))=true):idxs l p (k+1)=idxs l p k++[(k:Int)]:=by simp[idxs,List.range_succ,h]
theorem idxs_no {k:Nat} (h:p (at' l (k:Int))=false):idxs l p (k+1)=idxs l p k:=by simp[idxs,List.range_succ,h]
theorem idxs_len (k:Nat):(idxs l p k).length≤k:=by
 have:=List.length_filter_le (fun i:Nat=>p (at' l (i:Int))) (List.range k)
 simpa[idxs] using this
theorem mem_idxs {k:Nat} {x:Int}:x ∈ idxs l p k↔0≤x∧x<k∧p (at' l x)=true:=by
 simp only[idxs,List.mem_map,List.mem_filter,List.mem_range]
 constructor
 ·rintro⟨i,⟨h1,h2⟩,rfl⟩
  exact⟨by omega,by omega,h2⟩
 ·rintro⟨h1,h2,h3⟩
  exact⟨x.toNat,⟨by omega,by rwa [Int.toNat_of_nonneg h1]⟩,by omega⟩
end
end Go.Ab.Vg
/- Contracts of spec.l1In, spec.l2Name and spec.l12Good. -/
namespace Go.Ab
open Go.Proofs
set_option linter.unusedSimpArgs false
theorem e93:Ent Tryz.prog 93:=Ent.of Tryz.func93 (by kernel_rfl) rfl
theorem e147:Ent Tryz.prog 147:=Ent.of Tryz.func147 (by kernel_rfl) rfl
theorem l1In_ok (n lo hi:Int):PureC Tryz.prog 93 [int n,int lo,int hi] (fun r=>r=bool (within n lo hi)):=by
 refine PureC.of Tryz.func93 rfl Tryz.ntmps93 (by simp) fun Q hQ=>?_
 refine Runs.seqE Ty_ok (by decide) fun k' hk'=>?_
 simp
 refine hk' _ _ _ (Runs.seqE Ty_ok (by decide) fun k' hk'=>?_)
 simp
 by_cases h:lo≤n
 all_goals
  simp[h]
  refine hk' _ _ _ (Runs.ret Tryz.func93 (RetOk.one Tryz.results93) (hQ _ _ _ _ (ResOk.v _ _ _) ?_))
  simp[within,h]
theorem isNm_bad {s:Str} {k:Nat} (hk:k<s.length) (h:lower s[k]=false):isNm s=false:=by
 have:s.all lower=false:=by
  rw[List.all_eq_false]
  exact⟨s[k],List.getElem_mem hk,by simp[h]⟩
 simp[isNm,this]
theorem l2Name_ok (s:Str) (hs:s.length≤4294967296):PureC Tryz.prog 147 [str s] (fun r=>r=bool (isNm s)):=by
 refine PureC.of Tryz.func147 rfl Tryz.ntmps147 (by simp) fun Q hQ=>?_
 refine Runs.seqE Ty_ok (by decide) fun k' hk'=>?_
 simp   -- R0
 apply hk'
 refine Runs.seq ?_
 refine Runs.seqE Ty_ok (by decide) fun k' hk'=>?_
 simp   -- R1
 apply hk'
 refine Runs.block (Runs.loopUp s.length (fun k ρ H n=>ρ 0=str s∧ρ 3=int k∧(s.take k).all lower=true) ?_ ?_)
 ·simp
 ·rintro k ρ H n hk ⟨h0,h3,hall⟩ IH
  refine Runs.seq ?_
  refine Runs.seqE Ty_ok (by decide) fun k' hk'=>?_
  simp [h0, h3]   -- R2
  apply hk'
  refine Runs.ite rfl (fun hc1 => ?_) (fun hc1 => ?_)   -- t7
  ·simp at hc1
   refine Runs.skip ?_
   refine Runs.seq ?_
   refine Runs.block ?_
   refine Runs.seqE Ty_ok (by decide) fun k' hk'=>?_
   simp [h0, h3, hc1]   -- R4
   by_cases ha:(s[k].toNat:Int)<97
   ·simp[ha]
    apply hk'
    refine Runs.ite rfl (fun _=>?_) (fun h=>by simp at h)
    refine Runs.seqE Ty_ok (by decide) fun k' hk'=>?_
    simp   -- R5
    apply hk'
    refine Runs.ret Tryz.func147 (RetOk.one Tryz.results147) (hQ _ _ _ _ (.v _ _ _) ?_)
    rw[isNm_bad hc1 (by simp[lower];omega)]
   ·by_cases hz:(122:Int)<s[k].toNat
    ·simp[ha,hz,h0,h3,hc1]
     apply hk'
     refine Runs.ite rfl (fun _=>?_) (fun h=>by simp at h)
     refine Runs.seqE Ty_ok (by decide) fun k' hk'=>?_
     simp   -- R5
     apply hk'
     refine Runs.ret Tryz.func147 (RetOk.one Tryz.results147) (hQ _ _ _ _ (.v _ _ _) ?_)
     rw[isNm_bad hc1 (by simp[lower];omega)]
    ·simp[ha,hz,h0,h3,hc1]
     apply hk'
     refine Runs.ite rfl (fun h=>by simp at h) (fun _=>?_)
     refine Runs.skip ?_
     refine Runs.inBlock ?_
     refine Runs.evalE Ty_ok (by decide) fun k' hk'=>?_
     simp [h3, wrap_succ (show k < 4611686018427387904 by omega)]   -- R3
     apply hk'
     refine IH hc1 _ _ _ ?_
     rw[List.take_succ_eq_append_getElem hc1,List.all_append,hall]
     simp[h0,lower]
     omega
  ·simp at hc1
   refine Runs.exit rfl ?_
   refine Runs.seqE Ty_ok (by decide) fun k' hk'=>?_
   simp [h0]   -- R6
   refine RunK.callA Ty_ok (l1In_ok s.length 1 4) e93 (.cons (.v _ _ _) (.cons (.v _ _ _) (.cons (.v _ _ _) .nil))) (by decide) (by decide) rfl (by simp) ?_
   rintro _ rfl
   simp
   apply hk'
   refine Runs.ret Tryz.func147 (RetOk.one Tryz.results147) (hQ _ _ _ _ (.v _ _ _) ?_)
   rw[List.take_of_length_le hc1] at hall
   simp only[isNm,hall,Bool.and_true]
end Go.Ab
/- Contracts of impl.isLink, impl.isParent, impl.isNode and of their like in the reference. -/
namespace Go.Ab
open Go.Proofs
set_option linter.unusedSimpArgs false
theorem e154:Ent Tryz.prog 154:=Ent.of Tryz.func154 (by kernel_rfl) rfl
theorem e104:Ent Tryz.prog 104:=Ent.of Tryz.func104 (by kernel_rfl) rfl
theorem e151:Ent Tryz.prog 151:=Ent.of Tryz.func151 (by kernel_rfl) rfl
theorem e103:Ent Tryz.prog 103:=Ent.of Tryz.func103 (by kernel_rfl) rfl
theorem e46:Ent Tryz.prog 46:=Ent.of Tryz.func46 (by kernel_rfl) rfl
theorem e37:Ent Tryz.prog 37:=Ent.of Tryz.func37 (by kernel_rfl) rfl
theorem isLink_ok (b:Big) (l:Int) (he:0≤b.edges∧b.edges≤8) (ho:b.outer.length≤1048576):PureC Tryz.prog 154 [encB false b,int l] (fun r=>r=bool (okLink b l)):=by
 have hw1:IntKind.i64.wrap (b.edges+b.outer.length)=b.edges+b.outer.length:=by rw[wrap64]<;>omega
 have hw2:IntKind.i64.wrap (b.edges+b.outer.length - 1)=b.edges+b.outer.length - 1:=by rw[wrap64]<;>omega
 refine PureC.of Tryz.func154 rfl Tryz.ntmps154 (by simp) fun Q hQ=>?_
 refine Runs.seqE Ty_ok (by decide) fun k' hk'=>?_
 simp [encB, Big.cells]   -- R0
 apply hk'
 refine Runs.seqE Ty_ok (by decide) fun k' hk'=>?_
 simp [encS, hw1, hw2]   -- R1
 refine RunK.callA Ty_ok (within_ok l 0 (b.edges+b.outer.length - 1)) e109 (.cons (.v _ _ _) (.cons (.v _ _ _) (.cons (.v _ _ _) .nil))) (by decide) (by decide) rfl (by simp) ?_
 rintro _ rfl
 simp
 apply hk'
 exact Runs.ret Tryz.func154 (RetOk.one Tryz.results154) (hQ _ _ _ _ (.v _ _ _) rfl)
theorem l2Link_ok (b:Big) (l:Int) (he:0≤b.edges∧b.edges≤8) (ho:b.outer.length≤1048576):PureC Tryz.prog 104 [encB false b,int l] (fun r=>r=bool (okLink b l)):=by
 have hw1:IntKind.i64.wrap (b.edges+b.outer.length)=b.edges+b.outer.length:=by rw[wrap64]<;>omega
 have hw2:IntKind.i64.wrap (b.edges+b.outer.length - 1)=b.edges+b.outer.length - 1:=by rw[wrap64]<;>omega
 refine PureC.of Tryz.func104 rfl Tryz.ntmps104 (by simp) fun Q hQ=>?_
 refine Runs.seqE Ty_ok (by decide) fun k' hk'=>?_
 simp [encB, Big.cells]   -- R0
 apply hk'
 refine Runs.seqE Ty_ok (by decide) fun k' hk'=>?_
 simp [encS, hw1, hw2]   -- R1
 refine RunK.callA Ty_ok (l1In_ok l 0 (b.edges+b.outer.length - 1)) e93 (.cons (.v _ _ _) (.cons (.v _ _ _) (.cons (.v _ _ _) .nil))) (by decide) (by decide) rfl (by simp) ?_
 rintro _ rfl
 simp
 apply hk'
 exact Runs.ret Tryz.func104 (RetOk.one Tryz.results104) (hQ _ _ _ _ (.v _ _ _) rfl)
def isNodeB (b:Big) (x:Int):Bool:=within x 0 ((b.nodes.length:Int) - 1)
theorem isNodeB_ok (b:Big) (x:Int) (hn:b.nodes.length≤1048576):PureC Tryz.prog 46 [encB false b,int x] (fun r=>r=bool (isNodeB b x)):=by
 have hw2:IntKind.i64.wrap ((b.nodes.length:Int) - 1)=(b.nodes.length:Int) - 1:=by rw[wrap64]<;>omega
 refine PureC.of Tryz.func46 rfl Tryz.ntmps46 (by simp) fun Q hQ=>?_
 refine Runs.seqE Ty_ok (by decide) fun k' hk'=>?_
 simp [encB, Big.cells]   -- R0
 apply hk'
 refine Runs.seqE Ty_ok (by decide) fun k' hk'=>?_
 simp [encN, hw2]   -- R1
 refine RunK.callA Ty_ok (within_ok x 0 ((b.nodes.length:Int) - 1)) e109 (.cons (.v _ _ _) (.cons (.v _ _ _) (.cons (.v _ _ _) .nil))) (by decide) (by decide) rfl (by simp) ?_
 rintro _ rfl
 simp
 apply hk'
 exact Runs.ret Tryz.func46 (RetOk.one Tryz.results46) (hQ _ _ _ _ (.v _ _ _) rfl)
theorem l2Is_ok (b:Big) (x:Int) (hn:b.nodes.length≤1048576):PureC Tryz.prog 37 [encB false b,int x] (fun r=>r=bool (isNodeB b x)):=by
 have hw2:IntKind.i64.wrap ((b.nodes.length:Int) - 1)=(b.nodes.length:Int) - 1:=by rw[wrap64]<;>omega
 refine PureC.of Tryz.func37 rfl Tryz.ntmps37 (by simp) fun Q hQ=>?_
 refine Runs.seqE Ty_ok (by decide) fun k' hk'=>?_
 simp [encB, Big.cells]   -- R0
 apply hk'
 refine Runs.seqE Ty_ok (by decide) fun k' hk'=>?_
 simp [encN, hw2]   -- R1
 refine RunK.callA Ty_ok (l1In_ok x 0 ((b.nodes.length:Int) - 1)) e93 (.cons (.v _ _ _) (.cons (.v _ _ _) (.cons (.v _ _ _) .nil))) (by decide) (by decide) rfl (by simp) ?_
 rintro _ rfl
 simp
 apply hk'
 exact Runs.ret Tryz.func37 (RetOk.one Tryz.results37) (hQ _ _ _ _ (.v _ _ _) rfl)
def CtlOk (sig:Sig) (b:Big) (below:Nat):Prop:=∀ i,i<below→0≤(b.nodes.getD i default).control∧(b.nodes.getD i default).control<sig.length
theorem isParent_ok (sig:Sig) (b:Big) (parent:Int) (below:Nat) (hr:0≤b.roots∧b.roots≤4) (hb:below≤b.nodes.length) (hc:CtlOk sig b below) :
  PureC Tryz.prog 151 [encB false b,encSig false sig,int parent,int below] (fun r=>r=bool (okParent sig b parent below)):=by
 refine PureC.of Tryz.func151 rfl Tryz.ntmps151 (by simp) fun Q hQ=>?_
 refine Runs.seqE Ty_ok (by decide) fun k' hk'=>?_
 simp [encB, Big.cells]   -- R0
 apply hk'
 refine Runs.seq ?_
 refine Runs.seqE Ty_ok (by decide) fun k' hk'=>?_
 simp   -- R1
 apply hk'
 refine Runs.ite rfl (fun hc1 => ?_) (fun hc1 => ?_)   -- t10
 ·have hc1:parent<0:=by simpa using hc1
  have hw:IntKind.i64.wrap (0 - b.roots) = -b.roots:=by rw[wrap64]<;>omega
  refine Runs.seqE Ty_ok (by decide) fun k' hk'=>?_
  have hw':IntKind.i64.wrap (-b.roots) = -b.roots:=by rw[wrap64]<;>omega
  simp [hw, hw']   -- R2
  apply hk'
  exact Runs.ret Tryz.func151 (RetOk.one Tryz.results151) (hQ _ _ _ _ (.v _ _ _) (by simp[okParent,hc1]))
 ·have hc1:¬ parent<0:=by simpa using hc1
  refine Runs.skip ?_
  refine Runs.seqE Ty_ok (by decide) fun k' hk'=>?_
  by_cases hlt:parent<(below:Int)
  ·obtain⟨q,rfl⟩:∃ q:Nat,parent=q:=⟨parent.toNat,by omega⟩
   have hq:q<b.nodes.length:=by omega
   have hcq:=hc q (by omega)
   have hg:b.nodes.getD q default=b.nodes[q]:=by simp[hq]
   rw[hg] at hcq
   obtain⟨c,hcc⟩:∃ c:Nat,b.nodes[q].control=c:=⟨b.nodes[q].control.toNat,by omega⟩
   have hcl:c<sig.length:=by omega
   simp [hlt, encN, encSig, hq, GNode.cells, hcc, hcl, Control.cells, guardOf]   -- R3
   apply hk'
   refine Runs.ret Tryz.func151 (RetOk.one Tryz.results151) (hQ _ _ _ _ (.v _ _ _) ?_)
   have hlt':q<below:=by omega
   simp[okParent,hlt',hq,hcc,hcl]
   rfl
  ·simp [hlt, guardOf]   -- R3
   apply hk'
   exact Runs.ret Tryz.func151 (RetOk.one Tryz.results151) (hQ _ _ _ _ (.v _ _ _) (by simp[okParent,hc1,hlt]))
theorem l2Under_ok (sig:Sig) (b:Big) (parent:Int) (below:Nat) (hp:I64 parent) (hr:0≤b.roots∧b.roots≤4) (hb:below≤b.nodes.length) (hc:CtlOk sig b below) :
  PureC Tryz.prog 103 [encSig false sig,encB false b,int parent,int below] (fun r=>r=bool (okParent sig b parent below)):=by
 obtain⟨hp1,hp2⟩:=hp
 refine PureC.of Tryz.func103 rfl Tryz.ntmps103 (by simp) fun Q hQ=>?_
 refine Runs.seqE Ty_ok (by decide) fun k' hk'=>?_
 simp [encB, Big.cells]   -- R0
 apply hk'
 refine Runs.seq ?_
 refine Runs.seqE Ty_ok (by decide) fun k' hk'=>?_
 simp   -- R1
 apply hk'
 refine Runs.ite rfl (fun hc1 => ?_) (fun hc1 => ?_)   -- t10
 ·have hc1:parent<0:=by simpa using hc1
  have hw:IntKind.i64.wrap (-1 - parent) = -1 - parent:=by rw[wrap64]<;>omega
  have hw2:IntKind.i64.wrap (b.roots - 1)=b.roots - 1:=by rw[wrap64]<;>omega
  refine Runs.seqE Ty_ok (by decide) fun k' hk'=>?_
  simp [hw, hw2]   -- R2
  refine RunK.callA Ty_ok (l1In_ok (-1 - parent) 0 (b.roots - 1)) e93 (.cons (.v _ _ _) (.cons (.v _ _ _) (.cons (.v _ _ _) .nil))) (by decide) (by decide) rfl (by simp) ?_
  rintro _ rfl
  simp
  apply hk'
  refine Runs.ret Tryz.func103 (RetOk.one Tryz.results103) (hQ _ _ _ _ (.v _ _ _) ?_)
  have:within (-1 - parent) 0 (b.roots - 1)=decide (-b.roots≤parent):=by
   simp only[within]
   by_cases h : -b.roots≤parent
   ·simp[h];omega
   ·simp[h];omega
  simp[okParent,hc1,this]
 ·have hc1:¬ parent<0:=by simpa using hc1
  refine Runs.skip ?_
  refine Runs.seqE Ty_ok (by decide) fun k' hk'=>?_
  by_cases hlt:parent<(below:Int)
  ·obtain⟨q,rfl⟩:∃ q:Nat,parent=q:=⟨parent.toNat,by omega⟩
   have hq:q<b.nodes.length:=by omega
   have hcq:=hc q (by omega)
   have hg:b.nodes.getD q default=b.nodes[q]:=by simp[hq]
   rw[hg] at hcq
   obtain⟨c,hcc⟩:∃ c:Nat,b.nodes[q].control=c:=⟨b.nodes[q].control.toNat,by omega⟩
   have hcl:c<sig.length:=by omega
   simp [hlt, encN, encSig, hq, GNode.cells, hcc, hcl, Control.cells, guardOf]   -- R3
   apply hk'
   refine Runs.ret Tryz.func103 (RetOk.one Tryz.results103) (hQ _ _ _ _ (.v _ _ _) ?_)
   have hlt':q<below:=by omega
   simp[okParent,hlt',hq,hcc,hcl]
   rfl
  ·simp [hlt, guardOf]   -- R3
   apply hk'
   exact Runs.ret Tryz.func103 (RetOk.one Tryz.results103) (hQ _ _ _ _ (.v _ _ _) (by simp[okParent,hc1,hlt]))
end Go.Ab
/- Contracts of impl.areNames and spec.l2Names. -/
namespace Go.Ab
open Go.Proofs
set_option linter.unusedSimpArgs false
theorem e149:Ent Tryz.prog 149:=Ent.of Tryz.func149 (by kernel_rfl) rfl
theorem e100:Ent Tryz.prog 100:=Ent.of Tryz.func100 (by kernel_rfl) rfl
theorem less_not:∀ (s p:Str),(Op.bytesLess s p || s == p) = !Op.bytesLess p s
 | [],[]=>by simp[Op.bytesLess]
 | [],_::_=>by simp[Op.bytesLess]
 | _::_,[]=>by simp[Op.bytesLess]
 | a::x,b::y=>by
  have ih:=less_not x y
  simp only[Op.bytesLess]
  rcases Nat.lt_trichotomy a.toNat b.toNat with h | h | h
  ·have h1:a<b:=h
   have h2:¬ b<a:=fun h'=>by have h':b.toNat<a.toNat:=h';omega
   have h3:(b == a)=false:=by
    rw[beq_eq_false_iff_ne]
    rintro rfl
    omega
   simp[h1,h2,h3]
  ·have h0:a=b:=UInt8.toNat_inj.1 h
   subst h0
   have h2:¬ a<a:=fun h'=>by have h':a.toNat<a.toNat:=h';omega
   simp[h2]
   rw[← ih]
   try (cases Op.bytesLess x y<;>simp)
   try (by_cases hxy:x=y<;>simp[hxy])
  ·have h1:b<a:=h
   have h2:¬ a<b:=fun h'=>by have h':a.toNat<b.toNat:=h';omega
   have h3:(a == b)=false:=by
    rw[beq_eq_false_iff_ne]
    rintro rfl
    omega
   have h4:¬ a=b:=by simpa using h3
   simp[h1,h2,h4]
theorem all_range_bad {n k:Nat} {q:Nat→Bool} (hk:k<n) (h:q k=false):(List.range n).all q=false:=by
 rw[List.all_eq_false]
 exact⟨k,by simpa using hk,by simp[h]⟩
theorem all_range_end {n:Nat} {q:Nat→Bool} (h:∀ i,i<n→q i=true):(List.range n).all q=true:=by
 simpa[List.all_eq_true] using h
def okName (l:List Str) (i:Nat):Bool:=isNm (l.getD i []) && ascends l i
theorem goodNames_eq (l:List Str):goodNames l=(decide (l.length≤16) && (List.range l.length).all (okName l)):=rfl
theorem areNames_ok (l:List Str) (hl:l.length≤1048576) (hs:∀ s ∈ l,s.length≤1048576):PureC Tryz.prog 149 [encS false l] (fun r=>r=bool (goodNames l)):=by
 refine PureC.of Tryz.func149 rfl Tryz.ntmps149 (by simp) fun Q hQ=>?_
 refine Runs.seqE Ty_ok (by decide) fun k' hk'=>?_
 simp [encS]   -- R0
 apply hk'
 refine Runs.seq ?_
 refine Runs.seqE Ty_ok (by decide) fun k' hk'=>?_
 simp   -- R1
 apply hk'
 refine Runs.block (Runs.loopUp l.length (fun k ρ H n=>ρ 0 = .list false (l.map strC)∧ρ 5 = .list false (l.map strC)∧ρ 6=int l.length∧ρ 7=int k∧∀ i,i<k→okName l i=true) ?_ ?_)
 ·simp
 ·rintro k ρ H n hk ⟨h0,h5,h6,h7,hall⟩ IH
  refine Runs.seqE Ty_ok (by decide) fun k' hk'=>?_
  simp [h6, h7]   -- R2
  apply hk'
  refine Runs.seq ?_
  refine Runs.ite rfl (fun hc1 => ?_) (fun hc1 => ?_)   -- t8
  ·have hc1:k<l.length:=by simpa using hc1
   refine Runs.skip ?_
   refine Runs.seq ?_
   refine Runs.block ?_
   refine Runs.seqE Ty_ok (by decide) fun k' hk'=>?_
   simp [h5, h7, hc1, strC]   -- R3
   apply hk'
   refine Runs.seqE Ty_ok (by decide) fun k' hk'=>?_
   have fin:∀ ρ:Env,ρ 0 = .list false (l.map strC)→ρ 5 = .list false (l.map strC)→ρ 6=int l.length→ρ 7=int k→ρ 27=bool (!okName l k)→Runs Tryz.prog 149 32 k' ρ H n Q:=by
    intro ρ h0 h5 h6 h7 h27
    apply hk'
    refine Runs.ite h27 (fun hc2 => ?_) (fun hc2 => ?_)   -- t27
    ·have hb:okName l k=false:=by simpa using hc2
     refine Runs.seqE Ty_ok (by decide) fun k' hk'=>?_
     simp   -- R5
     apply hk'
     exact Runs.ret Tryz.func149 (RetOk.one Tryz.results149) (hQ _ _ _ _ (.v _ _ _) (by rw[goodNames_eq,all_range_bad hc1 hb,Bool.and_false]))
    ·have hb:okName l k=true:=by simpa using hc2
     refine Runs.skip ?_
     refine Runs.inBlock ?_
     refine Runs.evalE Ty_ok (by decide) fun k' hk'=>?_
     simp [h7, wrap_succ (show k < 4611686018427387904 by omega)]   -- R6
     apply hk'
     refine IH hc1 _ _ _ ⟨by simp[h0],by simp[h5],by simp[h6],by simp,fun i hi=>?_⟩
     rcases Nat.lt_or_ge i k with h | h
     ·exact hall i h
     ·rw[show i=k by omega];exact hb
   have hgk:l.getD k []=l[k]:=by simp[hc1]
   simp   -- R4
   refine RunK.callA Ty_ok (isName_ok l[k] (Nat.le_trans (hs _ (List.getElem_mem hc1)) (by decide))) e197 (.cons (.v _ _ _) .nil) (by decide) (by decide) rfl (by simp) ?_
   rintro _ rfl
   cases hnm:isNm l[k]
   ·simp[guardOf]
    exact fin _ (by simp[h0]) (by simp[h5]) (by simp[h6]) (by simp[h7]) (by simp[okName,hc1,hnm])
   ·by_cases hk0:k=0
    ·subst hk0
     simp[guardOf]
     exact fin _ (by simp[h0]) (by simp[h5]) (by simp[h6]) (by simp[h7]) (by simp[okName,hc1,hnm,ascends])
    ·have hk1:0<k:=by omega
     have hw:IntKind.i64.wrap ((k:Int) - 1)=((k - 1:Nat):Int):=by rw[wrap64]<;>omega
     have hkl:k - 1<l.length:=by omega
     have hgk1:l.getD (k - 1) []=l[k - 1]:=by simp[hkl]
     have hp:=less_not l[k] l[k - 1]
     simp[guardOf,hk1,h0,hw,hkl,strC]
     refine fin _ (by simp[h0]) (by simp[h5]) (by simp[h6]) (by simp[h7]) ?_
     simp only[okName,hgk,hnm,ascends,hgk1,hk0,decide_false,Bool.false_or,Bool.true_and]
     rw[← hp]
     simp
  ·have hc1:¬ k<l.length:=by simpa using hc1
   have hke:k=l.length:=by omega
   subst hke
   refine Runs.exit rfl ?_
   refine Runs.seqE Ty_ok (by decide) fun k' hk'=>?_
   simp [h0]   -- R7
   apply hk'
   refine Runs.ret Tryz.func149 (RetOk.one Tryz.results149) (hQ _ _ _ _ (.v _ _ _) ?_)
   rw[goodNames_eq,all_range_end hall]
   simp
   omega
end Go.Ab
/- Contracts of spec.l2Names, impl.innerNames and spec.l2Inner. -/
namespace Go.Ab
open Go.Proofs
set_option linter.unusedSimpArgs false
theorem e150:Ent Tryz.prog 150:=Ent.of Tryz.func150 (by kernel_rfl) rfl
theorem e101:Ent Tryz.prog 101:=Ent.of Tryz.func101 (by kernel_rfl) rfl
theorem l2Names_ok (l:List Str) (hl:l.length≤1048576) (hs:∀ s ∈ l,s.length≤1048576):PureC Tryz.prog 100 [encS false l] (fun r=>r=bool (goodNames l)):=by
 refine PureC.of Tryz.func100 rfl Tryz.ntmps100 (by simp) fun Q hQ=>?_
 refine Runs.seqE Ty_ok (by decide) fun k' hk'=>?_
 simp [encS]   -- R0
 apply hk'
 refine Runs.seq ?_
 refine Runs.seqE Ty_ok (by decide) fun k' hk'=>?_
 simp   -- R1
 apply hk'
 refine Runs.block (Runs.loopUp l.length (fun k ρ H n=>ρ 0 = .list false (l.map strC)∧ρ 3=int k∧∀ i,i<k→okName l i=true) ?_ ?_)
 ·simp
 ·rintro k ρ H n hk ⟨h0,h3,hall⟩ IH
  refine Runs.seq ?_
  refine Runs.seqE Ty_ok (by decide) fun k' hk'=>?_
  simp [h0, h3]   -- R2
  apply hk'
  refine Runs.ite rfl (fun hc1 => ?_) (fun hc1 => ?_)   -- t7
  ·have hc1:k<l.length:=by simpa using hc1
   refine Runs.skip ?_
   refine Runs.seq ?_
   refine Runs.block ?_
   refine Runs.seqD Ty_ok kindOp_ok draws (by decide) (by kernel_rfl) fun k' hk'=>?_
   have fin:∀ ρ:Env,ρ 0 = .list false (l.map strC)→ρ 3=int k→ρ 31=bool (!okName l k)→Runs Tryz.prog 100 35 k' ρ H n Q:=by
    intro ρ h0 h3 h31
    apply hk'
    refine Runs.ite h31 (fun hc2=>?_) (fun hc2=>?_)
    ·have hb:okName l k=false:=by simpa using hc2
     refine Runs.seqE Ty_ok (by decide) fun k' hk'=>?_
     simp   -- R5
     apply hk'
     exact Runs.ret Tryz.func100 (RetOk.one Tryz.results100) (hQ _ _ _ _ (.v _ _ _) (by rw[goodNames_eq,all_range_bad hc1 hb,Bool.and_false]))
    ·have hb:okName l k=true:=by simpa using hc2
     refine Runs.skip ?_
     refine Runs.inBlock ?_
     refine Runs.evalE Ty_ok (by decide) fun k' hk'=>?_
     simp [h3, wrap_succ (show k < 4611686018427387904 by omega)]   -- R3
     apply hk'
     refine IH hc1 _ _ _ ⟨by simp[h0],by simp,fun i hi=>?_⟩
     rcases Nat.lt_or_ge i k with h | h
     ·exact hall i h
     ·rw[show i=k by omega];exact hb
   have hgk:l.getD k []=l[k]:=by simp[hc1]
   simp [h0, h3, hc1, strC]   -- R4
   refine RunDK.callA Ty_ok kindOp_ok (l2Name_ok l[k] (Nat.le_trans (hs _ (List.getElem_mem hc1)) (by decide))) e147 (.cons (.v _ _ _) .nil) (by decide) rfl (by simp) ?_
   cases hnm:isNm l[k]
   ·simp[guardOf]
    exact fin _ (by simp[h0,strC]) (by simp[h3]) (by simp[okName,hc1,hnm])
   ·by_cases hk0:k=0
    ·subst hk0
     simp[h3,guardOf]
     exact fin _ (by simp[h0,strC]) (by simp[h3]) (by simp[okName,hc1,hnm,ascends])
    ·have hk1:0<k:=by omega
     have hw:IntKind.i64.wrap ((k:Int) - 1)=((k - 1:Nat):Int):=by rw[wrap64]<;>omega
     have hkl:k - 1<l.length:=by omega
     have hgk1:l.getD (k - 1) []=l[k - 1]:=by simp[hkl]
     simp[guardOf,hk1,h0,h3,hw,hkl,hc1,strC]
     refine fin _ (by simp[h0,strC]) (by simp[h3]) ?_
     simp only[okName,hgk,hnm,ascends,hgk1,hk0,decide_false,Bool.false_or,Bool.true_and]
     simp
  ·have hc1:¬ k<l.length:=by simpa using hc1
   have hke:k=l.length:=by omega
   subst hke
   refine Runs.exit rfl ?_
   refine Runs.seqE Ty_ok (by decide) fun k' hk'=>?_
   simp [h0]   -- R6
   apply hk'
   refine Runs.ret Tryz.func100 (RetOk.one Tryz.results100) (hQ _ _ _ _ (.v _ _ _) ?_)
   rw[goodNames_eq,all_range_end hall]
   simp
   omega
def names (b:Big):List Str:=b.inner.map (·.name)
theorem innerNames_ok (b:Big) (hl:b.inner.length≤1048576):PureC Tryz.prog 150 [encB false b] (fun r=>r=encS true (names b)):=by
 refine PureC.of Tryz.func150 rfl Tryz.ntmps150 (by simp) fun Q hQ=>?_
 refine Runs.seqE Ty_ok (by decide) fun k' hk'=>?_
 simp [encB, Big.cells]   -- R0
 apply hk'
 refine Runs.seqE Ty_ok (by decide) fun k' hk'=>?_
 simp   -- R1
 apply hk'
 refine Runs.seq ?_
 refine Runs.seqE Ty_ok (by decide) fun k' hk'=>?_
 simp [encW]   -- R2
 apply hk'
 refine Runs.block (Runs.loopUp b.inner.length (fun k ρ H n=>ρ 8 = .list false (b.inner.map Wire.cells)∧ρ 9=int b.inner.length∧ρ 10=int k∧ρ 3 = .arr (1,6) k 0 k∧H (1,6)=some ⟨1,((names b).take k).map strC⟩) ?_ ?_)
 ·simp
 ·rintro k ρ H n hk ⟨h8,h9,h10,h3,hH⟩ IH
  refine Runs.seqE Ty_ok (by decide) fun k' hk'=>?_
  simp [h9, h10]   -- R3
  apply hk'
  refine Runs.seq ?_
  refine Runs.ite rfl (fun hc1 => ?_) (fun hc1 => ?_)   -- t11
  ·have hc1:k<b.inner.length:=by simpa using hc1
   have htk:(((names b).take k).map strC).length=k:=by simp[names];omega
   have hts:(names b).take (k+1)=(names b).take k++[b.inner[k].name]:=by
    rw[List.take_succ_eq_append_getElem (by simpa[names] using hc1)]
    simp[names]
   refine Runs.skip ?_
   refine Runs.seq ?_
   refine Runs.block ?_
   refine Runs.seqE Ty_ok (by decide) fun k' hk'=>?_
   simp [h8, h10, hc1, Wire.cells]   -- R4
   apply hk'
   refine Runs.evalE Ty_ok (by decide) fun k' hk'=>?_
   generalize hels:((names b).take k).map strC=els at hH htk
   simp [h3, hH, htk, live, show k ≤ 1073741823 by omega]   -- R5
   apply hk'
   refine Runs.inBlock ?_
   refine Runs.evalE Ty_ok (by decide) fun k' hk'=>?_
   simp [h10, wrap_succ (show k < 4611686018427387904 by omega)]   -- R6
   apply hk'
   refine IH hc1 _ _ _ ⟨by simp[h8],by simp[h9],by simp,by simp,?_⟩
   simp[hts,← hels,strC]
  ·have hc1:¬ k<b.inner.length:=by simpa using hc1
   have hke:k=b.inner.length:=by omega
   subst hke
   refine Runs.exit rfl ?_
   refine Runs.seqE Ty_ok (by decide) fun k' hk'=>?_
   simp [h3]   -- R7
   apply hk'
   have he:(names b).take b.inner.length=names b:=List.take_of_length_le (by simp[names])
   rw[he] at hH
   exact Runs.ret Tryz.func150 (RetOk.one Tryz.results150) (hQ _ _ _ _ (.of (Ret.arrF (by simp[live,hH,names];rfl) (by simp[strC]))) rfl)
theorem l2Inner_ok (b:Big) (hl:b.inner.length≤1048576):PureC Tryz.prog 101 [encB false b] (fun r=>r=encS true (names b)):=by
 refine PureC.of Tryz.func101 rfl Tryz.ntmps101 (by simp) fun Q hQ=>?_
 refine Runs.seqE Ty_ok (by decide) fun k' hk'=>?_
 simp [encB, Big.cells]   -- R0
 apply hk'
 refine Runs.seqE Ty_ok (by decide) fun k' hk'=>?_
 simp   -- R1
 apply hk'
 refine Runs.seq ?_
 refine Runs.seqE Ty_ok (by decide) fun k' hk'=>?_
 simp [encW]   -- R2
 apply hk'
 refine Runs.block (Runs.loopUp b.inner.length (fun k ρ H n=>ρ 1 = .ptr (0,1) 1 0 0∧H (0,1)=some ⟨6,[b.cells false]⟩∧ρ 4=int k∧ρ 3 = .arr (1,5) k 0 k∧H (1,5)=some ⟨1,((names b).take k).map strC⟩) ?_ ?_)
 ·simp[Big.cells,encW]
 ·rintro k ρ H n hk ⟨h1,hb,h4,h3,hH⟩ IH
  refine Runs.seq ?_
  refine Runs.seqE Ty_ok (by decide) fun k' hk'=>?_
  simp [h1, hb, h4, Big.cells, encW]   -- R3
  apply hk'
  refine Runs.ite rfl (fun hc1 => ?_) (fun hc1 => ?_)   -- t10
  ·have hc1:k<b.inner.length:=by simpa using hc1
   have htk:(((names b).take k).map strC).length=k:=by simp[names];omega
   have hts:(names b).take (k+1)=(names b).take k++[b.inner[k].name]:=by
    rw[List.take_succ_eq_append_getElem (by simpa[names] using hc1)]
    simp[names]
   refine Runs.skip ?_
   refine Runs.seq ?_
   refine Runs.block ?_
   refine Runs.evalE Ty_ok (by decide) fun k' hk'=>?_
   generalize hels:((names b).take k).map strC=els at hH htk
   simp [h1, hb, h3, h4, hH, htk, hc1, live, Big.cells, encW, Wire.cells, show k ≤ 1073741823 by omega]   -- R5
   apply hk'
   refine Runs.inBlock ?_
   refine Runs.evalE Ty_ok (by decide) fun k' hk'=>?_
   simp [h4, wrap_succ (show k < 4611686018427387904 by omega)]   -- R4
   apply hk'
   refine IH hc1 _ _ _ ⟨by simp[h1],by simp[hb,Big.cells,encW],by simp,by simp,?_⟩
   simp[hts,← hels,strC]
  ·have hc1:¬ k<b.inner.length:=by simpa using hc1
   have hke:k=b.inner.length:=by omega
   subst hke
   refine Runs.exit rfl ?_
   refine Runs.seqE Ty_ok (by decide) fun k' hk'=>?_
   simp [h3]   -- R6
   apply hk'
   have he:(names b).take b.inner.length=names b:=List.take_of_length_le (by simp[names])
   rw[he] at hH
   exact Runs.ret Tryz.func101 (RetOk.one Tryz.results101) (hQ _ _ _ _ (.of (Ret.arrF (by simp[live,hH,names];rfl) (by simp[strC]))) rfl)
end Go.Ab
/- Contracts of slices.IndexFunc and slices.ContainsFunc at three types. By program. -/
namespace Go.Ab
open Go.Proofs
set_option linter.unusedSimpArgs false
def idxF {α:Type} (l:List α) (p:α→Bool):Int:=if l.findIdx p<l.length then (l.findIdx p:Int) else -1
theorem idxF_at {α:Type} {l:List α} {p:α→Bool} {k:Nat} (hk:k<l.length) (h:p l[k]=true) (hno:∀ i (h:i<l.length),i<k→p l[i]=false):idxF l p=k:=by
 have:l.findIdx p=k:=(List.findIdx_eq hk).2 ⟨h,fun j hj=>hno j (by omega) hj⟩
 rw[idxF,this,if_pos hk]
theorem idxF_no {α:Type} {l:List α} {p:α→Bool} (hno:∀ i (h:i<l.length),p l[i]=false):idxF l p = -1:=by
 have:l.findIdx p=l.length:=List.findIdx_eq_length.2 fun x hx=>by
  obtain⟨i,hi,rfl⟩:=List.getElem_of_mem hx
  exact hno i hi
 rw[idxF,this,if_neg (Nat.lt_irrefl _)]
theorem idxF_any {α:Type} (l:List α) (p:α→Bool):decide (0≤idxF l p)=l.any p:=by
 unfold idxF
 cases h:l.any p
 ·have:l.findIdx p=l.length:=List.findIdx_eq_length.2 fun x hx=>by
   rw[List.any_eq_false] at h
   simpa using h x hx
  rw[if_neg (by omega)]
  simp
 ·have:l.findIdx p<l.length:=by
   rw[List.findIdx_lt_length]
   simpa[List.any_eq_true] using h
  rw[if_pos this]
  simp
theorem e200:Ent Tryz.prog 200:=Ent.of Tryz.func200 (by kernel_rfl) rfl
theorem e152:Ent Tryz.prog 152:=Ent.of Tryz.func152 (by kernel_rfl) rfl
theorem indexFuncI_ok {H:Heap} {n:Nat} {cl:AVal} (t:Bool) (l:List (Int)) (p:Int→Bool) (hl:l.length≤1048576) (hcl:∀ x ∈ l,ClosC Tryz.prog H n cl [int x] (fun r=>r=bool (p x))) :
  StillC Tryz.prog 200 [.list t (l.map intC),cl] H n (fun r=>r=int (idxF l p)):=by
 refine StillC.of Tryz.func200 rfl Tryz.ntmps200 (by simp) fun Q _ hQ=>?_
 refine Runs.seqE Ty_ok (by decide) fun k' hk'=>?_
 simp   -- R0
 apply hk'
 refine Runs.seq ?_
 refine Runs.seqE Ty_ok (by decide) fun k' hk'=>?_
 simp   -- R1
 apply hk'
 refine Runs.block (Runs.loopUp l.length (fun k ρ H' n'=>ρ 0 = .list t (l.map intC)∧ρ 1=cl∧ρ 7=int l.length∧ρ 8=int k∧H'=H∧n'=n∧∀ i (h:i<l.length),i<k→p l[i]=false) ?_ ?_)
 ·simp
 ·rintro k ρ H' n' hk ⟨h0,h1,h7,h8,rfl,rfl,hno⟩ IH
  refine Runs.seqE Ty_ok (by decide) fun k' hk'=>?_
  simp [h7, h8]   -- R2
  apply hk'
  refine Runs.seq ?_
  refine Runs.ite rfl (fun hc1 => ?_) (fun hc1 => ?_)   -- t9
  ·have hc1:k<l.length:=by simpa using hc1
   refine Runs.skip ?_
   refine Runs.seq ?_
   refine Runs.block ?_
   refine Runs.seqE Ty_ok (by decide) fun k' hk'=>?_
   simp [h8]   -- R3
   apply hk'
   refine Runs.seqE Ty_ok (by decide) fun k' hk'=>?_
   simp [h0, h1, hc1, intC]   -- R4
   refine RunK.callF Ty_ok (hcl l[k] (List.getElem_mem hc1)) (by decide) (by decide) (by simp[h1]) (by simp) ?_
   rintro _ rfl
   simp
   apply hk'
   refine Runs.ite rfl (fun hc2 => ?_) (fun hc2 => ?_)   -- t16
   ·have hc2:p l[k]=true:=by simpa using hc2
    refine Runs.seqE Ty_ok (by decide) fun k' hk'=>?_
    simp   -- R5
    apply hk'
    refine Runs.ret Tryz.func200 (RetOk.one Tryz.results200) (hQ _ _ _ _ (.bnd (.v _)) (Frame.refl _ _) ?_)
    simp[idxF_at hc1 hc2 hno]
   ·have hc2:p l[k]=false:=by simpa using hc2
    refine Runs.skip ?_
    refine Runs.inBlock ?_
    refine Runs.evalE Ty_ok (by decide) fun k' hk'=>?_
    simp [h8, wrap_succ (show k < 4611686018427387904 by omega)]   -- R6
    apply hk'
    refine IH hc1 _ _ _ ⟨by simp[h0,intC],by simp[h1],by simp[h7],by simp,rfl,rfl,fun i h hi=>?_⟩
    rcases Nat.lt_or_ge i k with hik | hik
    ·exact hno i h hik
    ·have:i=k:=by omega
     subst this
     exact hc2
  ·have hc1:¬ k<l.length:=by simpa using hc1
   have hke:k=l.length:=by omega
   subst hke
   refine Runs.exit rfl ?_
   refine Runs.seqE Ty_ok (by decide) fun k' hk'=>?_
   simp   -- R7
   apply hk'
   refine Runs.ret Tryz.func200 (RetOk.one Tryz.results200) (hQ _ _ _ _ (.bnd (.v _)) (Frame.refl _ _) ?_)
   simp[idxF_no fun i h=>hno i h h]
theorem containsFuncI_ok {H:Heap} {n:Nat} {cl:AVal} (t:Bool) (l:List (Int)) (p:Int→Bool) (hl:l.length≤1048576) (hcl:∀ x ∈ l,ClosC Tryz.prog H n cl [int x] (fun r=>r=bool (p x))) :
  StillC Tryz.prog 152 [.list t (l.map intC),cl] H n (fun r=>r=bool (l.any p)):=by
 refine StillC.of Tryz.func152 rfl Tryz.ntmps152 (by simp) fun Q _ hQ=>?_
 refine Runs.seqE Ty_ok (by decide) fun k' hk'=>?_
 simp   -- R0
 apply hk'
 refine Runs.seqE Ty_ok (by decide) fun k' hk'=>?_
 simp   -- R1
 refine RunK.callT Ty_ok (indexFuncI_ok t l p hl hcl) e200 (by decide) (by decide) rfl (by simp) ?_
 rintro _ rfl
 simp
 apply hk'
 refine Runs.ret Tryz.func152 (RetOk.one Tryz.results152) (hQ _ _ _ _ (.bnd (.v _)) (Frame.refl _ _) ?_)
 simp[idxF_any]
theorem e201:Ent Tryz.prog 201:=Ent.of Tryz.func201 (by kernel_rfl) rfl
theorem e156:Ent Tryz.prog 156:=Ent.of Tryz.func156 (by kernel_rfl) rfl
theorem indexFuncW_ok {H:Heap} {n:Nat} {cl:AVal} (t:Bool) (l:List (Wire)) (p:Wire→Bool) (hl:l.length≤1048576) (hcl:∀ x ∈ l,ClosC Tryz.prog H n cl [.agg x.cells] (fun r=>r=bool (p x))) :
  StillC Tryz.prog 201 [.list t (l.map Wire.cells),cl] H n (fun r=>r=int (idxF l p)):=by
 refine StillC.of Tryz.func201 rfl Tryz.ntmps201 (by simp) fun Q _ hQ=>?_
 refine Runs.seqE Ty_ok (by decide) fun k' hk'=>?_
 simp   -- R0
 apply hk'
 refine Runs.seq ?_
 refine Runs.seqE Ty_ok (by decide) fun k' hk'=>?_
 simp   -- R1
 apply hk'
 refine Runs.block (Runs.loopUp l.length (fun k ρ H' n'=>ρ 0 = .list t (l.map Wire.cells)∧ρ 1=cl∧ρ 7=int l.length∧ρ 8=int k∧H'=H∧n'=n∧∀ i (h:i<l.length),i<k→p l[i]=false) ?_ ?_)
 ·simp
 ·rintro k ρ H' n' hk ⟨h0,h1,h7,h8,rfl,rfl,hno⟩ IH
  refine Runs.seqE Ty_ok (by decide) fun k' hk'=>?_
  simp [h7, h8]   -- R2
  apply hk'
  refine Runs.seq ?_
  refine Runs.ite rfl (fun hc1 => ?_) (fun hc1 => ?_)   -- t9
  ·have hc1:k<l.length:=by simpa using hc1
   refine Runs.skip ?_
   refine Runs.seq ?_
   refine Runs.block ?_
   refine Runs.seqE Ty_ok (by decide) fun k' hk'=>?_
   simp [h8]   -- R3
   apply hk'
   refine Runs.seqE Ty_ok (by decide) fun k' hk'=>?_
   simp [h0, h1, hc1, Wire.cells]   -- R4
   refine RunK.callF Ty_ok (hcl l[k] (List.getElem_mem hc1)) (by decide) (by decide) (by simp[h1]) (by simp[Wire.cells]) ?_
   rintro _ rfl
   simp
   apply hk'
   refine Runs.ite rfl (fun hc2 => ?_) (fun hc2 => ?_)   -- t16
   ·have hc2:p l[k]=true:=by simpa using hc2
    refine Runs.seqE Ty_ok (by decide) fun k' hk'=>?_
    simp   -- R5
    apply hk'
    refine Runs.ret Tryz.func201 (RetOk.one Tryz.results201) (hQ _ _ _ _ (.bnd (.v _)) (Frame.refl _ _) ?_)
    simp[idxF_at hc1 hc2 hno]
   ·have hc2:p l[k]=false:=by simpa using hc2
    refine Runs.skip ?_
    refine Runs.inBlock ?_
    refine Runs.evalE Ty_ok (by decide) fun k' hk'=>?_
    simp [h8, wrap_succ (show k < 4611686018427387904 by omega)]   -- R6
    apply hk'
    refine IH hc1 _ _ _ ⟨by simp[h0,Wire.cells],by simp[h1],by simp[h7],by simp,rfl,rfl,fun i h hi=>?_⟩
    rcases Nat.lt_or_ge i k with hik | hik
    ·exact hno i h hik
    ·have:i=k:=by omega
     subst this
     exact hc2
  ·have hc1:¬ k<l.length:=by simpa using hc1
   have hke:k=l.length:=by omega
   subst hke
   refine Runs.exit rfl ?_
   refine Runs.seqE Ty_ok (by decide) fun k' hk'=>?_
   simp   -- R7
   apply hk'
   refine Runs.ret Tryz.func201 (RetOk.one Tryz.results201) (hQ _ _ _ _ (.bnd (.v _)) (Frame.refl _ _) ?_)
   simp[idxF_no fun i h=>hno i h h]
theorem containsFuncW_ok {H:Heap} {n:Nat} {cl:AVal} (t:Bool) (l:List (Wire)) (p:Wire→Bool) (hl:l.length≤1048576) (hcl:∀ x ∈ l,ClosC Tryz.prog H n cl [.agg x.cells] (fun r=>r=bool (p x))) :
  StillC Tryz.prog 156 [.list t (l.map Wire.cells),cl] H n (fun r=>r=bool (l.any p)):=by
 refine StillC.of Tryz.func156 rfl Tryz.ntmps156 (by simp) fun Q _ hQ=>?_
 refine Runs.seqE Ty_ok (by decide) fun k' hk'=>?_
 simp   -- R0
 apply hk'
 refine Runs.seqE Ty_ok (by decide) fun k' hk'=>?_
 simp   -- R1
 refine RunK.callT Ty_ok (indexFuncW_ok t l p hl hcl) e201 (by decide) (by decide) rfl (by simp) ?_
 rintro _ rfl
 simp
 apply hk'
 refine Runs.ret Tryz.func156 (RetOk.one Tryz.results156) (hQ _ _ _ _ (.bnd (.v _)) (Frame.refl _ _) ?_)
 simp[idxF_any]
theorem e234:Ent Tryz.prog 234:=Ent.of Tryz.func234 (by kernel_rfl) rfl
theorem e198:Ent Tryz.prog 198:=Ent.of Tryz.func198 (by kernel_rfl) rfl
theorem indexFuncC_ok {H:Heap} {n:Nat} {cl:AVal} (t:Bool) (l:List (Control)) (p:Control→Bool) (hl:l.length≤1048576) (hcl:∀ x ∈ l,ClosC Tryz.prog H n cl [.agg x.cells] (fun r=>r=bool (p x))) :
  StillC Tryz.prog 234 [.list t (l.map Control.cells),cl] H n (fun r=>r=int (idxF l p)):=by
 refine StillC.of Tryz.func234 rfl Tryz.ntmps234 (by simp) fun Q _ hQ=>?_
 refine Runs.seqE Ty_ok (by decide) fun k' hk'=>?_
 simp   -- R0
 apply hk'
 refine Runs.seq ?_
 refine Runs.seqE Ty_ok (by decide) fun k' hk'=>?_
 simp   -- R1
 apply hk'
 refine Runs.block (Runs.loopUp l.length (fun k ρ H' n'=>ρ 0 = .list t (l.map Control.cells)∧ρ 1=cl∧ρ 7=int l.length∧ρ 8=int k∧H'=H∧n'=n∧∀ i (h:i<l.length),i<k→p l[i]=false) ?_ ?_)
 ·simp
 ·rintro k ρ H' n' hk ⟨h0,h1,h7,h8,rfl,rfl,hno⟩ IH
  refine Runs.seqE Ty_ok (by decide) fun k' hk'=>?_
  simp [h7, h8]   -- R2
  apply hk'
  refine Runs.seq ?_
  refine Runs.ite rfl (fun hc1 => ?_) (fun hc1 => ?_)   -- t9
  ·have hc1:k<l.length:=by simpa using hc1
   refine Runs.skip ?_
   refine Runs.seq ?_
   refine Runs.block ?_
   refine Runs.seqE Ty_ok (by decide) fun k' hk'=>?_
   simp [h8]   -- R3
   apply hk'
   refine Runs.seqE Ty_ok (by decide) fun k' hk'=>?_
   simp [h0, h1, hc1, Control.cells]   -- R4
   refine RunK.callF Ty_ok (hcl l[k] (List.getElem_mem hc1)) (by decide) (by decide) (by simp[h1]) (by simp[Control.cells]) ?_
   rintro _ rfl
   simp
   apply hk'
   refine Runs.ite rfl (fun hc2 => ?_) (fun hc2 => ?_)   -- t16
   ·have hc2:p l[k]=true:=by simpa using hc2
    refine Runs.seqE Ty_ok (by decide) fun k' hk'=>?_
    simp   -- R5
    apply hk'
    refine Runs.ret Tryz.func234 (RetOk.one Tryz.results234) (hQ _ _ _ _ (.bnd (.v _)) (Frame.refl _ _) ?_)
    simp[idxF_at hc1 hc2 hno]
   ·have hc2:p l[k]=false:=by simpa using hc2
    refine Runs.skip ?_
    refine Runs.inBlock ?_
    refine Runs.evalE Ty_ok (by decide) fun k' hk'=>?_
    simp [h8, wrap_succ (show k < 4611686018427387904 by omega)]   -- R6
    apply hk'
    refine IH hc1 _ _ _ ⟨by simp[h0,Control.cells],by simp[h1],by simp[h7],by simp,rfl,rfl,fun i h hi=>?_⟩
    rcases Nat.lt_or_ge i k with hik | hik
    ·exact hno i h hik
    ·have:i=k:=by omega
     subst this
     exact hc2
  ·have hc1:¬ k<l.length:=by simpa using hc1
   have hke:k=l.length:=by omega
   subst hke
   refine Runs.exit rfl ?_
   refine Runs.seqE Ty_ok (by decide) fun k' hk'=>?_
   simp   -- R7
   apply hk'
   refine Runs.ret Tryz.func234 (RetOk.one Tryz.results234) (hQ _ _ _ _ (.bnd (.v _)) (Frame.refl _ _) ?_)
   simp[idxF_no fun i h=>hno i h h]
theorem containsFuncC_ok {H:Heap} {n:Nat} {cl:AVal} (t:Bool) (l:List (Control)) (p:Control→Bool) (hl:l.length≤1048576) (hcl:∀ x ∈ l,ClosC Tryz.prog H n cl [.agg x.cells] (fun r=>r=bool (p x))) :
  StillC Tryz.prog 198 [.list t (l.map Control.cells),cl] H n (fun r=>r=bool (l.any p)):=by
 refine StillC.of Tryz.func198 rfl Tryz.ntmps198 (by simp) fun Q _ hQ=>?_
 refine Runs.seqE Ty_ok (by decide) fun k' hk'=>?_
 simp   -- R0
 apply hk'
 refine Runs.seqE Ty_ok (by decide) fun k' hk'=>?_
 simp   -- R1
 refine RunK.callT Ty_ok (indexFuncC_ok t l p hl hcl) e234 (by decide) (by decide) rfl (by simp) ?_
 rintro _ rfl
 simp
 apply hk'
 refine Runs.ret Tryz.func198 (RetOk.one Tryz.results198) (hQ _ _ _ _ (.bnd (.v _)) (Frame.refl _ _) ?_)
 simp[idxF_any]
end Go.Ab
/- Contracts of impl.IsSignature and spec.l2Sig. -/
namespace Go.Ab
open Go.Proofs
set_option linter.unusedSimpArgs false
theorem e148:Ent Tryz.prog 148:=Ent.of Tryz.func148 (by kernel_rfl) rfl
theorem e99:Ent Tryz.prog 99:=Ent.of Tryz.func99 (by kernel_rfl) rfl
theorem e199:Ent Tryz.prog 199:=Ent.of Tryz.func199 (by kernel_rfl) rfl
theorem clos135 {H:Heap} {n:Nat} {X:Id} (c:Control) (hX:H X=some ⟨3,[c.cells]⟩) (d:Control):ClosC Tryz.prog H n (.fn (.func 199) [] [.ptr X 1 0 0]) [.agg d.cells] (fun r=>r=bool (d.name == c.name)):=by
 refine⟨199,[],[.ptr X 1 0 0],rfl,e199,?_⟩
 refine StillC.of Tryz.func199 rfl Tryz.ntmps199 (by simp) fun Q hB hQ=>?_
 have hXn:=(hB X _ hX).1
 have hX2:¬ X=(n,2):=by rintro rfl;simp at hXn
 refine Runs.seqE Ty_ok (by decide) fun k' hk'=>?_
 simp [Control.cells]   -- R0
 apply hk'
 refine Runs.seqE Ty_ok (by decide) fun k' hk'=>?_
 simp [hX2, hX, Control.cells]   -- R1
 apply hk'
 exact Runs.ret Tryz.func199 (RetOk.one Tryz.results199) (hQ _ _ _ _ (.bnd (.v _)) (Frame.set (by simp) (Frame.refl _ _)) (by simp))
def okCtl (sig:Sig) (i:Nat):Bool:=okControl (sig.getD i default) && newName sig i
theorem goodSig_eq (sig:Sig):goodSig sig=(within sig.length 1 6 && (List.range sig.length).all (okCtl sig)):=rfl
theorem IsSignature_ok (sig:Sig) (hl:sig.length≤1048576) (hs:∀ c ∈ sig,c.name.length≤1048576):PureC Tryz.prog 148 [encSig false sig] (fun r=>r=bool (goodSig sig)):=by
 refine PureC.of Tryz.func148 rfl Tryz.ntmps148 (by simp) fun Q hQ=>?_
 refine Runs.seqE Ty_ok (by decide) fun k' hk'=>?_
 simp [encSig]   -- R0
 apply hk'
 refine Runs.seq ?_
 refine Runs.seqE Ty_ok (by decide) fun k' hk'=>?_
 simp   -- R1
 refine RunK.callA Ty_ok (within_ok sig.length 1 6) e109 (.cons (.v _ _ _) (.cons (.v _ _ _) (.cons (.v _ _ _) .nil))) (by decide) (by decide) rfl (by simp) ?_
 rintro _ rfl
 simp
 apply hk'
 refine Runs.ite rfl (fun hc1 => ?_) (fun hc1 => ?_)   -- t8
 ·have hw:within sig.length 1 6=false:=by simpa using hc1
  refine Runs.seqE Ty_ok (by decide) fun k' hk'=>?_
  simp   -- R2
  apply hk'
  exact Runs.ret Tryz.func148 (RetOk.one Tryz.results148) (hQ _ _ _ _ (.v _ _ _) (by rw[goodSig_eq,hw,Bool.false_and]))
 ·have hw:within sig.length 1 6=true:=by simpa using hc1
  refine Runs.skip ?_
  refine Runs.seq ?_
  refine Runs.seqE Ty_ok (by decide) fun k' hk'=>?_
  simp   -- R3
  apply hk'
  refine Runs.block (Runs.loopUp sig.length (fun k ρ H n=>ρ 0 = .list false (sig.map Control.cells)∧ρ 9 = .list false (sig.map Control.cells)∧ρ 10=int sig.length∧ρ 11=int k∧∀ i,i<k→okCtl sig i=true) ?_ ?_)
  ·simp
  ·rintro k ρ H n hk ⟨h0,h9,h10,h11,hall⟩ IH
   refine Runs.seqE Ty_ok (by decide) fun k' hk'=>?_
   simp [h10, h11]   -- R4
   apply hk'
   refine Runs.seq ?_
   refine Runs.ite rfl (fun hc1 => ?_) (fun hc1 => ?_)   -- t12
   ·have hc1:k<sig.length:=by simpa using hc1
    have hgk:sig.getD k default=sig[k]:=by simp[hc1]
    refine Runs.skip ?_
    refine Runs.seq ?_
    refine Runs.block ?_
    refine Runs.seqE Ty_ok (by decide) fun k' hk'=>?_
    simp [h9, h11, hc1, Control.cells]   -- R5
    apply hk'
    refine Runs.cut (fun ρ H n=>ρ 0 = .list false (sig.map Control.cells)∧ρ 9 = .list false (sig.map Control.cells)∧ρ 10=int sig.length∧ρ 11=int k∧ρ 3=int k∧∃ m,ρ 4 = .ptr (m,4) 1 0 0∧H (m,4)=some ⟨3,[sig[k].cells]⟩) ?_ ?_
    ·exact⟨by simp[h0],by simp[h9],by simp[h10],by simp[h11],by simp,n,by simp,by simp[Control.cells]⟩
    clear hk' h0 h9 h10 h11
    rintro ρ H n ⟨h0,h9,h10,h11,h3,m,h4,hm⟩
    refine Runs.seqE Ty_ok (by decide) fun k' hk'=>?_
    have fin:∀ ρ:Env,ρ 0 = .list false (sig.map Control.cells)→ρ 9 = .list false (sig.map Control.cells)→ρ 10=int sig.length→ρ 11=int k→ρ 38=bool (!okCtl sig k)→Runs Tryz.prog 148 40 k' ρ H n Q:=by
     intro ρ h0 h9 h10 h11 h38
     apply hk'
     refine Runs.ite h38 (fun hc2 => ?_) (fun hc2 => ?_)   -- t38
     ·have hb:okCtl sig k=false:=by simpa using hc2
      refine Runs.seqE Ty_ok (by decide) fun k' hk'=>?_
      simp   -- R7
      apply hk'
      exact Runs.ret Tryz.func148 (RetOk.one Tryz.results148) (hQ _ _ _ _ (.v _ _ _) (by rw[goodSig_eq,all_range_bad hc1 hb,Bool.and_false]))
     ·have hb:okCtl sig k=true:=by simpa using hc2
      refine Runs.skip ?_
      refine Runs.inBlock ?_
      refine Runs.evalE Ty_ok (by decide) fun k' hk'=>?_
      simp [h11, wrap_succ (show k < 4611686018427387904 by omega)]   -- R8
      apply hk'
      refine IH hc1 _ _ _ ⟨by simp[h0],by simp[h9],by simp[h10],by simp,fun i hi=>?_⟩
      rcases Nat.lt_or_ge i k with h | h
      ·exact hall i h
      ·rw[show i=k by omega];exact hb
    have hm':=hm
    simp only[Control.cells] at hm'
    simp [h4, hm']   -- R6
    refine RunK.callA Ty_ok (isName_ok sig[k].name (Nat.le_trans (hs _ (List.getElem_mem hc1)) (by decide))) e197 (.cons (.v _ _ _) .nil) (by decide) (by decide) rfl (by simp) ?_
    rintro _ rfl
    cases hnm:isNm sig[k].name
    ·simp[guardOf]
     exact fin _ (by simp[h0]) (by simp[h9]) (by simp[h10]) (by simp[h11]) (by simp only[okCtl,hgk,okControl,hnm];simp)
    ·simp[h4,hm',guardOf]
     refine RunK.callA Ty_ok (within_ok sig[k].ports 0 3) e109 (.cons (.v _ _ _) (.cons (.v _ _ _) (.cons (.v _ _ _) .nil))) (by decide) (by decide) rfl (by simp) ?_
     rintro _ rfl
     cases hpo:within sig[k].ports 0 3
     ·simp[guardOf]
      exact fin _ (by simp[h0]) (by simp[h9]) (by simp[h10]) (by simp[h11]) (by simp only[okCtl,hgk,okControl,hnm,hpo];simp)
     ·simp[h4,hm',guardOf]
      refine RunK.callA Ty_ok (within_ok sig[k].kind 0 2) e109 (.cons (.v _ _ _) (.cons (.v _ _ _) (.cons (.v _ _ _) .nil))) (by decide) (by decide) rfl (by simp) ?_
      rintro _ rfl
      cases hki:within sig[k].kind 0 2
      ·simp[guardOf]
       exact fin _ (by simp[h0]) (by simp[h9]) (by simp[h10]) (by simp[h11]) (by simp only[okCtl,hgk,okControl,hnm,hpo,hki];simp)
      ·have hkl:(k:Int)≤sig.length:=by omega
       simp[h0,h3,h4,hkl,guardOf,Control.cells]
       refine RunK.callT Ty_ok (containsFuncC_ok false (sig.take k) (fun d=>d.name == sig[k].name) (by simp;omega) (fun d _=>clos135 sig[k] hm d)) e198 (by decide) (by decide) rfl (by simp[Control.cells]) ?_
       rintro _ rfl
       simp[guardOf]
       refine fin _ (by simp[h0,Control.cells]) (by simp[h9,Control.cells]) (by simp[h10]) (by simp[h11]) ?_
       simp only[okCtl,hgk,okControl,hnm,hpo,hki,newName]
       simp
   ·have hc1:¬ k<sig.length:=by simpa using hc1
    have hke:k=sig.length:=by omega
    subst hke
    refine Runs.exit rfl ?_
    refine Runs.seqE Ty_ok (by decide) fun k' hk'=>?_
    simp   -- R9
    apply hk'
    exact Runs.ret Tryz.func148 (RetOk.one Tryz.results148) (hQ _ _ _ _ (.v _ _ _) (by rw[goodSig_eq,hw,all_range_end hall];rfl))
end Go.Ab
/- Contract of spec.l2Sig. -/
namespace Go.Ab
open Go.Proofs
set_option linter.unusedSimpArgs false
theorem newName_at {sig:Sig} {i j:Nat} (hi:i<sig.length) (hj:j<i) (h:sig[j].name=sig[i].name):newName sig i=false:=by
 have hg:sig.getD i default=sig[i]:=by simp[hi]
 have:(sig.take i).any (fun d=>d.name == sig[i].name)=true:=by
  rw[List.any_eq_true]
  refine⟨sig[j],?_,by simpa using h⟩
  rw[List.mem_take_iff_getElem]
  exact⟨j,by omega,rfl⟩
 rw[newName,hg,this]
 rfl
theorem newName_end {sig:Sig} {i:Nat} (hi:i<sig.length) (h:∀ j (hj:j<sig.length),j<i→¬ sig[j].name=sig[i].name):newName sig i=true:=by
 have hg:sig.getD i default=sig[i]:=by simp[hi]
 have:(sig.take i).any (fun d=>d.name == sig[i].name)=false:=by
  rw[List.any_eq_false]
  intro d hd
  rw[List.mem_take_iff_getElem] at hd
  obtain⟨j,hj,rfl⟩:=hd
  have:=h j (by omega) (by omega)
  simpa using this
 rw[newName,hg,this]
 rfl
theorem l2Sig_ok (sig:Sig) (hl:sig.length≤1048576) (hs:∀ c ∈ sig,c.name.length≤1048576):PureC Tryz.prog 99 [encSig false sig] (fun r=>r=bool (goodSig sig)):=by
 refine PureC.of Tryz.func99 rfl Tryz.ntmps99 (by simp) fun Q hQ=>?_
 refine Runs.seqE Ty_ok (by decide) fun k' hk'=>?_
 simp [encSig]   -- R0
 apply hk'
 refine Runs.seq ?_
 refine Runs.seqE Ty_ok (by decide) fun k' hk'=>?_
 simp   -- R1
 apply hk'
 have bad:∀ k,k<sig.length→okCtl sig k=false→∀ H n,Q (bool false) H n:=fun k hk hb H n=>hQ _ _ _ _ (.v _ _ _) (by rw[goodSig_eq,all_range_bad hk hb,Bool.and_false])
 refine Runs.block (Runs.loopUp sig.length (fun k ρ H n=>ρ 0 = .list false (sig.map Control.cells)∧ρ 3=int k∧∀ i,i<k→okCtl sig i=true) ?_ ?_)
 ·simp
 ·rintro k ρ H n hk ⟨h0,h3,hall⟩ IH
  refine Runs.seq ?_
  refine Runs.seqE Ty_ok (by decide) fun k' hk'=>?_
  simp [h0, h3]   -- R2
  apply hk'
  refine Runs.ite rfl (fun hc1 => ?_) (fun hc1 => ?_)   -- t8
  ·have hc1:k<sig.length:=by simpa using hc1
   have hgk:sig.getD k default=sig[k]:=by simp[hc1]
   refine Runs.skip ?_
   refine Runs.seq ?_
   refine Runs.block ?_
   refine Runs.seq ?_
   refine Runs.seqE Ty_ok (by decide) fun k' hk'=>?_
   have fin:∀ ρ:Env,ρ 0 = .list false (sig.map Control.cells)→ρ 3=int k→ρ 35=bool (!okControl sig[k])→Runs Tryz.prog 99 55 k' ρ H n Q:=by
    intro ρ h0 h3 h35
    apply hk'
    refine Runs.ite h35 (fun hc2 => ?_) (fun hc2 => ?_)   -- t35
    ·have hb:okControl sig[k]=false:=by simpa using hc2
     refine Runs.seqE Ty_ok (by decide) fun k' hk'=>?_
     simp   -- R5
     apply hk'
     exact Runs.ret Tryz.func99 (RetOk.one Tryz.results99) (bad k hc1 (by rw[okCtl,hgk,hb,Bool.false_and]) _ _)
    ·have hb:okControl sig[k]=true:=by simpa using hc2
     refine Runs.skip ?_
     refine Runs.seqE Ty_ok (by decide) fun k' hk'=>?_
     simp   -- R6
     apply hk'
     refine Runs.block (Runs.loopUp k (fun j ρ H n=>ρ 0 = .list false (sig.map Control.cells)∧ρ 3=int k∧ρ 4=int j∧∀ q (hq:q<sig.length),q<j→¬ sig[q].name=sig[k].name) ?_ ?_)
     ·simp[h0,h3]
     ·rintro j ρ H n hj ⟨h0,h3,h4,hno⟩ IH2
      refine Runs.seq ?_
      refine Runs.seqE Ty_ok (by decide) fun k' hk'=>?_
      simp [h3, h4]   -- R7
      apply hk'
      refine Runs.ite rfl (fun hc3 => ?_) (fun hc3 => ?_)   -- t38
      ·have hc3:j<k:=by simpa using hc3
       have hjl:j<sig.length:=by omega
       refine Runs.skip ?_
       refine Runs.seq ?_
       refine Runs.block ?_
       refine Runs.seqD Ty_ok kindOp_ok draws (by decide) (by kernel_rfl) fun k' hk'=>?_
       simp [h0, h3, h4, hc1, hjl, Control.cells]   -- R9
       apply hk'
       refine Runs.ite rfl (fun hc4 => ?_) (fun hc4 => ?_)   -- t51
       ·have hc4:sig[j].name=sig[k].name:=by simpa using hc4
        refine Runs.seqE Ty_ok (by decide) fun k' hk'=>?_
        simp   -- R10
        apply hk'
        exact Runs.ret Tryz.func99 (RetOk.one Tryz.results99) (bad k hc1 (by rw[okCtl,newName_at hc1 hc3 hc4,Bool.and_false]) _ _)
       ·have hc4:¬ sig[j].name=sig[k].name:=by simpa using hc4
        refine Runs.skip ?_
        refine Runs.inBlock ?_
        refine Runs.evalE Ty_ok (by decide) fun k' hk'=>?_
        simp [h4, wrap_succ (show j < 4611686018427387904 by omega)]   -- R8
        apply hk'
        refine IH2 hc3 _ _ _ ⟨by simp[h0,Control.cells],by simp[h3],by simp,fun q hq hqj=>?_⟩
        rcases Nat.lt_or_ge q j with h | h
        ·exact hno q hq h
        ·have:q=j:=by omega
         subst this
         exact hc4
      ·have hc3:¬ j<k:=by simpa using hc3
       have hje:j=k:=by omega
       subst hje
       refine Runs.exit rfl ?_
       refine Runs.inBlock ?_
       refine Runs.evalE Ty_ok (by decide) fun k' hk'=>?_
       simp [h3, wrap_succ (show j < 4611686018427387904 by omega)]   -- R3
       apply hk'
       refine IH hc1 _ _ _ ⟨by simp[h0],by simp,fun i hi=>?_⟩
       rcases Nat.lt_or_ge i j with h | h
       ·exact hall i h
       ·rw[show i=j by omega,okCtl,hgk,hb,newName_end hc1 hno]
        rfl
   simp [h0, h3, hc1, Control.cells]   -- R4
   refine RunK.callA Ty_ok (l2Name_ok sig[k].name (Nat.le_trans (hs _ (List.getElem_mem hc1)) (by decide))) e147 (.cons (.v _ _ _) .nil) (by decide) (by decide) rfl (by simp) ?_
   rintro _ rfl
   cases hnm:isNm sig[k].name
   ·simp[guardOf]
    exact fin _ (by simp[h0,Control.cells]) (by simp[h3]) (by simp only[okControl,hnm];simp)
   ·simp[h0,h3,hc1,Control.cells,guardOf]
    refine RunK.callA Ty_ok (l1In_ok sig[k].ports 0 3) e93 (.cons (.v _ _ _) (.cons (.v _ _ _) (.cons (.v _ _ _) .nil))) (by decide) (by decide) rfl (by simp) ?_
    rintro _ rfl
    cases hpo:within sig[k].ports 0 3
    ·simp[guardOf]
     exact fin _ (by simp[h0,Control.cells]) (by simp[h3]) (by simp only[okControl,hnm,hpo];simp)
    ·simp[h0,h3,hc1,Control.cells,guardOf]
     refine RunK.callA Ty_ok (l1In_ok sig[k].kind 0 2) e93 (.cons (.v _ _ _) (.cons (.v _ _ _) (.cons (.v _ _ _) .nil))) (by decide) (by decide) rfl (by simp) ?_
     rintro _ rfl
     simp[guardOf]
     exact fin _ (by simp[h0,Control.cells]) (by simp[h3]) (by simp only[okControl,hnm,hpo];simp)
  ·have hc1:¬ k<sig.length:=by simpa using hc1
   have hke:k=sig.length:=by omega
   subst hke
   refine Runs.exit rfl ?_
   refine Runs.seqE Ty_ok (by decide) fun k' hk'=>?_
   simp [h0]   -- R11
   refine RunK.callA Ty_ok (l1In_ok sig.length 1 6) e93 (.cons (.v _ _ _) (.cons (.v _ _ _) (.cons (.v _ _ _) .nil))) (by decide) (by decide) rfl (by simp) ?_
   rintro _ rfl
   simp
   apply hk'
   exact Runs.ret Tryz.func99 (RetOk.one Tryz.results99) (hQ _ _ _ _ (.v _ _ _) (by rw[goodSig_eq,all_range_end hall,Bool.and_true]))
end Go.Ab
/- Contract of impl.IsBigraph. -/
namespace Go.Ab
open Go.Proofs
set_option linter.unusedSimpArgs false
theorem e107:Ent Tryz.prog 107:=Ent.of Tryz.func107 (by kernel_rfl) rfl
theorem e153:Ent Tryz.prog 153:=Ent.of Tryz.func153 (by kernel_rfl) rfl
theorem e155:Ent Tryz.prog 155:=Ent.of Tryz.func155 (by kernel_rfl) rfl
theorem e157:Ent Tryz.prog 157:=Ent.of Tryz.func157 (by kernel_rfl) rfl
structure SmallB (sig:Sig) (b:Big):Prop where
 sigLen:sig.length≤1048576
 sigNames:∀ c ∈ sig,c.name.length≤1048576
 nodesLen:b.nodes.length≤1048576
 sitesLen:b.sites.length≤1048576
 outerLen:b.outer.length≤1048576
 innerLen:b.inner.length≤1048576
 outerNames:∀ s ∈ b.outer,s.length≤1048576
 innerNames:∀ w ∈ b.inner,w.name.length≤1048576
 linksLen:∀ x ∈ b.nodes,x.links.length≤1048576
 parents:∀ x ∈ b.nodes,I64 x.parent
 sites64:∀ p ∈ b.sites,I64 p
theorem clos76 {H:Heap} {n:Nat} {X:Id} (b:Big) (he:0≤b.edges∧b.edges≤8) (ho:b.outer.length≤1048576) (hX:H X=some ⟨6,[b.cells false]⟩) (l:Int):ClosC Tryz.prog H n (.fn (.func 153) [] [.ptr X 1 0 0]) [int l] (fun r=>r=bool (!okLink b l)):=by
 refine⟨153,[],[.ptr X 1 0 0],rfl,e153,?_⟩
 have hX':=hX
 simp only[Big.cells] at hX'
 refine StillC.of Tryz.func153 rfl Tryz.ntmps153 (by simp) fun Q hB hQ=>?_
 refine Runs.seqE Ty_ok (by decide) fun k' hk'=>?_
 simp   -- R0
 apply hk'
 refine Runs.seqE Ty_ok (by decide) fun k' hk'=>?_
 simp [hX']   -- R1
 refine RunK.callA Ty_ok (isLink_ok b l he ho) e154 (.cons (ArgOk.encB false b) (.cons (.v _ _ _) .nil)) (by decide) (by decide) rfl (by simp[encB,Big.cells]) ?_
 rintro _ rfl
 simp
 apply hk'
 exact Runs.ret Tryz.func153 (RetOk.one Tryz.results153) (hQ _ _ _ _ (.bnd (.v _)) (Frame.refl _ _) (by simp))
theorem clos80 {H:Heap} {n:Nat} {X:Id} (b:Big) (he:0≤b.edges∧b.edges≤8) (ho:b.outer.length≤1048576) (hX:H X=some ⟨6,[b.cells false]⟩) (w:Wire):ClosC Tryz.prog H n (.fn (.func 157) [] [.ptr X 1 0 0]) [.agg w.cells] (fun r=>r=bool (!okLink b w.link)):=by
 refine⟨157,[],[.ptr X 1 0 0],rfl,e157,?_⟩
 have hX':=hX
 simp only[Big.cells] at hX'
 refine StillC.of Tryz.func157 rfl Tryz.ntmps157 (by simp) fun Q hB hQ=>?_
 have hXn:=(hB X _ hX).1
 have hX2:¬ X=(n,2):=by rintro rfl;simp at hXn
 refine Runs.seqE Ty_ok (by decide) fun k' hk'=>?_
 simp [Wire.cells]   -- R0
 apply hk'
 refine Runs.seqE Ty_ok (by decide) fun k' hk'=>?_
 simp [hX2, hX']   -- R1
 refine RunK.callA Ty_ok (isLink_ok b w.link he ho) e154 (.cons (ArgOk.encB false b) (.cons (.v _ _ _) .nil)) (by decide) (by decide) rfl (by simp[encB,Big.cells]) ?_
 rintro _ rfl
 simp
 apply hk'
 exact Runs.ret Tryz.func157 (RetOk.one Tryz.results157) (hQ _ _ _ _ (.bnd (.v _)) (Frame.set (by simp) (Frame.refl _ _)) (by simp))
theorem clos78 {H:Heap} {n:Nat} {X Y:Id} (sig:Sig) (b:Big) (hr:0≤b.roots∧b.roots≤4) (hc:CtlOk sig b b.nodes.length) (hX:H X=some ⟨6,[b.cells false]⟩) (hY:H Y=some ⟨1,[[encSig false sig]]⟩) (p:Int) :
  ClosC Tryz.prog H n (.fn (.func 155) [] [.ptr X 1 0 0,.ptr Y 1 0 0]) [int p] (fun r=>r=bool (!okParent sig b p b.nodes.length)):=by
 refine⟨155,[],[.ptr X 1 0 0,.ptr Y 1 0 0],rfl,e155,?_⟩
 have hX':=hX
 simp only[Big.cells,encN] at hX'
 have hY':=hY
 simp only[encSig] at hY'
 refine StillC.of Tryz.func155 rfl Tryz.ntmps155 (by simp) fun Q hB hQ=>?_
 refine Runs.seqE Ty_ok (by decide) fun k' hk'=>?_
 simp   -- R0
 apply hk'
 refine Runs.seqE Ty_ok (by decide) fun k' hk'=>?_
 simp [hX', hY']   -- R1
 refine RunK.callA Ty_ok (isParent_ok sig b p b.nodes.length hr (Nat.le_refl _) hc) e151 (.cons (ArgOk.encB false b) (.cons (ArgOk.encSig false sig) (.cons (.v _ _ _) (.cons (.v _ _ _) .nil)))) (by decide) (by decide) rfl (by simp[encB,Big.cells,encN,encSig]) ?_
 rintro _ rfl
 simp
 apply hk'
 exact Runs.ret Tryz.func155 (RetOk.one Tryz.results155) (hQ _ _ _ _ (.bnd (.v _)) (Frame.refl _ _) (by simp))
theorem ctl_step {sig:Sig} {b:Big} {k:Nat} (h:okNodeB sig b k=true) (hk:CtlOk sig b k):CtlOk sig b (k+1):=by
 intro i hi
 rcases Nat.lt_or_ge i k with h1 | h1
 ·exact hk i h1
 ·have:i=k:=by omega
  subst this
  simp only[okNodeB,within,Bool.and_eq_true,decide_eq_true_eq] at h
  omega
def goodPre (sig:Sig) (b:Big):Bool:=
 goodSig sig && within b.roots 0 4 && decide (b.nodes.length≤8) && decide (b.sites.length≤4) && within b.edges 0 8 && goodNames b.outer && goodNames (names b)
theorem goodB_eq (sig:Sig) (b:Big):goodB sig b=(goodPre sig b && (List.range b.nodes.length).all (okNodeB sig b) && b.sites.all (fun p=>okParent sig b p b.nodes.length) && b.inner.all (fun w=>okLink b w.link)):=rfl
theorem any_not {α:Type} (l:List α) (p:α→Bool):(l.any fun x => !p x) = !l.all p:=by
 induction l with
 | nil=>rfl
 | cons a l ih=>simp[ih]
theorem IsBigraph_ok (sig:Sig) (b:Big) (hs:SmallB sig b):PureC Tryz.prog 107 [encSig false sig,encB false b] (fun r=>r=bool (goodB sig b)):=by
 obtain⟨s1,s2,s3,s4,s5,s6,s7,s8,s9,_,_⟩:=hs
 have hnl:(names b).length≤1048576:=by simpa[names] using s6
 have hnn:∀ s ∈ names b,s.length≤1048576:=by
  intro s hs
  obtain⟨w,hw,rfl⟩:=List.mem_map.1 hs
  exact s8 w hw
 refine PureC.of Tryz.func107 rfl Tryz.ntmps107 (by simp) fun Q hQ=>?_
 refine Runs.seqE Ty_ok (by decide) fun k' hk'=>?_
 simp [encSig, encB, Big.cells]   -- R0
 apply hk'
 refine Runs.cut (fun ρ H n=>ρ 2 = .ptr (0,2) 1 0 0∧ρ 3 = .ptr (1,3) 1 0 0∧H (0,2)=some ⟨1,[[encSig false sig]]⟩∧H (1,3)=some ⟨6,[b.cells false]⟩) ⟨by simp,by simp,by simp[encSig],by simp[Big.cells]⟩ ?_
 clear hk'
 rintro ρ H n ⟨h2,h3,hm2,hm3⟩
 have hm2':=hm2
 simp only[encSig] at hm2'
 have hm3':=hm3
 simp only[Big.cells,encN,encI,encS,encW] at hm3'
 refine Runs.seq ?_
 refine Runs.seqE Ty_ok (by decide) fun k' hk'=>?_
 have fin:∀ ρ:Env,ρ 2 = .ptr (0,2) 1 0 0→ρ 3 = .ptr (1,3) 1 0 0→ρ 45=bool (!goodPre sig b)→Runs Tryz.prog 107 101 k' ρ H n Q:=by
  intro ρ h2 h3 h45
  apply hk'
  refine Runs.ite h45 (fun hc1 => ?_) (fun hc1 => ?_)   -- t45
  ·have hb:goodPre sig b=false:=by simpa using hc1
   refine Runs.seqE Ty_ok (by decide) fun k' hk'=>?_
   simp   -- R2
   apply hk'
   exact Runs.ret Tryz.func107 (RetOk.one Tryz.results107) (hQ _ _ _ _ (.v _ _ _) (by rw[goodB_eq,hb];rfl))
  ·have hb:goodPre sig b=true:=by simpa using hc1
   have hb':=hb
   simp only[goodPre,within,Bool.and_eq_true,decide_eq_true_eq] at hb'
   obtain⟨⟨⟨⟨⟨⟨_,hr⟩,hn8⟩,_⟩,hed⟩,_⟩,_⟩:=hb'
   refine Runs.skip ?_
   refine Runs.seq ?_
   refine Runs.seqE Ty_ok (by decide) fun k' hk'=>?_
   simp [h3, hm3']   -- R3
   apply hk'
   refine Runs.block (Runs.loopUp b.nodes.length (fun k ρ H n=>ρ 2 = .ptr (0,2) 1 0 0∧ρ 3 = .ptr (1,3) 1 0 0∧ρ 47 = .list false (b.nodes.map (GNode.cells false))∧ρ 48=int b.nodes.length∧ρ 49=int k ∧
    H (0,2)=some ⟨1,[[encSig false sig]]⟩∧H (1,3)=some ⟨6,[b.cells false]⟩∧CtlOk sig b k∧(∀ i,i<k→okNodeB sig b i=true)) ?_ ?_)
   ·exact⟨by simp[h2],by simp[h3],by simp,by simp,by simp,hm2,hm3,fun i hi=>by omega,fun i hi=>by omega⟩
   ·clear h2 h3 hm2' hm3'
    rintro k ρ H n hk ⟨h2,h3,h47,h48,h49,hm2,hm3,hctl,hall⟩ IH
    have hm2':=hm2
    simp only[encSig] at hm2'
    have hm3':=hm3
    simp only[Big.cells,encN,encI,encS,encW] at hm3'
    refine Runs.seqE Ty_ok (by decide) fun k' hk'=>?_
    simp [h48, h49]   -- R4
    apply hk'
    refine Runs.seq ?_
    refine Runs.ite rfl (fun hc2 => ?_) (fun hc2 => ?_)   -- t50
    ·have hc2:k<b.nodes.length:=by simpa using hc2
     have hgk:b.nodes.getD k default=b.nodes[k]:=by simp[hc2]
     refine Runs.skip ?_
     refine Runs.seq ?_
     refine Runs.block ?_
     refine Runs.seqE Ty_ok (by decide) fun k' hk'=>?_
     simp [h47, h49, hc2, GNode.cells]   -- R5
     apply hk'
     refine Runs.cut (fun ρ H m=>ρ 2 = .ptr (0,2) 1 0 0∧ρ 3 = .ptr (1,3) 1 0 0∧ρ 47 = .list false (b.nodes.map (GNode.cells false))∧ρ 48=int b.nodes.length∧ρ 49=int k∧ρ 5=int k∧ρ 6 = .ptr (n,6) 1 0 0 ∧
      H (0,2)=some ⟨1,[[encSig false sig]]⟩∧H (1,3)=some ⟨6,[b.cells false]⟩∧H (n,6)=some ⟨3,[b.nodes[k].cells false]⟩∧m=n+1) ?_ ?_
     ·exact⟨by simp[h2],by simp[h3],by simp[h47],by simp[h48],by simp[h49],by simp,by simp,by simp[hm2],by simp[hm3],by simp[GNode.cells],rfl⟩
     clear hk' h2 h3 h47 h48 h49 hm2 hm3 hm2' hm3'
     rintro ρ H m ⟨h2,h3,h47,h48,h49,h5,h6,hm2,hm3,hm6,rfl⟩
     have hm2':=hm2
     simp only[encSig] at hm2'
     have hm3':=hm3
     simp only[Big.cells,encN,encI,encS,encW] at hm3'
     have hm6':=hm6
     simp only[GNode.cells] at hm6'
     refine Runs.seqD Ty_ok kindOp_ok draws (by decide) (by kernel_rfl) fun k' hk'=>?_
     have fin:∀ ρ:Env,ρ 2 = .ptr (0,2) 1 0 0→ρ 3 = .ptr (1,3) 1 0 0→ρ 47 = .list false (b.nodes.map (GNode.cells false))→ρ 48=int b.nodes.length→ρ 49=int k→ρ 87=bool (!okNodeB sig b k)→Runs Tryz.prog 107 101 k' ρ H (n+1) Q:=by
      intro ρ h2 h3 h47 h48 h49 h87
      apply hk'
      refine Runs.ite h87 (fun hc3 => ?_) (fun hc3 => ?_)   -- t87
      ·have hb:okNodeB sig b k=false:=by simpa using hc3
       refine Runs.seqE Ty_ok (by decide) fun k' hk'=>?_
       simp   -- R7
       apply hk'
       exact Runs.ret Tryz.func107 (RetOk.one Tryz.results107) (hQ _ _ _ _ (.v _ _ _) (by rw[goodB_eq,all_range_bad hc2 hb,Bool.and_false];rfl))
      ·have hb:okNodeB sig b k=true:=by simpa using hc3
       refine Runs.skip ?_
       refine Runs.inBlock ?_
       refine Runs.evalE Ty_ok (by decide) fun k' hk'=>?_
       simp [h49, wrap_succ (show k < 4611686018427387904 by omega)]   -- R8
       apply hk'
       refine IH hc2 _ _ _ ⟨by simp[h2],by simp[h3],by simp[h47],by simp[h48],by simp,hm2,hm3,ctl_step hb hctl,fun i hi=>?_⟩
       rcases Nat.lt_or_ge i k with h | h
       ·exact hall i h
       ·rw[show i=k by omega];exact hb
     have hw:IntKind.i64.wrap ((sig.length:Int) - 1)=(sig.length:Int) - 1:=by rw[wrap64]<;>omega
     simp [h2, h6, hm2', hm6', hw]   -- R6
     refine RunDK.callA Ty_ok kindOp_ok (within_ok b.nodes[k].control 0 ((sig.length:Int) - 1)) e109 (.cons (.v _ _ _) (.cons (.v _ _ _) (.cons (.v _ _ _) .nil))) (by decide) rfl (by simp) ?_
     cases q1:within b.nodes[k].control 0 ((sig.length:Int) - 1)
     ·simp[guardOf]
      exact fin _ (by simp[h2]) (by simp[h3]) (by simp[h47]) (by simp[h48]) (by simp[h49]) (by simp only[okNodeB,hgk,q1];simp)
     simp[h2,h3,h5,h6,hm2',hm3',hm6',guardOf]
     refine RunDK.callA Ty_ok kindOp_ok (isParent_ok sig b b.nodes[k].parent k hr (by omega) hctl) e151 (.cons (ArgOk.encB false b) (.cons (ArgOk.encSig false sig) (.cons (.v _ _ _) (.cons (.v _ _ _) .nil)))) (by decide) rfl (by simp[encB,Big.cells,encN,encI,encS,encW,encSig]) ?_
     cases q2:okParent sig b b.nodes[k].parent k
     ·simp[guardOf]
      exact fin _ (by simp[h2]) (by simp[h3]) (by simp[h47]) (by simp[h48]) (by simp[h49]) (by simp only[okNodeB,hgk,q2];simp)
     have q1':=q1
     simp only[within,Bool.and_eq_true,decide_eq_true_eq] at q1'
     obtain⟨c,hc⟩:∃ c:Nat,b.nodes[k].control=c:=⟨b.nodes[k].control.toNat,by omega⟩
     have hcl:c<sig.length:=by omega
     have q1c:=q1
     rw[hc] at q1c
     have hgc:sig.getD c default=sig[c]:=by simp[hcl]
     by_cases q3:(b.nodes[k].links.length:Int)=sig[c].ports
     ·have q3':((b.nodes[k].links.length:Int) != sig[c].ports)=false:=by simpa using q3
      simp[h2,h3,h6,hm2',hm6',hc,hcl,q3',Control.cells,guardOf]
      refine RunDK.callT Ty_ok kindOp_ok (containsFuncI_ok false b.nodes[k].links (fun l => !okLink b l) (s9 _ (List.getElem_mem hc2)) (fun l _=>clos76 b hed s5 hm3 l)) e152 (by decide) rfl (by simp) ?_
      simp
      refine fin _ (by simp[h2]) (by simp[h3]) (by simp[h47]) (by simp[h48]) (by simp[h49]) ?_
      simp only[okNodeB,hgk,q1c,q2,hc,Int.toNat_natCast,hgc,q3,any_not]
      simp
     ·have q3':((b.nodes[k].links.length:Int) != sig[c].ports)=true:=by simpa using q3
      simp[h2,h3,h6,hm2',hm6',hc,hcl,q3',Control.cells,guardOf]
      exact fin _ (by simp[h2]) (by simp[h3]) (by simp[h47]) (by simp[h48]) (by simp[h49]) (by simp only[okNodeB,hgk,q1c,q2,hc,Int.toNat_natCast,hgc,q3];simp)
    ·have hc2:¬ k<b.nodes.length:=by simpa using hc2
     have hke:k=b.nodes.length:=by omega
     subst hke
     have hnodes:=all_range_end hall
     refine Runs.exit rfl ?_
     refine Runs.seqE Ty_ok (by decide) fun k' hk'=>?_
     simp [h2, h3, hm3']   -- R9
     refine RunK.callT Ty_ok (containsFuncI_ok false b.sites (fun p => !okParent sig b p b.nodes.length) s4 (fun p _=>clos78 sig b hr hctl hm3 hm2 p)) e152 (by decide) (by decide) rfl (by simp) ?_
     rintro _ rfl
     rw[any_not]
     cases r1:b.sites.all (fun p=>okParent sig b p b.nodes.length)
     ·simp[guardOf]
      apply hk'
      exact Runs.ret Tryz.func107 (RetOk.one Tryz.results107) (hQ _ _ _ _ (.v _ _ _) (by rw[goodB_eq,r1];simp))
     ·simp[h3,hm3',guardOf]
      refine RunK.callT Ty_ok (containsFuncW_ok false b.inner (fun w => !okLink b w.link) s6 (fun w _=>clos80 b hed s5 hm3 w)) e156 (by decide) (by decide) rfl (by simp) ?_
      rintro _ rfl
      rw[any_not]
      simp
      apply hk'
      exact Runs.ret Tryz.func107 (RetOk.one Tryz.results107) (hQ _ _ _ _ (.v _ _ _) (by rw[goodB_eq,hb,hnodes,r1];simp))
 simp [h2, hm2']   -- R1
 refine RunK.callA Ty_ok (IsSignature_ok sig s1 s2) e148 (.cons (ArgOk.encSig false sig) .nil) (by decide) (by decide) rfl (by simp[encSig]) ?_
 rintro _ rfl
 cases p1:goodSig sig
 ·simp[guardOf]
  exact fin _ (by simp[h2]) (by simp[h3]) (by simp only[goodPre,p1];simp)
 simp[h3,hm3',guardOf]
 refine RunK.callA Ty_ok (within_ok b.roots 0 4) e109 (.cons (.v _ _ _) (.cons (.v _ _ _) (.cons (.v _ _ _) .nil))) (by decide) (by decide) rfl (by simp) ?_
 rintro _ rfl
 cases p2:within b.roots 0 4
 ·simp[guardOf]
  exact fin _ (by simp[h2]) (by simp[h3]) (by simp only[goodPre,p2];simp)
 by_cases p3:(8:Int)<b.nodes.length
 ·simp[h3,hm3',p3,guardOf]
  exact fin _ (by simp[h2]) (by simp[h3]) (by simp only[goodPre,show ¬ b.nodes.length≤8 by omega];simp)
 by_cases p4:(4:Int)<b.sites.length
 ·simp[h3,hm3',p3,p4,guardOf]
  exact fin _ (by simp[h2]) (by simp[h3]) (by simp only[goodPre,show ¬ b.sites.length≤4 by omega];simp)
 simp[h3,hm3',p3,p4,guardOf]
 refine RunK.callA Ty_ok (within_ok b.edges 0 8) e109 (.cons (.v _ _ _) (.cons (.v _ _ _) (.cons (.v _ _ _) .nil))) (by decide) (by decide) rfl (by simp) ?_
 rintro _ rfl
 cases p5:within b.edges 0 8
 ·simp[guardOf]
  exact fin _ (by simp[h2]) (by simp[h3]) (by simp only[goodPre,p5];simp)
 simp[h3,hm3',guardOf]
 refine RunK.callA Ty_ok (areNames_ok b.outer s5 s7) e149 (.cons (ArgOk.encS false b.outer) .nil) (by decide) (by decide) rfl (by simp[encS]) ?_
 rintro _ rfl
 cases p6:goodNames b.outer
 ·simp[guardOf]
  exact fin _ (by simp[h2]) (by simp[h3]) (by simp only[goodPre,p6];simp)
 simp[h3,hm3',guardOf]
 refine RunK.callA Ty_ok (innerNames_ok b s6) e150 (.cons (ArgOk.encB false b) .nil) (by decide) (by decide) rfl (by simp[encB,Big.cells,encN,encI,encS,encW]) ?_
 rintro _ rfl
 simp
 refine RunK.callA Ty_ok (areNames_ok (names b) hnl hnn) e149 (.cons (ArgOk.encS true (names b)) .nil) (by decide) (by decide) rfl (by simp[encS]) ?_
 rintro _ rfl
 simp
 exact fin _ (by simp[h2]) (by simp[h3]) (by simp only[goodPre,p1,p2,p5,p6,show b.nodes.length≤8 by omega,show b.sites.length≤4 by omega];simp)
end Go.Ab
/- Contracts of spec.l2Node and spec.l2Good. -/
namespace Go.Ab
open Go.Proofs
set_option linter.unusedSimpArgs false
theorem e39:Ent Tryz.prog 39:=Ent.of Tryz.func39 (by kernel_rfl) rfl
theorem e102:Ent Tryz.prog 102:=Ent.of Tryz.func102 (by kernel_rfl) rfl
theorem all_bad {α:Type} {l:List α} {p:α→Bool} {k:Nat} (hk:k<l.length) (h:p l[k]=false):l.all p=false:=by
 rw[List.all_eq_false]
 exact⟨l[k],List.getElem_mem hk,by simp[h]⟩
theorem all_end {α:Type} {l:List α} {p:α→Bool} (h:∀ i (hi:i<l.length),p l[i]=true):l.all p=true:=by
 rw[List.all_eq_true]
 intro x hx
 obtain⟨i,hi,rfl⟩:=List.getElem_of_mem hx
 exact h i hi
theorem l2Node_ok (sig:Sig) (b:Big) (hs:SmallB sig b) (k:Nat) (hk:k<b.nodes.length) (hr:0≤b.roots∧b.roots≤4) (he:0≤b.edges∧b.edges≤8) (hctl:CtlOk sig b k) :
  PureC Tryz.prog 102 [encSig false sig,encB false b,int k] (fun r=>r=bool (okNodeB sig b k)):=by
 have hgk:b.nodes.getD k default=b.nodes[k]:=by simp[hk]
 have hll:=hs.linksLen _ (List.getElem_mem hk)
 have hpar:=hs.parents _ (List.getElem_mem hk)
 have hol:=hs.outerLen
 have hsl:=hs.sigLen
 refine PureC.of Tryz.func102 rfl Tryz.ntmps102 (by simp) fun Q hQ=>?_
 refine Runs.seqE Ty_ok (by decide) fun k' hk'=>?_
 simp [encSig, encB, Big.cells]   -- R0
 apply hk'
 refine Runs.seqE Ty_ok (by decide) fun k' hk'=>?_
 simp [encN, hk, GNode.cells]   -- R1
 apply hk'
 refine Runs.cut (fun ρ H n=>ρ 0 = .list false (sig.map Control.cells)∧ρ 2=int k∧ρ 4 = .ptr (0,4) 1 0 0∧ρ 7 = .ptr (1,7) 1 0 0∧H (0,4)=some ⟨6,[b.cells false]⟩∧H (1,7)=some ⟨3,[b.nodes[k].cells false]⟩) ⟨by simp,by simp,by simp,by simp,by simp[Big.cells,encN,GNode.cells],by simp[GNode.cells]⟩ ?_
 clear hk'
 rintro ρ H n ⟨h0,h2,h4,h7,hm4,hm7⟩
 have hm4':=hm4
 simp only[Big.cells,encN,encI,encS,encW] at hm4'
 have hm7':=hm7
 simp only[GNode.cells] at hm7'
 refine Runs.seq ?_
 refine Runs.seqD Ty_ok kindOp_ok draws (by decide) (by kernel_rfl) fun k' hk'=>?_
 have fin:∀ (ρ:Env) (pre:Bool),ρ 4 = .ptr (0,4) 1 0 0→ρ 7 = .ptr (1,7) 1 0 0→ρ 41=bool (!pre)→okNodeB sig b k=(pre && b.nodes[k].links.all (okLink b))→Runs Tryz.prog 102 57 k' ρ H n Q:=by
  intro ρ pre h4 h7 h41 hpre
  apply hk'
  refine Runs.ite h41 (fun hc1 => ?_) (fun hc1 => ?_)   -- t41
  ·have hb:pre=false:=by simpa using hc1
   refine Runs.seqE Ty_ok (by decide) fun k' hk'=>?_
   simp   -- R3
   apply hk'
   exact Runs.ret Tryz.func102 (RetOk.one Tryz.results102) (hQ _ _ _ _ (.v _ _ _) (by rw[hpre,hb];rfl))
  ·have hb:pre=true:=by simpa using hc1
   rw[hb,Bool.true_and] at hpre
   refine Runs.skip ?_
   refine Runs.seq ?_
   refine Runs.seqE Ty_ok (by decide) fun k' hk'=>?_
   simp   -- R4
   apply hk'
   refine Runs.block (Runs.loopUp b.nodes[k].links.length (fun j ρ' H' n'=>ρ' 4 = .ptr (0,4) 1 0 0∧ρ' 7 = .ptr (1,7) 1 0 0∧ρ' 8=int j∧H'=H∧n'=n∧∀ i (hi:i<b.nodes[k].links.length),i<j→okLink b b.nodes[k].links[i]=true) ?_ ?_)
   ·exact⟨by simp[h4],by simp[h7],by simp,rfl,rfl,fun i hi h=>by omega⟩
   ·clear h4 h7
    rintro j ρ H' n' hj ⟨h4,h7,h8,rfl,rfl,hall⟩ IH
    refine Runs.seq ?_
    refine Runs.seqE Ty_ok (by decide) fun k' hk'=>?_
    simp [h7, h8, hm7']   -- R5
    apply hk'
    refine Runs.ite rfl (fun hc2 => ?_) (fun hc2 => ?_)   -- t46
    ·have hc2:j<b.nodes[k].links.length:=by simpa using hc2
     refine Runs.skip ?_
     refine Runs.seq ?_
     refine Runs.block ?_
     refine Runs.seqD Ty_ok kindOp_ok draws (by decide) (by kernel_rfl) fun k' hk'=>?_
     simp [h4, h7, h8, hm4', hm7', hc2, intC]   -- R7
     refine RunDK.callA Ty_ok kindOp_ok (l2Link_ok b b.nodes[k].links[j] he hol) e104 (.cons (ArgOk.encB false b) (.cons (.v _ _ _) .nil)) (by decide) rfl (by simp[encB,Big.cells,encN,encI,encS,encW,intC]) ?_
     simp
     apply hk'
     refine Runs.ite rfl (fun hc3 => ?_) (fun hc3 => ?_)   -- t56
     ·have hb3:okLink b b.nodes[k].links[j]=false:=by simpa using hc3
      refine Runs.seqE Ty_ok (by decide) fun k' hk'=>?_
      simp   -- R8
      apply hk'
      exact Runs.ret Tryz.func102 (RetOk.one Tryz.results102) (hQ _ _ _ _ (.v _ _ _) (by rw[hpre,all_bad hc2 hb3]))
     ·have hb3:okLink b b.nodes[k].links[j]=true:=by simpa using hc3
      refine Runs.skip ?_
      refine Runs.inBlock ?_
      refine Runs.evalE Ty_ok (by decide) fun k' hk'=>?_
      simp [h8, wrap_succ (show j < 4611686018427387904 by omega)]   -- R6
      apply hk'
      refine IH hc2 _ _ _ ⟨by simp[h4],by simp[h7],by simp,rfl,rfl,fun i hi hij=>?_⟩
      rcases Nat.lt_or_ge i j with h | h
      ·exact hall i hi h
      ·have:i=j:=by omega
       subst this
       exact hb3
    ·have hc2:¬ j<b.nodes[k].links.length:=by simpa using hc2
     have hje:j=b.nodes[k].links.length:=by omega
     subst hje
     refine Runs.exit rfl ?_
     refine Runs.seqE Ty_ok (by decide) fun k' hk'=>?_
     simp   -- R9
     apply hk'
     exact Runs.ret Tryz.func102 (RetOk.one Tryz.results102) (hQ _ _ _ _ (.v _ _ _) (by rw[hpre,all_end fun i hi=>hall i hi hi]))
 have hw:IntKind.i64.wrap ((sig.length:Int) - 1)=(sig.length:Int) - 1:=by rw[wrap64]<;>omega
 simp [h0, h7, hm7', hw]   -- R2
 refine RunDK.callA Ty_ok kindOp_ok (l1In_ok b.nodes[k].control 0 ((sig.length:Int) - 1)) e93 (.cons (.v _ _ _) (.cons (.v _ _ _) (.cons (.v _ _ _) .nil))) (by decide) rfl (by simp) ?_
 cases q1:within b.nodes[k].control 0 ((sig.length:Int) - 1)
 ·simp[guardOf]
  exact fin _ false (by simp[h4]) (by simp[h7]) (by simp) (by simp only[okNodeB,hgk,q1];simp)
 simp[h0,h2,h4,h7,hm4',hm7',guardOf]
 refine RunDK.callA Ty_ok kindOp_ok (l2Under_ok sig b b.nodes[k].parent k hpar hr (by omega) hctl) e103 (.cons (ArgOk.encSig false sig) (.cons (ArgOk.encB false b) (.cons (.v _ _ _) (.cons (.v _ _ _) .nil)))) (by decide) rfl (by simp[encB,Big.cells,encN,encI,encS,encW,encSig]) ?_
 cases q2:okParent sig b b.nodes[k].parent k
 ·simp[guardOf]
  exact fin _ false (by simp[h4]) (by simp[h7]) (by simp) (by simp only[okNodeB,hgk,q2];simp)
 have q1':=q1
 simp only[within,Bool.and_eq_true,decide_eq_true_eq] at q1'
 obtain⟨c,hc⟩:∃ c:Nat,b.nodes[k].control=c:=⟨b.nodes[k].control.toNat,by omega⟩
 have hcl:c<sig.length:=by omega
 have q1c:=q1
 rw[hc] at q1c
 have hgc:sig.getD c default=sig[c]:=by simp[hcl]
 by_cases q3:(b.nodes[k].links.length:Int)=sig[c].ports
 ·have q3':((b.nodes[k].links.length:Int) != sig[c].ports)=false:=by simpa using q3
  simp[h0,h7,hm7',hc,hcl,q3',Control.cells,guardOf]
  exact fin _ true (by simp[h4]) (by simp[h7]) (by simp) (by simp only[okNodeB,hgk,q1c,q2,hc,Int.toNat_natCast,hgc,q3];simp)
 ·have q3':((b.nodes[k].links.length:Int) != sig[c].ports)=true:=by simpa using q3
  simp[h0,h7,hm7',hc,hcl,q3',Control.cells,guardOf]
  exact fin _ false (by simp[h4]) (by simp[h7]) (by simp) (by simp only[okNodeB,hgk,q1c,q2,hc,Int.toNat_natCast,hgc,q3];simp)
end Go.Ab
