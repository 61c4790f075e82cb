/- Merged texts (6 of 16) of the proof that ends in Isy: Shelf S Q aa Ga Sn Vp Kb Nk Se Sd. -/
import Derived.Test.YtheoibfaknbobaaGreatDoorAbQis5
import Derived.Shelf.Strings.Trim
import Derived.Shelf.Small.Utf8
import Derived.Shelf.Small.Bits
import Derived.Shelf.Small.Strs
import Derived.Shelf.Small.Wraps
import Derived.Shelf.Strconv.Itoa0
import Derived.Shelf.Strings.Search1
import Derived.Shelf.Sort.Plain
import Derived.Shelf.Strings.Runes
import Derived.Shelf.Strings.AsciiSet
import Derived.Shelf.Bits.Mul64
import Derived.Shelf.Unicode.DecodeSlow
import Derived.Shelf.Slices.Turned
import Derived.Ground.Names2Prog
import Derived.Shelf.Slices.Clone
import Derived.Shelf.Slices.In.SortNone
import Derived.Ground.SlsfProg
import Derived.Shelf.SlSortCmp.Insertion
import Derived.Shelf.SlSortCmp.SiftDown1
import Derived.Shelf.SlSortCmp.HeapSort1
import Derived.Shelf.SlSortCmp.Insertion1
import Derived.Shelf.SlSortCmp.Median1
import Derived.Shelf.SlSortCmp.Pivot1
import Derived.Shelf.SlSortCmp.ReverseRange1
import Derived.Shelf.SlSortCmp.PartialInsertion1
import Derived.Shelf.SlSortCmp.PartitionEqual1
import Derived.Shelf.SlSortCmp.Partition1
import Derived.Shelf.SlSortCmp.Pdq1
import Derived.Shelf.SlSortCmp.Whole1
import Derived.Shelf.SlSortCmp.NoneTotal
import Derived.Test.YtheoibfaknbobaaGreatDoorProg
import Derived.Shelf.Strings.SlTrimAscii
import Derived.Lib.Join
open Go.Proofs.Tryz
set_option linter.unusedSectionVars false
set_option linter.unusedSimpArgs false
set_option linter.unusedVariables false
namespace Go.Proofs
open Go.Shelf
def Tryz.wZ:Go.Shelf.Ren:=⟨fun | 160=>162 | 232=>167 | 231=>166 | 227=>168 | 234=>170 | 233=>169 | 236=>172 | 235=>171 | 228=>174 | 271=>177 | 151=>176 | 197=>175 | 120=>182 | 152=>181 | 260=>180 | 137=>183 | 119=>184 | 224=>185 | 225=>186 | 217=>187 | 266=>188 | n=>n,fun | 9=>9 | 4=>4 | 3=>3 | 5=>5 | 117=>180 | 116=>179 | 0=>0 | 124=>183 | 21=>21 | 105=>187 | 46=>94 | 119=>195 | 139=>198 | 138=>197 | n=>n,fun | 3=>0 | 4=>1 | n=>n⟩
theorem Tryz.Fe:Go.Proofs.Lays.n160 prog Tryz.wZ:={
  mixed:=by kernel_rfl
  f119:=Tryz.func184.trans (congrArg some (by kernel_rfl))
  f120:=Tryz.func182.trans (congrArg some (by kernel_rfl))
  f137:=Tryz.func183.trans (congrArg some (by kernel_rfl))
  f151:=Tryz.func176.trans (congrArg some (by kernel_rfl))
  f152:=Tryz.func181.trans (congrArg some (by kernel_rfl))
  f160:=Tryz.func162.trans (congrArg some (by kernel_rfl))
  f197:=Tryz.func175.trans (congrArg some (by kernel_rfl))
  f217:=Tryz.func187.trans (congrArg some (by kernel_rfl))
  f224:=Tryz.func185.trans (congrArg some (by kernel_rfl))
  f225:=Tryz.func186.trans (congrArg some (by kernel_rfl))
  f227:=Tryz.func168.trans (congrArg some (by kernel_rfl))
  f228:=Tryz.func174.trans (congrArg some (by kernel_rfl))
  f231:=Tryz.func166.trans (congrArg some (by kernel_rfl))
  f232:=Tryz.func167.trans (congrArg some (by kernel_rfl))
  f233:=Tryz.func169.trans (congrArg some (by kernel_rfl))
  f234:=Tryz.func170.trans (congrArg some (by kernel_rfl))
  f235:=Tryz.func171.trans (congrArg some (by kernel_rfl))
  f236:=Tryz.func172.trans (congrArg some (by kernel_rfl))
  f260:=Tryz.func180.trans (congrArg some (by kernel_rfl))
  f266:=Tryz.func188.trans (congrArg some (by kernel_rfl))
  f271:=Tryz.func177.trans (congrArg some (by kernel_rfl))
  t0:=Tryz.underlying0
  a0:=Tryz.isAgg0
  z0:=Tryz.sizeOf0
  v0:=Tryz.zeroValue0
  t3:=Tryz.underlying3
  a3:=Tryz.isAgg3
  z3:=Tryz.sizeOf3
  v3:=Tryz.zeroValue3
  t4:=Tryz.underlying4
  a4:=Tryz.isAgg4
  z4:=Tryz.sizeOf4
  v4:=Tryz.zeroValue4
  t5:=Tryz.underlying5
  a5:=Tryz.isAgg5
  z5:=Tryz.sizeOf5
  v5:=Tryz.zeroValue5
  t9:=Tryz.underlying9
  a9:=Tryz.isAgg9
  z9:=Tryz.sizeOf9
  v9:=Tryz.zeroValue9
  t21:=Tryz.underlying21
  a21:=Tryz.isAgg21
  z21:=Tryz.sizeOf21
  v21:=Tryz.zeroValue21
  t46:=Tryz.underlying94
  a46:=Tryz.isAgg94
  z46:=Tryz.sizeOf94
  v46:=Tryz.zeroValue94
  t105:=Tryz.underlying187
  a105:=Tryz.isAgg187
  z105:=Tryz.sizeOf187
  v105:=Tryz.zeroValue187
  t116:=Tryz.underlying179
  a116:=Tryz.isAgg179
  z116:=Tryz.sizeOf179
  t117:=Tryz.underlying180
  a117:=Tryz.isAgg180
  z117:=Tryz.sizeOf180
  v117:=Tryz.zeroValue180
  t119:=Tryz.underlying195
  a119:=Tryz.isAgg195
  z119:=Tryz.sizeOf195
  t124:=Tryz.underlying183
  a124:=Tryz.isAgg183
  z124:=Tryz.sizeOf183
  v124:=Tryz.zeroValue183
  t138:=Tryz.underlying197
  a138:=Tryz.isAgg197
  z138:=Tryz.sizeOf197
  v138:=Tryz.zeroValue197
  t139:=Tryz.underlying198
  a139:=Tryz.isAgg198
  z139:=Tryz.sizeOf198
  v139:=Tryz.zeroValue198
  g3:=by kernel_rfl
  g4:=by kernel_rfl }
def Tryz.wS:Go.Shelf.Ren:=⟨fun | 189=>33 | 125=>60 | 257=>59 | 128=>82 | 129=>83 | 294=>73 | 295=>74 | 296=>75 | 297=>76 | 298=>77 | 299=>78 | 216=>79 | 300=>80 | 301=>81 | 328=>117 | 329=>118 | 330=>119 | 331=>120 | 332=>121 | 215=>92 | 343=>153 | n=>n,fun | 28=>24 | 3=>3 | 46=>94 | 0=>0 | 51=>115 | 53=>117 | 4=>4 | 183=>107 | 182=>106 | 131=>112 | 5=>5 | 9=>9 | 218=>140 | 222=>144 | 228=>166 | 229=>167 | n=>n,fun | n=>n⟩
theorem Tryz.A7:Go.Proofs.Lays.n189 prog Tryz.wS:={
  mixed:=by kernel_rfl
  f125:=Tryz.func60.trans (congrArg some (by kernel_rfl))
  f128:=Tryz.func82.trans (congrArg some (by kernel_rfl))
  f129:=Tryz.func83.trans (congrArg some (by kernel_rfl))
  f189:=Tryz.func33.trans (congrArg some (by kernel_rfl))
  f215:=Tryz.func92.trans (congrArg some (by kernel_rfl))
  f216:=Tryz.func79.trans (congrArg some (by kernel_rfl))
  f257:=Tryz.func59.trans (congrArg some (by kernel_rfl))
  f294:=Tryz.func73.trans (congrArg some (by kernel_rfl))
  f295:=Tryz.func74.trans (congrArg some (by kernel_rfl))
  f296:=Tryz.func75.trans (congrArg some (by kernel_rfl))
  f297:=Tryz.func76.trans (congrArg some (by kernel_rfl))
  f298:=Tryz.func77.trans (congrArg some (by kernel_rfl))
  f299:=Tryz.func78.trans (congrArg some (by kernel_rfl))
  f300:=Tryz.func80.trans (congrArg some (by kernel_rfl))
  f301:=Tryz.func81.trans (congrArg some (by kernel_rfl))
  f328:=Tryz.func117.trans (congrArg some (by kernel_rfl))
  f329:=Tryz.func118.trans (congrArg some (by kernel_rfl))
  f330:=Tryz.func119.trans (congrArg some (by kernel_rfl))
  f331:=Tryz.func120.trans (congrArg some (by kernel_rfl))
  f332:=Tryz.func121.trans (congrArg some (by kernel_rfl))
  f343:=Tryz.func153.trans (congrArg some (by kernel_rfl))
  t0:=Tryz.underlying0
  a0:=Tryz.isAgg0
  z0:=Tryz.sizeOf0
  v0:=Tryz.zeroValue0
  t3:=Tryz.underlying3
  a3:=Tryz.isAgg3
  z3:=Tryz.sizeOf3
  v3:=Tryz.zeroValue3
  t4:=Tryz.underlying4
  a4:=Tryz.isAgg4
  z4:=Tryz.sizeOf4
  v4:=Tryz.zeroValue4
  t5:=Tryz.underlying5
  a5:=Tryz.isAgg5
  z5:=Tryz.sizeOf5
  v5:=Tryz.zeroValue5
  t9:=Tryz.underlying9
  a9:=Tryz.isAgg9
  z9:=Tryz.sizeOf9
  v9:=Tryz.zeroValue9
  t28:=Tryz.underlying24
  a28:=Tryz.isAgg24
  z28:=Tryz.sizeOf24
  v28:=Tryz.zeroValue24
  t46:=Tryz.underlying94
  a46:=Tryz.isAgg94
  z46:=Tryz.sizeOf94
  v46:=Tryz.zeroValue94
  t51:=Tryz.underlying115
  a51:=Tryz.isAgg115
  z51:=Tryz.sizeOf115
  v51:=Tryz.zeroValue115
  t53:=Tryz.underlying117
  a53:=Tryz.isAgg117
  z53:=Tryz.sizeOf117
  v53:=Tryz.zeroValue117
  t131:=Tryz.underlying112
  a131:=Tryz.isAgg112
  z131:=Tryz.sizeOf112
  v131:=Tryz.zeroValue112
  t182:=Tryz.underlying106
  a182:=Tryz.isAgg106
  z182:=Tryz.sizeOf106
  v182:=Tryz.zeroValue106
  t183:=Tryz.underlying107
  a183:=Tryz.isAgg107
  z183:=Tryz.sizeOf107
  v183:=Tryz.zeroValue107
  t218:=Tryz.underlying140
  a218:=Tryz.isAgg140
  z218:=Tryz.sizeOf140
  v218:=Tryz.zeroValue140
  t222:=Tryz.underlying144
  a222:=Tryz.isAgg144
  z222:=Tryz.sizeOf144
  v222:=Tryz.zeroValue144
  t228:=Tryz.underlying166
  a228:=Tryz.isAgg166
  z228:=Tryz.sizeOf166
  v228:=Tryz.zeroValue166
  t229:=Tryz.underlying167
  a229:=Tryz.isAgg167
  z229:=Tryz.sizeOf167
  v229:=Tryz.zeroValue167 }
open Go.Sort Go.RowKit in
theorem Tryz.slices_Sort_int (blk off cap:Nat) (zs:List Int) (w:World) (hH:Holds (Value.int .i64) w blk off zs.toArray) (hblk:blk<w.heap.size) (hsz:zs.length<4611686018427387904) :
    Calls prog 33 #[.slice (some ⟨blk,off,none⟩) zs.length cap] w fun e w'=>
      e = .returned (.tuple #[])/\∃ n os,w'=grow (putRow (Value.int .i64) (Sort.ahead w n) blk off (zs.mergeSort fun x y=>decide (x<=y)).toArray) os:=Any.slices_Sort_int Tryz.A7 blk off cap zs w hH hblk hsz
def Tryz.vY:Go.Shelf.Ren:=⟨fun | 212=>173 | 263=>178 | 264=>179 | n=>n,fun | 46=>94 | 51=>115 | 146=>190 | 53=>117 | 148=>192 | n=>n,fun | n=>n⟩
theorem Tryz.E4:Go.Proofs.Lays.n212 prog Tryz.vY:={
  mixed:=by kernel_rfl
  f212:=Tryz.func173.trans (congrArg some (by kernel_rfl))
  f263:=Tryz.func178.trans (congrArg some (by kernel_rfl))
  f264:=Tryz.func179.trans (congrArg some (by kernel_rfl))
  t46:=Tryz.underlying94
  a46:=Tryz.isAgg94
  z46:=Tryz.sizeOf94
  v46:=Tryz.zeroValue94
  t51:=Tryz.underlying115
  a51:=Tryz.isAgg115
  z51:=Tryz.sizeOf115
  v51:=Tryz.zeroValue115
  t53:=Tryz.underlying117
  a53:=Tryz.isAgg117
  z53:=Tryz.sizeOf117
  v53:=Tryz.zeroValue117
  t146:=Tryz.underlying190
  a146:=Tryz.isAgg190
  z146:=Tryz.sizeOf190
  v146:=Tryz.zeroValue190
  t148:=Tryz.underlying192
  a148:=Tryz.isAgg192
  z148:=Tryz.sizeOf192
  v148:=Tryz.zeroValue192 }
open Go.RowKit Go.Lib in
theorem Tryz.bits_Mul (x y:Nat) (hx:x<18446744073709551616) (hy:y<18446744073709551616) (w:World) :
    Calls prog 173 #[.int .u64 x,.int .u64 y] w fun e w'=>e = .returned (.tuple #[.int .u64 ((x * y / 18446744073709551616:Nat):Int),.int .u64 ((x * y % 18446744073709551616:Nat):Int)])/\w'=w:=Any.bits_Mul Tryz.E4 x y hx hy w
open Go.RowKit Go.Sort in
theorem Tryz.slices_Sort_int_none (p:Option Addr) (cap:Nat) (w:World) :
    Calls prog 33 #[.slice p 0 cap] w fun e w'=>e = .returned (.tuple #[])/\w'=w:=Any.slices_Sort_int_none Tryz.A7 p cap w
end Go.Proofs
namespace Go.Ab
open Go.Proofs Go.RowKit
theorem aB.wk {P:Program} {f:FuncId} {args:List au} {R:au->Prop}
    (h:∀ (c:Ctx) (xs:List Value),(∀ id,c.H id=none)->dW c args xs->Calls P f xs.toArray c.w fun e w'=>∃ x v,e = .returned x/\R v/\bI v/\(∀ c':Ctx,bF c' v x)/\Below c.w.heap.size c.w w'):aB P f args R:=by
  intro c xs hH hn g r;refine (h c xs (by intro id;rw[hH];rfl) r).mono ?_;rintro e w' ⟨x,v,he,hR,hf,hv,hb⟩;obtain⟨hk,hg⟩:=df g w' ⟨hb.os,hb.tape,hb.output⟩ hb.size hb.block;exact⟨x,v,{ c with w:=w' },he,rfl,⟨v,.of (kz.fresh hf),hR⟩,hv _,hg,hk⟩
theorem dW.two2 {c:Ctx} {a b:au} {xs:List Value} (r:dW c [a,b] xs):∃ x y,xs=[x,y]/\bF c a x/\bF c b y:=by
  obtain⟨hl,hr⟩:=r
  match xs,hl with
  | [x,y],_=>exact⟨x,y,rfl,hr 0 a x rfl rfl,hr 1 b y rfl rfl⟩
theorem ET (s cut:cB) (hs:s.length<=4611686018427387904) (hc:cut.length<=1000) (ha:cut.all (fun b=>decide (b.toNat<128))=true):aB prog 162 [str s,str cut] (fun r=>r=str (Lib.trimS s cut)):=by
  refine aB.wk fun c xs _ r=>?_
  obtain⟨x,y,rfl,hx,hy⟩:=r.two2;rw[hx.bS,hy.bS];refine (Any.strings_Trim_laid Tryz.Fe (by kernel_rfl) ⟨s.toArray⟩ ⟨cut.toArray⟩ c.w (by simp;omega) (by simp;omega) (ascii_of_all (by simpa using ha))).mono ?_;rintro e w' ⟨he,hb⟩;exact⟨_,_,he,rfl,.v _,fun _=>.v _,by simpa using hb⟩
end Go.Ab
namespace Go.Ab
open Go.Proofs
theorem e162:aW prog 162:=aW.of func162 (by kernel_rfl) rfl
end Go.Ab
namespace Go.Ab
open Go.Proofs
theorem e141:aW prog 141:=aW.of func141 (by kernel_rfl) rfl
def lower (c:UInt8):Bool:=decide (97<=c.toNat) && decide (c.toNat<=122)
def ow (s:cB):Bool:=within s.length 1 4 && s.all lower
def alpha:cB:=[97,98,99,100,101,102,103,104,105,106,107,108,109,110,111,112,113,114,115,116,117,118,119,120,121,122]
set_option maxRecDepth 10000 in
theorem we (c:UInt8):alpha.contains c=lower c:=by
  have h:∀ n:Fin 256,alpha.contains (UInt8.ofNat n.val)=lower (UInt8.ofNat n.val):=by decide
  have:=h ⟨c.toNat,c.toNat_lt⟩;simpa using this
theorem dropWhile_nil {q:UInt8->Bool}:∀ l:cB,l.dropWhile q=[]↔l.all q=true
  | []=>by simp
  | a::l=>by
    rw[List.dropWhile_cons];cases h:q a<;>simp[h,dropWhile_nil l]
theorem lW {q:UInt8->Bool}:∀ l:cB,(l.dropWhile q).reverse.all q=true->l.all q=true
  | [],_=>by simp
  | a::l,h=>by
    rw[List.dropWhile_cons] at h;cases hq:q a
    · simp[hq] at h
    · simp only[hq,if_true] at h
      have:=lW l h;simp only[List.all_cons,hq,this,Bool.and_self]
theorem Cb (s:cB):(Lib.trimS s alpha=[])↔s.all lower=true:=by
  have he:(fun c=>alpha.contains c)=lower:=funext we;unfold Lib.trimS Lib.trimLeftS Lib.trimRightS;rw[he,dropWhile_nil]
  constructor
  · intro h
    have:=lW _ h;simpa using this
  · intro h
    have h2:s.reverse.dropWhile lower=[]:=by rw[dropWhile_nil];simpa using h
    rw[h2]
    rfl
theorem tF (s:cB) (hs:s.length<=4294967296):aB prog 141 [str s] (fun r=>r=bool (ow s)):=by
  refine aB.of func141 rfl ntmps141 (by simp) fun Q hQ=>?_
  refine zE fun _ V=>?_
  simp;apply V;refine zE fun _ V=>?_
  simp;refine zA (dT s.length 1 4) te (.cons (.v _ _ _) (.cons (.v _ _ _) (.cons (.v _ _ _) .nil))) (by simp) ?_;rintro _ rfl;cases hw:within s.length 1 4
  · simp[hw]
    apply V;exact J.ret func141 (aN.one results141) (hQ _ _ _ _ (.v _ _ _) (by simp[ow,hw]))
  · simp[hw]
    refine zA (ET s alpha (by omega) (by decide) (by decide)) e162 (.cons (.v _ _ _) (.cons (.v _ _ _) .nil)) (by simp[alpha]) ?_;rintro _ rfl;simp[hw];apply V;refine J.ret func141 (aN.one results141) (hQ _ _ _ _ (.v _ _ _) ?_);have:=Cb s;cases h:s.all lower<;>simp[h] at this<;>simp[ow,hw,h,this]
end Go.Ab
namespace Go.Ab
structure Control where
  name:cB
  ports:Int
  kind:Int
  deriving Inhabited,DecidableEq
structure aA where
  control:Int
  parent:Int
  links:List Int
  deriving Inhabited,DecidableEq
structure aQ where
  name:cB
  link:Int
  deriving Inhabited,DecidableEq
structure aD where
  roots:Int
  nodes:List aA
  sites:List Int
  edges:Int
  outer:List cB
  inner:List aQ
  deriving Inhabited,DecidableEq
abbrev dE:=List Control
def aI {α:Type} (fr:Bool) (f:α->List au) (l:List α):List au:=[.list fr (l.map f)]
def Control.cells (x:Control):List au:=[str x.name,int x.ports,int x.kind]
def aQ.cells (x:aQ):List au:=[str x.name,int x.link]
def aA.cells (t:Bool) (x:aA):List au:=[int x.control,int x.parent,.list t (x.links.map ay)]
def bj (t:Bool) (s:dE):au:=.list t (s.map Control.cells)
def encI (t:Bool) (l:List Int):au:=.list t (l.map ay)
def encS (t:Bool) (l:List cB):au:=.list t (l.map bm)
def bX (t:Bool) (l:List aQ):au:=.list t (l.map aQ.cells)
def bP (t:Bool) (l:List aA):au:=.list t (l.map (aA.cells t))
def aD.cells (t:Bool) (b:aD):List au:=[int b.roots,bP t b.nodes,encI t b.sites,int b.edges,encS t b.outer,bX t b.inner]
def cw (t:Bool) (b:aD):au:=.agg (b.cells t)
theorem tI (l:List Int):∀ e ∈ l.map ay,∀ a ∈ e,flat a=true:=by simp[ay]
theorem tM (l:List cB):∀ e ∈ l.map bm,∀ a ∈ e,flat a=true:=by simp[bm]
theorem rX (l:List aQ):∀ e ∈ l.map aQ.cells,∀ a ∈ e,flat a=true:=by simp[aQ.cells]
theorem xn (l:dE):∀ e ∈ l.map Control.cells,∀ a ∈ e,flat a=true:=by simp[Control.cells]
theorem oq (t:Bool) (l:List Int):old (encI t l)=encI false l:=by rw[encI,fE,dg (tI l)];rfl
theorem xI (t:Bool) (l:List cB):old (encS t l)=encS false l:=by rw[encS,fE,dg (tM l)];rfl
theorem wB (t:Bool) (l:List aQ):old (bX t l)=bX false l:=by rw[bX,fE,dg (rX l)];rfl
theorem zR (t:Bool) (l:dE):old (bj t l)=bj false l:=by rw[bj,fE,dg (xn l)];rfl
theorem wC (t:Bool) (x:aA):(x.cells t).map old=x.cells false:=by
  simp only[aA.cells,List.map_cons,List.map_nil,FC];have:=oq t x.links;simp only[encI] at this;rw[this]
theorem sm (t:Bool) (l:List aA):old (bP t l)=bP false l:=by
  rw[bP,fE,List.map_map];simp only[bP]
  congr 1
  exact List.map_congr_left fun x _=>wC t x
theorem Db (t:Bool) (b:aD):old (cw t b)=cw false b:=by
  simp only[cw,aD.cells,qB,List.map_cons,List.map_nil,FC,sm,oq,xI,wB]
theorem oT (t:Bool) (l:List Int):je (encI t l):=.list _ _ fun e he a ha=>je.flat (tI l e he a ha)
theorem wi (t:Bool) (l:List cB):je (encS t l):=.list _ _ fun e he a ha=>je.flat (tM l e he a ha)
theorem xl (t:Bool) (l:List aQ):je (bX t l):=.list _ _ fun e he a ha=>je.flat (rX l e he a ha)
theorem yz (t:Bool) (l:dE):je (bj t l):=.list _ _ fun e he a ha=>je.flat (xn l e he a ha)
theorem xH (t:Bool) (x:aA):∀ a ∈ x.cells t,je a:=by
  intro a ha;simp only[aA.cells,List.mem_cons,List.not_mem_nil,or_false] at ha;rcases ha with rfl | rfl | rfl
  · exact .v _
  · exact .v _
  · exact oT t x.links
theorem xf (t:Bool) (l:List aA):je (bP t l):=by
  refine .list _ _ fun e he a ha=>?_
  obtain⟨x,_,rfl⟩:=List.mem_map.1 he;exact xH t x a ha
theorem Dm (t:Bool) (b:aD):je (cw t b):=by
  refine .agg _ fun a ha=>?_
  simp only[aD.cells,List.mem_cons,List.not_mem_nil,or_false] at ha;rcases ha with rfl | rfl | rfl | rfl | rfl | rfl
  · exact .v _
  · exact xf t _
  · exact oT t _
  · exact .v _
  · exact wi t _
  · exact xl t _
section
variable {H:az} {n:Nat}
theorem aM.encI (t:Bool) (l:List Int):aM H n (encI t l) (encI false l):=aM.tu (oT t l) (oq t l)
theorem aM.encS (t:Bool) (l:List cB):aM H n (encS t l) (encS false l):=aM.tu (wi t l) (xI t l)
theorem aM.bX (t:Bool) (l:List aQ):aM H n (bX t l) (bX false l):=aM.tu (xl t l) (wB t l)
theorem aM.bj (t:Bool) (l:dE):aM H n (bj t l) (bj false l):=aM.tu (yz t l) (zR t l)
theorem aM.bP (t:Bool) (l:List aA):aM H n (bP t l) (bP false l):=aM.tu (xf t l) (sm t l)
theorem aM.cw (t:Bool) (b:aD):aM H n (cw t b) (cw false b):=aM.tu (Dm t b) (Db t b)
end
def cR (c:Control):Bool:=ow c.name && within c.ports 0 3 && within c.kind 0 2
def newName (sig:dE) (i:Nat):Bool := !(sig.take i).any fun d=>d.name == (sig.getD i default).name
def gx (sig:dE):Bool:=within sig.length 1 6 && (List.range sig.length).all fun i=>cR (sig.getD i default) && newName sig i
def mQ (l:List cB) (i:Nat):Bool:=decide (i=0) || Op.bytesLess (l.getD (i - 1) []) (l.getD i [])
def cT (l:List cB):Bool:=decide (l.length<=16) && (List.range l.length).all fun i=>ow (l.getD i []) && mQ l i
def dm (b:aD) (l:Int):Bool:=within l 0 (b.edges+b.outer.length - 1)
def bM (sig:dE) (b:aD) (parent:Int) (below:Nat):Bool:=
  if parent<0 then decide (-b.roots<=parent) else decide (parent<below) && decide ((sig.getD (b.nodes.getD parent.toNat default).control.toNat default).kind ≠ 2)
def cg (sig:dE) (b:aD) (i:Nat):Bool:=
  within (b.nodes.getD i default).control 0 (sig.length - 1) && bM sig b (b.nodes.getD i default).parent i && decide ((b.nodes.getD i default).links.length=(sig.getD (b.nodes.getD i default).control.toNat default).ports) &&
    (b.nodes.getD i default).links.all (dm b)
def iC (sig:dE) (b:aD):Bool:=
  gx sig && within b.roots 0 4 && decide (b.nodes.length<=8) && decide (b.sites.length<=4) && within b.edges 0 8 && cT b.outer && cT (b.inner.map (·.name)) &&
    (List.range b.nodes.length).all (cg sig b) && b.sites.all (fun p=>bM sig b p b.nodes.length) && b.inner.all (fun w=>dm b w.link)
end Go.Ab
namespace Go.Ab
structure Match where
  nodes:List Int
  roots:List Int
  deriving Inhabited,DecidableEq
def Match.cells (t:Bool) (m:Match):List au:=[.list t (m.nodes.map ay),.list t (m.roots.map ay)]
def cb (x:Int × Int):List au:=[int x.1,int x.2]
abbrev oE {α:Type} (l:List Sh) (f:α->List au) (v:au) (es:List α):bf:=(.s l,v,.list true (es.map f))
abbrev oI (v:au) (es:List Int):bf:=(.s [.c],v,.list true (es.map ay))
abbrev oS (v:au) (es:List cB):bf:=(.s [.c],v,.list true (es.map bm))
abbrev oN (v:au) (es:List aA):bf:=(.s [.c,.c,.s [.c]],v,.list true (es.map (aA.cells true)))
abbrev oW (v:au) (es:List aQ):bf:=(.s [.c,.c],v,.list true (es.map aQ.cells))
section
variable {H H':az} {n n':Nat} {K:List bf} {ids:List Id} {x:bf}
theorem Sep.f1 {a:bf} (h:Sep H n (a::x::K) ids):Sep H n (x::a::K) ids:=Sep.front (K1:=[a]) h
theorem Sep.f2 {a b:bf} (h:Sep H n (a::b::x::K) ids):Sep H n (x::a::b::K) ids:=Sep.front (K1:=[a,b]) h
theorem Sep.f3 {a b c:bf} (h:Sep H n (a::b::c::x::K) ids):Sep H n (x::a::b::c::K) ids:=Sep.front (K1:=[a,b,c]) h
theorem Sep.f4 {a b c d:bf} (h:Sep H n (a::b::c::d::x::K) ids):Sep H n (x::a::b::c::d::K) ids:=Sep.front (K1:=[a,b,c,d]) h
theorem Sep.f5 {a b c d e:bf} (h:Sep H n (a::b::c::d::e::x::K) ids):Sep H n (x::a::b::c::d::e::K) ids:=Sep.front (K1:=[a,b,c,d,e]) h
theorem Sep.f6 {a b c d e f:bf} (h:Sep H n (a::b::c::d::e::f::x::K) ids):Sep H n (x::a::b::c::d::e::f::K) ids:=Sep.front (K1:=[a,b,c,d,e,f]) h
theorem Sep.f7 {a b c d e f g:bf} (h:Sep H n (a::b::c::d::e::f::g::x::K) ids):Sep H n (x::a::b::c::d::e::f::g::K) ids:=Sep.front (K1:=[a,b,c,d,e,f,g]) h
theorem Sep.f8 {a b c d e f g i:bf} (h:Sep H n (a::b::c::d::e::f::g::i::x::K) ids):Sep H n (x::a::b::c::d::e::f::g::i::K) ids:=Sep.front (K1:=[a,b,c,d,e,f,g,i]) h
theorem Sep.f9 {a b c d e f g i j:bf} (h:Sep H n (a::b::c::d::e::f::g::i::j::x::K) ids):Sep H n (x::a::b::c::d::e::f::g::i::j::K) ids:=Sep.front (K1:=[a,b,c,d,e,f,g,i,j]) h
theorem Sep.dr (h:Sep H n (x::K) ids):Sep H n K ids:=Sep.right (K1:=[x]) h
theorem Sep.hd (h:Sep H n (x::K) ids):Sep H n [x] ids:=Sep.left (K1:=[x]) (K2:=K) h
theorem Sep.ap {α:Type} {l:List Sh} {f:α->List au} {v:au} {xs ys zs:List α} (hz:zs=xs++ys) (h:Sep H n ((.s l,v,.list true (xs.map f++ys.map f))::K) ids):Sep H n ((.s l,v,.list true (zs.map f))::K) ids:=by
  rw[hz,List.map_append];exact h
theorem Sep.st {α:Type} {l:List Sh} {f:α->List au} {v:au} {xs zs:List α} {q:Nat} {y:α} (hz:zs=xs.set q y) (h:Sep H n ((.s l,v,.list true ((xs.map f).set q (f y)))::K) ids):Sep H n ((.s l,v,.list true (zs.map f))::K) ids:=by
  rw[hz,List.map_set];exact h
theorem Sep.oc {l:List Sh} {v e:au} (h:Sep H n ((.s l,v,e)::K) ids):aK v=some [v]/\Ab.aT v=true:=⟨h.cells,h.aT⟩
end
theorem cx:(∀ (k:IntKind) (a:Int),aT (.v (.int k a))=true)/\(∀ a:Bool,aT (.v (.bool a))=true)/\(∀ a:ByteArray,aT (.v (.string a))=true)/\aT (.v (.slice none 0 0))=true /\
    (∀ (fr:Bool) (l:List (List au)),aT (.list fr l)=true)/\(∀ (id:Id) (g o l:Nat),aT (.arr id g o l)=true)/\∀ (id:Id) (g o l:Nat),aT (.ptr id g o l)=true:=
  ⟨fun _ _=>rfl,fun _=>rfl,fun _=>rfl,rfl,fun _ _=>rfl,fun _ _ _ _=>rfl,fun _ _ _ _=>rfl⟩
theorem du:(∀ (k:IntKind) (a:Int),aK (.v (.int k a))=some [.v (.int k a)])/\(∀ a:Bool,aK (.v (.bool a))=some [.v (.bool a)])/\(∀ a:ByteArray,aK (.v (.string a))=some [.v (.string a)])/\aK (.v (.slice none 0 0))=some [.v (.slice none 0 0)] /\
    (∀ l:List au,aK (.agg l)=some l)/\(∀ (fr:Bool) (l:List (List au)),aK (.list fr l)=some [.list fr l])/\(∀ (id:Id) (g o l:Nat),aK (.arr id g o l)=some [.arr id g o l])/\∀ (id:Id) (g o l:Nat),aK (.ptr id g o l)=some [.ptr id g o l]:=
  ⟨fun _ _=>rfl,fun _=>rfl,fun _=>rfl,rfl,fun _=>rfl,fun _ _=>rfl,fun _ _ _ _=>rfl,fun _ _ _ _=>rfl⟩
theorem aM.BM {H:az} {n:Nat} (t:Bool) (l:List aA):aM H n (.list t (l.map (aA.cells t))) (.list false (l.map (aA.cells false))):=aM.bP t l
theorem gm (t:Bool) (l:List aA):old (.list t (l.map (aA.cells t))) = .list false (l.map (aA.cells false)):=sm t l
theorem AU {Ty:Types} {H:az} {t:TypeId} {len:Nat} {j:TI} {k:IntKind} {i:Int} {fr:Bool} {cs:List au} (hk:kd Ty t = .arr len j) (hi:0<=i/\i<len) :
    aw Ty H t (.iptr fr cs) (.v (.int k i))=some (.iptr fr (cs.drop (i.toNat * j.size))):=by
  simp only[aw,hk,cW];rw[if_pos hi];simp only[ku]
theorem aC {α:Sort _} {x:α} {p:α->Prop} (h:∀ v,v=x->p v):∃ v,v=x/\p v:=⟨x,rfl,h x rfl⟩
abbrev pA (i n:Nat):au:=.ptr (i,n) 1 0 0
abbrev bC (t:Bool) (b:aD):List au:=[int b.roots,.list t (b.nodes.map (aA.cells t)),.list t (b.sites.map ay),int b.edges,.list t (b.outer.map bm),.list t (b.inner.map aQ.cells)]
abbrev mC (t:Bool) (m:Match):List au:=[.list t (m.nodes.map ay),.list t (m.roots.map ay)]
abbrev zB:List au:=[int 0,.v (.slice none 0 0),.v (.slice none 0 0),int 0,.v (.slice none 0 0),.v (.slice none 0 0)]
section
variable {H:az} {n:Nat}
theorem eC (t:Bool) (l:List Int):aM H n (.list t (l.map ay)) (.list false (l.map ay)):=aM.encI t l
theorem argS (t:Bool) (l:List cB):aM H n (.list t (l.map bm)) (.list false (l.map bm)):=aM.encS t l
theorem argW (t:Bool) (l:List aQ):aM H n (.list t (l.map aQ.cells)) (.list false (l.map aQ.cells)):=aM.bX t l
theorem lp (t:Bool) (l:List Control):aM H n (.list t (l.map Control.cells)) (.list false (l.map Control.cells)):=aM.bj t l
theorem bo (t:Bool) (b:aD):aM H n (.agg (bC t b)) (.agg (bC false b)):=aM.cw t b
theorem As (t:Bool) (m:Match):aM H n (.agg (mC t m)) (.agg (mC false m)):=aM.agg (.cons (eC t m.nodes) (.cons (eC t m.roots) .nil))
end
end Go.Ab
namespace Go.Ab.Vg
theorem aG.up {σ τ:Type} {body:σ->(σ->Prop)->Prop} {s:σ} (N:Nat) (idx:σ->Int) (mk:Nat->τ->σ) (hidx:∀ k t,idx (mk k t)=(k:Int)) (aq:Nat->τ->Prop) (t0:τ) (hs:s=mk 0 t0) (h0:aq 0 t0)
    (step:∀ k t (K:σ->Prop),k<=N->aq k t->(k<N->∀ t',aq (k+1) t'->K (mk (k+1) t'))->body (mk k t) K):aG body s:=by
  refine⟨fun s=>∃ k t,s=mk k t/\k<=N/\aq k t,fun s=>N - (idx s).toNat,⟨0,t0,hs,Nat.zero_le _,h0⟩,?_⟩;rintro s ⟨k,t,rfl,hk,hI⟩;refine step k t _ hk hI fun hlt t' hI'=>⟨⟨k+1,t',rfl,hlt,hI'⟩,?_⟩
  show N - (idx _).toNat<N - (idx _).toNat;rw[hidx,hidx];omega
theorem aG.sE {τ:Type} {body:Int × τ->(Int × τ->Prop)->Prop} (N:Nat) (aq:Nat->τ->Prop) (t0:τ) (h0:aq 0 t0)
    (step:∀ k t (K:Int × τ->Prop),k<=N->aq k t->(k<N->∀ t',aq (k+1) t'->K (((k:Int)+1),t'))->body ((k:Int),t) K):aG body (0,t0):=
  aG.up N (·.1) (fun k t=>((k:Int),t)) (fun _ _=>rfl) aq t0 rfl h0 fun k t K hk hI h=>step k t K hk hI fun hlt t' hI'=>by have:=h hlt t' hI';simpa using this
theorem aG.upR {τ:Type} {body:τ × Int->(τ × Int->Prop)->Prop} (N:Nat) (aq:Nat->τ->Prop) (t0:τ) (h0:aq 0 t0)
    (step:∀ k t (K:τ × Int->Prop),k<=N->aq k t->(k<N->∀ t',aq (k+1) t'->K (t',((k:Int)+1)))->body (t,(k:Int)) K):aG body (t0,0):=
  aG.up N (·.2) (fun k t=>(t,(k:Int))) (fun _ _=>rfl) aq t0 rfl h0 fun k t K hk hI h=>step k t K hk hI fun hlt t' hI'=>by have:=h hlt t' hI';simpa using this
theorem aG.wM {body:Int->(Int->Prop)->Prop} (N:Nat) (aq:Nat->Prop) (h0:aq 0)
    (step:∀ k (K:Int->Prop),k<=N->aq k->(k<N->aq (k+1)->K ((k:Int)+1))->body (k:Int) K):aG body 0:=
  aG.up (τ:=Unit) N id (fun k _=>(k:Int)) (fun _ _=>rfl) (fun k _=>aq k) () rfl h0 fun k _ K hk hI h=>step k K hk hI fun hlt hI'=>by have:=h hlt () hI';simpa using this
theorem aG.byM {σ:Type} {body:σ->(σ->Prop)->Prop} {s:σ} (aq:σ->Prop) (m:σ->Nat) (h0:aq s) (step:∀ s,aq s->body s (fun s'=>aq s'/\m s'<m s)):aG body s:=⟨aq,m,h0,step⟩
theorem fw {α:Type} [Inhabited α] (l:List α) (k:Nat):at' l (k:Int)=l.getD k default:=by simp[at']
theorem cG {α:Type} [Inhabited α] {l:List α} {k:Nat} (h:k<l.length):at' l (k:Int)=l[k]:=by simp[at',h]
def idxs {α:Type} [Inhabited α] (l:List α) (p:α->Bool) (k:Nat):List Int:=((List.range k).filter fun i:Nat=>p (at' l (i:Int))).map fun i:Nat=>(i:Int)
section
variable {α:Type} [Inhabited α] (l:List α) (p:α->Bool)
theorem j3 {k:Nat} (h:p (at' l (k:Int))=true):idxs l p (k+1)=idxs l p k++[(k:Int)]:=by simp[idxs,List.range_succ,h]
theorem mI {k:Nat} (h:p (at' l (k:Int))=false):idxs l p (k+1)=idxs l p k:=by simp[idxs,List.range_succ,h]
theorem iW (k:Nat):(idxs l p k).length<=k:=by
  have:=List.length_filter_le (fun i:Nat=>p (at' l (i:Int))) (List.range k);simpa[idxs] using this
theorem rb {k:Nat} {x:Int}:x ∈ idxs l p k↔0<=x/\x<k/\p (at' l x)=true:=by
  simp only[idxs,List.mem_map,List.mem_filter,List.mem_range]
  constructor
  · rintro⟨i,⟨h1,h2⟩,rfl⟩
    exact⟨by omega,by omega,h2⟩
  · rintro⟨h1,h2,h3⟩
    exact⟨x.toNat,⟨by omega,by rwa [Int.toNat_of_nonneg h1]⟩,by omega⟩
end
end Go.Ab.Vg
namespace Go.Ab.Vg
def cmpL:List Int->List Int->Int
  | [],[]=>0
  | [],_::_ => -1
  | _::_,[]=>1
  | a::x,b::y=>if a<b then -1 else if b<a then 1 else cmpL x y
theorem mF:∀ a:List Int,cmpL a a=0
  | []=>rfl
  | a::x=>by simp[cmpL,mF x]
theorem cmpL_eq:∀ {a b:List Int},cmpL a b=0->a=b
  | [],[],_=>rfl
  | [],_::_,h=>by simp[cmpL] at h
  | _::_,[],h=>by simp[cmpL] at h
  | a::x,b::y,h=>by
    simp only[cmpL] at h
    split at h
    · omega
    · split at h
      · omega
      · rw[cmpL_eq h,show a=b by omega]
theorem gF:∀ a b:List Int,cmpL b a = - cmpL a b
  | [],[]=>rfl
  | [],_::_=>rfl
  | _::_,[]=>rfl
  | a::x,b::y=>by
    have:=gF x y;simp only[cmpL]
    repeat' split
    all_goals omega
theorem iK:∀ {a b c:List Int},cmpL a b<0->cmpL b c<0->cmpL a c<0
  | [],[],_,h,_=>by simp[cmpL] at h
  | [],_::_,[],_,h=>by simp[cmpL] at h
  | [],_::_,_::_,_,_=>by simp[cmpL]
  | _::_,[],_,h,_=>by simp[cmpL] at h
  | _::_,_::_,[],_,h=>by simp[cmpL] at h
  | a::x,b::y,c::z,h,k=>by
    have:=@iK x y z;simp only[cmpL] at h k ⊢
    repeat' split at h
    all_goals repeat' split at k
    all_goals repeat' split
    all_goals first | omega | (exact this h k)
theorem rh {a b c:List Int} (h:¬ cmpL b a<0) (k:cmpL b c<0):cmpL a c<0:=by
  rcases Int.lt_trichotomy (cmpL a b) 0 with h1 | h1 | h1
  · exact iK h1 k
  · rw[cmpL_eq h1];exact k
  · exact absurd (by rw[gF a b];omega) h
end Go.Ab.Vg
namespace Go.Ab.Vg
def Ds (l:List (List Int)):Prop:=l.Pairwise fun a b=>cmpL a b<0
theorem AN:∀ {l m:List (List Int)},Ds l->Ds m->(∀ x,x ∈ l↔x ∈ m)->l=m
  | [],[],_,_,_=>rfl
  | [],y::m,_,_,h=>by have:=(h y).2 (by simp);cases this
  | x::l,[],_,_,h=>by have:=(h x).1 (by simp);cases this
  | x::l,y::m,hl,hm,h=>by
    obtain⟨hl1,hl2⟩:=List.pairwise_cons.1 hl;obtain⟨hm1,hm2⟩:=List.pairwise_cons.1 hm;have e:x=y:=by
      rcases List.mem_cons.1 ((h x).1 (by simp)) with h1 | h1
      · exact h1
      · rcases List.mem_cons.1 ((h y).2 (by simp)) with h2 | h2
        · exact h2.symm
        · have a:=hm1 x h1
          have b:=hl1 y h2;rw[gF x y] at a;omega
    subst e
    congr 1
    refine AN hl2 hm2 fun z=>⟨fun hz=>?_,fun hz=>?_⟩
    · rcases List.mem_cons.1 ((h z).1 (by simp[hz])) with rfl | h1
      · have:=hl1 z hz;rw[mF] at this;omega
      · exact h1
    · rcases List.mem_cons.1 ((h z).2 (by simp[hz])) with rfl | h1
      · have:=hm1 z hz;rw[mF] at this;omega
      · exact h1
def j8:List (List Int)->List Int->List (List Int)
  | [],s=>[s]
  | x::l,s=>if cmpL x s<0 then x::j8 l s else if x=s then x::l else s::x::l
theorem og {s x:List Int}:∀ {l:List (List Int)},x ∈ j8 l s↔x ∈ l\/x=s
  | []=>by simp[j8]
  | y::l=>by
    simp only[j8]
    split
    · simp[og (l:=l),or_assoc]
    · split
      · rename_i h1;subst h1;simp only[List.mem_cons];exact⟨.inl,fun h=>h.elim id .inl⟩
      · simp only[List.mem_cons];exact⟨fun h=>h.elim .inr .inl,fun h=>h.elim .inr .inl⟩
theorem wV {s:List Int}:∀ {l:List (List Int)},Ds l->Ds (j8 l s)
  | [],_=>by simp[j8,Ds]
  | y::l,h=>by
    obtain⟨h1,h2⟩:=List.pairwise_cons.1 h;simp only[j8]
    split
    · rename_i hy
      exact List.pairwise_cons.2 ⟨fun z hz=>(og.1 hz).elim (h1 z) fun e=>e ▸ hy,wV h2⟩
    · rename_i hy
      split
      · exact h
      · rename_i hn
        have hs:cmpL s y<0:=by
          rcases Int.lt_trichotomy (cmpL y s) 0 with h3 | h3 | h3
          · exact absurd h3 hy
          · exact absurd (cmpL_eq h3) hn
          · rw[gF y s];omega
        refine List.pairwise_cons.2 ⟨fun z hz=>?_,h⟩;rcases List.mem_cons.1 hz with rfl | hz
        · exact hs
        · exact iK hs (h1 z hz)
def dQ:List (List Int)->List (List Int)
  | []=>[]
  | [x]=>[x]
  | x::y::t=>if x=y then dQ (y::t) else x::dQ (y::t)
theorem mT {x:List Int}:∀ {l:List (List Int)},x ∈ dQ l↔x ∈ l
  | []=>by simp[dQ]
  | [y]=>by simp[dQ]
  | y::z::t=>by
    simp only[dQ]
    split
    · subst_vars;rw[mT (l:=z::t)];simp
    · simp only[List.mem_cons,mT (l:=z::t)]
def Up (l:List (List Int)):Prop:=l.Pairwise fun a b=>¬ cmpL b a<0
theorem pt:∀ {l:List (List Int)},Up l->Ds (dQ l)
  | [],_=>by simp[dQ,Ds]
  | [y],_=>by simp[dQ,Ds]
  | y::z::t,h=>by
    obtain⟨h1,h2⟩:=List.pairwise_cons.1 h;obtain⟨h3,_⟩:=List.pairwise_cons.1 h2;simp only[dQ]
    split
    · exact pt h2
    · rename_i hn
      refine List.pairwise_cons.2 ⟨fun w hw=>?_,pt h2⟩;have hy:cmpL y z<0:=by
        have:=h1 z (by simp);rcases Int.lt_trichotomy (cmpL y z) 0 with h4 | h4 | h4
        · exact h4
        · exact absurd (cmpL_eq h4) hn
        · exact absurd (by rw[gF y z];omega) this
      rcases List.mem_cons.1 (mT.1 hw) with rfl | hw
      · exact hy
      · have h5:=h3 w hw
        rcases Int.lt_trichotomy (cmpL z w) 0 with h4 | h4 | h4
        · exact iK hy h4
        · rw[<- cmpL_eq h4];exact hy
        · exact absurd (by rw[gF z w];omega) h5
theorem BK (rows sorted:List (List Int)) (hp:sorted.Perm rows) (hs:Up sorted):dQ sorted=rows.foldl j8 []:=by
  have hf:∀ (l out:List (List Int)),Ds out->Ds (l.foldl j8 out)/\∀ x,x ∈ l.foldl j8 out↔x ∈ out\/x ∈ l:=by
    intro l
    induction l with
    | nil=>intro out h;exact⟨h,fun x=>by simp⟩
    | cons a l ih=>
      intro out h;obtain⟨h1,h2⟩:=ih (j8 out a) (wV h);refine⟨h1,fun x=>?_⟩;rw[List.foldl_cons,h2 x,og];simp[or_assoc]
  obtain⟨h1,h2⟩:=hf rows [] (by simp[Ds]);exact AN (pt hs) h1 fun x=>by rw[mT,hp.mem_iff,h2 x];simp
theorem A6:∀ {l m:List (List Int)},Up l->Up m->l.Perm m->l=m
  | [],m,_,_,h=>(List.nil_perm.1 h).symm
  | x::l,[],_,_,h=>by have:=h.length_eq;simp at this
  | x::l,y::m,hl,hm,h=>by
    obtain⟨hl1,hl2⟩:=List.pairwise_cons.1 hl;obtain⟨hm1,hm2⟩:=List.pairwise_cons.1 hm;have e:x=y:=by
      rcases List.mem_cons.1 (h.mem_iff.1 (List.mem_cons_self ..)) with h1 | h1
      · exact h1
      · rcases List.mem_cons.1 (h.mem_iff.2 (List.mem_cons_self ..)) with h2 | h2
        · exact h2.symm
        · have a:=hm1 x h1
          have b:=hl1 y h2;have c:=gF x y;exact cmpL_eq (by omega)
    subst e;rw[A6 hl2 hm2 (List.perm_cons _ |>.1 h)]
end Go.Ab.Vg
namespace Go.Ab
def lV (P:Program) (f:FuncId) (args:List au) {σ:Type} (W:List Id) (aq:σ->az->List bf->Prop) (s:σ) (ai:List bf) (ak:σ->au->Prop):Prop:=
  ∀ (H:az) (n:Nat) (K:List bf) (ids:List Id) (ag:List bf),aq s H ag->(∀ w ∈ W,w ∉ ids)->Sep H n (ai++(ag++K)) (W++ids)->bl P f args H n fun r H1 U=>∃ s' E',ak s' r/\aq s' H1 E'/\Sep H1 U (E'++K) (W++ids)/\(∀ i ∈ ids,H1 i=H i)/\n<=U
def uO {σ:Type} (W:List Id) (aq:σ->az->List bf->Prop):Prop:=∀ s H H' ag,aq s H ag->(∀ w ∈ W,H' w=H w)->aq s H' ag
def EF {σ:Type} (sz:Nat) (C:σ->List au->List au) (ag:σ->List au->List bf) (X:Id) (s:σ) (H:az) (L:List bf):Prop:=∃ vs,L=ag s vs/\H X=some ⟨sz,[C s vs]⟩
theorem EF.frame {σ:Type} {sz:Nat} {C:σ->List au->List au} {ag:σ->List au->List bf} {X:Id}:uO [X] (EF sz C ag X):=fun _ _ _ _ ⟨vs,h1,h2⟩ h=>⟨vs,h1,(h X (by simp)).trans h2⟩
def wc (P:Program) (f:FuncId) (args:au->List au) {σ:Type} (sz:Nat) (C:σ->List au->List au) (ag:σ->List au->List bf) (s:σ) (ai:List bf) (ak:σ->au->Prop):Prop:=
  ∀ X:Id,lV P f (args (.ptr X 1 0 0)) [X] (EF sz C ag X) s ai ak
theorem lV.mono {P:Program} {f:FuncId} {args:List au} {σ:Type} {W:List Id} {aq:σ->az->List bf->Prop} {s:σ} {ai:List bf} {ak Y':σ->au->Prop} (hc:lV P f args W aq s ai ak) (hy:∀ s' r,ak s' r->Y' s' r):lV P f args W aq s ai Y':=fun H n K ids ag hi hw hs=>
  bl.mono (hc H n K ids ag hi hw hs) fun _ _ _ ⟨s',E',h1,h2⟩=>⟨s',E',hy _ _ h1,h2⟩
theorem wc.mono {P:Program} {f:FuncId} {args:au->List au} {σ:Type} {sz:Nat} {C:σ->List au->List au} {ag:σ->List au->List bf} {s:σ} {ai:List bf} {ak Y':σ->au->Prop} (hc:wc P f args sz C ag s ai ak) (hy:∀ s' r,ak s' r->Y' s' r):wc P f args sz C ag s ai Y':=fun X=>(hc X).mono hy
theorem lV.of {P:Program} {f:FuncId} {fn:Func} {body:Code} {args:List au} {σ:Type} {W:List Id} {aq:σ->az->List bf->Prop} {s:σ} {ai:List bf} {ak:σ->au->Prop} {N:Nat} (hfn:P.funcs[f]?=some fn) (hb:fn.body=some body) (hn:fn.ntmps=N) (hN:args.length<=N)
    (hq:∀ (H0:az) (n0:Nat) (K0:List bf) (aS:List Id) (E0:List bf),aq s H0 E0->(∀ w ∈ W,w ∉ aS)->Sep H0 n0 (ai++(E0++K0)) (W++aS)->∀ Q:au->az->Nat->Prop,(∀ r H1 U s' E',aq s' H1 E'->Sep H1 U (E'++K0) (W++aS)->(∀ i ∈ aS,H1 i=H0 i)->n0<=U->ak s' r->Q r H1 U)->J P f N [.code body] (fN args) H0 n0 Q) :
    lV P f args W aq s ai ak:=fun H n K ids ag hi hw hs=>
  bl.of hfn hb hn hN fun Q hQ=>hq H n K ids ag hi hw hs Q fun r H1 U s' E' h1 h2 h3 h4 h5=>hQ r H1 U ⟨s',E',h5,h1,h2,h3,h4⟩
theorem wc.of {P:Program} {f:FuncId} {fn:Func} {body:Code} {args:au->List au} {σ:Type} {sz:Nat} {C:σ->List au->List au} {ag:σ->List au->List bf} {s:σ} {ai:List bf} {ak:σ->au->Prop} {N:Nat} (hfn:P.funcs[f]?=some fn) (hb:fn.body=some body) (hn:fn.ntmps=N) (hN:∀ v,(args v).length<=N)
    (hq:∀ (X:Id) (H0:az) (n0:Nat) (vs:List au) (K0:List bf) (aS:List Id),H0 X=some ⟨sz,[C s vs]⟩->X ∉ aS->Sep H0 n0 (ai++(ag s vs++K0)) (X::aS)->∀ Q:au->az->Nat->Prop,(∀ r H1 U s' vs',H1 X=some ⟨sz,[C s' vs']⟩->Sep H1 U (ag s' vs'++K0) (X::aS)->(∀ i ∈ aS,H1 i=H0 i)->n0<=U->ak s' r->Q r H1 U)->J P f N [.code body] (fN (args (.ptr X 1 0 0))) H0 n0 Q) :
    wc P f args sz C ag s ai ak:=fun X=>lV.of hfn hb hn (hN _) fun H0 n0 K0 aS E0 hi hw hs Q hQ=>by
  obtain⟨vs,rfl,hm⟩:=hi;exact hq X H0 n0 vs K0 aS hm (hw X (by simp)) hs Q fun r H1 U s' vs' h1 h2 h3 h4 h5=>hQ r H1 U s' _ ⟨vs',rfl,h1⟩ h2 h3 h4 h5
section
variable {H:az} {n:Nat} {K K':List bf} {ids:List Id}
theorem Sep.permA (h:K.Perm K'):∀ A:List bf,Sep H n (A++K) ids->Sep H n (A++K') ids:=by
  induction h with
  | nil=>exact fun _ h=>h
  | cons x _ ih=>
    intro A h;have:=ih (A++[x]) (by simpa using h);simpa using this
  | swap x y l=>
    intro A h;have h1:=Sep.front (K1:=A++[y]) (x:=x) (K2:=l) (by simpa using h);exact Sep.qM (K1:=A) (K2:=y::l) (by simpa using h1)
  | trans _ _ ih1 ih2=>exact fun A h=>ih2 A (ih1 A h)
theorem Sep.mid {A B C al:List bf} (h:Sep H n (A++(B++(C++al))) ids):Sep H n (A++(C++(B++al))) ids:=Sep.permA (List.perm_append_comm_assoc B C al) A h
theorem Sep.Dd {R ag K0 al:List bf} (h:Sep H n (R++(ag++(K0++al))) ids):Sep H n (al++(R++(ag++K0))) ids:=Sep.swap (K1:=R++(ag++K0)) (by simpa using h)
theorem Sep.idm {A B C:List Id} (h:Sep H n K (A++(B++C))):Sep H n K (B++(A++C)):=Sep.sub h fun i hi=>by
  simp only[List.mem_append] at hi ⊢;rcases hi with h | h | h
  · exact .inr (.inl h)
  · exact .inl h
  · exact .inr (.inr h)
end
section
variable {P:Program} {f:FuncId} {N:Nat} {k:List Item} {Q:au->az->Nat->Prop} {Ty:Types} {l:List Oper} {O:Env} {H:az} {n:Nat}
theorem DR {W A aS:List Id} {n0:Nat} (h:∀ w ∈ W,w.1<n0) (hd:∀ w ∈ W,w ∉ aS) (ha:∀ a ∈ A,n0<=a.1):∀ w ∈ W,w ∉ A++aS:=fun w hw hm=>by
  rcases List.mem_append.1 hm with hm | hm
  · have h1:=h w hw
    have h2:=ha w hm;omega
  · exact hd w hw hm
theorem lM.append {as1 bs cs ds:List au} (h:lM as1 bs) (h':lM cs ds):lM (as1++cs) (bs++ds):=by
  induction h with
  | nil=>exact h'
  | cons h _ ih=>exact .cons h ih
theorem bE.qE (hT:aX P Ty) {d:Option Tmp} {g:Operand} {args:Array Operand} {ats:Array TypeId} {ty:TypeId} {pos:String} {af:Array Edge} {f':FuncId} {ops:List Oper} {xsA ysA caps:List au} {σ:Type} {aq:σ->az->List bf->Prop} {s:σ} {ak:σ->au->Prop} {ai R ag K0:List bf} {A W B:List Id}
    (h:lV P f' (ysA++caps) W aq s ai ak) (hsub:lM xsA ysA) (cK:aW P f') (hi:aq s H ag) (hw:∀ w ∈ W,w ∉ A++B) (hs:Sep H n (ai++(R++(ag++K0))) (A++(W++B)))
    (hN:ops.all (fun o=>dM N o.dst)=true) (hl:(⟨d,.call ⟨.value g,args,ats⟩,ty,pos,af,none⟩::l:List Oper).all (fun o=>dM N o.dst)=true) (hg:O.ev g = .fn (.func f') [] caps) (has:args.toList.map O.ev=xsA)
    (hk:∀ r H1 U s' E',ak s' r->aq s' H1 E'->Sep H1 U (R++(E'++K0)) (A++(W++B))->n<=U->(∀ i ∈ A++B,H1 i=H i)->bR P f N k Q Ty ops.toArray l (O.put d r) H1 U) :
    bE P f N k Q ops.toArray (⟨d,.call ⟨.value g,args,ats⟩,ty,pos,af,none⟩::l) O H n:=
  bE.op hT hN hl rfl (aO.call (first:=[]) (captured:=caps) (post:=fun r H1 U=>∃ s' E',ak s' r/\aq s' H1 E'/\Sep H1 U (E'++(R++K0)) (W++(A++B))/\(∀ i ∈ A++B,H1 i=H i)/\n<=U) hg cK (by
    rw[has,List.nil_append];exact bl.sub (hsub.append (.refl caps)) (h H n (R++K0) (A++B) ag hi hw (Sep.idm (Sep.mid hs))))) fun r H' n' ⟨s',E',h1,h2,h3,h4,h5⟩=>hk r H' n' s' E' h1 h2 (Sep.idm (Sep.mid (A:=[]) h3)) h5 h4
end
end Go.Ab
namespace Go.Ab
section
variable (P:Program) (N:Nat) (ops:Array Oper) (bO:az->Nat->Prop) (bn:List Nat)
def gQ (j:Nat):Bool:=(List.range ops.size).all fun k=>bn.contains k || (behind ops k).contains j
def Df (o:Oper) (s s':AS):Prop:=∃ v,s'=(s.1.put o.dst v,s.2)/\((fp ops o s.1=some true/\∀ H n,bO H n->aO P N o (loc o.op s.1) H n (tO v H n))\/(fp ops o s.1=some false/\v=nh))
def ke (R:AS->Prop):Nat->Array Bool->AS->Prop
  | 0,listed,s=>Region.ready .any ops listed=[]/\R s
  | fuel+1,listed,s=>(Region.ready .any ops listed=[]->R s)/\∀ i ∈ Region.ready .any ops listed,∃ o,ops[i]?=some o /\
      ((i ∉ bn/\bO s.2.1 s.2.2/\∃ s',Df P N ops bO o s s'/\ke R fuel (listed.setIfInBounds i true) s') \/
       (i ∈ bn/\fp ops o s.1=some true/\∃ post:au->az->Nat->Prop,aO P N o (loc o.op s.1) s.2.1 s.2.2 post/\∀ v H' n',post v H' n'->(gQ ops bn i=false->bO H' n')/\ke R fuel (listed.setIfInBounds i true) (s.1.put o.dst v,H',n')))
inductive jS where
  | fin
  | stop
  | free (i:Nat) (t:jS)
  | bn (i:Nat) (t a:jS)
def jS.alts:jS->List Nat
  | .bn i _ a=>i::a.alts
  | _=>[]
def jS.depth:jS->Nat
  | .free _ t=>t.depth+1
  | .bn _ t a=>max (t.depth+1) a.depth
  | _=>0
def tG (t:jS) (listed:Array Bool):Bool:=match t with
  | .bn _ _ _ => !(Region.ready .any ops listed).isEmpty && (Region.ready .any ops listed).all fun i=>t.alts.contains i
  | .stop=>false
  | _=>true
def tD:jS->Array Bool->Bool
  | .fin,listed=>(Region.ready .any ops listed).isEmpty
  | .stop,_=>true
  | .free i t,listed => !bn.contains i && (Region.ready .any ops listed).contains i && A9 (fun _=>0) ops listed i && tG ops t (listed.setIfInBounds i true) && tD t (listed.setIfInBounds i true)
  | .bn i t a,listed=>bn.contains i && tG ops t (listed.setIfInBounds i true) && tD t (listed.setIfInBounds i true) && tD a listed
def nc (R':AS->Prop) (i:Nat) (s:AS):Prop:=∃ o,ops[i]?=some o/\fp ops o s.1=some true/\∃ post:au->az->Nat->Prop,aO P N o (loc o.op s.1) s.2.1 s.2.2 post/\∀ v H' n',post v H' n'->(gQ ops bn i=false->bO H' n')/\R' (s.1.put o.dst v,H',n')
def RunT (R:AS->Prop):jS->AS->Prop
  | .fin,s=>R s
  | .stop,_=>True
  | .free i t,s=>∃ o,ops[i]?=some o/\bO s.2.1 s.2.2/\∃ s',Df P N ops bO o s s'/\RunT R t s'
  | .bn i t a,s=>nc P N ops bO bn (RunT R t) i s/\RunT R a s
def Dy (t:jS):Bool:=tG ops t (Array.replicate ops.size false) && tD ops bn t (Array.replicate ops.size false) && decide (t.depth<=ops.size)
end
section
variable {P:Program} {N:Nat} {ops:Array Oper} {bO:az->Nat->Prop} {bn:List Nat}
theorem ke.first {R:AS->Prop} {i:Nat} {oi:Oper} (hi:ops[i]?=some oi) (hih:i ∉ bn) (hD:∀ j oj,ops[j]?=some oj->j ∈ behind ops i->j ≠ i->∃ e ∈ oj.after,Region.binds .any e=true/\e.on ∈ behind ops i):∀ (fuel:Nat) (listed:Array Bool) (s s':AS),
    (∀ j ∈ behind ops i,listed.getD j true=false)->(∀ j oj,ops[j]?=some oj->j ≠ i->listed.getD j true=false->j ∉ behind ops i->oi.apart ops oj=true) ->
    i ∈ Region.ready .any ops listed->bO s.2.1 s.2.2->Df P N ops bO oi s s'->ke P N ops bO bn R fuel (listed.setIfInBounds i true) s'->ke P N ops bO bn R (fuel+1) listed s:=by
  intro fuel
  induction fuel with
  | zero=>
    intro listed s s' _ _ hr hS hst H;refine⟨fun h=>(by rw[h] at hr;cases hr),fun j hj=>?_⟩
    by_cases hji:j=i
    · subst hji;exact⟨oi,hi,.inl ⟨hih,hS,s',hst,H⟩⟩
    · have:=ready_mono hj hji
      rw[H.1] at this;cases this
  | succ fuel ih=>
    intro listed s s' hinv hfree hr hS hst H;refine⟨fun h=>(by rw[h] at hr;cases hr),fun j hj=>?_⟩
    by_cases hji:j=i
    · subst hji;exact⟨oi,hi,.inl ⟨hih,hS,s',hst,H⟩⟩
    · obtain⟨oj,hoj,hbr⟩:=H.2 j (ready_mono hj hji)
      obtain⟨hjun,oj',hoj',bu⟩:=mem_ready.1 hj;rw[hoj] at hoj';cases hoj';have hnot:j ∉ behind ops i:=fun hd=>by
        obtain⟨e,he,hb,hed⟩:=hD j oj hoj hd hji;have h1:=bu e he hb;have h0:=hinv e.on hed;rcases Nat.lt_or_ge e.on listed.size with h' | h'
        · simp[h'] at h0 h1;rw[h0] at h1;cases h1
        · simp[Array.getElem?_eq_none h'] at h1
      obtain⟨h1,h2,h3⟩:=Oper.apart_spec (hfree j oj hoj hji hjun hnot);have hinv':∀ k ∈ behind ops i,(listed.setIfInBounds j true).getD k true=false:=fun k hk=>by
        have hjk:j ≠ k:=fun he=>hnot (he ▸ hk)
        rw[getD_set_ne true hjk];exact hinv k hk
      have hfree':∀ k ok,ops[k]?=some ok->k ≠ i->(listed.setIfInBounds j true).getD k true=false->k ∉ behind ops i->oi.apart ops ok=true:=fun k ok hk hki hun hno=>by
        refine hfree k ok hk hki ?_ hno
        by_cases hjk:j=k
        · subst hjk;exact hjun
        · rw[getD_set_ne true hjk] at hun;exact hun
      obtain⟨v,rfl,hv⟩:=hst;have lj:∀ v,loc oj.op (s.1.put oi.dst v)=loc oj.op s.1:=fun v=>gp (dp h1)
      have li:∀ v,loc oi.op (s.1.put oj.dst v)=loc oi.op s.1:=fun v=>gp (dp h3)
      have gj:∀ v,fp ops oj (s.1.put oi.dst v)=fp ops oj s.1:=fun v=>jE h1
      have gi:∀ v,fp ops oi (s.1.put oj.dst v)=fp ops oi s.1:=fun v=>jE h3
      have hvi:∀ u,(fp ops oi (s.1.put oj.dst u)=some true/\∀ H n,bO H n->aO P N oi (loc oi.op (s.1.put oj.dst u)) H n (tO v H n))\/(fp ops oi (s.1.put oj.dst u)=some false/\v=nh):=fun u=>by
        rw[gi,li];exact hv
      rcases hbr with ⟨hjh,_,s'',⟨u,rfl,hu⟩,hrest⟩ | ⟨hjh,hgj,post,hoq,hrest⟩
      · simp only[lj,gj] at hu
        refine⟨oj,hoj,.inl ⟨hjh,hS,_,⟨u,rfl,hu⟩,ih (listed.setIfInBounds j true) (s.1.put oj.dst u,s.2) ((s.1.put oj.dst u).put oi.dst v,s.2) hinv' hfree' (ready_mono hr (Ne.symm hji)) hS ⟨v,rfl,hvi u⟩ ?_⟩⟩;rw[Array.setIfInBounds_comm _ _ hji,<- put_comm v u h2];exact hrest
      · simp only[lj,gj] at hoq hgj
        refine⟨oj,hoj,.inr ⟨hjh,hgj,post,hoq,fun u H' n' hp=>?_⟩⟩;obtain⟨hS',hrest'⟩:=hrest u H' n' hp;refine⟨hS',?_⟩;have hlate:gQ ops bn j=false:=by
          rw[Bool.eq_false_iff];intro hl;have:=List.all_eq_true.1 hl i (List.mem_range.2 (Array.getElem?_eq_some_iff.1 hi).1);simp only[Bool.or_eq_true,List.contains_iff_mem] at this;exact this.elim hih hnot
        refine ih (listed.setIfInBounds j true) (s.1.put oj.dst u,H',n') ((s.1.put oj.dst u).put oi.dst v,H',n') hinv' hfree' (ready_mono hr (Ne.symm hji)) (hS' hlate) ⟨v,rfl,hvi u⟩ ?_;rw[Array.setIfInBounds_comm _ _ hji,<- put_comm v u h2];exact hrest'
theorem RunT.alt {R:AS->Prop} {s:AS} {listed:Array Bool} {j:Nat}:∀ {t:jS},RunT P N ops bO bn R t s->tD ops bn t listed=true->j ∈ t.alts->j ∈ bn/\∃ t',t'.depth+1<=t.depth/\tG ops t' (listed.setIfInBounds j true)=true/\tD ops bn t' (listed.setIfInBounds j true)=true/\nc P N ops bO bn (RunT P N ops bO bn R t') j s
  | .bn i t a,h,hl,hj=>by
    simp only[tD,Bool.and_eq_true,List.contains_iff_mem] at hl;rcases List.mem_cons.1 hj with rfl | hj
    · exact⟨hl.1.1.1,t,by simp only[jS.depth];omega,hl.1.1.2,hl.1.2,h.1⟩
    · obtain⟨h1,t',h2,h3⟩:=RunT.alt (t:=a) h.2 hl.2 hj
      exact⟨h1,t',by simp only[jS.depth];omega,h3⟩
  | .fin,_,_,hj=>by cases hj
  | .stop,_,_,hj=>by cases hj
  | .free _ _,_,_,hj=>by cases hj
theorem ke.none {R:AS->Prop} {fuel:Nat} {listed:Array Bool} {s:AS} (h:Region.ready .any ops listed=[]) (hR:R s):ke P N ops bO bn R fuel listed s:=by
  cases fuel with
  | zero=>exact⟨h,hR⟩
  | succ fuel=>exact⟨fun _=>hR,fun i hi=>by rw[h] at hi;cases hi⟩
theorem ke.lex {R:AS->Prop}:∀ (fuel:Nat) (t:jS) (listed:Array Bool) (s:AS),t.depth<=fuel->tG ops t listed=true->tD ops bn t listed=true->RunT P N ops bO bn R t s->ke P N ops bO bn R fuel listed s
  | _,.fin,listed,s,_,_,hB,h=>ke.none (by simpa[tD] using hB) h
  | _,.stop,_,_,_,E,_,_=>by cases E
  | 0,.free i t,_,_,hd,_,_,_=>by simp[jS.depth] at hd
  | fuel+1,.free i t,listed,s,hd,_,hB,⟨o,ho,hS,s',hst,hrest⟩=>by
    simp only[tD,Bool.and_eq_true,Bool.not_eq_true',List.contains_iff_mem] at hB;obtain⟨⟨⟨⟨h1,h2⟩,h3⟩,h4⟩,h5⟩:=hB;obtain⟨f1,f2,f3⟩:=nJ ho h3;exact ke.first ho (by simpa using h1) f1 fuel listed s s' f2 (fun j oj h1 h2 h3 h4=>(f3 j oj h1 h2 h3 h4).1) h2 hS hst (ke.lex fuel t _ _ (by simp only[jS.depth] at hd;omega) h4 h5 hrest)
  | 0,.bn i t a,_,_,hd,_,_,_=>by simp only[jS.depth] at hd;omega
  | fuel+1,.bn i t a,listed,s,hd,E,hB,h=>by
    simp only[tG,Bool.and_eq_true,Bool.not_eq_true',List.isEmpty_eq_false_iff] at E;refine⟨fun h=>absurd h E.1,fun j hj=>?_⟩;have hja:j ∈ (jS.bn i t a).alts:=by
      have:=List.all_eq_true.1 E.2 j hj;simpa using this
    obtain⟨hjh,t',hd',h1,h2,o,ho,hg,post,hop,hrest⟩:=RunT.alt h hB hja;exact⟨o,ho,.inr ⟨hjh,hg,post,hop,fun v H' n' hp=>⟨(hrest v H' n' hp).1,ke.lex fuel t' _ _ (by omega) h1 h2 (hrest v H' n' hp).2⟩⟩⟩
theorem ke.sound {R:AS->Prop} (hN:ops.toList.all (fun o=>dM N o.dst)=true) {Q:Exit->Act->World->Prop} {c0:Ctx} (hQ:∀ a c O,bh c0 c->Good c->cL N c O a->R (O,c.H,c.n)->Q .normal a c.w) :
    ∀ (fuel:Nat) (listed:Array Bool) (O:Env) (c:Ctx) (a:Act),bh c0 c->Good c->cL N c O a->ke P N ops bO bn R fuel listed (O,c.H,c.n)->wpAny P .any ops Q fuel listed a c.w
  | 0,_,_,_,_,hk,g,r,h=>⟨h.1,hQ _ _ _ hk g r h.2⟩
  | fuel+1,listed,O,c,a,hk,g,r,h=>by
    refine⟨fun h0=>hQ _ _ _ hk g r (h.1 h0),fun i hi=>?_⟩;obtain⟨o,ho,hbr⟩:=h.2 i hi;have hd:dM N o.dst=true:=List.all_eq_true.1 hN o (by rw[<- Array.getElem?_toList] at ho;exact List.mem_of_getElem? ho);unfold wpOp;simp only[ho];rcases hbr with ⟨_,hS,s',⟨v,rfl,⟨hg,hop⟩ | ⟨hg,rfl⟩⟩,hrest⟩ | ⟨_,hg,post,hop,hrest⟩
    · rw[if_pos (bU r hN hg)]
      refine .inl (hop c.H c.n hS c a rfl rfl g (r.loc o.op) _ _ ?_);rintro v1 x c' ⟨rfl,hH,hn⟩ hrep hgood hkeep;exact ke.sound hN hQ fuel _ _ c' _ (hk.trans hkeep) hgood ((r.keeps hkeep).put hd hrep) (by rw[hH,hn];exact hrest)
    · rw[if_neg (by rw[bU r hN hg];simp)]
      exact ke.sound hN hQ fuel _ _ c _ hk g (r.put hd (.v _)) hrest
    · rw[if_pos (bU r hN hg)]
      refine .inl (hop c a rfl rfl g (r.loc o.op) _ _ ?_);rintro v1 x c' hpost hrep hgood hkeep;exact ke.sound hN hQ fuel _ _ c' _ (hk.trans hkeep) hgood ((r.keeps hkeep).put hd hrep) (hrest v1 c'.H c'.n hpost).2
end
section
variable {P:Program} {f:FuncId} {N:Nat} {k:List Item} {O:Env} {H:az} {n:Nat} {Q:au->az->Nat->Prop}
def atS (aj:Env->az->Nat->Prop):AS->Prop:=fun s=>aj s.1 s.2.1 s.2.2
theorem J.FL (bO:az->Nat->Prop) (bn:List Nat) (t:jS) (aj:Env->az->Nat->Prop) {id:Nat} {ops:List Oper} (hm:P.follows .mixedOrders=true) (hN:ops.all (fun o=>dM N o.dst)=true) (hB:Ab.Dy ops.toArray bn t=true)
    (h:RunT P N ops.toArray bO bn (atS aj) t (O,H,n)) (hR:∀ O H n,aj O H n->J P f N k O H n Q):J P f N (.code (.region id ops.toArray true)::k) O H n Q:=by
  intro c a hH hn g r b cs hf hk;subst hH;subst hn;obtain⟨d1,d2⟩:=iB g;simp only[Ab.Dy,Bool.and_eq_true,decide_eq_true_eq] at hB;have hany:=ke.lex (P:=P) (N:=N) (bO:=bO) (bn:=bn) (ops:=ops.toArray) ops.toArray.size t (Array.replicate ops.toArray.size false) (O,c.H,c.n) hB.2 hB.1.1 hB.1.2 h;have hw:(Code.region id ops.toArray true).wp P (fun e a' w'=>e = .normal/\∃ c' ρ',c'.w=w'/\bh c c'/\Good c'/\cL N c' ρ' a'/\J P f N k ρ' c'.H c'.n Q) a c.w:=by
    refine wp_region_any hm ?_;have:=ke.sound (P:=P) (N:=N) (bO:=bO) (bn:=bn) (ops:=ops.toArray) (c0:=c) (by simpa using hN) (Q:=fun e a' w'=>e = .normal/\∃ c' ρ',c'.w=w'/\bh c c'/\Good c'/\cL N c' ρ' a'/\J P f N k ρ' c'.H c'.n Q)
      (R:=atS aj) (fun a' c' ρ' V hg' hr' hR'=>⟨rfl,c',ρ',rfl,V,hg',hr',hR _ _ _ hR'⟩) ops.toArray.size (Array.replicate ops.toArray.size false) O { c with w:={ c.w with drawn:=c.w.drawn+1 } } a d1 d2 (r.keeps d1) hany
    simpa using this
  obtain⟨e,a',w',⟨rfl,c',ρ',rfl,V,hg',hr',hR⟩,harr⟩:=hw b k cs;obtain⟨x,v,c'',fr,q,hr,hg,hke,hst,rest⟩:=hR c' a' rfl rfl hg' hr' b cs hf hk;exact⟨x,v,c'',fr,q,hr,hg,V.trans hke,Steps.trans harr hst,rest⟩
theorem J.seqC (bO:az->Nat->Prop) (bn:List Nat) (t:jS) (aj:Env->az->Nat->Prop) {id:Nat} {ops:List Oper} {y:Code} (hm:P.follows .mixedOrders=true) (hN:ops.all (fun o=>dM N o.dst)=true) (hB:Ab.Dy ops.toArray bn t=true)
    (h:RunT P N ops.toArray bO bn (atS aj) t (O,H,n)) (hR:∀ O H n,aj O H n->J P f N (.code y::k) O H n Q):J P f N (.code (.seq (.region id ops.toArray true) y)::k) O H n Q:=
  J.seq (J.FL bO bn t aj hm hN hB h hR)
end
section
variable {P:Program} {N:Nat} {ops:Array Oper} {bO:az->Nat->Prop} {bn:List Nat} {R:AS->Prop} {O:Env} {H:az} {n:Nat} {i:Nat} {l:jS} {Ty:Types}
theorem RunT.fin {aj:Env->az->Nat->Prop} (h:aj O H n):RunT P N ops bO bn (atS aj) .fin (O,H,n):=h
theorem RunT.free {o:Oper} (v:au) (ho:ops.toList[i]?=some o) (hg:fp ops o O=some true) (hS:bO H n) (hop:∀ H n,bO H n->aO P N o (loc o.op O) H n (tO v H n)) (h:RunT P N ops bO bn R l (O.put o.dst v,H,n)):RunT P N ops bO bn R (.free i l) (O,H,n):=
  ⟨o,by rw[<- Array.getElem?_toList];exact ho,hS,_,⟨v,rfl,.inl ⟨hg,hop⟩⟩,h⟩
theorem RunT.AG {o:Oper} (post:au->az->Nat->Prop) (ho:ops.toList[i]?=some o) (hg:fp ops o O=some true) (hop:aO P N o (loc o.op O) H n post) (h:∀ v H' n',post v H' n'->(gQ ops bn i=false->bO H' n')/\RunT P N ops bO bn R l (O.put o.dst v,H',n')):nc P N ops bO bn (RunT P N ops bO bn R l) i (O,H,n):=
  ⟨o,by rw[<- Array.getElem?_toList];exact ho,hg,post,hop,h⟩
theorem RunT.step (hT:aX P Ty) {o:Oper} {v:au} {H':az} {n':Nat} (ho:ops.toList[i]?=some o) (hg:fp ops o O=some true) (hs:a6 Ty o.dst o.op O H n=some (v,H',n')) (hS:gQ ops bn i=false->bO H' n') (h:RunT P N ops bO bn R l (O.put o.dst v,H',n')):nc P N ops bO bn (RunT P N ops bO bn R l) i (O,H,n):=
  RunT.AG (tO v H' n') ho hg (bb hT (by rw[aZ];exact hs)) (by rintro _ _ _ ⟨rfl,rfl,rfl⟩;exact⟨hS,h⟩)
theorem RunT.same (hT:aX P Ty) {o:Oper} {v:au} (ho:ops.toList[i]?=some o) (hg:fp ops o O=some true) (hs:a6 Ty o.dst o.op O H n=some (v,H,n)) (hS:gQ ops bn i=false->bO H n) (h:RunT P N ops bO bn R l (O.put o.dst v,H,n)):nc P N ops bO bn (RunT P N ops bO bn R l) i (O,H,n):=
  RunT.step hT ho hg hs hS h
theorem iw {d:Operand} {args:Array Operand} {ats:Array TypeId}:args.toList.map (loc (.call ⟨.value d,args,ats⟩) O).ev=args.toList.map O.ev/\(loc (.call ⟨.value d,args,ats⟩) O).ev d=O.ev d:=
  ⟨List.map_congr_left fun x hx=>fy (by simp[Op.operands,Call.operands];exact .inr (by simpa using hx)),fy (by simp[Op.operands,Call.operands])⟩
theorem RunT.qE {d:Option Tmp} {g:Operand} {args:Array Operand} {ats:Array TypeId} {ty:TypeId} {pos:String} {af:Array Edge} {gu:Option (Nat × Bool)} {f':FuncId} {xsA ysA caps:List au} {σ:Type} {aq:σ->az->List bf->Prop} {s:σ} {ak:σ->au->Prop} {ai R' ag K0:List bf} {A W B:List Id}
    (ho:ops.toList[i]?=some ⟨d,.call ⟨.value g,args,ats⟩,ty,pos,af,gu⟩) (hgu:fp ops ⟨d,.call ⟨.value g,args,ats⟩,ty,pos,af,gu⟩ O=some true) (h:lV P f' (ysA++caps) W aq s ai ak) (hsub:lM xsA ysA) (cK:aW P f') (hi:aq s H ag) (hw:∀ w ∈ W,w ∉ A++B) (hs:Sep H n (ai++(R'++(ag++K0))) (A++(W++B)))
    (hg:O.ev g = .fn (.func f') [] caps) (has:args.toList.map O.ev=xsA)
    (hk:∀ r H1 U s' E',ak s' r->aq s' H1 E'->Sep H1 U (R'++(E'++K0)) (A++(W++B))->n<=U->(∀ i ∈ A++B,H1 i=H i)->(gQ ops bn i=false->bO H1 U)/\RunT P N ops bO bn R l (O.put d r,H1,U)) :
    nc P N ops bO bn (RunT P N ops bO bn R l) i (O,H,n):=
  RunT.AG _ ho hgu (aO.call (first:=[]) (captured:=caps) (post:=fun r H1 U=>∃ s' E',ak s' r/\aq s' H1 E'/\Sep H1 U (E'++(R'++K0)) (W++(A++B))/\(∀ i ∈ A++B,H1 i=H i)/\n<=U) (by rw[iw.2];exact hg) cK (by
    rw[iw.1,has,List.nil_append];exact bl.sub (hsub.append (.refl caps)) (h H n (R'++K0) (A++B) ag hi hw (Sep.idm (Sep.mid hs))))) fun r H' n' ⟨s',E',h1,h2,h3,h4,h5⟩=>hk r H' n' s' E' h1 h2 (Sep.idm (Sep.mid (A:=[]) h3)) h5 h4
theorem RunT.o7 {K:List bf} {ids:List Id} {d:Option Tmp} {g:Operand} {args:Array Operand} {ats:Array TypeId} {ty:TypeId} {pos:String} {af:Array Edge} {gu:Option (Nat × Bool)} {R':au->Prop} {f':FuncId} {as1 ct:List au} {sh:Sh}
    (ho:ops.toList[i]?=some ⟨d,.call ⟨.value g,args,ats⟩,ty,pos,af,gu⟩) (hgu:fp ops ⟨d,.call ⟨.value g,args,ats⟩,ty,pos,af,gu⟩ O=some true) (h:br P f' ct sh R') (cK:aW P f') (ha:dw H n as1 ct) (hs:Sep H n K ids) (hg:O.ev g = .fn (.func f') [] []) (has:args.toList.map O.ev=as1)
    (hk:∀ v H1 U r,Sep H1 U ((sh,v,r)::K) ids->R' r->n<=U->(∀ i ∈ ids,H1 i=H i)->(gQ ops bn i=false->bO H1 U)/\RunT P N ops bO bn R l (O.put d v,H1,U)) :
    nc P N ops bO bn (RunT P N ops bO bn R l) i (O,H,n):=
  RunT.AG _ ho hgu (aO.o7 (by rw[iw.2];exact hg) cK (by rw[iw.1,has];exact ha) h hs) fun v H' n' ⟨r,h1,h2,h3,h4⟩=>hk v H' n' r h1 h2 h3 h4
theorem RunT.cd {d:Option Tmp} {g:Operand} {args:Array Operand} {ats:Array TypeId} {ty:TypeId} {pos:String} {af:Array Edge} {gu:Option (Nat × Bool)} {v:au} {f':FuncId} {as1 ct:List au}
    (ho:ops.toList[i]?=some ⟨d,.call ⟨.value g,args,ats⟩,ty,pos,af,gu⟩) (hgu:fp ops ⟨d,.call ⟨.value g,args,ats⟩,ty,pos,af,gu⟩ O=some true) (h:aB P f' ct (fun r=>r=v)) (cK:aW P f') (ha:dw H n as1 ct) (hg:O.ev g = .fn (.func f') [] []) (has:args.toList.map O.ev=as1)
    (hS:gQ ops bn i=false->bO H n) (hk:RunT P N ops bO bn R l (O.put d v,H,n)):nc P N ops bO bn (RunT P N ops bO bn R l) i (O,H,n):=
  RunT.AG (tO v H n) ho hgu (aO.C7 hg cK (has ▸ ha) h) (by rintro _ _ _ ⟨rfl,rfl,rfl⟩;exact⟨hS,hk⟩)
theorem RunT.append (hT:aX P Ty) {d:Nat} {t:TypeId} {j:TI} {s x:Operand} {ty:TypeId} {pos:String} {af:Array Edge} {gu:Option (Nat × Bool)} {v xv:au} {l':List Sh} {es:List (List au)} {ids:List Id} (K1 K2:List bf) (add adds:List (List au))
    (ho:ops.toList[i]?=some ⟨some d,.call ⟨.builtin .append,#[s,x],#[t,t]⟩,ty,pos,af,gu⟩) (hgu:fp ops ⟨some d,.call ⟨.builtin .append,#[s,x],#[t,t]⟩,ty,pos,af,gu⟩ O=some true) (hsv:O.ev s=v) (hxv:O.ev x=xv) (h:Sep H n ((.s l',v,.list true es)::(K1++K2)) ids) (hk:kd Ty t = .slice j) (hj:j.size=l'.length) (hz:j.zero.length=j.size/\j.bytes<=131072)
    (hx:dq H xv=some add) (ho1:add.all (fun e=>e.all Ab.aT)=true) (hadd:∀ S,Row H (K1.map (·.1)) (K1.map (·.2.1)) (K1.map (·.2.2)) S->bc (Row H l') add adds S) (hne:adds ≠ []) (hlen:es.length+adds.length<=1073741824)
    (hc:∀ v' H' n',Sep H' n' ((.s l',v',.list true (es++adds))::K2) ids->(∀ i ∈ ids,H' i=H i)->n<=n'->(gQ ops bn i=false->bO H' n')/\RunT P N ops bO bn R l (O.put (some d) v',H',n')):nc P N ops bO bn (RunT P N ops bO bn R l) i (O,H,n):=by
  obtain⟨v',H',n',h1,h2,h3,h4⟩:=Sep.append (d:=d) h hk hj hz hx ho1 hadd hne hlen;obtain⟨q1,q2⟩:=hc v' H' n' h2 h3 h4;refine RunT.step hT ho hgu ?_ q1 q2;show (if t=t then bq Ty (some d) t (O.ev s) (O.ev x) H n else none)=_;rw[if_pos rfl,hsv,hxv,h1]
theorem RunT.oJ (hT:aX P Ty) {d:Nat} {t:TypeId} {j:TI} {s x:Operand} {ty:TypeId} {pos:String} {af:Array Edge} {gu:Option (Nat × Bool)} {v xv:au} {l':List Sh} {es:List (List au)} {K:List bf} {ids:List Id} (add:List (List au))
    (ho:ops.toList[i]?=some ⟨some d,.call ⟨.builtin .append,#[s,x],#[t,t]⟩,ty,pos,af,gu⟩) (hgu:fp ops ⟨some d,.call ⟨.builtin .append,#[s,x],#[t,t]⟩,ty,pos,af,gu⟩ O=some true) (hsv:O.ev s=v) (hxv:O.ev x=xv) (h:Sep H n ((.s l',v,.list true es)::K) ids) (hf:∀ t ∈ l',t = .c) (hk:kd Ty t = .slice j) (hj:j.size=l'.length) (hz:j.zero.length=j.size/\j.bytes<=131072)
    (hx:dq H xv=some add) (ho1:∀ e ∈ add,e.length=l'.length/\∀ a ∈ e,bI a/\Ab.aT a=true) (hlen:es.length+add.length<=1073741824)
    (hc:∀ v' H' n',Sep H' n' ((.s l',v',.list true (es++add))::K) ids->(∀ i ∈ ids,H' i=H i)->n<=n'->(gQ ops bn i=false->bO H' n')/\RunT P N ops bO bn R l (O.put (some d) v',H',n')):nc P N ops bO bn (RunT P N ops bO bn R l) i (O,H,n):=by
  obtain⟨v',H',n',h1,h2,h3,h4⟩:=Sep.oJ (d:=d) h hf hk hj hz hx ho1 hlen;obtain⟨q1,q2⟩:=hc v' H' n' h2 h3 h4;refine RunT.step hT ho hgu ?_ q1 q2;show (if t=t then bq Ty (some d) t (O.ev s) (O.ev x) H n else none)=_;rw[if_pos rfl,hsv,hxv,h1]
theorem aO.stillD {d:Option Tmp} {g:Operand} {args:Array Operand} {ats:Array TypeId} {ty:TypeId} {pos:String} {af:Array Edge} {gu:Option (Nat × Bool)} {v:au} {f':FuncId} {as1:List au} (h:cJ P f' as1 H n (fun r=>r=v)) (cK:aW P f') (hg:O.ev g = .fn (.func f') [] []) (has:args.toList.map O.ev=as1) :
    aO P N ⟨d,.call ⟨.value g,args,ats⟩,ty,pos,af,gu⟩ (loc (.call ⟨.value g,args,ats⟩) O) H n (tO v H n):=
  aO.call (by rw[iw.2];exact hg) cK (by rw[iw.1,has,List.nil_append,List.append_nil];exact h)
theorem aO.Fk (hT:aX P Ty) {d:Option Tmp} {ty:TypeId} {pos:String} {af:Array Edge} {gu:Option (Nat × Bool)} {t:TypeId} {s x:Operand} {j:TI} {fr t':Bool} {l m:List Int} (hk:kd Ty t = .slice j) (hz:j.size=1/\j.zero.length=1/\j.bytes<=131072) (hs:O.ev s = .clip fr (l.map vi)) (hx:O.ev x = .list t' (m.map ay))
    (hne:m ≠ []) (hm:l.length+m.length<=1073741824) :
    aO P N ⟨d,.call ⟨.builtin .append,#[s,x],#[t,t]⟩,ty,pos,af,gu⟩ (loc (.call ⟨.builtin .append,#[s,x],#[t,t]⟩) O) H n (tO (.list true ((l++m).map ay)) H n):=by
  have e1:(loc (.call ⟨.builtin .append,#[s,x],#[t,t]⟩) O).ev s=O.ev s:=fy (by simp[Op.operands,Call.operands]);have e2:(loc (.call ⟨.builtin .append,#[s,x],#[t,t]⟩) O).ev x=O.ev x:=fy (by simp[Op.operands,Call.operands]);exact aO.DC hT hk hz (by rw[e1];exact hs) (by rw[e2];exact hx) hne hm
end
end Go.Ab
