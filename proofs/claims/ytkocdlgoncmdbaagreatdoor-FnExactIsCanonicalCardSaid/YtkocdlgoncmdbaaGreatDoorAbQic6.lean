/- Merged texts (6 of 17) of the proof that ends in Icy: Shelf S Q V Ga Sn Vp Kb Kc W Gb Gc Gd Ge Gf. -/
import Derived.Test.YtkocdlgoncmdbaaGreatDoorAbQic5
import Derived.Shelf.Strings.Builder1
import Derived.Shelf.Strings.Builder2
import Derived.Shelf.Strings.OnBuilder
import Derived.Shelf.Strings.Trim
import Derived.Shelf.Small.Utf8
import Derived.Shelf.Small.Strs
import Derived.Shelf.Small.Wraps
import Derived.Shelf.Strings.Search1
import Derived.Shelf.Strings.Runes
import Derived.Shelf.Strings.AsciiSet
import Derived.Shelf.Bits.Mul64
import Derived.Shelf.Unicode.DecodeSlow
import Derived.Shelf.Slices.Turned
import Derived.Ground.Names2Prog
import Derived.Shelf.Slices.Clone
import Derived.Test.YtkocdlgoncmdbaaGreatDoorProg
import Derived.Shelf.Strings.SlTrimAscii
import Derived.Lib.Join
/-
 DERIVED: THE SHELF's CONTRACTS AT THIS DUMP,IN PLAIN WORDS (tools/lay-plain.mjs out of 'TryzShelf.lean',which tools/lay-shelf.mjs wrote): THE SAME DECLARATIONS UNDER THE SAME NAMES: 'import','namespace','open','def','theorem' AND NOTHING ELSE: no command of the shelf's: FOR A HAND-IN. Each laying: the table of numbers ('.._ren') and one theorem,a field a fact of the dump's own or the kernel's comparison;each contract: ONE APPLICATION.
-/
namespace Go.Proofs
open Go.Shelf
def Tryz.lays160_ren:Go.Shelf.Ren:=⟨fun | 160=>156 | 232=>168 | 231=>167 | 227=>169 | 234=>171 | 233=>170 | 236=>173 | 235=>172 | 228=>181 | 271=>184 | 151=>183 | 197=>182 | 120=>193 | 152=>192 | 260=>191 | 137=>199 | 119=>200 | 224=>201 | 225=>202 | 217=>205 | 266=>206 | n=>n,fun | 9=>9 | 4=>4 | 3=>3 | 5=>5 | 117=>181 | 116=>180 | 0=>0 | 124=>184 | 21=>21 | 105=>194 | 46=>185 | 119=>213 | 139=>216 | 138=>215 | n=>n,fun | 3=>2 | 4=>3 | n=>n⟩
theorem Tryz.lays160:Go.Proofs.Lays.n160 Tryz.prog Tryz.lays160_ren:={
 mixed:=by kernel_rfl
 f119:=Tryz.func200.trans (congrArg some (by kernel_rfl))
 f120:=Tryz.func193.trans (congrArg some (by kernel_rfl))
 f137:=Tryz.func199.trans (congrArg some (by kernel_rfl))
 f151:=Tryz.func183.trans (congrArg some (by kernel_rfl))
 f152:=Tryz.func192.trans (congrArg some (by kernel_rfl))
 f160:=Tryz.func156.trans (congrArg some (by kernel_rfl))
 f197:=Tryz.func182.trans (congrArg some (by kernel_rfl))
 f217:=Tryz.func205.trans (congrArg some (by kernel_rfl))
 f224:=Tryz.func201.trans (congrArg some (by kernel_rfl))
 f225:=Tryz.func202.trans (congrArg some (by kernel_rfl))
 f227:=Tryz.func169.trans (congrArg some (by kernel_rfl))
 f228:=Tryz.func181.trans (congrArg some (by kernel_rfl))
 f231:=Tryz.func167.trans (congrArg some (by kernel_rfl))
 f232:=Tryz.func168.trans (congrArg some (by kernel_rfl))
 f233:=Tryz.func170.trans (congrArg some (by kernel_rfl))
 f234:=Tryz.func171.trans (congrArg some (by kernel_rfl))
 f235:=Tryz.func172.trans (congrArg some (by kernel_rfl))
 f236:=Tryz.func173.trans (congrArg some (by kernel_rfl))
 f260:=Tryz.func191.trans (congrArg some (by kernel_rfl))
 f266:=Tryz.func206.trans (congrArg some (by kernel_rfl))
 f271:=Tryz.func184.trans (congrArg some (by kernel_rfl))
 t0:=Tryz.underlying0
 a0:=Tryz.isAgg0
 z0:=Tryz.sizeOf0
 v0:=Tryz.zeroValue0
 t3:=Tryz.underlying3
 a3:=Tryz.isAgg3
 z3:=Tryz.sizeOf3
 v3:=Tryz.zeroValue3
 t4:=Tryz.underlying4
 a4:=Tryz.isAgg4
 z4:=Tryz.sizeOf4
 v4:=Tryz.zeroValue4
 t5:=Tryz.underlying5
 a5:=Tryz.isAgg5
 z5:=Tryz.sizeOf5
 v5:=Tryz.zeroValue5
 t9:=Tryz.underlying9
 a9:=Tryz.isAgg9
 z9:=Tryz.sizeOf9
 v9:=Tryz.zeroValue9
 t21:=Tryz.underlying21
 a21:=Tryz.isAgg21
 z21:=Tryz.sizeOf21
 v21:=Tryz.zeroValue21
 t46:=Tryz.underlying185
 a46:=Tryz.isAgg185
 z46:=Tryz.sizeOf185
 v46:=Tryz.zeroValue185
 t105:=Tryz.underlying194
 a105:=Tryz.isAgg194
 z105:=Tryz.sizeOf194
 v105:=Tryz.zeroValue194
 t116:=Tryz.underlying180
 a116:=Tryz.isAgg180
 z116:=Tryz.sizeOf180
 t117:=Tryz.underlying181
 a117:=Tryz.isAgg181
 z117:=Tryz.sizeOf181
 v117:=Tryz.zeroValue181
 t119:=Tryz.underlying213
 a119:=Tryz.isAgg213
 z119:=Tryz.sizeOf213
 t124:=Tryz.underlying184
 a124:=Tryz.isAgg184
 z124:=Tryz.sizeOf184
 v124:=Tryz.zeroValue184
 t138:=Tryz.underlying215
 a138:=Tryz.isAgg215
 z138:=Tryz.sizeOf215
 v138:=Tryz.zeroValue215
 t139:=Tryz.underlying216
 a139:=Tryz.isAgg216
 z139:=Tryz.sizeOf216
 v139:=Tryz.zeroValue216
 g3:=by kernel_rfl
 g4:=by kernel_rfl }
def Tryz.lays212_ren:Go.Shelf.Ren:=⟨fun | 212=>174 | 263=>185 | 264=>186 | n=>n,fun | 46=>185 | 51=>197 | 146=>198 | 53=>200 | 148=>201 | n=>n,fun | n=>n⟩
theorem Tryz.lays212:Go.Proofs.Lays.n212 Tryz.prog Tryz.lays212_ren:={
 mixed:=by kernel_rfl
 f212:=Tryz.func174.trans (congrArg some (by kernel_rfl))
 f263:=Tryz.func185.trans (congrArg some (by kernel_rfl))
 f264:=Tryz.func186.trans (congrArg some (by kernel_rfl))
 t46:=Tryz.underlying185
 a46:=Tryz.isAgg185
 z46:=Tryz.sizeOf185
 v46:=Tryz.zeroValue185
 t51:=Tryz.underlying197
 a51:=Tryz.isAgg197
 z51:=Tryz.sizeOf197
 v51:=Tryz.zeroValue197
 t53:=Tryz.underlying200
 a53:=Tryz.isAgg200
 z53:=Tryz.sizeOf200
 v53:=Tryz.zeroValue200
 t146:=Tryz.underlying198
 a146:=Tryz.isAgg198
 z146:=Tryz.sizeOf198
 v146:=Tryz.zeroValue198
 t148:=Tryz.underlying201
 a148:=Tryz.isAgg201
 z148:=Tryz.sizeOf201
 v148:=Tryz.zeroValue201 }
open Go.RowKit Go.Lib in
theorem Tryz.bits_Mul (x y:Nat) (hx:x<18446744073709551616) (hy:y<18446744073709551616) (w:World) :
  Calls Tryz.prog 174 #[.int .u64 x,.int .u64 y] w fun e w'=>e = .returned (.tuple #[.int .u64 ((x * y / 18446744073709551616:Nat):Int),.int .u64 ((x * y % 18446744073709551616:Nat):Int)])∧w'=w:=Any.bits_Mul Tryz.lays212 x y hx hy w
end Go.Proofs
/- The abstract machine, part S: the library's functions, by the shelf's contracts. -/
namespace Go.Ab
open Go.Proofs Go.RowKit
theorem PureC.of_below {P:Program} {f:FuncId} {args:List AVal} {R:AVal→Prop}
  (h:∀ (c:Ctx) (xs:List Value),(∀ id,c.H id=none)→RepL c args xs→Calls P f xs.toArray c.w fun e w'=>∃ x v,e = .returned x∧R v∧Fresh v∧(∀ c':Ctx,Rep c' v x)∧Below c.w.heap.size c.w w'):PureC P f args R:=by
 intro c xs hH hn g r
 refine (h c xs (by intro id;rw[hH];rfl) r).mono ?_
 rintro e w' ⟨x,v,he,hR,hf,hv,hb⟩
 obtain⟨hk,hg⟩:=more_blocks g w' ⟨hb.os,hb.tape,hb.output⟩ hb.size hb.block
 exact⟨x,v,{ c with w:=w' },he,rfl,⟨v,.of (Ret.fresh hf),hR⟩,hv _,hg,hk⟩
theorem RepL.two2 {c:Ctx} {a b:AVal} {xs:List Value} (r:RepL c [a,b] xs):∃ x y,xs=[x,y]∧Rep c a x∧Rep c b y:=by
 obtain⟨hl,hr⟩:=r
 match xs,hl with
 | [x,y],_=>exact⟨x,y,rfl,hr 0 a x rfl rfl,hr 1 b y rfl rfl⟩
theorem trim_ok (s cut:Str) (hs:s.length≤4611686018427387904) (hc:cut.length≤1000) (ha:cut.all (fun b=>decide (b.toNat<128))=true):PureC Tryz.prog 156 [str s,str cut] (fun r=>r=str (Lib.trimS s cut)):=by
 refine PureC.of_below fun c xs _ r=>?_
 obtain⟨x,y,rfl,hx,hy⟩:=r.two2
 rw[hx.v_inv,hy.v_inv]
 refine (Any.strings_Trim_laid Tryz.lays160 (by kernel_rfl) ⟨s.toArray⟩ ⟨cut.toArray⟩ c.w (by simp;omega) (by simp;omega) (ascii_of_all (by simpa using ha))).mono ?_
 rintro e w' ⟨he,hb⟩
 exact⟨_,_,he,rfl,.v _,fun _=>.v _,by simpa using hb⟩
end Go.Ab
/- Contracts of impl.joinTexts and (impl.Proc).textIn, at valid processes. -/
namespace Go.Ab
open Go.Proofs
set_option linter.unusedSimpArgs false
theorem e156:Ent Tryz.prog 156:=Ent.of Tryz.func156 (by kernel_rfl) rfl
end Go.Ab
/- Contracts of impl.isName, impl.IsProcess and impl.ProcessText. -/
namespace Go.Ab
open Go.Proofs
set_option linter.unusedSimpArgs false
theorem e136:Ent Tryz.prog 136:=Ent.of Tryz.func136 (by kernel_rfl) rfl
def lower (c:UInt8):Bool:=decide (97≤c.toNat) && decide (c.toNat≤122)
def isNm (s:Str):Bool:=within s.length 1 4 && s.all lower
def alpha:Str:=[97,98,99,100,101,102,103,104,105,106,107,108,109,110,111,112,113,114,115,116,117,118,119,120,121,122]
set_option maxRecDepth 10000 in
theorem alpha_lower (c:UInt8):alpha.contains c=lower c:=by
 have h:∀ n:Fin 256,alpha.contains (UInt8.ofNat n.val)=lower (UInt8.ofNat n.val):=by decide
 have:=h ⟨c.toNat,c.toNat_lt⟩
 simpa using this
theorem dropWhile_nil {q:UInt8→Bool}:∀ l:Str,l.dropWhile q=[]↔l.all q=true
 | []=>by simp
 | a::l=>by
  rw[List.dropWhile_cons]
  cases h:q a<;>simp[h,dropWhile_nil l]
theorem dropWhile_last {q:UInt8→Bool}:∀ l:Str,(l.dropWhile q).reverse.all q=true→l.all q=true
 | [],_=>by simp
 | a::l,h=>by
  rw[List.dropWhile_cons] at h
  cases hq:q a
  ·simp[hq] at h
  ·simp only[hq,if_true] at h
   have:=dropWhile_last l h
   simp only[List.all_cons,hq,this,Bool.and_self]
theorem trimS_nil (s:Str):(Lib.trimS s alpha=[])↔s.all lower=true:=by
 have he:(fun c=>alpha.contains c)=lower:=funext alpha_lower
 unfold Lib.trimS Lib.trimLeftS Lib.trimRightS
 rw[he,dropWhile_nil]
 constructor
 ·intro h
  have:=dropWhile_last _ h
  simpa using this
 ·intro h
  have h2:s.reverse.dropWhile lower=[]:=by rw[dropWhile_nil];simpa using h
  rw[h2]
  rfl
theorem isName_ok (s:Str) (hs:s.length≤4294967296):PureC Tryz.prog 136 [str s] (fun r=>r=bool (isNm s)):=by
 refine PureC.of Tryz.func136 rfl Tryz.ntmps136 (by simp) fun Q hQ=>?_
 refine Runs.seqE Ty_ok (by decide) fun k' hk'=>?_
 simp   -- R0
 apply hk'
 refine Runs.seqE Ty_ok (by decide) fun k' hk'=>?_
 simp   -- R1
 refine RunK.callA Ty_ok (within_ok s.length 1 4) e90 (.cons (.v _ _ _) (.cons (.v _ _ _) (.cons (.v _ _ _) .nil))) (by decide) (by decide) rfl (by simp) ?_
 rintro _ rfl
 cases hw:within s.length 1 4
 ·simp[hw]
  apply hk'
  exact Runs.ret Tryz.func136 (RetOk.one Tryz.results136) (hQ _ _ _ _ (.v _ _ _) (by simp[isNm,hw]))
 ·simp[hw]
  refine RunK.callA Ty_ok (trim_ok s alpha (by omega) (by decide) (by decide)) e156 (.cons (.v _ _ _) (.cons (.v _ _ _) .nil)) (by decide) (by decide) rfl (by simp[alpha]) ?_
  rintro _ rfl
  simp[hw]
  apply hk'
  refine Runs.ret Tryz.func136 (RetOk.one Tryz.results136) (hQ _ _ _ _ (.v _ _ _) ?_)
  have:=trimS_nil s
  cases h:s.all lower<;>simp[h] at this<;>simp[isNm,hw,h,this]
end Go.Ab
/- Bigraphs as values: types of data, and what a valid one is. -/
namespace Go.Ab
set_option linter.unusedSimpArgs false
structure Control where
 name:Str
 ports:Int
 kind:Int
 deriving Inhabited,DecidableEq
structure GNode where
 control:Int
 parent:Int
 links:List Int
 deriving Inhabited,DecidableEq
structure Wire where
 name:Str
 link:Int
 deriving Inhabited,DecidableEq
structure Big where
 roots:Int
 nodes:List GNode
 sites:List Int
 edges:Int
 outer:List Str
 inner:List Wire
 deriving Inhabited,DecidableEq
abbrev Sig:=List Control
def sliceC {α:Type} (fr:Bool) (f:α→List AVal) (l:List α):List AVal:=[.list fr (l.map f)]
def Control.cells (x:Control):List AVal:=[str x.name,int x.ports,int x.kind]
def Wire.cells (x:Wire):List AVal:=[str x.name,int x.link]
def GNode.cells (t:Bool) (x:GNode):List AVal:=[int x.control,int x.parent,.list t (x.links.map intC)]
def encSig (t:Bool) (s:Sig):AVal:=.list t (s.map Control.cells)
def encI (t:Bool) (l:List Int):AVal:=.list t (l.map intC)
def encS (t:Bool) (l:List Str):AVal:=.list t (l.map strC)
def encW (t:Bool) (l:List Wire):AVal:=.list t (l.map Wire.cells)
def encN (t:Bool) (l:List GNode):AVal:=.list t (l.map (GNode.cells t))
def Big.cells (t:Bool) (b:Big):List AVal:=[int b.roots,encN t b.nodes,encI t b.sites,int b.edges,encS t b.outer,encW t b.inner]
def encB (t:Bool) (b:Big):AVal:=.agg (b.cells t)
theorem ints_flat (l:List Int):∀ e ∈ l.map intC,∀ a ∈ e,flat a=true:=by simp[intC]
theorem strs_flat (l:List Str):∀ e ∈ l.map strC,∀ a ∈ e,flat a=true:=by simp[strC]
theorem wires_flat (l:List Wire):∀ e ∈ l.map Wire.cells,∀ a ∈ e,flat a=true:=by simp[Wire.cells]
theorem sig_flat (l:Sig):∀ e ∈ l.map Control.cells,∀ a ∈ e,flat a=true:=by simp[Control.cells]
theorem old_encI (t:Bool) (l:List Int):old (encI t l)=encI false l:=by rw[encI,old_list,maps_old_flat (ints_flat l)];rfl
theorem old_encS (t:Bool) (l:List Str):old (encS t l)=encS false l:=by rw[encS,old_list,maps_old_flat (strs_flat l)];rfl
theorem old_encW (t:Bool) (l:List Wire):old (encW t l)=encW false l:=by rw[encW,old_list,maps_old_flat (wires_flat l)];rfl
theorem old_encSig (t:Bool) (l:Sig):old (encSig t l)=encSig false l:=by rw[encSig,old_list,maps_old_flat (sig_flat l)];rfl
theorem old_node (t:Bool) (x:GNode):(x.cells t).map old=x.cells false:=by
 simp only[GNode.cells,List.map_cons,List.map_nil,old_v]
 have:=old_encI t x.links
 simp only[encI] at this
 rw[this]
theorem old_encN (t:Bool) (l:List GNode):old (encN t l)=encN false l:=by
 rw[encN,old_list,List.map_map]
 simp only[encN]
 congr 1
 exact List.map_congr_left fun x _=>old_node t x
theorem old_encB (t:Bool) (b:Big):old (encB t b)=encB false b:=by
 simp only[encB,Big.cells,old_agg,List.map_cons,List.map_nil,old_v,old_encN,old_encI,old_encS,old_encW]
theorem imm_encI (t:Bool) (l:List Int):Imm (encI t l):=.list _ _ fun e he a ha=>Imm.flat (ints_flat l e he a ha)
theorem imm_encS (t:Bool) (l:List Str):Imm (encS t l):=.list _ _ fun e he a ha=>Imm.flat (strs_flat l e he a ha)
theorem imm_encW (t:Bool) (l:List Wire):Imm (encW t l):=.list _ _ fun e he a ha=>Imm.flat (wires_flat l e he a ha)
theorem imm_encSig (t:Bool) (l:Sig):Imm (encSig t l):=.list _ _ fun e he a ha=>Imm.flat (sig_flat l e he a ha)
theorem imm_node (t:Bool) (x:GNode):∀ a ∈ x.cells t,Imm a:=by
 intro a ha
 simp only[GNode.cells,List.mem_cons,List.not_mem_nil,or_false] at ha
 rcases ha with rfl | rfl | rfl
 ·exact .v _
 ·exact .v _
 ·exact imm_encI t x.links
theorem imm_encN (t:Bool) (l:List GNode):Imm (encN t l):=by
 refine .list _ _ fun e he a ha=>?_
 obtain⟨x,_,rfl⟩:=List.mem_map.1 he
 exact imm_node t x a ha
theorem imm_encB (t:Bool) (b:Big):Imm (encB t b):=by
 refine .agg _ fun a ha=>?_
 simp only[Big.cells,List.mem_cons,List.not_mem_nil,or_false] at ha
 rcases ha with rfl | rfl | rfl | rfl | rfl | rfl
 ·exact .v _
 ·exact imm_encN t _
 ·exact imm_encI t _
 ·exact .v _
 ·exact imm_encS t _
 ·exact imm_encW t _
section
variable {H:Heap} {n:Nat}
theorem ArgOk.encI (t:Bool) (l:List Int):ArgOk H n (encI t l) (encI false l):=ArgOk.imm' (imm_encI t l) (old_encI t l)
theorem ArgOk.encS (t:Bool) (l:List Str):ArgOk H n (encS t l) (encS false l):=ArgOk.imm' (imm_encS t l) (old_encS t l)
theorem ArgOk.encW (t:Bool) (l:List Wire):ArgOk H n (encW t l) (encW false l):=ArgOk.imm' (imm_encW t l) (old_encW t l)
theorem ArgOk.encSig (t:Bool) (l:Sig):ArgOk H n (encSig t l) (encSig false l):=ArgOk.imm' (imm_encSig t l) (old_encSig t l)
theorem ArgOk.encN (t:Bool) (l:List GNode):ArgOk H n (encN t l) (encN false l):=ArgOk.imm' (imm_encN t l) (old_encN t l)
theorem ArgOk.encB (t:Bool) (b:Big):ArgOk H n (encB t b) (encB false b):=ArgOk.imm' (imm_encB t b) (old_encB t b)
end
def okControl (c:Control):Bool:=isNm c.name && within c.ports 0 3 && within c.kind 0 2
def newName (sig:Sig) (i:Nat):Bool := !(sig.take i).any fun d=>d.name == (sig.getD i default).name
def goodSig (sig:Sig):Bool:=within sig.length 1 6 && (List.range sig.length).all fun i=>okControl (sig.getD i default) && newName sig i
def ascends (l:List Str) (i:Nat):Bool:=decide (i=0) || Op.bytesLess (l.getD (i - 1) []) (l.getD i [])
def goodNames (l:List Str):Bool:=decide (l.length≤16) && (List.range l.length).all fun i=>isNm (l.getD i []) && ascends l i
def okLink (b:Big) (l:Int):Bool:=within l 0 (b.edges+b.outer.length - 1)
def okParent (sig:Sig) (b:Big) (parent:Int) (below:Nat):Bool:=
 if parent<0 then decide (-b.roots≤parent) else decide (parent<below) && decide ((sig.getD (b.nodes.getD parent.toNat default).control.toNat default).kind ≠ 2)
def okNodeB (sig:Sig) (b:Big) (i:Nat):Bool:=
 within (b.nodes.getD i default).control 0 (sig.length - 1) && okParent sig b (b.nodes.getD i default).parent i && decide ((b.nodes.getD i default).links.length=(sig.getD (b.nodes.getD i default).control.toNat default).ports) &&
  (b.nodes.getD i default).links.all (okLink b)
def goodB (sig:Sig) (b:Big):Bool:=
 goodSig sig && within b.roots 0 4 && decide (b.nodes.length≤8) && decide (b.sites.length≤4) && within b.edges 0 8 && goodNames b.outer && goodNames (b.inner.map (·.name)) &&
  (List.range b.nodes.length).all (okNodeB sig b) && b.sites.all (fun p=>okParent sig b p b.nodes.length) && b.inner.all (fun w=>okLink b w.link)
end Go.Ab
/- The abstract machine, part Sn: short names for what a walk by program says often. -/
namespace Go.Ab
set_option linter.unusedSectionVars false
structure Match where
 nodes:List Int
 roots:List Int
 deriving Inhabited,DecidableEq
abbrev oE {α:Type} (l:List Sh) (f:α→List AVal) (v:AVal) (es:List α):OwnE:=(.s l,v,.list true (es.map f))
abbrev oI (v:AVal) (es:List Int):OwnE:=(.s [.c],v,.list true (es.map intC))
abbrev oS (v:AVal) (es:List Str):OwnE:=(.s [.c],v,.list true (es.map strC))
abbrev oN (v:AVal) (es:List GNode):OwnE:=(.s [.c,.c,.s [.c]],v,.list true (es.map (GNode.cells true)))
abbrev oW (v:AVal) (es:List Wire):OwnE:=(.s [.c,.c],v,.list true (es.map Wire.cells))
section
variable {H H':Heap} {n n':Nat} {K:List OwnE} {ids:List Id} {x:OwnE}
theorem Sep.f1 {a:OwnE} (h:Sep H n (a::x::K) ids):Sep H n (x::a::K) ids:=Sep.front (K1:=[a]) h
theorem Sep.f2 {a b:OwnE} (h:Sep H n (a::b::x::K) ids):Sep H n (x::a::b::K) ids:=Sep.front (K1:=[a,b]) h
theorem Sep.f3 {a b c:OwnE} (h:Sep H n (a::b::c::x::K) ids):Sep H n (x::a::b::c::K) ids:=Sep.front (K1:=[a,b,c]) h
theorem Sep.f4 {a b c d:OwnE} (h:Sep H n (a::b::c::d::x::K) ids):Sep H n (x::a::b::c::d::K) ids:=Sep.front (K1:=[a,b,c,d]) h
theorem Sep.f5 {a b c d e:OwnE} (h:Sep H n (a::b::c::d::e::x::K) ids):Sep H n (x::a::b::c::d::e::K) ids:=Sep.front (K1:=[a,b,c,d,e]) h
theorem Sep.f6 {a b c d e f:OwnE} (h:Sep H n (a::b::c::d::e::f::x::K) ids):Sep H n (x::a::b::c::d::e::f::K) ids:=Sep.front (K1:=[a,b,c,d,e,f]) h
theorem Sep.dr (h:Sep H n (x::K) ids):Sep H n K ids:=Sep.right (K1:=[x]) h
theorem Sep.ap {α:Type} {l:List Sh} {f:α→List AVal} {v:AVal} {xs ys zs:List α} (hz:zs=xs++ys) (h:Sep H n ((.s l,v,.list true (xs.map f++ys.map f))::K) ids):Sep H n ((.s l,v,.list true (zs.map f))::K) ids:=by
 rw[hz,List.map_append];exact h
theorem Sep.addRepE {α:Type} [Inhabited α] {f:α→List AVal} {l:List Sh} {d k:Nat} {z:List AVal} {K:List OwnE} {ids:List Id} {xs:List α} (he:xs=List.replicate k default) (hs:Sep H n K ids) (hz:∀ H:Heap,Row H l z (f default) []) :
  Sep (H.set (n,d) ⟨l.length,List.replicate k z⟩) (n+1) ((.s l,.arr (n,d) k 0 k,.list true (xs.map f))::K) ids:=by
 rw[he];exact Sep.addRep hs hz
theorem Sep.st {α:Type} {l:List Sh} {f:α→List AVal} {v:AVal} {xs zs:List α} {q:Nat} {y:α} (hz:zs=xs.set q y) (h:Sep H n ((.s l,v,.list true ((xs.map f).set q (f y)))::K) ids):Sep H n ((.s l,v,.list true (zs.map f))::K) ids:=by
 rw[hz,List.map_set];exact h
theorem Sep.oc {l:List Sh} {v e:AVal} (h:Sep H n ((.s l,v,e)::K) ids):cellsA v=some [v]∧Ab.one1 v=true:=⟨h.cells,h.one1⟩
end
theorem o1x:(∀ (k:IntKind) (a:Int),one1 (.v (.int k a))=true)∧(∀ a:Bool,one1 (.v (.bool a))=true)∧(∀ a:ByteArray,one1 (.v (.string a))=true)∧one1 (.v (.slice none 0 0))=true ∧
  (∀ (fr:Bool) (l:List (List AVal)),one1 (.list fr l)=true)∧(∀ (id:Id) (g o l:Nat),one1 (.arr id g o l)=true)∧∀ (id:Id) (g o l:Nat),one1 (.ptr id g o l)=true:=
 ⟨fun _ _=>rfl,fun _=>rfl,fun _=>rfl,rfl,fun _ _=>rfl,fun _ _ _ _=>rfl,fun _ _ _ _=>rfl⟩
theorem cAx:(∀ (k:IntKind) (a:Int),cellsA (.v (.int k a))=some [.v (.int k a)])∧(∀ a:Bool,cellsA (.v (.bool a))=some [.v (.bool a)])∧(∀ a:ByteArray,cellsA (.v (.string a))=some [.v (.string a)])∧cellsA (.v (.slice none 0 0))=some [.v (.slice none 0 0)] ∧
  (∀ l:List AVal,cellsA (.agg l)=some l)∧(∀ (fr:Bool) (l:List (List AVal)),cellsA (.list fr l)=some [.list fr l])∧(∀ (id:Id) (g o l:Nat),cellsA (.arr id g o l)=some [.arr id g o l])∧∀ (id:Id) (g o l:Nat),cellsA (.ptr id g o l)=some [.ptr id g o l]:=
 ⟨fun _ _=>rfl,fun _=>rfl,fun _=>rfl,rfl,fun _=>rfl,fun _ _=>rfl,fun _ _ _ _=>rfl,fun _ _ _ _=>rfl⟩
theorem ArgOk.nest_Node {H:Heap} {n:Nat} (t:Bool) (l:List GNode):ArgOk H n (.list t (l.map (GNode.cells t))) (.list false (l.map (GNode.cells false))):=ArgOk.encN t l
theorem atm {α:Sort _} {x:α} {p:α→Prop} (h:∀ v,v=x→p v):∃ v,v=x∧p v:=⟨x,rfl,h x rfl⟩
abbrev pA (i n:Nat):AVal:=.ptr (i,n) 1 0 0
abbrev bC (t:Bool) (b:Big):List AVal:=[int b.roots,.list t (b.nodes.map (GNode.cells t)),.list t (b.sites.map intC),int b.edges,.list t (b.outer.map strC),.list t (b.inner.map Wire.cells)]
abbrev mC (t:Bool) (m:Match):List AVal:=[.list t (m.nodes.map intC),.list t (m.roots.map intC)]
abbrev zB:List AVal:=[int 0,.v (.slice none 0 0),.v (.slice none 0 0),int 0,.v (.slice none 0 0),.v (.slice none 0 0)]
section
variable {H:Heap} {n:Nat}
theorem argI (t:Bool) (l:List Int):ArgOk H n (.list t (l.map intC)) (.list false (l.map intC)):=ArgOk.encI t l
theorem argS (t:Bool) (l:List Str):ArgOk H n (.list t (l.map strC)) (.list false (l.map strC)):=ArgOk.encS t l
theorem argW (t:Bool) (l:List Wire):ArgOk H n (.list t (l.map Wire.cells)) (.list false (l.map Wire.cells)):=ArgOk.encW t l
theorem argC (t:Bool) (l:List Control):ArgOk H n (.list t (l.map Control.cells)) (.list false (l.map Control.cells)):=ArgOk.encSig t l
theorem argB (t:Bool) (b:Big):ArgOk H n (.agg (bC t b)) (.agg (bC false b)):=ArgOk.encB t b
end
end Go.Ab
/- Loops that count: how their conditions are met. -/
namespace Go.Ab.Vg
set_option linter.unusedSimpArgs false
set_option linter.unusedVariables false
theorem loopW.up {σ τ:Type} {body:σ→(σ→Prop)→Prop} {s:σ} (N:Nat) (idx:σ→Int) (mk:Nat→τ→σ) (hidx:∀ k t,idx (mk k t)=(k:Int)) (I:Nat→τ→Prop) (t0:τ) (hs:s=mk 0 t0) (h0:I 0 t0)
  (step:∀ k t (K:σ→Prop),k≤N→I k t→(k<N→∀ t',I (k+1) t'→K (mk (k+1) t'))→body (mk k t) K):loopW body s:=by
 refine⟨fun s=>∃ k t,s=mk k t∧k≤N∧I k t,fun s=>N - (idx s).toNat,⟨0,t0,hs,Nat.zero_le _,h0⟩,?_⟩
 rintro s ⟨k,t,rfl,hk,hI⟩
 refine step k t _ hk hI fun hlt t' hI'=>⟨⟨k+1,t',rfl,hlt,hI'⟩,?_⟩
 show N - (idx _).toNat<N - (idx _).toNat
 rw[hidx,hidx]
 omega
theorem loopW.upL {τ:Type} {body:Int × τ→(Int × τ→Prop)→Prop} (N:Nat) (I:Nat→τ→Prop) (t0:τ) (h0:I 0 t0)
  (step:∀ k t (K:Int × τ→Prop),k≤N→I k t→(k<N→∀ t',I (k+1) t'→K (((k:Int)+1),t'))→body ((k:Int),t) K):loopW body (0,t0):=
 loopW.up N (·.1) (fun k t=>((k:Int),t)) (fun _ _=>rfl) I t0 rfl h0 fun k t K hk hI h=>step k t K hk hI fun hlt t' hI'=>by have:=h hlt t' hI';simpa using this
theorem loopW.upR {τ:Type} {body:τ × Int→(τ × Int→Prop)→Prop} (N:Nat) (I:Nat→τ→Prop) (t0:τ) (h0:I 0 t0)
  (step:∀ k t (K:τ × Int→Prop),k≤N→I k t→(k<N→∀ t',I (k+1) t'→K (t',((k:Int)+1)))→body (t,(k:Int)) K):loopW body (t0,0):=
 loopW.up N (·.2) (fun k t=>(t,(k:Int))) (fun _ _=>rfl) I t0 rfl h0 fun k t K hk hI h=>step k t K hk hI fun hlt t' hI'=>by have:=h hlt t' hI';simpa using this
theorem loopW.up1 {body:Int→(Int→Prop)→Prop} (N:Nat) (I:Nat→Prop) (h0:I 0)
  (step:∀ k (K:Int→Prop),k≤N→I k→(k<N→I (k+1)→K ((k:Int)+1))→body (k:Int) K):loopW body 0:=
 loopW.up (τ:=Unit) N id (fun k _=>(k:Int)) (fun _ _=>rfl) (fun k _=>I k) () rfl h0 fun k _ K hk hI h=>step k K hk hI fun hlt hI'=>by have:=h hlt () hI';simpa using this
theorem loopW.byM {σ:Type} {body:σ→(σ→Prop)→Prop} {s:σ} (I:σ→Prop) (m:σ→Nat) (h0:I s) (step:∀ s,I s→body s (fun s'=>I s'∧m s'<m s)):loopW body s:=⟨I,m,h0,step⟩
theorem at_lt {α:Type} [Inhabited α] {l:List α} {k:Nat} (h:k<l.length):at' l (k:Int)=l[k]:=by simp[at',h]
def idxs {α:Type} [Inhabited α] (l:List α) (p:α→Bool) (k:Nat):List Int:=((List.range k).filter fun i:Nat=>p (at' l (i:Int))).map fun i:Nat=>(i:Int)
section
variable {α:Type} [Inhabited α] (l:List α) (p:α→Bool)
theorem idxs_yes {k:Nat} (h:p (at' l (k:Int))=true):idxs l p (k+1)=idxs l p k++[(k:Int)]:=by simp[idxs,List.range_succ,h]
theorem idxs_no {k:Nat} (h:p (at' l (k:Int))=false):idxs l p (k+1)=idxs l p k:=by simp[idxs,List.range_succ,h]
theorem idxs_len (k:Nat):(idxs l p k).length≤k:=by
 have:=List.length_filter_le (fun i:Nat=>p (at' l (i:Int))) (List.range k)
 simpa[idxs] using this
theorem mem_idxs {k:Nat} {x:Int}:x ∈ idxs l p k↔0≤x∧x<k∧p (at' l x)=true:=by
 simp only[idxs,List.mem_map,List.mem_filter,List.mem_range]
 constructor
 ·rintro⟨i,⟨h1,h2⟩,rfl⟩
  exact⟨by omega,by omega,h2⟩
 ·rintro⟨h1,h2,h3⟩
  exact⟨x.toNat,⟨by omega,by rwa [Int.toNat_of_nonneg h1]⟩,by omega⟩
end
end Go.Ab.Vg
/- Lists of numbers in lexicographic order. -/
namespace Go.Ab.Vg
set_option linter.unusedSimpArgs false
set_option linter.unusedVariables false
def cmpL:List Int→List Int→Int
 | [],[]=>0
 | [],_::_ => -1
 | _::_,[]=>1
 | a::x,b::y=>if a<b then -1 else if b<a then 1 else cmpL x y
theorem cmpL_refl:∀ a:List Int,cmpL a a=0
 | []=>rfl
 | a::x=>by simp[cmpL,cmpL_refl x]
theorem cmpL_eq:∀ {a b:List Int},cmpL a b=0→a=b
 | [],[],_=>rfl
 | [],_::_,h=>by simp[cmpL] at h
 | _::_,[],h=>by simp[cmpL] at h
 | a::x,b::y,h=>by
  simp only[cmpL] at h
  split at h
  ·omega
  ·split at h
   ·omega
   ·rw[cmpL_eq h,show a=b by omega]
theorem cmpL_neg:∀ a b:List Int,cmpL b a = - cmpL a b
 | [],[]=>rfl
 | [],_::_=>rfl
 | _::_,[]=>rfl
 | a::x,b::y=>by
  have:=cmpL_neg x y
  simp only[cmpL]
  repeat' split
  all_goals omega
theorem cmpL_trans:∀ {a b c:List Int},cmpL a b<0→cmpL b c<0→cmpL a c<0
 | [],[],_,h,_=>by simp[cmpL] at h
 | [],_::_,[],_,h=>by simp[cmpL] at h
 | [],_::_,_::_,_,_=>by simp[cmpL]
 | _::_,[],_,h,_=>by simp[cmpL] at h
 | _::_,_::_,[],_,h=>by simp[cmpL] at h
 | a::x,b::y,c::z,h,k=>by
  have:=@cmpL_trans x y z
  simp only[cmpL] at h k ⊢
  repeat' split at h
  all_goals repeat' split at k
  all_goals repeat' split
  all_goals first | omega | (exact this h k)
theorem cmpL_le_lt {a b c:List Int} (h:¬ cmpL b a<0) (k:cmpL b c<0):cmpL a c<0:=by
 rcases Int.lt_trichotomy (cmpL a b) 0 with h1 | h1 | h1
 ·exact cmpL_trans h1 k
 ·rw[cmpL_eq h1];exact k
 ·exact absurd (by rw[cmpL_neg a b];omega) h
theorem cmpL_append (p:List Int):∀ a b:List Int,cmpL (p++a) (p++b)=cmpL a b:=by
 induction p with
 | nil=>simp
 | cons x p ih=>intro a b;simp[cmpL,ih]
end Go.Ab.Vg
/- The least code of a bigraph: the search of the program and that of the reference find the same order (no program in sight). -/
namespace Go.Ab.Vg
set_option linter.unusedSimpArgs false
set_option linter.unusedVariables false
theorem cmpL_apart:∀ {a b:List Int} (x y:List Int),cmpL a b<0→(∀ z,b=a++z→z=[])→cmpL (a++x) (b++y)<0
 | [],[],_,_,h,_=>by simp[cmpL] at h
 | [],c::y,_,_,_,hp=>by simpa using hp (c::y) rfl
 | _::_,[],_,_,h,_=>by simp[cmpL] at h
 | a::p,b::q,x,y,h,hp=>by
  simp only[cmpL,List.cons_append] at h ⊢
  split
  ·omega
  ·rename_i h1
   rw[if_neg h1] at h
   split
   ·rename_i h2;rw[if_pos h2] at h;omega
   ·rename_i h2
    rw[if_neg h2] at h
    have e:a=b:=by omega
    subst e
    exact cmpL_apart x y h fun z hz=>hp z (by rw[hz];rfl)
abbrev P2:=List Int × List Int
def ltP (a b:P2):Prop:=cmpL a.1 b.1<0∨(a.1=b.1∧cmpL a.2 b.2<0)
theorem ltP_trans {a b c:P2} (h:ltP a b) (k:ltP b c):ltP a c:=by
 rcases h with h | ⟨h,h'⟩<;>rcases k with k | ⟨k,k'⟩
 ·exact .inl (cmpL_trans h k)
 ·exact .inl (k ▸ h)
 ·exact .inl (h ▸ k)
 ·exact .inr ⟨h.trans k,cmpL_trans h' k'⟩
theorem ltP_irrefl (a:P2):¬ ltP a a:=by
 rintro (h | ⟨_,h⟩)<;>rw[cmpL_refl] at h<;>omega
theorem ltP_tri (a b:P2):ltP a b∨a=b∨ltP b a:=by
 rcases Int.lt_trichotomy (cmpL a.1 b.1) 0 with h | h | h
 ·exact .inl (.inl h)
 ·have e:=cmpL_eq h
  rcases Int.lt_trichotomy (cmpL a.2 b.2) 0 with k | k | k
  ·exact .inl (.inr ⟨e,k⟩)
  ·exact .inr (.inl (Prod.ext e (cmpL_eq k)))
  ·exact .inr (.inr (.inr ⟨e.symm,by rw[cmpL_neg a.2 b.2];omega⟩))
 ·exact .inr (.inr (.inl (by rw[cmpL_neg a.1 b.1];omega)))
def IsMin (l:List P2) (m:P2):Prop:=m ∈ l∧∀ x ∈ l,¬ ltP x m
theorem IsMin.uniq {l:List P2} {m m':P2} (h:IsMin l m) (k:IsMin l m'):m=m':=by
 rcases ltP_tri m m' with h1 | h1 | h1
 ·exact absurd h1 (k.2 _ h.1)
 ·exact h1
 ·exact absurd h1 (h.2 _ k.1)
structure Cz where
 es:List Int
 pl:List Int
 num:Nat
section
variable (b:Big)
def placeC (pl:List Int) (p:Int):Int:=if p<0 then -1 - p else 4+at' pl p
def linksC:List Int→List Int→List Int × List Int
 | es,[]=>([],es)
 | es,l::t=>if l ≥ b.edges then let r:=linksC es t;((l - b.edges)::r.1,r.2) else if l ∈ es then let r:=linksC es t;((16+((es.idxOf l:Nat):Int))::r.1,r.2) else let r:=linksC (es++[l]) t;((16+((es.length:Nat):Int))::r.1,r.2)
def chunkC (s:Cz) (k:Int):List Int × List Int:=
 let x:=at' b.nodes k;let r:=linksC b s.es x.links;(x.control::placeC s.pl x.parent::r.1,r.2)
def stepC (s:Cz) (k:Int):Cz:=⟨(chunkC b s k).2,s.pl.set k.toNat s.num,s.num+1⟩
def tailC (s:Cz):List Int × List Int:=let r:=linksC b s.es (b.inner.map fun w=>w.link);(b.sites.map (placeC s.pl)++r.1,r.2)
def freeP (pl:List Int) (k:Int):Bool:=decide (at' pl k<0) && (decide ((at' b.nodes k).parent<0) || decide (0≤at' pl (at' b.nodes k).parent))
def freeC (pl:List Int):List Int:=((List.range b.nodes.length).map fun i:Nat=>(i:Int)).filter (freeP b pl)
def comps:Nat→Cz→List P2
 | 0,s=>[((tailC b s).1,[])]
 | m+1,s=>(freeC b s.pl).flatMap fun k=>(comps m (stepC b s k)).map fun q=>((chunkC b s k).1++q.1,k::q.2)
end
def Ch (f:Int→Nat):Nat→List Int→Prop
 | 0,l=>l=[]
 | m+1,l=>∃ x c r,l=(x::c)++r∧c.length=f x∧Ch f m r
theorem Ch.snoc {f:Int→Nat} {x:Int} {c:List Int} (hc:c.length=f x):∀ {m:Nat} {l:List Int},Ch f m l→Ch f (m+1) (l++(x::c))
 | 0,l,h=>by rw[show l=[] from h];exact⟨x,c,[],by simp,hc,rfl⟩
 | m+1,l,⟨y,d,r,h1,h2,h3⟩=>⟨y,d,r++(x::c),by rw[h1];simp,h2,Ch.snoc hc h3⟩
theorem Ch.apart {f:Int→Nat}:∀ {m:Nat} {a c:List Int},Ch f m a→Ch f m c→∀ z,c=a++z→z=[]
 | 0,a,c,h,k,z,e=>by rw[show a=[] from h,show c=[] from k] at e;simpa using e.symm
 | m+1,a,c,⟨x,u,r,h1,h2,h3⟩,⟨y,v,t,k1,k2,k3⟩,z,e=>by
  rw[h1,k1] at e
  simp only[List.cons_append,List.append_assoc,List.cons.injEq] at e
  obtain⟨rfl,e⟩:=e
  have hl:v.length=u.length:=by rw[h2,k2]
  have:=List.append_inj e hl
  exact Ch.apart h3 k3 z this.2
theorem Ch.lt {f:Int→Nat} {m:Nat} {a c:List Int} (x y:List Int) (h:Ch f m a) (k:Ch f m c) (hl:cmpL a c<0):cmpL (a++x) (c++y)<0:=cmpL_apart x y hl (h.apart k)
section
variable {b:Big}
theorem linksC_len:∀ (l es:List Int),(linksC b es l).1.length=l.length
 | [],_=>rfl
 | x::t,es=>by
  simp only[linksC]
  repeat' split
  all_goals simp[linksC_len t]
def Even (b:Big):Prop:=∀ x y:Int,0≤x∧x<b.nodes.length→0≤y∧y<b.nodes.length→(at' b.nodes x).control=(at' b.nodes y).control→(at' b.nodes x).links.length=(at' b.nodes y).links.length
noncomputable def wid (b:Big) (c:Int):Nat:=open Classical in if h:∃ x:Int,(0≤x∧x<b.nodes.length)∧(at' b.nodes x).control=c then 1+(at' b.nodes h.choose).links.length else 0
theorem wid_at (he:Even b) {x:Int} (hx:0≤x∧x<b.nodes.length):wid b (at' b.nodes x).control=1+(at' b.nodes x).links.length:=by
 have h:∃ y:Int,(0≤y∧y<b.nodes.length)∧(at' b.nodes y).control=(at' b.nodes x).control:=⟨x,hx,rfl⟩
 unfold wid
 rw[dif_pos h]
 rw[he _ x h.choose_spec.1 hx h.choose_spec.2]
theorem mem_freeC {pl:List Int} {k:Int}:k ∈ freeC b pl↔(0≤k∧k<b.nodes.length)∧freeP b pl k=true:=by
 simp only[freeC,List.mem_filter,List.mem_map,List.mem_range]
 constructor
 ·rintro⟨⟨i,hi,rfl⟩,h⟩;exact⟨⟨by omega,by omega⟩,h⟩
 ·rintro⟨⟨h1,h2⟩,h⟩;exact⟨⟨k.toNat,by omega,by omega⟩,h⟩
theorem chunk_wid (he:Even b) (s:Cz) {k:Int} (hk:0≤k∧k<b.nodes.length):∃ x c,(chunkC b s k).1=x::c∧c.length=wid b x:=by
 refine⟨_,_,rfl,?_⟩
 rw[wid_at he hk]
 simp[linksC_len];omega
theorem comps_succ {m:Nat} {s:Cz} {p:P2}:p ∈ comps b (m+1) s↔∃ k ∈ freeC b s.pl,∃ q ∈ comps b m (stepC b s k),p=((chunkC b s k).1++q.1,k::q.2):=by
 simp only[comps,List.mem_flatMap,List.mem_map,eq_comm]
structure Fit (b:Big) (m:Nat) (s:Cz):Prop where
 len:s.pl.length=b.nodes.length
 num:s.num+m=b.nodes.length
 cnt:(s.pl.filter fun x=>decide (x<0)).length=m
 low:∀ v ∈ s.pl,-1≤v
theorem filter_set_len:∀ {l:List Int} {k:Nat} {v:Int} (hk:k<l.length),l[k]<0→0≤v→((l.set k v).filter fun x=>decide (x<0)).length+1=(l.filter fun x=>decide (x<0)).length
 | a::l,0,v,_,h,hv=>by
  simp only[List.getElem_cons_zero] at h
  simp[List.set_cons_zero,h,show ¬ v<0 by omega]
 | a::l,k+1,v,hk,h,hv=>by
  simp only[List.getElem_cons_succ] at h
  have:=filter_set_len (l:=l) (k:=k) (by simpa using hk) h hv
  simp only[List.set_cons_succ,List.filter_cons]
  split<;>(try simp only[List.length_cons])<;>omega
theorem at'_set {l:List Int} {i k v:Int} (hi:0≤i) (hk:0≤k∧k<l.length):at' (l.set k.toNat v) i=if i=k then v else at' l i:=by
 unfold at'
 by_cases h:i=k
 ·subst h
  rw[if_pos rfl]
  simp[List.getD_eq_getElem?_getD,show i.toNat<l.length by omega]
 ·rw[if_neg h]
  simp[List.getD_eq_getElem?_getD,show ¬ k.toNat=i.toNat by omega]
theorem Fit.step {m:Nat} {s:Cz} {k:Int} (h:Fit b (m+1) s) (hk:k ∈ freeC b s.pl):Fit b m (stepC b s k):=by
 obtain⟨⟨k0,k1⟩,hf⟩:=mem_freeC.1 hk
 have hl:=h.len
 have hkl:k.toNat<s.pl.length:=by omega
 simp only[freeP,Bool.and_eq_true,decide_eq_true_eq] at hf
 have hf1:s.pl[k.toNat]<0:=by have:=hf.1;simpa[at',hkl] using this
 have:=filter_set_len (v:=(s.num:Int)) hkl hf1 (by omega)
 refine⟨by simp[stepC,h.len],by have:=h.num;simp only[stepC];omega,?_,?_⟩
 ·have:=h.cnt
  simp only[stepC]
  omega
 ·intro v hv
  rcases List.mem_or_eq_of_mem_set hv with hv | rfl
  ·exact h.low v hv
  ·omega
theorem Fit.low' {m:Nat} {s:Cz} (h:Fit b m s) (i:Int) (hi:0≤i∧i<b.nodes.length) : -1≤at' s.pl i:=by
 have hl:=h.len
 have:i.toNat<s.pl.length:=by omega
 rw[at',show s.pl.getD i.toNat default=s.pl[i.toNat] by simp[this]]
 exact h.low _ (List.getElem_mem this)
def Downs (b:Big):Prop:=∀ x:Int,0≤x∧x<b.nodes.length→(at' b.nodes x).parent<x
theorem free_some (hd:Downs b) {m:Nat} {s:Cz} (h:Fit b (m+1) s):∃ k,k ∈ freeC b s.pl:=by
 have hex:∃ i:Nat,i<s.pl.length∧at' s.pl (i:Int)<0:=by
  have hc:=h.cnt
  cases hq:s.pl.filter fun x=>decide (x<0) with
  | nil=>rw[hq] at hc;simp at hc
  | cons x t=>
   have hx:x ∈ s.pl.filter fun x=>decide (x<0):=by rw[hq];simp
   obtain⟨h1,h2⟩:=List.mem_filter.1 hx
   obtain⟨i,hi,rfl⟩:=List.getElem_of_mem h1
   exact⟨i,hi,by simpa[at',hi] using h2⟩
 obtain⟨i,⟨hi1,hi2⟩,hmin⟩:∃ i:Nat,(i<s.pl.length∧at' s.pl (i:Int)<0)∧∀ j:Nat,j<i→¬ (j<s.pl.length∧at' s.pl (j:Int)<0):=by
  obtain⟨i,hi⟩:=hex
  induction i using Nat.strongRecOn with
  | _ i ih=>
   by_cases hj:∃ j:Nat,j<i∧(j<s.pl.length∧at' s.pl (j:Int)<0)
   ·obtain⟨j,h1,h2⟩:=hj;exact ih j h1 h2
   ·exact⟨i,hi,fun j h1 h2=>hj ⟨j,h1,h2⟩⟩
 have hl:=h.len
 refine⟨i,mem_freeC.2 ⟨⟨by omega,by omega⟩,?_⟩⟩
 simp only[freeP,Bool.and_eq_true,Bool.or_eq_true,decide_eq_true_eq]
 refine⟨hi2,?_⟩
 have hp:=hd i ⟨by omega,by omega⟩
 rcases Int.lt_or_le (at' b.nodes (i:Int)).parent 0 with h0 | h0
 ·exact .inl h0
 ·right
  have:=hmin (at' b.nodes (i:Int)).parent.toNat (by omega)
  rw[show (((at' b.nodes (i:Int)).parent.toNat:Nat):Int)=(at' b.nodes (i:Int)).parent by omega] at this
  have h1:(at' b.nodes (i:Int)).parent.toNat<s.pl.length:=by omega
  simp only[h1,true_and] at this
  omega
theorem comps_some (hd:Downs b):∀ {m:Nat} {s:Cz},Fit b m s→∃ p,p ∈ comps b m s
 | 0,s,_=>⟨_,List.mem_singleton.2 rfl⟩
 | m+1,s,h=>by
  obtain⟨k,hk⟩:=free_some hd h
  obtain⟨q,hq⟩:=comps_some hd (h.step hk)
  exact⟨_,comps_succ.2 ⟨k,hk,q,hq,rfl⟩⟩
end
section
variable {b:Big}
structure Twin (b:Big) (x y:Int):Prop where
 ctl:(at' b.nodes x).control=(at' b.nodes y).control
 par:(at' b.nodes x).parent=(at' b.nodes y).parent
 lnk:(at' b.nodes x).links=(at' b.nodes y).links
 kx:∀ i:Int,0≤i∧i<b.nodes.length→(at' b.nodes i).parent ≠ x
 ky:∀ i:Int,0≤i∧i<b.nodes.length→(at' b.nodes i).parent ≠ y
 sx:∀ p ∈ b.sites,p ≠ x
 sy:∀ p ∈ b.sites,p ≠ y
def swp (x y i:Int):Int:=if i=x then y else if i=y then x else i
theorem swp_rng {n x y i:Int} (hx:0≤x∧x<n) (hy:0≤y∧y<n) (hi:0≤i∧i<n):0≤swp x y i∧swp x y i<n:=by
 unfold swp;repeat' split
 all_goals assumption
theorem swp_swp (x y i:Int):swp x y (swp x y i)=i:=by
 unfold swp;repeat' split
 all_goals omega
structure Swd (b:Big) (x y:Int) (s t:Cz):Prop where
 es:t.es=s.es
 num:t.num=s.num
 l1:s.pl.length=b.nodes.length
 l2:t.pl.length=b.nodes.length
 pl:∀ i:Int,0≤i∧i<b.nodes.length→at' t.pl (swp x y i)=at' s.pl i
theorem swp_ctl {x y:Int} (h:Twin b x y) (i:Int):(at' b.nodes (swp x y i)).control=(at' b.nodes i).control:=by
 unfold swp;repeat' split
 ·subst_vars;exact h.ctl.symm
 ·subst_vars;exact h.ctl
 ·rfl
theorem swp_par {x y:Int} (h:Twin b x y) (i:Int):(at' b.nodes (swp x y i)).parent=(at' b.nodes i).parent:=by
 unfold swp;repeat' split
 ·subst_vars;exact h.par.symm
 ·subst_vars;exact h.par
 ·rfl
theorem swp_lnk {x y:Int} (h:Twin b x y) (i:Int):(at' b.nodes (swp x y i)).links=(at' b.nodes i).links:=by
 unfold swp;repeat' split
 ·subst_vars;exact h.lnk.symm
 ·subst_vars;exact h.lnk
 ·rfl
variable {x y:Int} {s t:Cz}
theorem Swd.place (hw:Swd b x y s t) {p:Int} (hx:p ≠ x) (hy:p ≠ y) (hp:p<b.nodes.length):placeC t.pl p=placeC s.pl p:=by
 unfold placeC
 split
 ·rfl
 ·have:=hw.pl p ⟨by omega,hp⟩
  rw[show swp x y p=p by unfold swp;rw[if_neg hx,if_neg hy]] at this
  rw[this]
theorem Swd.chunk (hw:Swd b x y s t) (h:Twin b x y) (hd:Downs b) {k:Int} (hk:0≤k∧k<b.nodes.length):chunkC b t (swp x y k)=chunkC b s k:=by
 have hp:=hd k hk
 simp only[chunkC,swp_ctl h,swp_par h,swp_lnk h,hw.es,hw.place (h.kx k hk) (h.ky k hk) (by omega)]
theorem Swd.free (hw:Swd b x y s t) (h:Twin b x y) (hd:Downs b) (hx:0≤x∧x<b.nodes.length) (hy:0≤y∧y<b.nodes.length) {k:Int} (hk:k ∈ freeC b s.pl):swp x y k ∈ freeC b t.pl:=by
 obtain⟨hr,hf⟩:=mem_freeC.1 hk
 refine mem_freeC.2 ⟨swp_rng hx hy hr,?_⟩
 simp only[freeP,Bool.and_eq_true,Bool.or_eq_true,decide_eq_true_eq] at hf ⊢
 rw[hw.pl k hr,swp_par h]
 refine⟨hf.1,?_⟩
 have hp:=hd k hr
 rcases Int.lt_or_le (at' b.nodes k).parent 0 with hn | hn
 ·exact .inl hn
 ·right
  have:=hw.pl _ ⟨hn,by omega⟩
  rw[show swp x y (at' b.nodes k).parent=(at' b.nodes k).parent by unfold swp;rw[if_neg (h.kx k hr),if_neg (h.ky k hr)]] at this
  rw[this]
  rcases hf.2 with h0 | h0
  ·omega
  ·exact h0
theorem Swd.step (hw:Swd b x y s t) (h:Twin b x y) (hd:Downs b) (hx:0≤x∧x<b.nodes.length) (hy:0≤y∧y<b.nodes.length) {k:Int} (hk:0≤k∧k<b.nodes.length):Swd b x y (stepC b s k) (stepC b t (swp x y k)):=by
 have hr:=swp_rng hx hy hk
 refine⟨by simp only[stepC,hw.chunk h hd hk],by simp[stepC,hw.num],by simp[stepC,hw.l1],by simp[stepC,hw.l2],fun i hi=>?_⟩
 simp only[stepC]
 rw[at'_set (swp_rng hx hy hi).1 (by rw[hw.l2];exact hr),at'_set hi.1 (by rw[hw.l1];exact hk),hw.num]
 by_cases e:i=k
 ·subst e;simp
 ·rw[if_neg e,if_neg (fun e2=>e (by rw[← swp_swp x y i,e2,swp_swp]))]
  exact hw.pl i hi
theorem Swd.tail (hw:Swd b x y s t) (h:Twin b x y) (hs:∀ p ∈ b.sites,p<b.nodes.length):tailC b t=tailC b s:=by
 simp only[tailC,hw.es]
 rw[List.map_congr_left fun p hp=>hw.place (h.sx p hp) (h.sy p hp) (hs p hp)]
theorem comps_swap (h:Twin b x y) (hd:Downs b) (hs:∀ p ∈ b.sites,p<b.nodes.length) (hx:0≤x∧x<b.nodes.length) (hy:0≤y∧y<b.nodes.length):∀ {m:Nat} {s t:Cz},Swd b x y s t→∀ q ∈ comps b m s,∃ q' ∈ comps b m t,q'.1=q.1
 | 0,s,t,hw,q,hq=>by
  simp only[comps,List.mem_singleton] at hq
  subst hq
  exact⟨_,List.mem_singleton.2 rfl,by simp only[hw.tail h hs]⟩
 | m+1,s,t,hw,q,hq=>by
  obtain⟨k,hk,q1,hq1,rfl⟩:=comps_succ.1 hq
  have hr:=(mem_freeC.1 hk).1
  obtain⟨q2,hq2,he⟩:=comps_swap h hd hs hx hy (hw.step h hd hx hy hr) q1 hq1
  exact⟨_,comps_succ.2 ⟨_,hw.free h hd hx hy hk,q2,hq2,rfl⟩,by simp only[hw.chunk h hd hr,he]⟩
theorem comps_twin (h:Twin b x y) (hd:Downs b) (hs:∀ p ∈ b.sites,p<b.nodes.length) {m:Nat} {s:Cz} (hl:s.pl.length=b.nodes.length) (hlow:∀ i:Int,0≤i∧i<b.nodes.length → -1≤at' s.pl i) (hx:x ∈ freeC b s.pl) (hy:y ∈ freeC b s.pl) (hxy:x<y) {q:P2} (hq:q ∈ comps b m (stepC b s y)) :
  ∃ q' ∈ comps b m (stepC b s x),ltP ((chunkC b s x).1++q'.1,x::q'.2) ((chunkC b s y).1++q.1,y::q.2):=by
 obtain⟨rx,fx⟩:=mem_freeC.1 hx
 obtain⟨ry,fy⟩:=mem_freeC.1 hy
 have hc:chunkC b s x=chunkC b s y:=by simp only[chunkC,h.ctl,h.par,h.lnk]
 have hw:Swd b x y (stepC b s y) (stepC b s x):=by
  refine⟨by simp only[stepC,hc],rfl,by simp[stepC,hl],by simp[stepC,hl],fun i hi=>?_⟩
  simp only[stepC]
  rw[at'_set (swp_rng rx ry hi).1 (by omega),at'_set hi.1 (by omega)]
  simp only[freeP,Bool.and_eq_true,decide_eq_true_eq] at fx fy
  have lx:=hlow x rx
  have ly:=hlow y ry
  unfold swp
  by_cases e1:i=x
  ·subst e1
   rw[if_pos rfl,if_neg (by omega),if_neg (by omega)]
   omega
  ·by_cases e2:i=y
   ·subst e2
    rw[if_neg e1,if_pos rfl,if_pos rfl,if_pos rfl]
   ·rw[if_neg e1,if_neg e2,if_neg e1,if_neg e2]
 obtain⟨q',hq',he⟩:=comps_swap h hd hs rx ry hw q hq
 exact⟨q',hq',.inr ⟨by simp only[hc,he],by simp[cmpL,hxy]⟩⟩
end
section
variable {b:Big}
def thin (tw:Int→Int→Bool):List Int→List Int→List Int
 | out,[]=>out
 | out,i::l=>thin tw (if out.any (fun x=>tw x i) then out else out++[i]) l
theorem thin_in (tw:Int→Int→Bool):∀ {l out:List Int} {x:Int},x ∈ thin tw out l→x ∈ out∨x ∈ l
 | [],_,_,h=>.inl h
 | i::l,out,x,h=>by
  rcases thin_in tw (l:=l) h with h | h
  ·split at h
   ·exact .inl h
   ·rcases List.mem_append.1 h with h | h
    ·exact .inl h
    ·exact .inr (by simp[List.mem_singleton.1 h])
  ·exact .inr (by simp[h])
theorem thin_keep (tw:Int→Int→Bool):∀ {l out:List Int} {x:Int},x ∈ out→x ∈ thin tw out l
 | [],_,_,h=>h
 | i::l,out,x,h=>thin_keep tw (l:=l) (by split<;>simp[h])
theorem thin_has (tw:Int→Int→Bool):∀ {l out:List Int},(∀ x ∈ out,∀ y ∈ l,x<y)→l.Pairwise (·<·)→∀ y ∈ l,y ∈ thin tw out l∨∃ x ∈ thin tw out l,tw x y=true∧x<y
 | i::l,out,ho,hp,y,hy=>by
  have hp2:=(List.pairwise_cons.1 hp)
  rcases List.mem_cons.1 hy with rfl | hy
  ·simp only[thin]
   by_cases h:out.any (fun x=>tw x y)=true
   ·rw[if_pos h]
    obtain⟨x,hx,ht⟩:=List.any_eq_true.1 h
    exact .inr ⟨x,thin_keep tw hx,ht,ho x hx y (by simp)⟩
   ·rw[if_neg h]
    exact .inl (thin_keep tw (by simp))
  ·exact thin_has tw (l:=l) (fun x hx z hz=>by
    split at hx
    ·exact ho x hx z (by simp[hz])
    ·rcases List.mem_append.1 hx with hx | hx
     ·exact ho x hx z (by simp[hz])
     ·rw[List.mem_singleton.1 hx];exact hp2.1 z hz) hp2.2 y hy
theorem thin_asc (tw:Int→Int→Bool):∀ {l out:List Int},(∀ x ∈ out,∀ y ∈ l,x<y)→l.Pairwise (·<·)→out.Pairwise (·<·)→(thin tw out l).Pairwise (·<·)
 | [],_,_,_,h=>h
 | i::l,out,ho,hp,h=>by
  have hp2:=(List.pairwise_cons.1 hp)
  refine thin_asc tw (l:=l) (fun x hx z hz=>?_) hp2.2 ?_
  ·split at hx
   ·exact ho x hx z (by simp[hz])
   ·rcases List.mem_append.1 hx with hx | hx
    ·exact ho x hx z (by simp[hz])
    ·rw[List.mem_singleton.1 hx];exact hp2.1 z hz
  ·split
   ·exact h
   ·exact List.pairwise_append.2 ⟨h,by simp,fun x hx z hz=>by rw[List.mem_singleton.1 hz];exact ho x hx i (by simp)⟩
theorem freeC_asc (pl:List Int):(freeC b pl).Pairwise (·<·):=by
 refine List.Pairwise.filter _ (List.pairwise_map.2 ?_)
 exact List.pairwise_lt_range.imp fun h=>by omega
def twinB (b:Big) (x y:Int):Bool:=
 decide ((at' b.nodes x).control=(at' b.nodes y).control) && decide ((at' b.nodes x).parent=(at' b.nodes y).parent) && decide ((at' b.nodes x).links=(at' b.nodes y).links) &&
  b.nodes.all (fun n=>decide (n.parent ≠ x) && decide (n.parent ≠ y)) && b.sites.all (fun p=>decide (p ≠ x) && decide (p ≠ y))
theorem twinB_iff {x y:Int} (h:twinB b x y=true):Twin b x y:=by
 simp only[twinB,Bool.and_eq_true,decide_eq_true_eq,List.all_eq_true] at h
 obtain⟨⟨⟨⟨h1,h2⟩,h3⟩,h4⟩,h5⟩:=h
 have hm:∀ i:Int,0≤i∧i<b.nodes.length→at' b.nodes i ∈ b.nodes:=fun i hi=>by
  have:i.toNat<b.nodes.length:=by omega
  rw[at',show b.nodes.getD i.toNat default=b.nodes[i.toNat] by simp[this]]
  exact List.getElem_mem this
 exact⟨h1,h2,h3,fun i hi=>(h4 _ (hm i hi)).1,fun i hi=>(h4 _ (hm i hi)).2,fun p hp=>(h5 p hp).1,fun p hp=>(h5 p hp).2⟩
def freeT (b:Big) (pl:List Int):List Int:=thin (twinB b) [] (freeC b pl)
def leastC (b:Big) (s:Cz):List Int→List Int
 | []=>[]
 | k::l=>l.foldl (fun a k=>if cmpL (chunkC b s k).1 a<0 then (chunkC b s k).1 else a) (chunkC b s k).1
theorem foldl_least (f:Int→List Int):∀ (l:List Int) (a:List Int),(l.foldl (fun a k=>if cmpL (f k) a<0 then f k else a) a=a∨∃ k ∈ l,l.foldl (fun a k=>if cmpL (f k) a<0 then f k else a) a=f k)∧¬ cmpL a (l.foldl (fun a k=>if cmpL (f k) a<0 then f k else a) a)<0∧∀ k ∈ l,¬ cmpL (f k) (l.foldl (fun a k=>if cmpL (f k) a<0 then f k else a) a)<0
 | [],a=>⟨.inl rfl,by simp[cmpL_refl],by simp⟩
 | k::l,a=>by
  obtain⟨h1,h2,h3⟩:=foldl_least f l (if cmpL (f k) a<0 then f k else a)
  simp only[List.foldl_cons]
  generalize l.foldl (fun a k=>if cmpL (f k) a<0 then f k else a) (if cmpL (f k) a<0 then f k else a)=r at h1 h2 h3
  by_cases h:cmpL (f k) a<0
  ·rw[if_pos h] at h1 h2
   refine⟨.inr ?_,fun h4=>h2 (cmpL_trans h h4),fun j hj=>?_⟩
   ·rcases h1 with h1 | ⟨j,hj,h1⟩
    ·exact⟨k,by simp,h1⟩
    ·exact⟨j,by simp[hj],h1⟩
   ·rcases List.mem_cons.1 hj with rfl | hj
    ·exact h2
    ·exact h3 j hj
  ·rw[if_neg h] at h1 h2
   refine⟨?_,h2,fun j hj=>?_⟩
   ·rcases h1 with h1 | ⟨j,hj,h1⟩
    ·exact .inl h1
    ·exact .inr ⟨j,by simp[hj],h1⟩
   ·rcases List.mem_cons.1 hj with rfl | hj
    ·exact fun h4=>h2 (cmpL_le_lt h h4)
    ·exact h3 j hj
theorem leastC_is (s:Cz) {l:List Int} (hl:l ≠ []):(∃ k ∈ l,leastC b s l=(chunkC b s k).1)∧∀ k ∈ l,¬ cmpL (chunkC b s k).1 (leastC b s l)<0:=by
 cases l with
 | nil=>exact absurd rfl hl
 | cons k l=>
  obtain⟨h1,h2,h3⟩:=foldl_least (fun k=>(chunkC b s k).1) l (chunkC b s k).1
  refine⟨?_,fun j hj=>?_⟩
  ·rcases h1 with h1 | ⟨j,hj,h1⟩
   ·exact⟨k,by simp,h1⟩
   ·exact⟨j,by simp[hj],h1⟩
  ·rcases List.mem_cons.1 hj with rfl | hj
   ·exact h2
   ·exact h3 j hj
abbrev AccB:=List Int × List Int × Bool
def pickB (f:Int→Bool) (g:Int→P2) (a:AccB) (k:Int):AccB:=if f k then (if a.2.2=false∨cmpL (g k).1 a.1<0 then ((g k).1,k::(g k).2,true) else a) else a
theorem pickB_fold (f:Int→Bool) (g:Int→P2):∀ (l pre:List Int) (a:AccB),(pre++l).Pairwise (·<·)→(a.2.2=true∧(∃ k ∈ pre,f k=true∧a.1=(g k).1∧a.2.1=k::(g k).2∧∀ j ∈ pre,f j=true→¬ ltP ((g j).1,j::(g j).2) (a.1,a.2.1))∨a.2.2=false∧∀ j ∈ pre,f j=false) →
  (∃ k ∈ pre++l,f k=true)→∃ k ∈ pre++l,f k=true∧(l.foldl (pickB f g) a).1=(g k).1∧(l.foldl (pickB f g) a).2.1=k::(g k).2∧∀ j ∈ pre++l,f j=true→¬ ltP ((g j).1,j::(g j).2) ((l.foldl (pickB f g) a).1,(l.foldl (pickB f g) a).2.1)
 | [],pre,a,hp,h,he=>by
  simp only[List.append_nil] at he ⊢
  rcases h with ⟨_,h⟩ | ⟨_,h⟩
  ·exact h
  ·obtain⟨k,hk,hf⟩:=he
   rw[h k hk] at hf;cases hf
 | i::l,pre,a,hp,h,he=>by
  have:=pickB_fold f g l (pre++[i]) (pickB f g a i) (by simpa using hp) ?_ (by simpa using he)
  ·simpa using this
  ·unfold pickB
   by_cases hi:f i=true
   ·rw[if_pos hi]
    by_cases hc:a.2.2=false∨cmpL (g i).1 a.1<0
    ·rw[if_pos hc]
     refine .inl ⟨rfl,i,by simp,hi,rfl,rfl,fun j hj hfj=>?_⟩
     rcases List.mem_append.1 hj with hj | hj
     ·rcases h with ⟨h1,k,hk,hf,e1,e2,h2⟩ | ⟨h1,h2⟩
      ·rcases hc with hc | hc
       ·rw[h1] at hc;cases hc
       ·intro hlt
        refine h2 j hj hfj (ltP_trans hlt (.inl hc))
      ·rw[h2 j hj] at hfj;cases hfj
     ·rw[List.mem_singleton.1 hj];exact ltP_irrefl _
    ·rw[if_neg hc]
     rcases h with ⟨h1,k,hk,hf,e1,e2,h2⟩ | ⟨h1,h2⟩
     ·refine .inl ⟨h1,k,by simp[hk],hf,e1,e2,fun j hj hfj=>?_⟩
      rcases List.mem_append.1 hj with hj | hj
      ·exact h2 j hj hfj
      ·rw[List.mem_singleton.1 hj]
       have hki:k<i:=(List.pairwise_append.1 hp).2.2 k hk i (by simp)
       rintro (hlt | ⟨_,hlt⟩)
       ·exact hc (.inr hlt)
       ·simp only[e2] at hlt
        rw[cmpL,if_neg (by omega),if_pos hki] at hlt;omega
     ·exact absurd (.inl h1) hc
   ·rw[if_neg hi]
    rcases h with ⟨h1,k,hk,hf,e1,e2,h2⟩ | ⟨h1,h2⟩
    ·refine .inl ⟨h1,k,by simp[hk],hf,e1,e2,fun j hj hfj=>?_⟩
     rcases List.mem_append.1 hj with hj | hj
     ·exact h2 j hj hfj
     ·rw[List.mem_singleton.1 hj] at hfj;exact absurd hfj hi
    ·refine .inr ⟨h1,fun j hj=>?_⟩
     rcases List.mem_append.1 hj with hj | hj
     ·exact h2 j hj
     ·rw[List.mem_singleton.1 hj];simpa using hi
def bestC (b:Big):Nat→Cz→P2
 | 0,s=>((tailC b s).1,[])
 | m+1,s=>let r:=(freeT b s.pl).foldl (pickB (fun k=>decide ((chunkC b s k).1=leastC b s (freeT b s.pl))) fun k=>bestC b m (stepC b s k)) ([],[],false)
  (leastC b s (freeT b s.pl)++r.1,r.2.1)
theorem bestC_min (he:Even b) (hd:Downs b) (hs:∀ p ∈ b.sites,p<b.nodes.length):∀ {m:Nat} {s:Cz},Fit b m s→IsMin (comps b m s) (bestC b m s)
 | 0,s,_=>⟨List.mem_singleton.2 rfl,fun x hx=>by rw[List.mem_singleton.1 hx];exact ltP_irrefl _⟩
 | m+1,s,h=>by
  have hin:∀ k ∈ freeT b s.pl,k ∈ freeC b s.pl:=fun k hk=>(thin_in _ hk).resolve_left (by simp)
  have hhas:=thin_has (twinB b) (l:=freeC b s.pl) (out:=[]) (by simp) (freeC_asc s.pl)
  have hne:freeT b s.pl ≠ []:=by
   obtain⟨k,hk⟩:=free_some hd h
   rcases hhas k hk with h1 | ⟨x,h1,_⟩<;>intro e<;>rw[freeT] at e<;>rw[e] at h1<;>cases h1
  obtain⟨⟨k0,hk0,e0⟩,hle⟩:=leastC_is (b:=b) s hne
  have hasc:(freeT b s.pl).Pairwise (·<·):=thin_asc _ (by simp) (freeC_asc s.pl) (by simp)
  obtain⟨k,hk,hf,e1,e2,hmin⟩:=pickB_fold (fun k=>decide ((chunkC b s k).1=leastC b s (freeT b s.pl))) (fun k=>bestC b m (stepC b s k)) (freeT b s.pl) [] ([],[],false) (by simpa using hasc) (.inr ⟨rfl,by simp⟩) ⟨k0,by simpa using hk0,by simp[e0]⟩
  simp only[List.nil_append] at hk hmin
  simp only[decide_eq_true_eq] at hf hmin
  have eb:bestC b (m+1) s=((chunkC b s k).1++(bestC b m (stepC b s k)).1,k::(bestC b m (stepC b s k)).2):=by
   rw[bestC];simp only[e1,e2,hf]
  have ih:=bestC_min he hd hs (h.step (hin k hk))
  -- what is no less than something that is no less
  have hT:∀ j ∈ freeT b s.pl,∀ q ∈ comps b m (stepC b s j),¬ ltP ((chunkC b s j).1++q.1,j::q.2) (bestC b (m+1) s):=by
   intro j hj q hq hlt
   rw[eb] at hlt
   by_cases hc:(chunkC b s j).1=leastC b s (freeT b s.pl)
   ·have ihj:=(bestC_min he hd hs (h.step (hin j hj))).2 q hq
    have hm:=hmin j hj hc
    rw[e1,e2] at hm
    rw[hc,hf] at hlt
    rcases hlt with hlt | ⟨hlt,hlt2⟩
    ·rw[cmpL_append] at hlt
     exact hm (.inl (cmpL_le_lt (fun h'=>ihj (.inl h')) hlt))
    ·simp only[List.append_cancel_left_eq] at hlt
     have h3:¬ cmpL q.1 (bestC b m (stepC b s j)).1<0:=fun h'=>ihj (.inl h')
     rw[hlt] at h3
     rcases Int.lt_trichotomy (cmpL (bestC b m (stepC b s j)).1 (bestC b m (stepC b s k)).1) 0 with h4 | h4 | h4
     ·exact hm (.inl h4)
     ·have h5:=cmpL_eq h4
      rcases Int.lt_trichotomy j k with h6 | h6 | h6
      ·exact hm (.inr ⟨h5,by simp[cmpL,h6]⟩)
      ·subst h6
       simp only[cmpL,Int.lt_irrefl,if_false] at hlt2
       exact ihj (.inr ⟨hlt,hlt2⟩)
      ·simp only[cmpL] at hlt2
       rw[if_neg (by omega),if_pos h6] at hlt2;omega
     ·exact h3 (by rw[cmpL_neg (bestC b m (stepC b s j)).1];omega)
   ·have h1:cmpL (leastC b s (freeT b s.pl)) (chunkC b s j).1<0:=by
     have:=hle j hj
     rcases Int.lt_trichotomy (cmpL (leastC b s (freeT b s.pl)) (chunkC b s j).1) 0 with h4 | h4 | h4
     ·exact h4
     ·exact absurd (cmpL_eq h4).symm hc
     ·exact absurd (by rw[cmpL_neg (leastC b s (freeT b s.pl))];omega) this
    obtain⟨x1,c1,p1,l1⟩:=chunk_wid he s (mem_freeC.1 (hin k hk)).1
    obtain⟨x2,c2,p2,l2⟩:=chunk_wid he s (mem_freeC.1 (hin j hj)).1
    have hch1:Ch (wid b) 1 (chunkC b s k).1:=⟨x1,c1,[],by simp[p1],l1,rfl⟩
    have hch2:Ch (wid b) 1 (chunkC b s j).1:=⟨x2,c2,[],by simp[p2],l2,rfl⟩
    rw[← hf] at h1
    have:=Ch.lt (bestC b m (stepC b s k)).1 q.1 hch1 hch2 h1
    exact ltP_irrefl _ (ltP_trans hlt (.inl this))
  refine⟨eb ▸ comps_succ.2 ⟨k,hin k hk,_,ih.1,rfl⟩,fun p hp hlt=>?_⟩
  obtain⟨j,hj,q,hq,rfl⟩:=comps_succ.1 hp
  rcases hhas j hj with h1 | ⟨x,h1,htw,hxy⟩
  ·exact hT j h1 q hq hlt
  ·obtain⟨q',hq',hlt'⟩:=comps_twin (twinB_iff htw) hd hs h.len h.low' (hin x h1) hj hxy hq
   exact hT x h1 q' hq' (ltP_trans hlt' hlt)
end
structure Att where
 order:List Int
 s:Cz
 code:List Int
section
variable (b:Big)
def extC (a:Att):List Att:=(freeC b a.s.pl).map fun k=>⟨a.order++[k],stepC b a.s k,a.code++(chunkC b a.s k).1⟩
def putA (out:List Att) (x:Att):List Att:=
 match out with
 | []=>[x]
 | w::t=>if cmpL x.code w.code<0 then [x] else if cmpL x.code w.code=0 then (w::t)++[x] else w::t
def leastA (l:List Att):List Att:=l.foldl putA []
def restC (a:Att):Att:=⟨a.order,⟨(tailC b a.s).2,a.s.pl,a.s.num⟩,a.code++(tailC b a.s).1⟩
def layersC:Nat→List Att→List Att
 | 0,l=>l
 | m+1,l=>layersC m (leastA (l.flatMap (extC b)))
def firstA (l:List Att) (d:Att):Att:=l.foldl (fun best x=>if cmpL x.order best.order<0 then x else best) d
def s0C:Cz:=⟨[],List.replicate b.nodes.length (-1),0⟩
end
section
variable {b:Big}
theorem leastA_fold:∀ (l pre out:List Att),(∀ x,x ∈ out↔x ∈ pre∧∀ y ∈ pre,¬ cmpL y.code x.code<0)→(pre ≠ []→out ≠ []) →
  (∀ x,x ∈ l.foldl putA out↔x ∈ pre++l∧∀ y ∈ pre++l,¬ cmpL y.code x.code<0) ∧
  (pre++l ≠ []→l.foldl putA out ≠ [])
 | [],pre,out,h,hn=>by
  simp only[List.append_nil,List.foldl_nil]
  exact⟨h,hn⟩
 | z::l,pre,out,h,hn=>by
  have:=leastA_fold l (pre++[z]) (putA out z) ?_ ?_
  ·simpa only [List.append_assoc,List.singleton_append,List.foldl_cons] using this
  ·intro x
   cases out with
   | nil=>
    have hp:pre=[]:=by
     rcases List.eq_nil_or_concat pre with hp | ⟨_,_,hp⟩
     ·exact hp
     ·exact absurd rfl (hn (by rw[hp];simp))
    subst hp
    simp only[putA,List.nil_append,List.mem_singleton,forall_eq]
    exact⟨fun e=>⟨e,by rw[e,cmpL_refl];omega⟩,fun e=>e.1⟩
   | cons w t=>
    obtain⟨hw1,hw2⟩:=(h w).1 (by simp)
    have hsame:∀ v ∈ pre,(∀ y ∈ pre,¬ cmpL y.code v.code<0)→v.code=w.code:=fun v hv h1=>by
     have a1:=h1 w hw1
     have a2:=hw2 v hv
     have:=cmpL_neg v.code w.code
     exact cmpL_eq (by omega)
    simp only[putA]
    by_cases h1:cmpL z.code w.code<0
    ·rw[if_pos h1]
     simp only[List.mem_singleton,List.mem_append]
     constructor
     ·rintro rfl
      refine⟨.inr rfl,fun y hy=>?_⟩
      rcases hy with hy | rfl
      ·intro h2;exact hw2 y hy (cmpL_trans h2 h1)
      ·rw[cmpL_refl];omega
     ·rintro⟨hx | rfl,h2⟩
      ·have e:=hsame x hx fun y hy=>h2 y (.inl hy)
       exact absurd (e ▸ h1) (h2 z (.inr rfl))
      ·rfl
    ·rw[if_neg h1]
     by_cases h2:cmpL z.code w.code=0
     ·rw[if_pos h2]
      have e2:=cmpL_eq h2
      rw[List.mem_append,List.mem_singleton,h x]
      simp only[List.mem_append,List.mem_singleton]
      constructor
      ·rintro (⟨hx,h3⟩ | rfl)
       ·refine⟨.inl hx,fun y hy=>?_⟩
        rcases hy with hy | rfl
        ·exact h3 y hy
        ·rw[e2,← hsame x hx h3,cmpL_refl];omega
       ·refine⟨.inr rfl,fun y hy=>?_⟩
        rcases hy with hy | rfl
        ·rw[e2];exact hw2 y hy
        ·rw[cmpL_refl];omega
      ·rintro⟨hx | rfl,h3⟩
       ·exact .inl ⟨hx,fun y hy=>h3 y (.inl hy)⟩
       ·exact .inr rfl
     ·rw[if_neg h2,h x]
      simp only[List.mem_append,List.mem_singleton]
      have h4:cmpL w.code z.code<0:=by rw[cmpL_neg z.code];omega
      constructor
      ·rintro⟨hx,h3⟩
       refine⟨.inl hx,fun y hy=>?_⟩
       rcases hy with hy | rfl
       ·exact h3 y hy
       ·rw[hsame x hx h3];exact h1
      ·rintro⟨hx | rfl,h3⟩
       ·exact⟨hx,fun y hy=>h3 y (.inl hy)⟩
       ·exact absurd h4 (h3 w (.inl hw1))
  ·intro _
   unfold putA
   repeat' split
   all_goals simp
theorem mem_leastA {l:List Att} {x:Att}:x ∈ leastA l↔x ∈ l∧∀ y ∈ l,¬ cmpL y.code x.code<0:=(leastA_fold l [] [] (by simp) (by simp)).1 x
theorem leastA_ne {l:List Att} (h:l ≠ []):leastA l ≠ []:=(leastA_fold l [] [] (by simp) (by simp)).2 h
theorem s0_fit:Fit b b.nodes.length (s0C b):=by
 refine⟨by simp[s0C],by simp[s0C],?_,fun v hv=>?_⟩
 ·have:(List.replicate b.nodes.length (-1:Int)).filter (fun x=>decide (x<0))=List.replicate b.nodes.length (-1):=List.filter_eq_self.2 fun x hx=>by rw[(List.mem_replicate.1 hx).2];rfl
  simp only[s0C];rw[this];simp
 ·simp only[s0C] at hv;rw[(List.mem_replicate.1 hv).2];omega
structure Lay (b:Big) (m:Nat) (l:List Att):Prop where
 fit:∀ a ∈ l,Fit b m a.s
 run:∀ a ∈ l,a.s=a.order.foldl (stepC b) (s0C b)
 nd:∀ a ∈ l,a.order.length+m=b.nodes.length
 ch:∀ a ∈ l,Ch (wid b) a.order.length a.code
 sound:∀ a ∈ l,∀ q ∈ comps b m a.s,(a.code++q.1,a.order++q.2) ∈ comps b b.nodes.length (s0C b)
 cover:∀ p ∈ comps b b.nodes.length (s0C b),∃ a ∈ l,∃ q ∈ comps b m a.s,¬ ltP p (a.code++q.1,a.order++q.2)
theorem lay0:Lay b b.nodes.length [⟨[],s0C b,[]⟩] where
 fit a ha:=by rw[List.mem_singleton.1 ha];exact s0_fit
 run a ha:=by rw[List.mem_singleton.1 ha];rfl
 nd a ha:=by rw[List.mem_singleton.1 ha];simp
 ch a ha:=by rw[List.mem_singleton.1 ha];rfl
 sound a ha q hq:=by rw[List.mem_singleton.1 ha] at hq ⊢;simpa using hq
 cover p hp:=⟨_,List.mem_singleton.2 rfl,p,hp,ltP_irrefl _⟩
theorem lay_ext (he:Even b) {m:Nat} {l:List Att} (h:Lay b (m+1) l):Lay b m (l.flatMap (extC b)):=by
 have hm:∀ x,x ∈ l.flatMap (extC b)↔∃ a ∈ l,∃ k ∈ freeC b a.s.pl,x=⟨a.order++[k],stepC b a.s k,a.code++(chunkC b a.s k).1⟩:=fun x=>by
  simp only[extC,List.mem_flatMap,List.mem_map,eq_comm]
 refine⟨fun x hx=>?_,fun x hx=>?_,fun x hx=>?_,fun x hx=>?_,fun x hx q hq=>?_,fun p hp=>?_⟩
 ·obtain⟨a,ha,k,hk,rfl⟩:=(hm x).1 hx
  exact (h.fit a ha).step hk
 ·obtain⟨a,ha,k,hk,rfl⟩:=(hm x).1 hx
  simp only[List.foldl_append,List.foldl_cons,List.foldl_nil,← h.run a ha]
 ·obtain⟨a,ha,k,hk,rfl⟩:=(hm x).1 hx
  have:=h.nd a ha
  simp;omega
 ·obtain⟨a,ha,k,hk,rfl⟩:=(hm x).1 hx
  obtain⟨y,c,e1,e2⟩:=chunk_wid he a.s (mem_freeC.1 hk).1
  have:=(h.ch a ha).snoc e2
  simp only[e1,List.length_append,List.length_cons,List.length_nil]
  exact this
 ·obtain⟨a,ha,k,hk,rfl⟩:=(hm x).1 hx
  have:=h.sound a ha _ (comps_succ.2 ⟨k,hk,q,hq,rfl⟩)
  simpa using this
 ·obtain⟨a,ha,q,hq,hlt⟩:=h.cover p hp
  obtain⟨k,hk,q2,hq2,rfl⟩:=comps_succ.1 hq
  exact⟨_,(hm _).2 ⟨a,ha,k,hk,rfl⟩,q2,hq2,by simpa using hlt⟩
theorem not_lt_trans {p x y:P2} (h:¬ ltP p x) (k:ltP y x):¬ ltP p y:=fun h'=>h (ltP_trans h' k)
theorem lay_least (hd:Downs b) {m:Nat} {l:List Att} (h:Lay b m l):Lay b m (leastA l):=by
 refine⟨fun x hx=>h.fit x (mem_leastA.1 hx).1,fun x hx=>h.run x (mem_leastA.1 hx).1,fun x hx=>h.nd x (mem_leastA.1 hx).1,fun x hx=>h.ch x (mem_leastA.1 hx).1,fun x hx=>h.sound x (mem_leastA.1 hx).1,fun p hp=>?_⟩
 obtain⟨a,ha,q,hq,hlt⟩:=h.cover p hp
 obtain⟨z,hz⟩:=List.exists_mem_of_ne_nil _ (leastA_ne (fun e=>by rw[e] at ha;cases ha):leastA l ≠ [])
 obtain⟨hz1,hz2⟩:=mem_leastA.1 hz
 rcases Int.lt_trichotomy (cmpL z.code a.code) 0 with h1 | h1 | h1
 ·obtain⟨q',hq'⟩:=comps_some hd (h.fit z hz1)
  refine⟨z,hz,q',hq',not_lt_trans hlt (.inl ?_)⟩
  have c1:=h.ch z hz1
  have c2:=h.ch a ha
  have e:z.order.length=a.order.length:=by have:=h.nd z hz1;have:=h.nd a ha;omega
  rw[e] at c1
  exact Ch.lt q'.1 q.1 c1 c2 h1
 ·refine⟨a,mem_leastA.2 ⟨ha,fun y hy=>?_⟩,q,hq,hlt⟩
  rw[← cmpL_eq h1];exact hz2 y hy
 ·exact absurd (by rw[cmpL_neg z.code];omega) (hz2 a ha)
theorem lay_all (he:Even b) (hd:Downs b):∀ {m:Nat} {l:List Att},Lay b m l→Lay b 0 (layersC b m l)
 | 0,_,h=>h
 | m+1,l,h=>by rw[layersC];exact lay_all he hd (lay_least hd (lay_ext he h))
theorem firstA_is:∀ (l:List Att) (d:Att),(firstA l d=d∨firstA l d ∈ l)∧¬ cmpL d.order (firstA l d).order<0∧∀ x ∈ l,¬ cmpL x.order (firstA l d).order<0
 | [],d=>⟨.inl rfl,by simp[firstA,cmpL_refl],by simp⟩
 | x::l,d=>by
  obtain⟨h1,h2,h3⟩:=firstA_is l (if cmpL x.order d.order<0 then x else d)
  have e:firstA (x::l) d=firstA l (if cmpL x.order d.order<0 then x else d):=rfl
  rw[e]
  generalize firstA l (if cmpL x.order d.order<0 then x else d)=r at h1 h2 h3
  by_cases h:cmpL x.order d.order<0
  ·rw[if_pos h] at h1 h2
   refine⟨.inr ?_,fun h4=>h2 (cmpL_trans h h4),fun j hj=>?_⟩
   ·rcases h1 with h1 | h1
    ·simp[h1]
    ·simp[h1]
   ·rcases List.mem_cons.1 hj with rfl | hj
    ·exact h2
    ·exact h3 j hj
  ·rw[if_neg h] at h1 h2
   refine⟨?_,h2,fun j hj=>?_⟩
   ·rcases h1 with h1 | h1
    ·exact .inl h1
    ·simp[h1]
   ·rcases List.mem_cons.1 hj with rfl | hj
    ·exact fun h4=>h2 (cmpL_le_lt h h4)
    ·exact h3 j hj
theorem search_same (he:Even b) (hd:Downs b) (hs:∀ p ∈ b.sites,p<b.nodes.length) {l:List Att} (hl:l=leastA ((layersC b b.nodes.length [⟨[],s0C b,[]⟩]).map (restC b))) (d:Att) (hdl:d ∈ l) :
  ((firstA l d).code,(firstA l d).order)=bestC b b.nodes.length (s0C b)∧firstA l d=restC b ⟨(firstA l d).order,(firstA l d).order.foldl (stepC b) (s0C b),((firstA l d).code.take ((firstA l d).code.length - (tailC b ((firstA l d).order.foldl (stepC b) (s0C b))).1.length))⟩:=by
 have hL:=lay_all he hd (lay0 (b:=b))
 generalize layersC b b.nodes.length [⟨[],s0C b,[]⟩]=L at hL hl
 obtain⟨f1,f2,f3⟩:=firstA_is l d
 have hf:firstA l d ∈ l:=by
  rcases f1 with f1 | f1
  ·rw[f1];exact hdl
  ·exact f1
 generalize firstA l d=r at f1 f2 f3 hf
 subst hl
 obtain⟨g1,g2⟩:=mem_leastA.1 hf
 obtain⟨a,ha,rfl⟩:=List.mem_map.1 g1
 have hrun:=hL.run a ha
 refine⟨IsMin.uniq ⟨?_,fun p hp hlt=>?_⟩ (bestC_min he hd hs s0_fit),?_⟩
 ·have:=hL.sound a ha _ (List.mem_singleton.2 rfl)
  simpa[restC] using this
 ·obtain⟨a',ha',q,hq,hn⟩:=hL.cover p hp
  simp only[comps,List.mem_singleton] at hq
  subst hq
  have hm':restC b a' ∈ L.map (restC b):=List.mem_map.2 ⟨a',ha',rfl⟩
  have e1:=g2 _ hm'
  refine hn ?_
  have hlt':ltP p ((restC b a).code,(restC b a).order):=hlt
  have:ltP p ((restC b a').code,(restC b a').order):=by
   rcases Int.lt_trichotomy (cmpL (restC b a).code (restC b a').code) 0 with h1 | h1 | h1
   ·exact ltP_trans hlt' (.inl h1)
   ·have h2:=cmpL_eq h1
    have h3:=f3 _ (mem_leastA.2 ⟨hm',fun y hy=>by rw[← h2];exact g2 y hy⟩)
    rcases Int.lt_trichotomy (cmpL (restC b a).order (restC b a').order) 0 with h4 | h4 | h4
    ·exact ltP_trans hlt' (.inr ⟨h2,h4⟩)
    ·rw[h2,cmpL_eq h4] at hlt';exact hlt'
    ·exact absurd (by rw[cmpL_neg (restC b a).order];omega) h3
   ·exact absurd (by rw[cmpL_neg (restC b a).code];omega) e1
  simpa[restC] using this
 ·have e:(restC b a).order=a.order:=rfl
  rw[e,← hrun]
  simp[restC]
end
end Go.Ab.Vg
/- Contracts of spec.l1In, spec.l2Name and spec.l12Good. -/
namespace Go.Ab
open Go.Proofs
set_option linter.unusedSimpArgs false
theorem e76:Ent Tryz.prog 76:=Ent.of Tryz.func76 (by kernel_rfl) rfl
theorem e127:Ent Tryz.prog 127:=Ent.of Tryz.func127 (by kernel_rfl) rfl
theorem l1In_ok (n lo hi:Int):PureC Tryz.prog 76 [int n,int lo,int hi] (fun r=>r=bool (within n lo hi)):=by
 refine PureC.of Tryz.func76 rfl Tryz.ntmps76 (by simp) fun Q hQ=>?_
 refine Runs.seqE Ty_ok (by decide) fun k' hk'=>?_
 simp
 refine hk' _ _ _ (Runs.seqE Ty_ok (by decide) fun k' hk'=>?_)
 simp
 by_cases h:lo≤n
 all_goals
  simp[h]
  refine hk' _ _ _ (Runs.ret Tryz.func76 (RetOk.one Tryz.results76) (hQ _ _ _ _ (ResOk.v _ _ _) ?_))
  simp[within,h]
theorem isNm_bad {s:Str} {k:Nat} (hk:k<s.length) (h:lower s[k]=false):isNm s=false:=by
 have:s.all lower=false:=by
  rw[List.all_eq_false]
  exact⟨s[k],List.getElem_mem hk,by simp[h]⟩
 simp[isNm,this]
theorem l2Name_ok (s:Str) (hs:s.length≤4294967296):PureC Tryz.prog 127 [str s] (fun r=>r=bool (isNm s)):=by
 refine PureC.of Tryz.func127 rfl Tryz.ntmps127 (by simp) fun Q hQ=>?_
 refine Runs.seqE Ty_ok (by decide) fun k' hk'=>?_
 simp   -- R0
 apply hk'
 refine Runs.seq ?_
 refine Runs.seqE Ty_ok (by decide) fun k' hk'=>?_
 simp   -- R1
 apply hk'
 refine Runs.block (Runs.loopUp s.length (fun k ρ H n=>ρ 0=str s∧ρ 3=int k∧(s.take k).all lower=true) ?_ ?_)
 ·simp
 ·rintro k ρ H n hk ⟨h0,h3,hall⟩ IH
  refine Runs.seq ?_
  refine Runs.seqE Ty_ok (by decide) fun k' hk'=>?_
  simp [h0, h3]   -- R2
  apply hk'
  refine Runs.ite rfl (fun hc1 => ?_) (fun hc1 => ?_)   -- t7
  ·simp at hc1
   refine Runs.skip ?_
   refine Runs.seq ?_
   refine Runs.block ?_
   refine Runs.seqE Ty_ok (by decide) fun k' hk'=>?_
   simp [h0, h3, hc1]   -- R4
   by_cases ha:(s[k].toNat:Int)<97
   ·simp[ha]
    apply hk'
    refine Runs.ite rfl (fun _=>?_) (fun h=>by simp at h)
    refine Runs.seqE Ty_ok (by decide) fun k' hk'=>?_
    simp   -- R5
    apply hk'
    refine Runs.ret Tryz.func127 (RetOk.one Tryz.results127) (hQ _ _ _ _ (.v _ _ _) ?_)
    rw[isNm_bad hc1 (by simp[lower];omega)]
   ·by_cases hz:(122:Int)<s[k].toNat
    ·simp[ha,hz,h0,h3,hc1]
     apply hk'
     refine Runs.ite rfl (fun _=>?_) (fun h=>by simp at h)
     refine Runs.seqE Ty_ok (by decide) fun k' hk'=>?_
     simp   -- R5
     apply hk'
     refine Runs.ret Tryz.func127 (RetOk.one Tryz.results127) (hQ _ _ _ _ (.v _ _ _) ?_)
     rw[isNm_bad hc1 (by simp[lower];omega)]
    ·simp[ha,hz,h0,h3,hc1]
     apply hk'
     refine Runs.ite rfl (fun h=>by simp at h) (fun _=>?_)
     refine Runs.skip ?_
     refine Runs.inBlock ?_
     refine Runs.evalE Ty_ok (by decide) fun k' hk'=>?_
     simp [h3, wrap_succ (show k < 4611686018427387904 by omega)]   -- R3
     apply hk'
     refine IH hc1 _ _ _ ?_
     rw[List.take_succ_eq_append_getElem hc1,List.all_append,hall]
     simp[h0,lower]
     omega
  ·simp at hc1
   refine Runs.exit rfl ?_
   refine Runs.seqE Ty_ok (by decide) fun k' hk'=>?_
   simp [h0]   -- R6
   refine RunK.callA Ty_ok (l1In_ok s.length 1 4) e76 (.cons (.v _ _ _) (.cons (.v _ _ _) (.cons (.v _ _ _) .nil))) (by decide) (by decide) rfl (by simp) ?_
   rintro _ rfl
   simp
   apply hk'
   refine Runs.ret Tryz.func127 (RetOk.one Tryz.results127) (hQ _ _ _ _ (.v _ _ _) ?_)
   rw[List.take_of_length_le hc1] at hall
   simp only[isNm,hall,Bool.and_true]
end Go.Ab
/- Contracts of impl.isLink, impl.isParent, impl.isNode and of their like in the reference. -/
namespace Go.Ab
open Go.Proofs
set_option linter.unusedSimpArgs false
theorem e96:Ent Tryz.prog 96:=Ent.of Tryz.func96 (by kernel_rfl) rfl
theorem e81:Ent Tryz.prog 81:=Ent.of Tryz.func81 (by kernel_rfl) rfl
theorem e93:Ent Tryz.prog 93:=Ent.of Tryz.func93 (by kernel_rfl) rfl
theorem e80:Ent Tryz.prog 80:=Ent.of Tryz.func80 (by kernel_rfl) rfl
theorem isLink_ok (b:Big) (l:Int) (he:0≤b.edges∧b.edges≤8) (ho:b.outer.length≤1048576):PureC Tryz.prog 96 [encB false b,int l] (fun r=>r=bool (okLink b l)):=by
 have hw1:IntKind.i64.wrap (b.edges+b.outer.length)=b.edges+b.outer.length:=by rw[wrap64]<;>omega
 have hw2:IntKind.i64.wrap (b.edges+b.outer.length - 1)=b.edges+b.outer.length - 1:=by rw[wrap64]<;>omega
 refine PureC.of Tryz.func96 rfl Tryz.ntmps96 (by simp) fun Q hQ=>?_
 refine Runs.seqE Ty_ok (by decide) fun k' hk'=>?_
 simp [encB, Big.cells]   -- R0
 apply hk'
 refine Runs.seqE Ty_ok (by decide) fun k' hk'=>?_
 simp [encS, hw1, hw2]   -- R1
 refine RunK.callA Ty_ok (within_ok l 0 (b.edges+b.outer.length - 1)) e90 (.cons (.v _ _ _) (.cons (.v _ _ _) (.cons (.v _ _ _) .nil))) (by decide) (by decide) rfl (by simp) ?_
 rintro _ rfl
 simp
 apply hk'
 exact Runs.ret Tryz.func96 (RetOk.one Tryz.results96) (hQ _ _ _ _ (.v _ _ _) rfl)
theorem l2Link_ok (b:Big) (l:Int) (he:0≤b.edges∧b.edges≤8) (ho:b.outer.length≤1048576):PureC Tryz.prog 81 [encB false b,int l] (fun r=>r=bool (okLink b l)):=by
 have hw1:IntKind.i64.wrap (b.edges+b.outer.length)=b.edges+b.outer.length:=by rw[wrap64]<;>omega
 have hw2:IntKind.i64.wrap (b.edges+b.outer.length - 1)=b.edges+b.outer.length - 1:=by rw[wrap64]<;>omega
 refine PureC.of Tryz.func81 rfl Tryz.ntmps81 (by simp) fun Q hQ=>?_
 refine Runs.seqE Ty_ok (by decide) fun k' hk'=>?_
 simp [encB, Big.cells]   -- R0
 apply hk'
 refine Runs.seqE Ty_ok (by decide) fun k' hk'=>?_
 simp [encS, hw1, hw2]   -- R1
 refine RunK.callA Ty_ok (l1In_ok l 0 (b.edges+b.outer.length - 1)) e76 (.cons (.v _ _ _) (.cons (.v _ _ _) (.cons (.v _ _ _) .nil))) (by decide) (by decide) rfl (by simp) ?_
 rintro _ rfl
 simp
 apply hk'
 exact Runs.ret Tryz.func81 (RetOk.one Tryz.results81) (hQ _ _ _ _ (.v _ _ _) rfl)
def isNodeB (b:Big) (x:Int):Bool:=within x 0 ((b.nodes.length:Int) - 1)
def CtlOk (sig:Sig) (b:Big) (below:Nat):Prop:=∀ i,i<below→0≤(b.nodes.getD i default).control∧(b.nodes.getD i default).control<sig.length
theorem isParent_ok (sig:Sig) (b:Big) (parent:Int) (below:Nat) (hr:0≤b.roots∧b.roots≤4) (hb:below≤b.nodes.length) (hc:CtlOk sig b below) :
  PureC Tryz.prog 93 [encB false b,encSig false sig,int parent,int below] (fun r=>r=bool (okParent sig b parent below)):=by
 refine PureC.of Tryz.func93 rfl Tryz.ntmps93 (by simp) fun Q hQ=>?_
 refine Runs.seqE Ty_ok (by decide) fun k' hk'=>?_
 simp [encB, Big.cells]   -- R0
 apply hk'
 refine Runs.seq ?_
 refine Runs.seqE Ty_ok (by decide) fun k' hk'=>?_
 simp   -- R1
 apply hk'
 refine Runs.ite rfl (fun hc1 => ?_) (fun hc1 => ?_)   -- t10
 ·have hc1:parent<0:=by simpa using hc1
  have hw:IntKind.i64.wrap (0 - b.roots) = -b.roots:=by rw[wrap64]<;>omega
  refine Runs.seqE Ty_ok (by decide) fun k' hk'=>?_
  have hw':IntKind.i64.wrap (-b.roots) = -b.roots:=by rw[wrap64]<;>omega
  simp [hw, hw']   -- R2
  apply hk'
  exact Runs.ret Tryz.func93 (RetOk.one Tryz.results93) (hQ _ _ _ _ (.v _ _ _) (by simp[okParent,hc1]))
 ·have hc1:¬ parent<0:=by simpa using hc1
  refine Runs.skip ?_
  refine Runs.seqE Ty_ok (by decide) fun k' hk'=>?_
  by_cases hlt:parent<(below:Int)
  ·obtain⟨q,rfl⟩:∃ q:Nat,parent=q:=⟨parent.toNat,by omega⟩
   have hq:q<b.nodes.length:=by omega
   have hcq:=hc q (by omega)
   have hg:b.nodes.getD q default=b.nodes[q]:=by simp[hq]
   rw[hg] at hcq
   obtain⟨c,hcc⟩:∃ c:Nat,b.nodes[q].control=c:=⟨b.nodes[q].control.toNat,by omega⟩
   have hcl:c<sig.length:=by omega
   simp [hlt, encN, encSig, hq, GNode.cells, hcc, hcl, Control.cells, guardOf]   -- R3
   apply hk'
   refine Runs.ret Tryz.func93 (RetOk.one Tryz.results93) (hQ _ _ _ _ (.v _ _ _) ?_)
   have hlt':q<below:=by omega
   simp[okParent,hlt',hq,hcc,hcl]
   rfl
  ·simp [hlt, guardOf]   -- R3
   apply hk'
   exact Runs.ret Tryz.func93 (RetOk.one Tryz.results93) (hQ _ _ _ _ (.v _ _ _) (by simp[okParent,hc1,hlt]))
theorem l2Under_ok (sig:Sig) (b:Big) (parent:Int) (below:Nat) (hp:I64 parent) (hr:0≤b.roots∧b.roots≤4) (hb:below≤b.nodes.length) (hc:CtlOk sig b below) :
  PureC Tryz.prog 80 [encSig false sig,encB false b,int parent,int below] (fun r=>r=bool (okParent sig b parent below)):=by
 obtain⟨hp1,hp2⟩:=hp
 refine PureC.of Tryz.func80 rfl Tryz.ntmps80 (by simp) fun Q hQ=>?_
 refine Runs.seqE Ty_ok (by decide) fun k' hk'=>?_
 simp [encB, Big.cells]   -- R0
 apply hk'
 refine Runs.seq ?_
 refine Runs.seqE Ty_ok (by decide) fun k' hk'=>?_
 simp   -- R1
 apply hk'
 refine Runs.ite rfl (fun hc1 => ?_) (fun hc1 => ?_)   -- t10
 ·have hc1:parent<0:=by simpa using hc1
  have hw:IntKind.i64.wrap (-1 - parent) = -1 - parent:=by rw[wrap64]<;>omega
  have hw2:IntKind.i64.wrap (b.roots - 1)=b.roots - 1:=by rw[wrap64]<;>omega
  refine Runs.seqE Ty_ok (by decide) fun k' hk'=>?_
  simp [hw, hw2]   -- R2
  refine RunK.callA Ty_ok (l1In_ok (-1 - parent) 0 (b.roots - 1)) e76 (.cons (.v _ _ _) (.cons (.v _ _ _) (.cons (.v _ _ _) .nil))) (by decide) (by decide) rfl (by simp) ?_
  rintro _ rfl
  simp
  apply hk'
  refine Runs.ret Tryz.func80 (RetOk.one Tryz.results80) (hQ _ _ _ _ (.v _ _ _) ?_)
  have:within (-1 - parent) 0 (b.roots - 1)=decide (-b.roots≤parent):=by
   simp only[within]
   by_cases h : -b.roots≤parent
   ·simp[h];omega
   ·simp[h];omega
  simp[okParent,hc1,this]
 ·have hc1:¬ parent<0:=by simpa using hc1
  refine Runs.skip ?_
  refine Runs.seqE Ty_ok (by decide) fun k' hk'=>?_
  by_cases hlt:parent<(below:Int)
  ·obtain⟨q,rfl⟩:∃ q:Nat,parent=q:=⟨parent.toNat,by omega⟩
   have hq:q<b.nodes.length:=by omega
   have hcq:=hc q (by omega)
   have hg:b.nodes.getD q default=b.nodes[q]:=by simp[hq]
   rw[hg] at hcq
   obtain⟨c,hcc⟩:∃ c:Nat,b.nodes[q].control=c:=⟨b.nodes[q].control.toNat,by omega⟩
   have hcl:c<sig.length:=by omega
   simp [hlt, encN, encSig, hq, GNode.cells, hcc, hcl, Control.cells, guardOf]   -- R3
   apply hk'
   refine Runs.ret Tryz.func80 (RetOk.one Tryz.results80) (hQ _ _ _ _ (.v _ _ _) ?_)
   have hlt':q<below:=by omega
   simp[okParent,hlt',hq,hcc,hcl]
   rfl
  ·simp [hlt, guardOf]   -- R3
   apply hk'
   exact Runs.ret Tryz.func80 (RetOk.one Tryz.results80) (hQ _ _ _ _ (.v _ _ _) (by simp[okParent,hc1,hlt]))
end Go.Ab
/- Contracts of impl.areNames and spec.l2Names. -/
namespace Go.Ab
open Go.Proofs
set_option linter.unusedSimpArgs false
theorem e91:Ent Tryz.prog 91:=Ent.of Tryz.func91 (by kernel_rfl) rfl
theorem e77:Ent Tryz.prog 77:=Ent.of Tryz.func77 (by kernel_rfl) rfl
theorem less_not:∀ (s p:Str),(Op.bytesLess s p || s == p) = !Op.bytesLess p s
 | [],[]=>by simp[Op.bytesLess]
 | [],_::_=>by simp[Op.bytesLess]
 | _::_,[]=>by simp[Op.bytesLess]
 | a::x,b::y=>by
  have ih:=less_not x y
  simp only[Op.bytesLess]
  rcases Nat.lt_trichotomy a.toNat b.toNat with h | h | h
  ·have h1:a<b:=h
   have h2:¬ b<a:=fun h'=>by have h':b.toNat<a.toNat:=h';omega
   have h3:(b == a)=false:=by
    rw[beq_eq_false_iff_ne]
    rintro rfl
    omega
   simp[h1,h2,h3]
  ·have h0:a=b:=UInt8.toNat_inj.1 h
   subst h0
   have h2:¬ a<a:=fun h'=>by have h':a.toNat<a.toNat:=h';omega
   simp[h2]
   rw[← ih]
   try (cases Op.bytesLess x y<;>simp)
   try (by_cases hxy:x=y<;>simp[hxy])
  ·have h1:b<a:=h
   have h2:¬ a<b:=fun h'=>by have h':a.toNat<b.toNat:=h';omega
   have h3:(a == b)=false:=by
    rw[beq_eq_false_iff_ne]
    rintro rfl
    omega
   have h4:¬ a=b:=by simpa using h3
   simp[h1,h2,h4]
theorem all_range_bad {n k:Nat} {q:Nat→Bool} (hk:k<n) (h:q k=false):(List.range n).all q=false:=by
 rw[List.all_eq_false]
 exact⟨k,by simpa using hk,by simp[h]⟩
theorem all_range_end {n:Nat} {q:Nat→Bool} (h:∀ i,i<n→q i=true):(List.range n).all q=true:=by
 simpa[List.all_eq_true] using h
def okName (l:List Str) (i:Nat):Bool:=isNm (l.getD i []) && ascends l i
theorem goodNames_eq (l:List Str):goodNames l=(decide (l.length≤16) && (List.range l.length).all (okName l)):=rfl
theorem areNames_ok (l:List Str) (hl:l.length≤1048576) (hs:∀ s ∈ l,s.length≤1048576):PureC Tryz.prog 91 [encS false l] (fun r=>r=bool (goodNames l)):=by
 refine PureC.of Tryz.func91 rfl Tryz.ntmps91 (by simp) fun Q hQ=>?_
 refine Runs.seqE Ty_ok (by decide) fun k' hk'=>?_
 simp [encS]   -- R0
 apply hk'
 refine Runs.seq ?_
 refine Runs.seqE Ty_ok (by decide) fun k' hk'=>?_
 simp   -- R1
 apply hk'
 refine Runs.block (Runs.loopUp l.length (fun k ρ H n=>ρ 0 = .list false (l.map strC)∧ρ 5 = .list false (l.map strC)∧ρ 6=int l.length∧ρ 7=int k∧∀ i,i<k→okName l i=true) ?_ ?_)
 ·simp
 ·rintro k ρ H n hk ⟨h0,h5,h6,h7,hall⟩ IH
  refine Runs.seqE Ty_ok (by decide) fun k' hk'=>?_
  simp [h6, h7]   -- R2
  apply hk'
  refine Runs.seq ?_
  refine Runs.ite rfl (fun hc1 => ?_) (fun hc1 => ?_)   -- t8
  ·have hc1:k<l.length:=by simpa using hc1
   refine Runs.skip ?_
   refine Runs.seq ?_
   refine Runs.block ?_
   refine Runs.seqE Ty_ok (by decide) fun k' hk'=>?_
   simp [h5, h7, hc1, strC]   -- R3
   apply hk'
   refine Runs.seqE Ty_ok (by decide) fun k' hk'=>?_
   have fin:∀ ρ:Env,ρ 0 = .list false (l.map strC)→ρ 5 = .list false (l.map strC)→ρ 6=int l.length→ρ 7=int k→ρ 27=bool (!okName l k)→Runs Tryz.prog 91 32 k' ρ H n Q:=by
    intro ρ h0 h5 h6 h7 h27
    apply hk'
    refine Runs.ite h27 (fun hc2 => ?_) (fun hc2 => ?_)   -- t27
    ·have hb:okName l k=false:=by simpa using hc2
     refine Runs.seqE Ty_ok (by decide) fun k' hk'=>?_
     simp   -- R5
     apply hk'
     exact Runs.ret Tryz.func91 (RetOk.one Tryz.results91) (hQ _ _ _ _ (.v _ _ _) (by rw[goodNames_eq,all_range_bad hc1 hb,Bool.and_false]))
    ·have hb:okName l k=true:=by simpa using hc2
     refine Runs.skip ?_
     refine Runs.inBlock ?_
     refine Runs.evalE Ty_ok (by decide) fun k' hk'=>?_
     simp [h7, wrap_succ (show k < 4611686018427387904 by omega)]   -- R6
     apply hk'
     refine IH hc1 _ _ _ ⟨by simp[h0],by simp[h5],by simp[h6],by simp,fun i hi=>?_⟩
     rcases Nat.lt_or_ge i k with h | h
     ·exact hall i h
     ·rw[show i=k by omega];exact hb
   have hgk:l.getD k []=l[k]:=by simp[hc1]
   simp   -- R4
   refine RunK.callA Ty_ok (isName_ok l[k] (Nat.le_trans (hs _ (List.getElem_mem hc1)) (by decide))) e136 (.cons (.v _ _ _) .nil) (by decide) (by decide) rfl (by simp) ?_
   rintro _ rfl
   cases hnm:isNm l[k]
   ·simp[guardOf]
    exact fin _ (by simp[h0]) (by simp[h5]) (by simp[h6]) (by simp[h7]) (by simp[okName,hc1,hnm])
   ·by_cases hk0:k=0
    ·subst hk0
     simp[guardOf]
     exact fin _ (by simp[h0]) (by simp[h5]) (by simp[h6]) (by simp[h7]) (by simp[okName,hc1,hnm,ascends])
    ·have hk1:0<k:=by omega
     have hw:IntKind.i64.wrap ((k:Int) - 1)=((k - 1:Nat):Int):=by rw[wrap64]<;>omega
     have hkl:k - 1<l.length:=by omega
     have hgk1:l.getD (k - 1) []=l[k - 1]:=by simp[hkl]
     have hp:=less_not l[k] l[k - 1]
     simp[guardOf,hk1,h0,hw,hkl,strC]
     refine fin _ (by simp[h0]) (by simp[h5]) (by simp[h6]) (by simp[h7]) ?_
     simp only[okName,hgk,hnm,ascends,hgk1,hk0,decide_false,Bool.false_or,Bool.true_and]
     rw[← hp]
     simp
  ·have hc1:¬ k<l.length:=by simpa using hc1
   have hke:k=l.length:=by omega
   subst hke
   refine Runs.exit rfl ?_
   refine Runs.seqE Ty_ok (by decide) fun k' hk'=>?_
   simp [h0]   -- R7
   apply hk'
   refine Runs.ret Tryz.func91 (RetOk.one Tryz.results91) (hQ _ _ _ _ (.v _ _ _) ?_)
   rw[goodNames_eq,all_range_end hall]
   simp
   omega
end Go.Ab
/- Contracts of spec.l2Names, impl.innerNames and spec.l2Inner. -/
namespace Go.Ab
open Go.Proofs
set_option linter.unusedSimpArgs false
theorem e92:Ent Tryz.prog 92:=Ent.of Tryz.func92 (by kernel_rfl) rfl
theorem e78:Ent Tryz.prog 78:=Ent.of Tryz.func78 (by kernel_rfl) rfl
theorem l2Names_ok (l:List Str) (hl:l.length≤1048576) (hs:∀ s ∈ l,s.length≤1048576):PureC Tryz.prog 77 [encS false l] (fun r=>r=bool (goodNames l)):=by
 refine PureC.of Tryz.func77 rfl Tryz.ntmps77 (by simp) fun Q hQ=>?_
 refine Runs.seqE Ty_ok (by decide) fun k' hk'=>?_
 simp [encS]   -- R0
 apply hk'
 refine Runs.seq ?_
 refine Runs.seqE Ty_ok (by decide) fun k' hk'=>?_
 simp   -- R1
 apply hk'
 refine Runs.block (Runs.loopUp l.length (fun k ρ H n=>ρ 0 = .list false (l.map strC)∧ρ 3=int k∧∀ i,i<k→okName l i=true) ?_ ?_)
 ·simp
 ·rintro k ρ H n hk ⟨h0,h3,hall⟩ IH
  refine Runs.seq ?_
  refine Runs.seqE Ty_ok (by decide) fun k' hk'=>?_
  simp [h0, h3]   -- R2
  apply hk'
  refine Runs.ite rfl (fun hc1 => ?_) (fun hc1 => ?_)   -- t7
  ·have hc1:k<l.length:=by simpa using hc1
   refine Runs.skip ?_
   refine Runs.seq ?_
   refine Runs.block ?_
   refine Runs.seqD Ty_ok kindOp_ok draws (by decide) (by kernel_rfl) fun k' hk'=>?_
   have fin:∀ ρ:Env,ρ 0 = .list false (l.map strC)→ρ 3=int k→ρ 31=bool (!okName l k)→Runs Tryz.prog 77 35 k' ρ H n Q:=by
    intro ρ h0 h3 h31
    apply hk'
    refine Runs.ite h31 (fun hc2=>?_) (fun hc2=>?_)
    ·have hb:okName l k=false:=by simpa using hc2
     refine Runs.seqE Ty_ok (by decide) fun k' hk'=>?_
     simp   -- R5
     apply hk'
     exact Runs.ret Tryz.func77 (RetOk.one Tryz.results77) (hQ _ _ _ _ (.v _ _ _) (by rw[goodNames_eq,all_range_bad hc1 hb,Bool.and_false]))
    ·have hb:okName l k=true:=by simpa using hc2
     refine Runs.skip ?_
     refine Runs.inBlock ?_
     refine Runs.evalE Ty_ok (by decide) fun k' hk'=>?_
     simp [h3, wrap_succ (show k < 4611686018427387904 by omega)]   -- R3
     apply hk'
     refine IH hc1 _ _ _ ⟨by simp[h0],by simp,fun i hi=>?_⟩
     rcases Nat.lt_or_ge i k with h | h
     ·exact hall i h
     ·rw[show i=k by omega];exact hb
   have hgk:l.getD k []=l[k]:=by simp[hc1]
   simp [h0, h3, hc1, strC]   -- R4
   refine RunDK.callA Ty_ok kindOp_ok (l2Name_ok l[k] (Nat.le_trans (hs _ (List.getElem_mem hc1)) (by decide))) e127 (.cons (.v _ _ _) .nil) (by decide) rfl (by simp) ?_
   cases hnm:isNm l[k]
   ·simp[guardOf]
    exact fin _ (by simp[h0,strC]) (by simp[h3]) (by simp[okName,hc1,hnm])
   ·by_cases hk0:k=0
    ·subst hk0
     simp[h3,guardOf]
     exact fin _ (by simp[h0,strC]) (by simp[h3]) (by simp[okName,hc1,hnm,ascends])
    ·have hk1:0<k:=by omega
     have hw:IntKind.i64.wrap ((k:Int) - 1)=((k - 1:Nat):Int):=by rw[wrap64]<;>omega
     have hkl:k - 1<l.length:=by omega
     have hgk1:l.getD (k - 1) []=l[k - 1]:=by simp[hkl]
     simp[guardOf,hk1,h0,h3,hw,hkl,hc1,strC]
     refine fin _ (by simp[h0,strC]) (by simp[h3]) ?_
     simp only[okName,hgk,hnm,ascends,hgk1,hk0,decide_false,Bool.false_or,Bool.true_and]
     simp
  ·have hc1:¬ k<l.length:=by simpa using hc1
   have hke:k=l.length:=by omega
   subst hke
   refine Runs.exit rfl ?_
   refine Runs.seqE Ty_ok (by decide) fun k' hk'=>?_
   simp [h0]   -- R6
   apply hk'
   refine Runs.ret Tryz.func77 (RetOk.one Tryz.results77) (hQ _ _ _ _ (.v _ _ _) ?_)
   rw[goodNames_eq,all_range_end hall]
   simp
   omega
def names (b:Big):List Str:=b.inner.map (·.name)
theorem innerNames_ok (b:Big) (hl:b.inner.length≤1048576):PureC Tryz.prog 92 [encB false b] (fun r=>r=encS true (names b)):=by
 refine PureC.of Tryz.func92 rfl Tryz.ntmps92 (by simp) fun Q hQ=>?_
 refine Runs.seqE Ty_ok (by decide) fun k' hk'=>?_
 simp [encB, Big.cells]   -- R0
 apply hk'
 refine Runs.seqE Ty_ok (by decide) fun k' hk'=>?_
 simp   -- R1
 apply hk'
 refine Runs.seq ?_
 refine Runs.seqE Ty_ok (by decide) fun k' hk'=>?_
 simp [encW]   -- R2
 apply hk'
 refine Runs.block (Runs.loopUp b.inner.length (fun k ρ H n=>ρ 8 = .list false (b.inner.map Wire.cells)∧ρ 9=int b.inner.length∧ρ 10=int k∧ρ 3 = .arr (1,6) k 0 k∧H (1,6)=some ⟨1,((names b).take k).map strC⟩) ?_ ?_)
 ·simp
 ·rintro k ρ H n hk ⟨h8,h9,h10,h3,hH⟩ IH
  refine Runs.seqE Ty_ok (by decide) fun k' hk'=>?_
  simp [h9, h10]   -- R3
  apply hk'
  refine Runs.seq ?_
  refine Runs.ite rfl (fun hc1 => ?_) (fun hc1 => ?_)   -- t11
  ·have hc1:k<b.inner.length:=by simpa using hc1
   have htk:(((names b).take k).map strC).length=k:=by simp[names];omega
   have hts:(names b).take (k+1)=(names b).take k++[b.inner[k].name]:=by
    rw[List.take_succ_eq_append_getElem (by simpa[names] using hc1)]
    simp[names]
   refine Runs.skip ?_
   refine Runs.seq ?_
   refine Runs.block ?_
   refine Runs.seqE Ty_ok (by decide) fun k' hk'=>?_
   simp [h8, h10, hc1, Wire.cells]   -- R4
   apply hk'
   refine Runs.evalE Ty_ok (by decide) fun k' hk'=>?_
   generalize hels:((names b).take k).map strC=els at hH htk
   simp [h3, hH, htk, live, show k ≤ 1073741823 by omega]   -- R5
   apply hk'
   refine Runs.inBlock ?_
   refine Runs.evalE Ty_ok (by decide) fun k' hk'=>?_
   simp [h10, wrap_succ (show k < 4611686018427387904 by omega)]   -- R6
   apply hk'
   refine IH hc1 _ _ _ ⟨by simp[h8],by simp[h9],by simp,by simp,?_⟩
   simp[hts,← hels,strC]
  ·have hc1:¬ k<b.inner.length:=by simpa using hc1
   have hke:k=b.inner.length:=by omega
   subst hke
   refine Runs.exit rfl ?_
   refine Runs.seqE Ty_ok (by decide) fun k' hk'=>?_
   simp [h3]   -- R7
   apply hk'
   have he:(names b).take b.inner.length=names b:=List.take_of_length_le (by simp[names])
   rw[he] at hH
   exact Runs.ret Tryz.func92 (RetOk.one Tryz.results92) (hQ _ _ _ _ (.of (Ret.arrF (by simp[live,hH,names];rfl) (by simp[strC]))) rfl)
theorem l2Inner_ok (b:Big) (hl:b.inner.length≤1048576):PureC Tryz.prog 78 [encB false b] (fun r=>r=encS true (names b)):=by
 refine PureC.of Tryz.func78 rfl Tryz.ntmps78 (by simp) fun Q hQ=>?_
 refine Runs.seqE Ty_ok (by decide) fun k' hk'=>?_
 simp [encB, Big.cells]   -- R0
 apply hk'
 refine Runs.seqE Ty_ok (by decide) fun k' hk'=>?_
 simp   -- R1
 apply hk'
 refine Runs.seq ?_
 refine Runs.seqE Ty_ok (by decide) fun k' hk'=>?_
 simp [encW]   -- R2
 apply hk'
 refine Runs.block (Runs.loopUp b.inner.length (fun k ρ H n=>ρ 1 = .ptr (0,1) 1 0 0∧H (0,1)=some ⟨6,[b.cells false]⟩∧ρ 4=int k∧ρ 3 = .arr (1,5) k 0 k∧H (1,5)=some ⟨1,((names b).take k).map strC⟩) ?_ ?_)
 ·simp[Big.cells,encW]
 ·rintro k ρ H n hk ⟨h1,hb,h4,h3,hH⟩ IH
  refine Runs.seq ?_
  refine Runs.seqE Ty_ok (by decide) fun k' hk'=>?_
  simp [h1, hb, h4, Big.cells, encW]   -- R3
  apply hk'
  refine Runs.ite rfl (fun hc1 => ?_) (fun hc1 => ?_)   -- t10
  ·have hc1:k<b.inner.length:=by simpa using hc1
   have htk:(((names b).take k).map strC).length=k:=by simp[names];omega
   have hts:(names b).take (k+1)=(names b).take k++[b.inner[k].name]:=by
    rw[List.take_succ_eq_append_getElem (by simpa[names] using hc1)]
    simp[names]
   refine Runs.skip ?_
   refine Runs.seq ?_
   refine Runs.block ?_
   refine Runs.evalE Ty_ok (by decide) fun k' hk'=>?_
   generalize hels:((names b).take k).map strC=els at hH htk
   simp [h1, hb, h3, h4, hH, htk, hc1, live, Big.cells, encW, Wire.cells, show k ≤ 1073741823 by omega]   -- R5
   apply hk'
   refine Runs.inBlock ?_
   refine Runs.evalE Ty_ok (by decide) fun k' hk'=>?_
   simp [h4, wrap_succ (show k < 4611686018427387904 by omega)]   -- R4
   apply hk'
   refine IH hc1 _ _ _ ⟨by simp[h1],by simp[hb,Big.cells,encW],by simp,by simp,?_⟩
   simp[hts,← hels,strC]
  ·have hc1:¬ k<b.inner.length:=by simpa using hc1
   have hke:k=b.inner.length:=by omega
   subst hke
   refine Runs.exit rfl ?_
   refine Runs.seqE Ty_ok (by decide) fun k' hk'=>?_
   simp [h3]   -- R6
   apply hk'
   have he:(names b).take b.inner.length=names b:=List.take_of_length_le (by simp[names])
   rw[he] at hH
   exact Runs.ret Tryz.func78 (RetOk.one Tryz.results78) (hQ _ _ _ _ (.of (Ret.arrF (by simp[live,hH,names];rfl) (by simp[strC]))) rfl)
end Go.Ab
/- Contracts of slices.IndexFunc and slices.ContainsFunc at three types. By program. -/
namespace Go.Ab
open Go.Proofs
set_option linter.unusedSimpArgs false
def idxF {α:Type} (l:List α) (p:α→Bool):Int:=if l.findIdx p<l.length then (l.findIdx p:Int) else -1
theorem idxF_at {α:Type} {l:List α} {p:α→Bool} {k:Nat} (hk:k<l.length) (h:p l[k]=true) (hno:∀ i (h:i<l.length),i<k→p l[i]=false):idxF l p=k:=by
 have:l.findIdx p=k:=(List.findIdx_eq hk).2 ⟨h,fun j hj=>hno j (by omega) hj⟩
 rw[idxF,this,if_pos hk]
theorem idxF_no {α:Type} {l:List α} {p:α→Bool} (hno:∀ i (h:i<l.length),p l[i]=false):idxF l p = -1:=by
 have:l.findIdx p=l.length:=List.findIdx_eq_length.2 fun x hx=>by
  obtain⟨i,hi,rfl⟩:=List.getElem_of_mem hx
  exact hno i hi
 rw[idxF,this,if_neg (Nat.lt_irrefl _)]
theorem idxF_any {α:Type} (l:List α) (p:α→Bool):decide (0≤idxF l p)=l.any p:=by
 unfold idxF
 cases h:l.any p
 ·have:l.findIdx p=l.length:=List.findIdx_eq_length.2 fun x hx=>by
   rw[List.any_eq_false] at h
   simpa using h x hx
  rw[if_neg (by omega)]
  simp
 ·have:l.findIdx p<l.length:=by
   rw[List.findIdx_lt_length]
   simpa[List.any_eq_true] using h
  rw[if_pos this]
  simp
theorem e139:Ent Tryz.prog 139:=Ent.of Tryz.func139 (by kernel_rfl) rfl
theorem e94:Ent Tryz.prog 94:=Ent.of Tryz.func94 (by kernel_rfl) rfl
theorem indexFuncI_ok {H:Heap} {n:Nat} {cl:AVal} (t:Bool) (l:List (Int)) (p:Int→Bool) (hl:l.length≤1048576) (hcl:∀ x ∈ l,ClosC Tryz.prog H n cl [int x] (fun r=>r=bool (p x))) :
  StillC Tryz.prog 139 [.list t (l.map intC),cl] H n (fun r=>r=int (idxF l p)):=by
 refine StillC.of Tryz.func139 rfl Tryz.ntmps139 (by simp) fun Q _ hQ=>?_
 refine Runs.seqE Ty_ok (by decide) fun k' hk'=>?_
 simp   -- R0
 apply hk'
 refine Runs.seq ?_
 refine Runs.seqE Ty_ok (by decide) fun k' hk'=>?_
 simp   -- R1
 apply hk'
 refine Runs.block (Runs.loopUp l.length (fun k ρ H' n'=>ρ 0 = .list t (l.map intC)∧ρ 1=cl∧ρ 7=int l.length∧ρ 8=int k∧H'=H∧n'=n∧∀ i (h:i<l.length),i<k→p l[i]=false) ?_ ?_)
 ·simp
 ·rintro k ρ H' n' hk ⟨h0,h1,h7,h8,rfl,rfl,hno⟩ IH
  refine Runs.seqE Ty_ok (by decide) fun k' hk'=>?_
  simp [h7, h8]   -- R2
  apply hk'
  refine Runs.seq ?_
  refine Runs.ite rfl (fun hc1 => ?_) (fun hc1 => ?_)   -- t9
  ·have hc1:k<l.length:=by simpa using hc1
   refine Runs.skip ?_
   refine Runs.seq ?_
   refine Runs.block ?_
   refine Runs.seqE Ty_ok (by decide) fun k' hk'=>?_
   simp [h8]   -- R3
   apply hk'
   refine Runs.seqE Ty_ok (by decide) fun k' hk'=>?_
   simp [h0, h1, hc1, intC]   -- R4
   refine RunK.callF Ty_ok (hcl l[k] (List.getElem_mem hc1)) (by decide) (by decide) (by simp[h1]) (by simp) ?_
   rintro _ rfl
   simp
   apply hk'
   refine Runs.ite rfl (fun hc2 => ?_) (fun hc2 => ?_)   -- t16
   ·have hc2:p l[k]=true:=by simpa using hc2
    refine Runs.seqE Ty_ok (by decide) fun k' hk'=>?_
    simp   -- R5
    apply hk'
    refine Runs.ret Tryz.func139 (RetOk.one Tryz.results139) (hQ _ _ _ _ (.bnd (.v _)) (Frame.refl _ _) ?_)
    simp[idxF_at hc1 hc2 hno]
   ·have hc2:p l[k]=false:=by simpa using hc2
    refine Runs.skip ?_
    refine Runs.inBlock ?_
    refine Runs.evalE Ty_ok (by decide) fun k' hk'=>?_
    simp [h8, wrap_succ (show k < 4611686018427387904 by omega)]   -- R6
    apply hk'
    refine IH hc1 _ _ _ ⟨by simp[h0,intC],by simp[h1],by simp[h7],by simp,rfl,rfl,fun i h hi=>?_⟩
    rcases Nat.lt_or_ge i k with hik | hik
    ·exact hno i h hik
    ·have:i=k:=by omega
     subst this
     exact hc2
  ·have hc1:¬ k<l.length:=by simpa using hc1
   have hke:k=l.length:=by omega
   subst hke
   refine Runs.exit rfl ?_
   refine Runs.seqE Ty_ok (by decide) fun k' hk'=>?_
   simp   -- R7
   apply hk'
   refine Runs.ret Tryz.func139 (RetOk.one Tryz.results139) (hQ _ _ _ _ (.bnd (.v _)) (Frame.refl _ _) ?_)
   simp[idxF_no fun i h=>hno i h h]
theorem containsFuncI_ok {H:Heap} {n:Nat} {cl:AVal} (t:Bool) (l:List (Int)) (p:Int→Bool) (hl:l.length≤1048576) (hcl:∀ x ∈ l,ClosC Tryz.prog H n cl [int x] (fun r=>r=bool (p x))) :
  StillC Tryz.prog 94 [.list t (l.map intC),cl] H n (fun r=>r=bool (l.any p)):=by
 refine StillC.of Tryz.func94 rfl Tryz.ntmps94 (by simp) fun Q _ hQ=>?_
 refine Runs.seqE Ty_ok (by decide) fun k' hk'=>?_
 simp   -- R0
 apply hk'
 refine Runs.seqE Ty_ok (by decide) fun k' hk'=>?_
 simp   -- R1
 refine RunK.callT Ty_ok (indexFuncI_ok t l p hl hcl) e139 (by decide) (by decide) rfl (by simp) ?_
 rintro _ rfl
 simp
 apply hk'
 refine Runs.ret Tryz.func94 (RetOk.one Tryz.results94) (hQ _ _ _ _ (.bnd (.v _)) (Frame.refl _ _) ?_)
 simp[idxF_any]
theorem e140:Ent Tryz.prog 140:=Ent.of Tryz.func140 (by kernel_rfl) rfl
theorem e98:Ent Tryz.prog 98:=Ent.of Tryz.func98 (by kernel_rfl) rfl
theorem indexFuncW_ok {H:Heap} {n:Nat} {cl:AVal} (t:Bool) (l:List (Wire)) (p:Wire→Bool) (hl:l.length≤1048576) (hcl:∀ x ∈ l,ClosC Tryz.prog H n cl [.agg x.cells] (fun r=>r=bool (p x))) :
  StillC Tryz.prog 140 [.list t (l.map Wire.cells),cl] H n (fun r=>r=int (idxF l p)):=by
 refine StillC.of Tryz.func140 rfl Tryz.ntmps140 (by simp) fun Q _ hQ=>?_
 refine Runs.seqE Ty_ok (by decide) fun k' hk'=>?_
 simp   -- R0
 apply hk'
 refine Runs.seq ?_
 refine Runs.seqE Ty_ok (by decide) fun k' hk'=>?_
 simp   -- R1
 apply hk'
 refine Runs.block (Runs.loopUp l.length (fun k ρ H' n'=>ρ 0 = .list t (l.map Wire.cells)∧ρ 1=cl∧ρ 7=int l.length∧ρ 8=int k∧H'=H∧n'=n∧∀ i (h:i<l.length),i<k→p l[i]=false) ?_ ?_)
 ·simp
 ·rintro k ρ H' n' hk ⟨h0,h1,h7,h8,rfl,rfl,hno⟩ IH
  refine Runs.seqE Ty_ok (by decide) fun k' hk'=>?_
  simp [h7, h8]   -- R2
  apply hk'
  refine Runs.seq ?_
  refine Runs.ite rfl (fun hc1 => ?_) (fun hc1 => ?_)   -- t9
  ·have hc1:k<l.length:=by simpa using hc1
   refine Runs.skip ?_
   refine Runs.seq ?_
   refine Runs.block ?_
   refine Runs.seqE Ty_ok (by decide) fun k' hk'=>?_
   simp [h8]   -- R3
   apply hk'
   refine Runs.seqE Ty_ok (by decide) fun k' hk'=>?_
   simp [h0, h1, hc1, Wire.cells]   -- R4
   refine RunK.callF Ty_ok (hcl l[k] (List.getElem_mem hc1)) (by decide) (by decide) (by simp[h1]) (by simp[Wire.cells]) ?_
   rintro _ rfl
   simp
   apply hk'
   refine Runs.ite rfl (fun hc2 => ?_) (fun hc2 => ?_)   -- t16
   ·have hc2:p l[k]=true:=by simpa using hc2
    refine Runs.seqE Ty_ok (by decide) fun k' hk'=>?_
    simp   -- R5
    apply hk'
    refine Runs.ret Tryz.func140 (RetOk.one Tryz.results140) (hQ _ _ _ _ (.bnd (.v _)) (Frame.refl _ _) ?_)
    simp[idxF_at hc1 hc2 hno]
   ·have hc2:p l[k]=false:=by simpa using hc2
    refine Runs.skip ?_
    refine Runs.inBlock ?_
    refine Runs.evalE Ty_ok (by decide) fun k' hk'=>?_
    simp [h8, wrap_succ (show k < 4611686018427387904 by omega)]   -- R6
    apply hk'
    refine IH hc1 _ _ _ ⟨by simp[h0,Wire.cells],by simp[h1],by simp[h7],by simp,rfl,rfl,fun i h hi=>?_⟩
    rcases Nat.lt_or_ge i k with hik | hik
    ·exact hno i h hik
    ·have:i=k:=by omega
     subst this
     exact hc2
  ·have hc1:¬ k<l.length:=by simpa using hc1
   have hke:k=l.length:=by omega
   subst hke
   refine Runs.exit rfl ?_
   refine Runs.seqE Ty_ok (by decide) fun k' hk'=>?_
   simp   -- R7
   apply hk'
   refine Runs.ret Tryz.func140 (RetOk.one Tryz.results140) (hQ _ _ _ _ (.bnd (.v _)) (Frame.refl _ _) ?_)
   simp[idxF_no fun i h=>hno i h h]
theorem containsFuncW_ok {H:Heap} {n:Nat} {cl:AVal} (t:Bool) (l:List (Wire)) (p:Wire→Bool) (hl:l.length≤1048576) (hcl:∀ x ∈ l,ClosC Tryz.prog H n cl [.agg x.cells] (fun r=>r=bool (p x))) :
  StillC Tryz.prog 98 [.list t (l.map Wire.cells),cl] H n (fun r=>r=bool (l.any p)):=by
 refine StillC.of Tryz.func98 rfl Tryz.ntmps98 (by simp) fun Q _ hQ=>?_
 refine Runs.seqE Ty_ok (by decide) fun k' hk'=>?_
 simp   -- R0
 apply hk'
 refine Runs.seqE Ty_ok (by decide) fun k' hk'=>?_
 simp   -- R1
 refine RunK.callT Ty_ok (indexFuncW_ok t l p hl hcl) e140 (by decide) (by decide) rfl (by simp) ?_
 rintro _ rfl
 simp
 apply hk'
 refine Runs.ret Tryz.func98 (RetOk.one Tryz.results98) (hQ _ _ _ _ (.bnd (.v _)) (Frame.refl _ _) ?_)
 simp[idxF_any]
theorem e157:Ent Tryz.prog 157:=Ent.of Tryz.func157 (by kernel_rfl) rfl
theorem e137:Ent Tryz.prog 137:=Ent.of Tryz.func137 (by kernel_rfl) rfl
theorem indexFuncC_ok {H:Heap} {n:Nat} {cl:AVal} (t:Bool) (l:List (Control)) (p:Control→Bool) (hl:l.length≤1048576) (hcl:∀ x ∈ l,ClosC Tryz.prog H n cl [.agg x.cells] (fun r=>r=bool (p x))) :
  StillC Tryz.prog 157 [.list t (l.map Control.cells),cl] H n (fun r=>r=int (idxF l p)):=by
 refine StillC.of Tryz.func157 rfl Tryz.ntmps157 (by simp) fun Q _ hQ=>?_
 refine Runs.seqE Ty_ok (by decide) fun k' hk'=>?_
 simp   -- R0
 apply hk'
 refine Runs.seq ?_
 refine Runs.seqE Ty_ok (by decide) fun k' hk'=>?_
 simp   -- R1
 apply hk'
 refine Runs.block (Runs.loopUp l.length (fun k ρ H' n'=>ρ 0 = .list t (l.map Control.cells)∧ρ 1=cl∧ρ 7=int l.length∧ρ 8=int k∧H'=H∧n'=n∧∀ i (h:i<l.length),i<k→p l[i]=false) ?_ ?_)
 ·simp
 ·rintro k ρ H' n' hk ⟨h0,h1,h7,h8,rfl,rfl,hno⟩ IH
  refine Runs.seqE Ty_ok (by decide) fun k' hk'=>?_
  simp [h7, h8]   -- R2
  apply hk'
  refine Runs.seq ?_
  refine Runs.ite rfl (fun hc1 => ?_) (fun hc1 => ?_)   -- t9
  ·have hc1:k<l.length:=by simpa using hc1
   refine Runs.skip ?_
   refine Runs.seq ?_
   refine Runs.block ?_
   refine Runs.seqE Ty_ok (by decide) fun k' hk'=>?_
   simp [h8]   -- R3
   apply hk'
   refine Runs.seqE Ty_ok (by decide) fun k' hk'=>?_
   simp [h0, h1, hc1, Control.cells]   -- R4
   refine RunK.callF Ty_ok (hcl l[k] (List.getElem_mem hc1)) (by decide) (by decide) (by simp[h1]) (by simp[Control.cells]) ?_
   rintro _ rfl
   simp
   apply hk'
   refine Runs.ite rfl (fun hc2 => ?_) (fun hc2 => ?_)   -- t16
   ·have hc2:p l[k]=true:=by simpa using hc2
    refine Runs.seqE Ty_ok (by decide) fun k' hk'=>?_
    simp   -- R5
    apply hk'
    refine Runs.ret Tryz.func157 (RetOk.one Tryz.results157) (hQ _ _ _ _ (.bnd (.v _)) (Frame.refl _ _) ?_)
    simp[idxF_at hc1 hc2 hno]
   ·have hc2:p l[k]=false:=by simpa using hc2
    refine Runs.skip ?_
    refine Runs.inBlock ?_
    refine Runs.evalE Ty_ok (by decide) fun k' hk'=>?_
    simp [h8, wrap_succ (show k < 4611686018427387904 by omega)]   -- R6
    apply hk'
    refine IH hc1 _ _ _ ⟨by simp[h0,Control.cells],by simp[h1],by simp[h7],by simp,rfl,rfl,fun i h hi=>?_⟩
    rcases Nat.lt_or_ge i k with hik | hik
    ·exact hno i h hik
    ·have:i=k:=by omega
     subst this
     exact hc2
  ·have hc1:¬ k<l.length:=by simpa using hc1
   have hke:k=l.length:=by omega
   subst hke
   refine Runs.exit rfl ?_
   refine Runs.seqE Ty_ok (by decide) fun k' hk'=>?_
   simp   -- R7
   apply hk'
   refine Runs.ret Tryz.func157 (RetOk.one Tryz.results157) (hQ _ _ _ _ (.bnd (.v _)) (Frame.refl _ _) ?_)
   simp[idxF_no fun i h=>hno i h h]
theorem containsFuncC_ok {H:Heap} {n:Nat} {cl:AVal} (t:Bool) (l:List (Control)) (p:Control→Bool) (hl:l.length≤1048576) (hcl:∀ x ∈ l,ClosC Tryz.prog H n cl [.agg x.cells] (fun r=>r=bool (p x))) :
  StillC Tryz.prog 137 [.list t (l.map Control.cells),cl] H n (fun r=>r=bool (l.any p)):=by
 refine StillC.of Tryz.func137 rfl Tryz.ntmps137 (by simp) fun Q _ hQ=>?_
 refine Runs.seqE Ty_ok (by decide) fun k' hk'=>?_
 simp   -- R0
 apply hk'
 refine Runs.seqE Ty_ok (by decide) fun k' hk'=>?_
 simp   -- R1
 refine RunK.callT Ty_ok (indexFuncC_ok t l p hl hcl) e157 (by decide) (by decide) rfl (by simp) ?_
 rintro _ rfl
 simp
 apply hk'
 refine Runs.ret Tryz.func137 (RetOk.one Tryz.results137) (hQ _ _ _ _ (.bnd (.v _)) (Frame.refl _ _) ?_)
 simp[idxF_any]
end Go.Ab
/- Contracts of impl.IsSignature and spec.l2Sig. -/
namespace Go.Ab
open Go.Proofs
set_option linter.unusedSimpArgs false
theorem e89:Ent Tryz.prog 89:=Ent.of Tryz.func89 (by kernel_rfl) rfl
theorem e75:Ent Tryz.prog 75:=Ent.of Tryz.func75 (by kernel_rfl) rfl
theorem e138:Ent Tryz.prog 138:=Ent.of Tryz.func138 (by kernel_rfl) rfl
theorem clos135 {H:Heap} {n:Nat} {X:Id} (c:Control) (hX:H X=some ⟨3,[c.cells]⟩) (d:Control):ClosC Tryz.prog H n (.fn (.func 138) [] [.ptr X 1 0 0]) [.agg d.cells] (fun r=>r=bool (d.name == c.name)):=by
 refine⟨138,[],[.ptr X 1 0 0],rfl,e138,?_⟩
 refine StillC.of Tryz.func138 rfl Tryz.ntmps138 (by simp) fun Q hB hQ=>?_
 have hXn:=(hB X _ hX).1
 have hX2:¬ X=(n,2):=by rintro rfl;simp at hXn
 refine Runs.seqE Ty_ok (by decide) fun k' hk'=>?_
 simp [Control.cells]   -- R0
 apply hk'
 refine Runs.seqE Ty_ok (by decide) fun k' hk'=>?_
 simp [hX2, hX, Control.cells]   -- R1
 apply hk'
 exact Runs.ret Tryz.func138 (RetOk.one Tryz.results138) (hQ _ _ _ _ (.bnd (.v _)) (Frame.set (by simp) (Frame.refl _ _)) (by simp))
def okCtl (sig:Sig) (i:Nat):Bool:=okControl (sig.getD i default) && newName sig i
theorem goodSig_eq (sig:Sig):goodSig sig=(within sig.length 1 6 && (List.range sig.length).all (okCtl sig)):=rfl
theorem IsSignature_ok (sig:Sig) (hl:sig.length≤1048576) (hs:∀ c ∈ sig,c.name.length≤1048576):PureC Tryz.prog 89 [encSig false sig] (fun r=>r=bool (goodSig sig)):=by
 refine PureC.of Tryz.func89 rfl Tryz.ntmps89 (by simp) fun Q hQ=>?_
 refine Runs.seqE Ty_ok (by decide) fun k' hk'=>?_
 simp [encSig]   -- R0
 apply hk'
 refine Runs.seq ?_
 refine Runs.seqE Ty_ok (by decide) fun k' hk'=>?_
 simp   -- R1
 refine RunK.callA Ty_ok (within_ok sig.length 1 6) e90 (.cons (.v _ _ _) (.cons (.v _ _ _) (.cons (.v _ _ _) .nil))) (by decide) (by decide) rfl (by simp) ?_
 rintro _ rfl
 simp
 apply hk'
 refine Runs.ite rfl (fun hc1 => ?_) (fun hc1 => ?_)   -- t8
 ·have hw:within sig.length 1 6=false:=by simpa using hc1
  refine Runs.seqE Ty_ok (by decide) fun k' hk'=>?_
  simp   -- R2
  apply hk'
  exact Runs.ret Tryz.func89 (RetOk.one Tryz.results89) (hQ _ _ _ _ (.v _ _ _) (by rw[goodSig_eq,hw,Bool.false_and]))
 ·have hw:within sig.length 1 6=true:=by simpa using hc1
  refine Runs.skip ?_
  refine Runs.seq ?_
  refine Runs.seqE Ty_ok (by decide) fun k' hk'=>?_
  simp   -- R3
  apply hk'
  refine Runs.block (Runs.loopUp sig.length (fun k ρ H n=>ρ 0 = .list false (sig.map Control.cells)∧ρ 9 = .list false (sig.map Control.cells)∧ρ 10=int sig.length∧ρ 11=int k∧∀ i,i<k→okCtl sig i=true) ?_ ?_)
  ·simp
  ·rintro k ρ H n hk ⟨h0,h9,h10,h11,hall⟩ IH
   refine Runs.seqE Ty_ok (by decide) fun k' hk'=>?_
   simp [h10, h11]   -- R4
   apply hk'
   refine Runs.seq ?_
   refine Runs.ite rfl (fun hc1 => ?_) (fun hc1 => ?_)   -- t12
   ·have hc1:k<sig.length:=by simpa using hc1
    have hgk:sig.getD k default=sig[k]:=by simp[hc1]
    refine Runs.skip ?_
    refine Runs.seq ?_
    refine Runs.block ?_
    refine Runs.seqE Ty_ok (by decide) fun k' hk'=>?_
    simp [h9, h11, hc1, Control.cells]   -- R5
    apply hk'
    refine Runs.cut (fun ρ H n=>ρ 0 = .list false (sig.map Control.cells)∧ρ 9 = .list false (sig.map Control.cells)∧ρ 10=int sig.length∧ρ 11=int k∧ρ 3=int k∧∃ m,ρ 4 = .ptr (m,4) 1 0 0∧H (m,4)=some ⟨3,[sig[k].cells]⟩) ?_ ?_
    ·exact⟨by simp[h0],by simp[h9],by simp[h10],by simp[h11],by simp,n,by simp,by simp[Control.cells]⟩
    clear hk' h0 h9 h10 h11
    rintro ρ H n ⟨h0,h9,h10,h11,h3,m,h4,hm⟩
    refine Runs.seqE Ty_ok (by decide) fun k' hk'=>?_
    have fin:∀ ρ:Env,ρ 0 = .list false (sig.map Control.cells)→ρ 9 = .list false (sig.map Control.cells)→ρ 10=int sig.length→ρ 11=int k→ρ 38=bool (!okCtl sig k)→Runs Tryz.prog 89 40 k' ρ H n Q:=by
     intro ρ h0 h9 h10 h11 h38
     apply hk'
     refine Runs.ite h38 (fun hc2 => ?_) (fun hc2 => ?_)   -- t38
     ·have hb:okCtl sig k=false:=by simpa using hc2
      refine Runs.seqE Ty_ok (by decide) fun k' hk'=>?_
      simp   -- R7
      apply hk'
      exact Runs.ret Tryz.func89 (RetOk.one Tryz.results89) (hQ _ _ _ _ (.v _ _ _) (by rw[goodSig_eq,all_range_bad hc1 hb,Bool.and_false]))
     ·have hb:okCtl sig k=true:=by simpa using hc2
      refine Runs.skip ?_
      refine Runs.inBlock ?_
      refine Runs.evalE Ty_ok (by decide) fun k' hk'=>?_
      simp [h11, wrap_succ (show k < 4611686018427387904 by omega)]   -- R8
      apply hk'
      refine IH hc1 _ _ _ ⟨by simp[h0],by simp[h9],by simp[h10],by simp,fun i hi=>?_⟩
      rcases Nat.lt_or_ge i k with h | h
      ·exact hall i h
      ·rw[show i=k by omega];exact hb
    have hm':=hm
    simp only[Control.cells] at hm'
    simp [h4, hm']   -- R6
    refine RunK.callA Ty_ok (isName_ok sig[k].name (Nat.le_trans (hs _ (List.getElem_mem hc1)) (by decide))) e136 (.cons (.v _ _ _) .nil) (by decide) (by decide) rfl (by simp) ?_
    rintro _ rfl
    cases hnm:isNm sig[k].name
    ·simp[guardOf]
     exact fin _ (by simp[h0]) (by simp[h9]) (by simp[h10]) (by simp[h11]) (by simp only[okCtl,hgk,okControl,hnm];simp)
    ·simp[h4,hm',guardOf]
     refine RunK.callA Ty_ok (within_ok sig[k].ports 0 3) e90 (.cons (.v _ _ _) (.cons (.v _ _ _) (.cons (.v _ _ _) .nil))) (by decide) (by decide) rfl (by simp) ?_
     rintro _ rfl
     cases hpo:within sig[k].ports 0 3
     ·simp[guardOf]
      exact fin _ (by simp[h0]) (by simp[h9]) (by simp[h10]) (by simp[h11]) (by simp only[okCtl,hgk,okControl,hnm,hpo];simp)
     ·simp[h4,hm',guardOf]
      refine RunK.callA Ty_ok (within_ok sig[k].kind 0 2) e90 (.cons (.v _ _ _) (.cons (.v _ _ _) (.cons (.v _ _ _) .nil))) (by decide) (by decide) rfl (by simp) ?_
      rintro _ rfl
      cases hki:within sig[k].kind 0 2
      ·simp[guardOf]
       exact fin _ (by simp[h0]) (by simp[h9]) (by simp[h10]) (by simp[h11]) (by simp only[okCtl,hgk,okControl,hnm,hpo,hki];simp)
      ·have hkl:(k:Int)≤sig.length:=by omega
       simp[h0,h3,h4,hkl,guardOf,Control.cells]
       refine RunK.callT Ty_ok (containsFuncC_ok false (sig.take k) (fun d=>d.name == sig[k].name) (by simp;omega) (fun d _=>clos135 sig[k] hm d)) e137 (by decide) (by decide) rfl (by simp[Control.cells]) ?_
       rintro _ rfl
       simp[guardOf]
       refine fin _ (by simp[h0,Control.cells]) (by simp[h9,Control.cells]) (by simp[h10]) (by simp[h11]) ?_
       simp only[okCtl,hgk,okControl,hnm,hpo,hki,newName]
       simp
   ·have hc1:¬ k<sig.length:=by simpa using hc1
    have hke:k=sig.length:=by omega
    subst hke
    refine Runs.exit rfl ?_
    refine Runs.seqE Ty_ok (by decide) fun k' hk'=>?_
    simp   -- R9
    apply hk'
    exact Runs.ret Tryz.func89 (RetOk.one Tryz.results89) (hQ _ _ _ _ (.v _ _ _) (by rw[goodSig_eq,hw,all_range_end hall];rfl))
end Go.Ab
