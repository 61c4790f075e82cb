/- Merged texts (6 of 17) of the proof that ends in Coy: Shelf S Q aa Ga Sn Vp Kb Kc W Gb Gc Gd Ge Gf. -/
import Derived.Test.YtkocdlgoncmdbaaGreatDoorAbQco5
import Derived.Shelf.Strings.Builder1
import Derived.Shelf.Strings.Builder2
import Derived.Shelf.Strings.OnBuilder
import Derived.Shelf.Strings.Trim
import Derived.Shelf.Small.Utf8
import Derived.Shelf.Small.Strs
import Derived.Shelf.Small.Wraps
import Derived.Shelf.Strings.Search1
import Derived.Shelf.Strings.Runes
import Derived.Shelf.Strings.AsciiSet
import Derived.Shelf.Bits.Mul64
import Derived.Shelf.Unicode.DecodeSlow
import Derived.Shelf.Slices.Turned
import Derived.Ground.Names2Prog
import Derived.Shelf.Slices.Clone
import Derived.Test.YtkocdlgoncmdbaaGreatDoorProg
import Derived.Shelf.Strings.SlTrimAscii
import Derived.Lib.Join
open Go.Proofs.Tryz
set_option linter.unusedSectionVars false
set_option linter.unusedSimpArgs false
set_option linter.unusedVariables false
namespace Go.Proofs
open Go.Shelf
def Tryz.wX:Go.Shelf.Ren:=⟨fun | 160=>156 | 232=>168 | 231=>167 | 227=>169 | 234=>171 | 233=>170 | 236=>173 | 235=>172 | 228=>181 | 271=>184 | 151=>183 | 197=>182 | 120=>193 | 152=>192 | 260=>191 | 137=>199 | 119=>200 | 224=>201 | 225=>202 | 217=>205 | 266=>206 | n=>n,fun | 9=>9 | 4=>4 | 3=>3 | 5=>5 | 117=>181 | 116=>180 | 0=>0 | 124=>184 | 21=>21 | 105=>194 | 46=>185 | 119=>213 | 139=>216 | 138=>215 | n=>n,fun | 3=>2 | 4=>3 | n=>n⟩
theorem Tryz.D5:Go.Proofs.Lays.n160 prog Tryz.wX:={
 mixed:=by kernel_rfl
 f119:=Tryz.func200.trans (congrArg some (by kernel_rfl))
 f120:=Tryz.func193.trans (congrArg some (by kernel_rfl))
 f137:=Tryz.func199.trans (congrArg some (by kernel_rfl))
 f151:=Tryz.func183.trans (congrArg some (by kernel_rfl))
 f152:=Tryz.func192.trans (congrArg some (by kernel_rfl))
 f160:=Tryz.func156.trans (congrArg some (by kernel_rfl))
 f197:=Tryz.func182.trans (congrArg some (by kernel_rfl))
 f217:=Tryz.func205.trans (congrArg some (by kernel_rfl))
 f224:=Tryz.func201.trans (congrArg some (by kernel_rfl))
 f225:=Tryz.func202.trans (congrArg some (by kernel_rfl))
 f227:=Tryz.func169.trans (congrArg some (by kernel_rfl))
 f228:=Tryz.func181.trans (congrArg some (by kernel_rfl))
 f231:=Tryz.func167.trans (congrArg some (by kernel_rfl))
 f232:=Tryz.func168.trans (congrArg some (by kernel_rfl))
 f233:=Tryz.func170.trans (congrArg some (by kernel_rfl))
 f234:=Tryz.func171.trans (congrArg some (by kernel_rfl))
 f235:=Tryz.func172.trans (congrArg some (by kernel_rfl))
 f236:=Tryz.func173.trans (congrArg some (by kernel_rfl))
 f260:=Tryz.func191.trans (congrArg some (by kernel_rfl))
 f266:=Tryz.func206.trans (congrArg some (by kernel_rfl))
 f271:=Tryz.func184.trans (congrArg some (by kernel_rfl))
 t0:=Tryz.underlying0
 a0:=Tryz.isAgg0
 z0:=Tryz.sizeOf0
 v0:=Tryz.zeroValue0
 t3:=Tryz.underlying3
 a3:=Tryz.isAgg3
 z3:=Tryz.sizeOf3
 v3:=Tryz.zeroValue3
 t4:=Tryz.underlying4
 a4:=Tryz.isAgg4
 z4:=Tryz.sizeOf4
 v4:=Tryz.zeroValue4
 t5:=Tryz.underlying5
 a5:=Tryz.isAgg5
 z5:=Tryz.sizeOf5
 v5:=Tryz.zeroValue5
 t9:=Tryz.underlying9
 a9:=Tryz.isAgg9
 z9:=Tryz.sizeOf9
 v9:=Tryz.zeroValue9
 t21:=Tryz.underlying21
 a21:=Tryz.isAgg21
 z21:=Tryz.sizeOf21
 v21:=Tryz.zeroValue21
 t46:=Tryz.underlying185
 a46:=Tryz.isAgg185
 z46:=Tryz.sizeOf185
 v46:=Tryz.zeroValue185
 t105:=Tryz.underlying194
 a105:=Tryz.isAgg194
 z105:=Tryz.sizeOf194
 v105:=Tryz.zeroValue194
 t116:=Tryz.underlying180
 a116:=Tryz.isAgg180
 z116:=Tryz.sizeOf180
 t117:=Tryz.underlying181
 a117:=Tryz.isAgg181
 z117:=Tryz.sizeOf181
 v117:=Tryz.zeroValue181
 t119:=Tryz.underlying213
 a119:=Tryz.isAgg213
 z119:=Tryz.sizeOf213
 t124:=Tryz.underlying184
 a124:=Tryz.isAgg184
 z124:=Tryz.sizeOf184
 v124:=Tryz.zeroValue184
 t138:=Tryz.underlying215
 a138:=Tryz.isAgg215
 z138:=Tryz.sizeOf215
 v138:=Tryz.zeroValue215
 t139:=Tryz.underlying216
 a139:=Tryz.isAgg216
 z139:=Tryz.sizeOf216
 v139:=Tryz.zeroValue216
 g3:=by kernel_rfl
 g4:=by kernel_rfl }
def Tryz.wI:Go.Shelf.Ren:=⟨fun | 212=>174 | 263=>185 | 264=>186 | n=>n,fun | 46=>185 | 51=>197 | 146=>198 | 53=>200 | 148=>201 | n=>n,fun | n=>n⟩
theorem Tryz.D7:Go.Proofs.Lays.n212 prog Tryz.wI:={
 mixed:=by kernel_rfl
 f212:=Tryz.func174.trans (congrArg some (by kernel_rfl))
 f263:=Tryz.func185.trans (congrArg some (by kernel_rfl))
 f264:=Tryz.func186.trans (congrArg some (by kernel_rfl))
 t46:=Tryz.underlying185
 a46:=Tryz.isAgg185
 z46:=Tryz.sizeOf185
 v46:=Tryz.zeroValue185
 t51:=Tryz.underlying197
 a51:=Tryz.isAgg197
 z51:=Tryz.sizeOf197
 v51:=Tryz.zeroValue197
 t53:=Tryz.underlying200
 a53:=Tryz.isAgg200
 z53:=Tryz.sizeOf200
 v53:=Tryz.zeroValue200
 t146:=Tryz.underlying198
 a146:=Tryz.isAgg198
 z146:=Tryz.sizeOf198
 v146:=Tryz.zeroValue198
 t148:=Tryz.underlying201
 a148:=Tryz.isAgg201
 z148:=Tryz.sizeOf201
 v148:=Tryz.zeroValue201 }
open Go.RowKit Go.Lib in
theorem Tryz.bits_Mul (x y:Nat) (hx:x<18446744073709551616) (hy:y<18446744073709551616) (w:World) :
  Calls prog 174 #[.int .u64 x,.int .u64 y] w fun e w'=>e = .returned (.tuple #[.int .u64 ((x * y / 18446744073709551616:Nat):Int),.int .u64 ((x * y % 18446744073709551616:Nat):Int)])/\w'=w:=Any.bits_Mul Tryz.D7 x y hx hy w
end Go.Proofs
namespace Go.Ab
open Go.Proofs Go.RowKit
theorem aF.uQ {P:Program} {f:FuncId} {args:List I} {R:I->Prop}
  (h:∀ (c:Ctx) (xs:List Value),(∀ id,c.H id=none)->dD c args xs->Calls P f xs.toArray c.w fun e w'=>∃ x v,e = .returned x/\R v/\b4 v/\(∀ c':Ctx,b5 c' v x)/\Below c.w.heap.size c.w w'):aF P f args R:=by
 intro c xs hH hn g r;refine (h c xs (by intro id;rw[hH];rfl) r).mono ?_;rintro e w' ⟨x,v,he,hR,hf,hv,hb⟩;obtain⟨hk,hg⟩:=eg g w' ⟨hb.os,hb.tape,hb.output⟩ hb.size hb.block;exact⟨x,v,{ c with w:=w' },he,rfl,⟨v,.of (jD.fresh hf),hR⟩,hv _,hg,hk⟩
theorem dD.two2 {c:Ctx} {a b:I} {xs:List Value} (r:dD c [a,b] xs):∃ x y,xs=[x,y]/\b5 c a x/\b5 c b y:=by
 obtain⟨hl,hr⟩:=r
 match xs,hl with
 | [x,y],_=>exact⟨x,y,rfl,hr 0 a x rfl rfl,hr 1 b y rfl rfl⟩
theorem Ei (s cut:cH) (hs:s.length<=4611686018427387904) (hc:cut.length<=1000) (ha:cut.all (fun b=>decide (b.toNat<128))=true):aF prog 156 [str s,str cut] (fun r=>r=str (Lib.trimS s cut)):=by
 refine aF.uQ fun c xs _ r=>?_
 obtain⟨x,y,rfl,hx,hy⟩:=r.two2;rw[hx.cK,hy.cK];refine (Any.strings_Trim_laid Tryz.D5 (by kernel_rfl) ⟨s.toArray⟩ ⟨cut.toArray⟩ c.w (by simp;omega) (by simp;omega) (ascii_of_all (by simpa using ha))).mono ?_;rintro e w' ⟨he,hb⟩;exact⟨_,_,he,rfl,.v _,fun _=>.v _,by simpa using hb⟩
end Go.Ab
namespace Go.Ab
open Go.Proofs
theorem e156:a8 prog 156:=a8.of func156 (by kernel_rfl) rfl
end Go.Ab
namespace Go.Ab
open Go.Proofs
theorem e136:a8 prog 136:=a8.of func136 (by kernel_rfl) rfl
def lower (c:UInt8):Bool:=decide (97<=c.toNat) && decide (c.toNat<=122)
def nA (s:cH):Bool:=within s.length 1 4 && s.all lower
def alpha:cH:=[97,98,99,100,101,102,103,104,105,106,107,108,109,110,111,112,113,114,115,116,117,118,119,120,121,122]
set_option maxRecDepth 10000 in
theorem vg (c:UInt8):alpha.contains c=lower c:=by
 have h:∀ n:Fin 256,alpha.contains (UInt8.ofNat n.val)=lower (UInt8.ofNat n.val):=by decide
 have:=h ⟨c.toNat,c.toNat_lt⟩;simpa using this
theorem dropWhile_nil {q:UInt8->Bool}:∀ l:cH,l.dropWhile q=[]↔l.all q=true
 | []=>by simp
 | a::l=>by
  rw[List.dropWhile_cons];cases h:q a<;>simp[h,dropWhile_nil l]
theorem kc {q:UInt8->Bool}:∀ l:cH,(l.dropWhile q).reverse.all q=true->l.all q=true
 | [],_=>by simp
 | a::l,h=>by
  rw[List.dropWhile_cons] at h;cases hq:q a
  ·simp[hq] at h
  ·simp only[hq,if_true] at h;have:=kc l h;simp only[List.all_cons,hq,this,Bool.and_self]
theorem zO (s:cH):(Lib.trimS s alpha=[])↔s.all lower=true:=by
 have he:(fun c=>alpha.contains c)=lower:=funext vg;unfold Lib.trimS Lib.trimLeftS Lib.trimRightS;rw[he,dropWhile_nil]
 constructor
 ·intro h;have:=kc _ h;simpa using this
 ·intro h;have h2:s.reverse.dropWhile lower=[]:=by rw[dropWhile_nil];simpa using h
  rw[h2]
  rfl
theorem sY (s:cH) (hs:s.length<=4294967296):aF prog 136 [str s] (fun r=>r=bool (nA s)):=by
 refine aF.of func136 rfl ntmps136 (by simp) fun Q hQ=>?_
 refine zE fun _ V=>?_
 simp;apply V;refine zE fun _ V=>?_
 simp;refine zA (fa s.length 1 4) E6 (.cons (.v _ _ _) (.cons (.v _ _ _) (.cons (.v _ _ _) .nil))) (by simp) ?_;rintro _ rfl;cases hw:within s.length 1 4
 ·simp[hw];apply V;exact J.ret func136 (aM.one results136) (hQ _ _ _ _ (.v _ _ _) (by simp[nA,hw]))
 ·simp[hw];refine zA (Ei s alpha (by omega) (by decide) (by decide)) e156 (.cons (.v _ _ _) (.cons (.v _ _ _) .nil)) (by simp[alpha]) ?_;rintro _ rfl;simp[hw];apply V;refine J.ret func136 (aM.one results136) (hQ _ _ _ _ (.v _ _ _) ?_);have:=zO s;cases h:s.all lower<;>simp[h] at this<;>simp[nA,hw,h,this]
end Go.Ab
namespace Go.Ab
structure Control where
 name:cH
 ports:Int
 kind:Int
 deriving Inhabited,DecidableEq
structure ay where
 control:Int
 parent:Int
 links:List Int
 deriving Inhabited,DecidableEq
structure aI where
 name:cH
 link:Int
 deriving Inhabited,DecidableEq
structure aG where
 roots:Int
 nodes:List ay
 sites:List Int
 edges:Int
 outer:List cH
 inner:List aI
 deriving Inhabited,DecidableEq
abbrev dG:=List Control
def iX {α:Type} (fr:Bool) (f:α->List I) (l:List α):List I:=[.list fr (l.map f)]
def Control.cells (x:Control):List I:=[str x.name,int x.ports,int x.kind]
def aI.cells (x:aI):List I:=[str x.name,int x.link]
def ay.cells (t:Bool) (x:ay):List I:=[int x.control,int x.parent,.list t (x.links.map au)]
def bz (t:Bool) (s:dG):I:=.list t (s.map Control.cells)
def encI (t:Bool) (l:List Int):I:=.list t (l.map au)
def encS (t:Bool) (l:List cH):I:=.list t (l.map a7)
def bO (t:Bool) (l:List aI):I:=.list t (l.map aI.cells)
def bE (t:Bool) (l:List ay):I:=.list t (l.map (ay.cells t))
def aG.cells (t:Bool) (b:aG):List I:=[int b.roots,bE t b.nodes,encI t b.sites,int b.edges,encS t b.outer,bO t b.inner]
def cQ (t:Bool) (b:aG):I:=.agg (b.cells t)
theorem sO (l:List Int):∀ e ∈ l.map au,∀ a ∈ e,flat a=true:=by simp[au]
theorem sF (l:List cH):∀ e ∈ l.map a7,∀ a ∈ e,flat a=true:=by simp[a7]
theorem rv (l:List aI):∀ e ∈ l.map aI.cells,∀ a ∈ e,flat a=true:=by simp[aI.cells]
theorem vC (l:dG):∀ e ∈ l.map Control.cells,∀ a ∈ e,flat a=true:=by simp[Control.cells]
theorem qP (t:Bool) (l:List Int):old (encI t l)=encI false l:=by rw[encI,gh,dR (sO l)];rfl
theorem vJ (t:Bool) (l:List cH):old (encS t l)=encS false l:=by rw[encS,gh,dR (sF l)];rfl
theorem vE (t:Bool) (l:List aI):old (bO t l)=bO false l:=by rw[bO,gh,dR (rv l)];rfl
theorem yB (t:Bool) (l:dG):old (bz t l)=bz false l:=by rw[bz,gh,dR (vC l)];rfl
theorem vt (t:Bool) (x:ay):(x.cells t).map old=x.cells false:=by
 simp only[ay.cells,List.map_cons,List.map_nil,ES];have:=qP t x.links;simp only[encI] at this;rw[this]
theorem qE (t:Bool) (l:List ay):old (bE t l)=bE false l:=by
 rw[bE,gh,List.map_map];simp only[bE]
 congr 1
 exact List.map_congr_left fun x _=>vt t x
theorem CN (t:Bool) (b:aG):old (cQ t b)=cQ false b:=by
 simp only[cQ,aG.cells,pF,List.map_cons,List.map_nil,ES,qE,qP,vJ,vE]
theorem ng (t:Bool) (l:List Int):gm (encI t l):=.list _ _ fun e he a ha=>gm.flat (sO l e he a ha)
theorem rr (t:Bool) (l:List cH):gm (encS t l):=.list _ _ fun e he a ha=>gm.flat (sF l e he a ha)
theorem qZ (t:Bool) (l:List aI):gm (bO t l):=.list _ _ fun e he a ha=>gm.flat (rv l e he a ha)
theorem xl (t:Bool) (l:dG):gm (bz t l):=.list _ _ fun e he a ha=>gm.flat (vC l e he a ha)
theorem vq (t:Bool) (x:ay):∀ a ∈ x.cells t,gm a:=by
 intro a ha;simp only[ay.cells,List.mem_cons,List.not_mem_nil,or_false] at ha;rcases ha with rfl | rfl | rfl
 ·exact .v _
 ·exact .v _
 ·exact ng t x.links
theorem qX (t:Bool) (l:List ay):gm (bE t l):=by
 refine .list _ _ fun e he a ha=>?_
 obtain⟨x,_,rfl⟩:=List.mem_map.1 he;exact vq t x a ha
theorem CO (t:Bool) (b:aG):gm (cQ t b):=by
 refine .agg _ fun a ha=>?_
 simp only[aG.cells,List.mem_cons,List.not_mem_nil,or_false] at ha;rcases ha with rfl | rfl | rfl | rfl | rfl | rfl
 ·exact .v _
 ·exact qX t _
 ·exact ng t _
 ·exact .v _
 ·exact rr t _
 ·exact qZ t _
section
variable {H:av} {n:Nat}
theorem aN.encI (t:Bool) (l:List Int):aN H n (encI t l) (encI false l):=aN.ux (ng t l) (qP t l)
theorem aN.encS (t:Bool) (l:List cH):aN H n (encS t l) (encS false l):=aN.ux (rr t l) (vJ t l)
theorem aN.bO (t:Bool) (l:List aI):aN H n (bO t l) (bO false l):=aN.ux (qZ t l) (vE t l)
theorem aN.bz (t:Bool) (l:dG):aN H n (bz t l) (bz false l):=aN.ux (xl t l) (yB t l)
theorem aN.bE (t:Bool) (l:List ay):aN H n (bE t l) (bE false l):=aN.ux (qX t l) (qE t l)
theorem aN.cQ (t:Bool) (b:aG):aN H n (cQ t b) (cQ false b):=aN.ux (CO t b) (CN t b)
end
def c5 (c:Control):Bool:=nA c.name && within c.ports 0 3 && within c.kind 0 2
def newName (sig:dG) (i:Nat):Bool := !(sig.take i).any fun d=>d.name == (sig.getD i default).name
def fP (sig:dG):Bool:=within sig.length 1 6 && (List.range sig.length).all fun i=>c5 (sig.getD i default) && newName sig i
def lz (l:List cH) (i:Nat):Bool:=decide (i=0) || Op.bytesLess (l.getD (i - 1) []) (l.getD i [])
def c7 (l:List cH):Bool:=decide (l.length<=16) && (List.range l.length).all fun i=>nA (l.getD i []) && lz l i
def dp (b:aG) (l:Int):Bool:=within l 0 (b.edges+b.outer.length - 1)
def cd (sig:dG) (b:aG) (parent:Int) (below:Nat):Bool:=
 if parent<0 then decide (-b.roots<=parent) else decide (parent<below) && decide ((sig.getD (b.nodes.getD parent.toNat default).control.toNat default).kind ≠ 2)
def cB (sig:dG) (b:aG) (i:Nat):Bool:=
 within (b.nodes.getD i default).control 0 (sig.length - 1) && cd sig b (b.nodes.getD i default).parent i && decide ((b.nodes.getD i default).links.length=(sig.getD (b.nodes.getD i default).control.toNat default).ports) &&
  (b.nodes.getD i default).links.all (dp b)
def m0 (sig:dG) (b:aG):Bool:=
 fP sig && within b.roots 0 4 && decide (b.nodes.length<=8) && decide (b.sites.length<=4) && within b.edges 0 8 && c7 b.outer && c7 (b.inner.map (·.name)) &&
  (List.range b.nodes.length).all (cB sig b) && b.sites.all (fun p=>cd sig b p b.nodes.length) && b.inner.all (fun w=>dp b w.link)
end Go.Ab
namespace Go.Ab
structure Match where
 nodes:List Int
 roots:List Int
 deriving Inhabited,DecidableEq
abbrev oE {α:Type} (l:List Sh) (f:α->List I) (v:I) (es:List α):bW:=(.s l,v,.list true (es.map f))
abbrev oI (v:I) (es:List Int):bW:=(.s [.c],v,.list true (es.map au))
abbrev oS (v:I) (es:List cH):bW:=(.s [.c],v,.list true (es.map a7))
abbrev oN (v:I) (es:List ay):bW:=(.s [.c,.c,.s [.c]],v,.list true (es.map (ay.cells true)))
abbrev oW (v:I) (es:List aI):bW:=(.s [.c,.c],v,.list true (es.map aI.cells))
section
variable {H H':av} {n n':Nat} {K:List bW} {ids:List Id} {x:bW}
theorem Sep.f1 {a:bW} (h:Sep H n (a::x::K) ids):Sep H n (x::a::K) ids:=Sep.front (K1:=[a]) h
theorem Sep.f2 {a b:bW} (h:Sep H n (a::b::x::K) ids):Sep H n (x::a::b::K) ids:=Sep.front (K1:=[a,b]) h
theorem Sep.f3 {a b c:bW} (h:Sep H n (a::b::c::x::K) ids):Sep H n (x::a::b::c::K) ids:=Sep.front (K1:=[a,b,c]) h
theorem Sep.f4 {a b c d:bW} (h:Sep H n (a::b::c::d::x::K) ids):Sep H n (x::a::b::c::d::K) ids:=Sep.front (K1:=[a,b,c,d]) h
theorem Sep.f5 {a b c d e:bW} (h:Sep H n (a::b::c::d::e::x::K) ids):Sep H n (x::a::b::c::d::e::K) ids:=Sep.front (K1:=[a,b,c,d,e]) h
theorem Sep.f6 {a b c d e f:bW} (h:Sep H n (a::b::c::d::e::f::x::K) ids):Sep H n (x::a::b::c::d::e::f::K) ids:=Sep.front (K1:=[a,b,c,d,e,f]) h
theorem Sep.f7 {a b c d e f g:bW} (h:Sep H n (a::b::c::d::e::f::g::x::K) ids):Sep H n (x::a::b::c::d::e::f::g::K) ids:=Sep.front (K1:=[a,b,c,d,e,f,g]) h
theorem Sep.f8 {a b c d e f g i:bW} (h:Sep H n (a::b::c::d::e::f::g::i::x::K) ids):Sep H n (x::a::b::c::d::e::f::g::i::K) ids:=Sep.front (K1:=[a,b,c,d,e,f,g,i]) h
theorem Sep.dr (h:Sep H n (x::K) ids):Sep H n K ids:=Sep.right (K1:=[x]) h
theorem Sep.ap {α:Type} {l:List Sh} {f:α->List I} {v:I} {xs ys zs:List α} (hz:zs=xs++ys) (h:Sep H n ((.s l,v,.list true (xs.map f++ys.map f))::K) ids):Sep H n ((.s l,v,.list true (zs.map f))::K) ids:=by
 rw[hz,List.map_append];exact h
theorem Sep.bw {α:Type} [Inhabited α] {f:α->List I} {l:List Sh} {d k:Nat} {z:List I} {K:List bW} {ids:List Id} {xs:List α} (he:xs=List.replicate k default) (hs:Sep H n K ids) (hz:∀ H:av,Row H l z (f default) []) :
  Sep (H.set (n,d) ⟨l.length,List.replicate k z⟩) (n+1) ((.s l,.arr (n,d) k 0 k,.list true (xs.map f))::K) ids:=by
 rw[he];exact Sep.addRep hs hz
theorem Sep.st {α:Type} {l:List Sh} {f:α->List I} {v:I} {xs zs:List α} {q:Nat} {y:α} (hz:zs=xs.set q y) (h:Sep H n ((.s l,v,.list true ((xs.map f).set q (f y)))::K) ids):Sep H n ((.s l,v,.list true (zs.map f))::K) ids:=by
 rw[hz,List.map_set];exact h
theorem Sep.oc {l:List Sh} {v e:I} (h:Sep H n ((.s l,v,e)::K) ids):az v=some [v]/\Ab.aE v=true:=⟨h.cells,h.aE⟩
end
theorem bf:(∀ (k:IntKind) (a:Int),aE (.v (.int k a))=true)/\(∀ a:Bool,aE (.v (.bool a))=true)/\(∀ a:ByteArray,aE (.v (.string a))=true)/\aE (.v (.slice none 0 0))=true /\
  (∀ (fr:Bool) (l:List (List I)),aE (.list fr l)=true)/\(∀ (id:Id) (g o l:Nat),aE (.arr id g o l)=true)/\∀ (id:Id) (g o l:Nat),aE (.ptr id g o l)=true:=
 ⟨fun _ _=>rfl,fun _=>rfl,fun _=>rfl,rfl,fun _ _=>rfl,fun _ _ _ _=>rfl,fun _ _ _ _=>rfl⟩
theorem bB:(∀ (k:IntKind) (a:Int),az (.v (.int k a))=some [.v (.int k a)])/\(∀ a:Bool,az (.v (.bool a))=some [.v (.bool a)])/\(∀ a:ByteArray,az (.v (.string a))=some [.v (.string a)])/\az (.v (.slice none 0 0))=some [.v (.slice none 0 0)] /\
  (∀ l:List I,az (.agg l)=some l)/\(∀ (fr:Bool) (l:List (List I)),az (.list fr l)=some [.list fr l])/\(∀ (id:Id) (g o l:Nat),az (.arr id g o l)=some [.arr id g o l])/\∀ (id:Id) (g o l:Nat),az (.ptr id g o l)=some [.ptr id g o l]:=
 ⟨fun _ _=>rfl,fun _=>rfl,fun _=>rfl,rfl,fun _=>rfl,fun _ _=>rfl,fun _ _ _ _=>rfl,fun _ _ _ _=>rfl⟩
theorem aN.kV {H:av} {n:Nat} (t:Bool) (l:List ay):aN H n (.list t (l.map (ay.cells t))) (.list false (l.map (ay.cells false))):=aN.bE t l
theorem dt (t:Bool) (l:List ay):old (.list t (l.map (ay.cells t))) = .list false (l.map (ay.cells false)):=qE t l
theorem aJ {α:Sort _} {x:α} {p:α->Prop} (h:∀ v,v=x->p v):∃ v,v=x/\p v:=⟨x,rfl,h x rfl⟩
abbrev pA (i n:Nat):I:=.ptr (i,n) 1 0 0
abbrev bC (t:Bool) (b:aG):List I:=[int b.roots,.list t (b.nodes.map (ay.cells t)),.list t (b.sites.map au),int b.edges,.list t (b.outer.map a7),.list t (b.inner.map aI.cells)]
abbrev mC (t:Bool) (m:Match):List I:=[.list t (m.nodes.map au),.list t (m.roots.map au)]
abbrev zB:List I:=[int 0,.v (.slice none 0 0),.v (.slice none 0 0),int 0,.v (.slice none 0 0),.v (.slice none 0 0)]
section
variable {H:av} {n:Nat}
theorem dE (t:Bool) (l:List Int):aN H n (.list t (l.map au)) (.list false (l.map au)):=aN.encI t l
theorem Cl (t:Bool) (l:List cH):aN H n (.list t (l.map a7)) (.list false (l.map a7)):=aN.encS t l
theorem Ef (t:Bool) (l:List aI):aN H n (.list t (l.map aI.cells)) (.list false (l.map aI.cells)):=aN.bO t l
theorem tC (t:Bool) (l:List Control):aN H n (.list t (l.map Control.cells)) (.list false (l.map Control.cells)):=aN.bz t l
theorem dU (t:Bool) (b:aG):aN H n (.agg (bC t b)) (.agg (bC false b)):=aN.cQ t b
end
end Go.Ab
namespace Go.Ab.Vg
theorem aO.up {σ τ:Type} {body:σ->(σ->Prop)->Prop} {s:σ} (N:Nat) (idx:σ->Int) (mk:Nat->τ->σ) (hidx:∀ k t,idx (mk k t)=(k:Int)) (aq:Nat->τ->Prop) (t0:τ) (hs:s=mk 0 t0) (h0:aq 0 t0)
  (step:∀ k t (K:σ->Prop),k<=N->aq k t->(k<N->∀ t',aq (k+1) t'->K (mk (k+1) t'))->body (mk k t) K):aO body s:=by
 refine⟨fun s=>∃ k t,s=mk k t/\k<=N/\aq k t,fun s=>N - (idx s).toNat,⟨0,t0,hs,Nat.zero_le _,h0⟩,?_⟩;rintro s ⟨k,t,rfl,hk,hI⟩;refine step k t _ hk hI fun hlt t' hI'=>⟨⟨k+1,t',rfl,hlt,hI'⟩,?_⟩
 show N - (idx _).toNat<N - (idx _).toNat;rw[hidx,hidx];omega
theorem aO.qc {τ:Type} {body:Int × τ->(Int × τ->Prop)->Prop} (N:Nat) (aq:Nat->τ->Prop) (t0:τ) (h0:aq 0 t0)
  (step:∀ k t (K:Int × τ->Prop),k<=N->aq k t->(k<N->∀ t',aq (k+1) t'->K (((k:Int)+1),t'))->body ((k:Int),t) K):aO body (0,t0):=
 aO.up N (·.1) (fun k t=>((k:Int),t)) (fun _ _=>rfl) aq t0 rfl h0 fun k t K hk hI h=>step k t K hk hI fun hlt t' hI'=>by have:=h hlt t' hI';simpa using this
theorem aO.upR {τ:Type} {body:τ × Int->(τ × Int->Prop)->Prop} (N:Nat) (aq:Nat->τ->Prop) (t0:τ) (h0:aq 0 t0)
  (step:∀ k t (K:τ × Int->Prop),k<=N->aq k t->(k<N->∀ t',aq (k+1) t'->K (t',((k:Int)+1)))->body (t,(k:Int)) K):aO body (t0,0):=
 aO.up N (·.2) (fun k t=>(t,(k:Int))) (fun _ _=>rfl) aq t0 rfl h0 fun k t K hk hI h=>step k t K hk hI fun hlt t' hI'=>by have:=h hlt t' hI';simpa using this
theorem aO.up1 {body:Int->(Int->Prop)->Prop} (N:Nat) (aq:Nat->Prop) (h0:aq 0)
  (step:∀ k (K:Int->Prop),k<=N->aq k->(k<N->aq (k+1)->K ((k:Int)+1))->body (k:Int) K):aO body 0:=
 aO.up (τ:=Unit) N id (fun k _=>(k:Int)) (fun _ _=>rfl) (fun k _=>aq k) () rfl h0 fun k _ K hk hI h=>step k K hk hI fun hlt hI'=>by have:=h hlt () hI';simpa using this
theorem aO.byM {σ:Type} {body:σ->(σ->Prop)->Prop} {s:σ} (aq:σ->Prop) (m:σ->Nat) (h0:aq s) (step:∀ s,aq s->body s (fun s'=>aq s'/\m s'<m s)):aO body s:=⟨aq,m,h0,step⟩
theorem bo {α:Type} [Inhabited α] {l:List α} {k:Nat} (h:k<l.length):at' l (k:Int)=l[k]:=by simp[at',h]
def idxs {α:Type} [Inhabited α] (l:List α) (p:α->Bool) (k:Nat):List Int:=((List.range k).filter fun i:Nat=>p (at' l (i:Int))).map fun i:Nat=>(i:Int)
section
variable {α:Type} [Inhabited α] (l:List α) (p:α->Bool)
theorem uP {k:Nat} (h:p (at' l (k:Int))=true):idxs l p (k+1)=idxs l p k++[(k:Int)]:=by simp[idxs,List.range_succ,h]
theorem zf {k:Nat} (h:p (at' l (k:Int))=false):idxs l p (k+1)=idxs l p k:=by simp[idxs,List.range_succ,h]
theorem uJ (k:Nat):(idxs l p k).length<=k:=by
 have:=List.length_filter_le (fun i:Nat=>p (at' l (i:Int))) (List.range k);simpa[idxs] using this
theorem mN {k:Nat} {x:Int}:x ∈ idxs l p k↔0<=x/\x<k/\p (at' l x)=true:=by
 simp only[idxs,List.mem_map,List.mem_filter,List.mem_range]
 constructor
 ·rintro⟨i,⟨h1,h2⟩,rfl⟩;exact⟨by omega,by omega,h2⟩
 ·rintro⟨h1,h2,h3⟩;exact⟨x.toNat,⟨by omega,by rwa [Int.toNat_of_nonneg h1]⟩,by omega⟩
end
end Go.Ab.Vg
namespace Go.Ab.Vg
def cmpL:List Int->List Int->Int
 | [],[]=>0
 | [],_::_ => -1
 | _::_,[]=>1
 | a::x,b::y=>if a<b then -1 else if b<a then 1 else cmpL x y
theorem ff:∀ a:List Int,cmpL a a=0
 | []=>rfl
 | a::x=>by simp[cmpL,ff x]
theorem cmpL_eq:∀ {a b:List Int},cmpL a b=0->a=b
 | [],[],_=>rfl
 | [],_::_,h=>by simp[cmpL] at h
 | _::_,[],h=>by simp[cmpL] at h
 | a::x,b::y,h=>by
  simp only[cmpL] at h
  split at h
  ·omega
  ·split at h
   ·omega
   ·rw[cmpL_eq h,show a=b by omega]
theorem ej:∀ a b:List Int,cmpL b a = - cmpL a b
 | [],[]=>rfl
 | [],_::_=>rfl
 | _::_,[]=>rfl
 | a::x,b::y=>by
  have:=ej x y;simp only[cmpL]
  repeat' split
  all_goals omega
theorem eN:∀ {a b c:List Int},cmpL a b<0->cmpL b c<0->cmpL a c<0
 | [],[],_,h,_=>by simp[cmpL] at h
 | [],_::_,[],_,h=>by simp[cmpL] at h
 | [],_::_,_::_,_,_=>by simp[cmpL]
 | _::_,[],_,h,_=>by simp[cmpL] at h
 | _::_,_::_,[],_,h=>by simp[cmpL] at h
 | a::x,b::y,c::z,h,k=>by
  have:=@eN x y z;simp only[cmpL] at h k ⊢
  repeat' split at h
  all_goals repeat' split at k
  all_goals repeat' split
  all_goals first | omega | (exact this h k)
theorem mg {a b c:List Int} (h:¬ cmpL b a<0) (k:cmpL b c<0):cmpL a c<0:=by
 rcases Int.lt_trichotomy (cmpL a b) 0 with h1 | h1 | h1
 ·exact eN h1 k
 ·rw[cmpL_eq h1];exact k
 ·exact absurd (by rw[ej a b];omega) h
theorem vW (p:List Int):∀ a b:List Int,cmpL (p++a) (p++b)=cmpL a b:=by
 induction p with
 | nil=>simp
 | cons x p ih=>intro a b;simp[cmpL,ih]
end Go.Ab.Vg
namespace Go.Ab.Vg
theorem re:∀ {a b:List Int} (x y:List Int),cmpL a b<0->(∀ z,b=a++z->z=[])->cmpL (a++x) (b++y)<0
 | [],[],_,_,h,_=>by simp[cmpL] at h
 | [],c::y,_,_,_,hp=>by simpa using hp (c::y) rfl
 | _::_,[],_,_,h,_=>by simp[cmpL] at h
 | a::p,b::q,x,y,h,hp=>by
  simp only[cmpL,List.cons_append] at h ⊢
  split
  ·omega
  ·rename_i h1
   rw[if_neg h1] at h
   split
   ·rename_i h2;rw[if_pos h2] at h;omega
   ·rename_i h2
    rw[if_neg h2] at h;have e:a=b:=by omega
    subst e;exact re x y h fun z hz=>hp z (by rw[hz];rfl)
abbrev P2:=List Int × List Int
def vi (a b:P2):Prop:=cmpL a.1 b.1<0\/(a.1=b.1/\cmpL a.2 b.2<0)
theorem ia {a b c:P2} (h:vi a b) (k:vi b c):vi a c:=by
 rcases h with h | ⟨h,h'⟩<;>rcases k with k | ⟨k,k'⟩
 ·exact .inl (eN h k)
 ·exact .inl (k ▸ h)
 ·exact .inl (h ▸ k)
 ·exact .inr ⟨h.trans k,eN h' k'⟩
theorem jW (a:P2):¬ vi a a:=by
 rintro (h | ⟨_,h⟩)<;>rw[ff] at h<;>omega
theorem Ey (a b:P2):vi a b\/a=b\/vi b a:=by
 rcases Int.lt_trichotomy (cmpL a.1 b.1) 0 with h | h | h
 ·exact .inl (.inl h)
 ·have e:=cmpL_eq h;rcases Int.lt_trichotomy (cmpL a.2 b.2) 0 with k | k | k
  ·exact .inl (.inr ⟨e,k⟩)
  ·exact .inr (.inl (Prod.ext e (cmpL_eq k)))
  ·exact .inr (.inr (.inr ⟨e.symm,by rw[ej a.2 b.2];omega⟩))
 ·exact .inr (.inr (.inl (by rw[ej a.1 b.1];omega)))
def vM (l:List P2) (m:P2):Prop:=m ∈ l/\∀ x ∈ l,¬ vi x m
theorem vM.uniq {l:List P2} {m m':P2} (h:vM l m) (k:vM l m'):m=m':=by
 rcases Ey m m' with h1 | h1 | h1
 ·exact absurd h1 (k.2 _ h.1)
 ·exact h1
 ·exact absurd h1 (h.2 _ k.1)
structure Cz where
 es:List Int
 pl:List Int
 num:Nat
section
variable (b:aG)
def cA (pl:List Int) (p:Int):Int:=if p<0 then -1 - p else 4+at' pl p
def bJ:List Int->List Int->List Int × List Int
 | es,[]=>([],es)
 | es,l::t=>if l >= b.edges then let r:=bJ es t;((l - b.edges)::r.1,r.2) else if l ∈ es then let r:=bJ es t;((16+((es.idxOf l:Nat):Int))::r.1,r.2) else let r:=bJ (es++[l]) t;((16+((es.length:Nat):Int))::r.1,r.2)
def bk (s:Cz) (k:Int):List Int × List Int:=
 let x:=at' b.nodes k;let r:=bJ b s.es x.links;(x.control::cA s.pl x.parent::r.1,r.2)
def bF (s:Cz) (k:Int):Cz:=⟨(bk b s k).2,s.pl.set k.toNat s.num,s.num+1⟩
def iN (s:Cz):List Int × List Int:=let r:=bJ b s.es (b.inner.map fun w=>w.link);(b.sites.map (cA s.pl)++r.1,r.2)
def dm (pl:List Int) (k:Int):Bool:=decide (at' pl k<0) && (decide ((at' b.nodes k).parent<0) || decide (0<=at' pl (at' b.nodes k).parent))
def dX (pl:List Int):List Int:=((List.range b.nodes.length).map fun i:Nat=>(i:Int)).filter (dm b pl)
def fw:Nat->Cz->List P2
 | 0,s=>[((iN b s).1,[])]
 | m+1,s=>(dX b s.pl).flatMap fun k=>(fw m (bF b s k)).map fun q=>((bk b s k).1++q.1,k::q.2)
end
def Ch (f:Int->Nat):Nat->List Int->Prop
 | 0,l=>l=[]
 | m+1,l=>∃ x c r,l=(x::c)++r/\c.length=f x/\Ch f m r
theorem Ch.snoc {f:Int->Nat} {x:Int} {c:List Int} (hc:c.length=f x):∀ {m:Nat} {l:List Int},Ch f m l->Ch f (m+1) (l++(x::c))
 | 0,l,h=>by rw[show l=[] from h];exact⟨x,c,[],by simp,hc,rfl⟩
 | m+1,l,⟨y,d,r,h1,h2,h3⟩=>⟨y,d,r++(x::c),by rw[h1];simp,h2,Ch.snoc hc h3⟩
theorem Ch.apart {f:Int->Nat}:∀ {m:Nat} {a c:List Int},Ch f m a->Ch f m c->∀ z,c=a++z->z=[]
 | 0,a,c,h,k,z,e=>by rw[show a=[] from h,show c=[] from k] at e;simpa using e.symm
 | m+1,a,c,⟨x,u,r,h1,h2,h3⟩,⟨y,v,t,k1,k2,k3⟩,z,e=>by
  rw[h1,k1] at e;simp only[List.cons_append,List.append_assoc,List.cons.injEq] at e;obtain⟨rfl,e⟩:=e;have hl:v.length=u.length:=by rw[h2,k2]
  have:=List.append_inj e hl;exact Ch.apart h3 k3 z this.2
theorem Ch.lt {f:Int->Nat} {m:Nat} {a c:List Int} (x y:List Int) (h:Ch f m a) (k:Ch f m c) (hl:cmpL a c<0):cmpL (a++x) (c++y)<0:=re x y hl (h.apart k)
section
variable {b:aG}
theorem dN:∀ (l es:List Int),(bJ b es l).1.length=l.length
 | [],_=>rfl
 | x::t,es=>by
  simp only[bJ]
  repeat' split
  all_goals simp[dN t]
def mG (b:aG):Prop:=∀ x y:Int,0<=x/\x<b.nodes.length->0<=y/\y<b.nodes.length->(at' b.nodes x).control=(at' b.nodes y).control->(at' b.nodes x).links.length=(at' b.nodes y).links.length
noncomputable def wid (b:aG) (c:Int):Nat:=open Classical in if h:∃ x:Int,(0<=x/\x<b.nodes.length)/\(at' b.nodes x).control=c then 1+(at' b.nodes h.choose).links.length else 0
theorem wid_at (he:mG b) {x:Int} (hx:0<=x/\x<b.nodes.length):wid b (at' b.nodes x).control=1+(at' b.nodes x).links.length:=by
 have h:∃ y:Int,(0<=y/\y<b.nodes.length)/\(at' b.nodes y).control=(at' b.nodes x).control:=⟨x,hx,rfl⟩
 unfold wid;rw[dif_pos h];rw[he _ x h.choose_spec.1 hx h.choose_spec.2]
theorem cF {pl:List Int} {k:Int}:k ∈ dX b pl↔(0<=k/\k<b.nodes.length)/\dm b pl k=true:=by
 simp only[dX,List.mem_filter,List.mem_map,List.mem_range]
 constructor
 ·rintro⟨⟨i,hi,rfl⟩,h⟩;exact⟨⟨by omega,by omega⟩,h⟩
 ·rintro⟨⟨h1,h2⟩,h⟩;exact⟨⟨k.toNat,by omega,by omega⟩,h⟩
theorem ow (he:mG b) (s:Cz) {k:Int} (hk:0<=k/\k<b.nodes.length):∃ x c,(bk b s k).1=x::c/\c.length=wid b x:=by
 refine⟨_,_,rfl,?_⟩;rw[wid_at he hk];simp[dN];omega
theorem eh {m:Nat} {s:Cz} {p:P2}:p ∈ fw b (m+1) s↔∃ k ∈ dX b s.pl,∃ q ∈ fw b m (bF b s k),p=((bk b s k).1++q.1,k::q.2):=by
 simp only[fw,List.mem_flatMap,List.mem_map,eq_comm]
structure Fit (b:aG) (m:Nat) (s:Cz):Prop where
 len:s.pl.length=b.nodes.length
 num:s.num+m=b.nodes.length
 cnt:(s.pl.filter fun x=>decide (x<0)).length=m
 low:∀ v ∈ s.pl,-1<=v
theorem kq:∀ {l:List Int} {k:Nat} {v:Int} (hk:k<l.length),l[k]<0->0<=v->((l.set k v).filter fun x=>decide (x<0)).length+1=(l.filter fun x=>decide (x<0)).length
 | a::l,0,v,_,h,hv=>by
  simp only[List.getElem_cons_zero] at h;simp[List.set_cons_zero,h,show ¬ v<0 by omega]
 | a::l,k+1,v,hk,h,hv=>by
  simp only[List.getElem_cons_succ] at h;have:=kq (l:=l) (k:=k) (by simpa using hk) h hv;simp only[List.set_cons_succ,List.filter_cons]
  split<;>(try simp only[List.length_cons])<;>omega
theorem iK {l:List Int} {i k v:Int} (hi:0<=i) (hk:0<=k/\k<l.length):at' (l.set k.toNat v) i=if i=k then v else at' l i:=by
 unfold at'
 by_cases h:i=k
 ·subst h;rw[if_pos rfl];simp[List.getD_eq_getElem?_getD,show i.toNat<l.length by omega]
 ·rw[if_neg h];simp[List.getD_eq_getElem?_getD,show ¬ k.toNat=i.toNat by omega]
theorem Fit.step {m:Nat} {s:Cz} {k:Int} (h:Fit b (m+1) s) (hk:k ∈ dX b s.pl):Fit b m (bF b s k):=by
 obtain⟨⟨k0,k1⟩,hf⟩:=cF.1 hk;have hl:=h.len;have hkl:k.toNat<s.pl.length:=by omega
 simp only[dm,Bool.and_eq_true,decide_eq_true_eq] at hf;have hf1:s.pl[k.toNat]<0:=by have:=hf.1;simpa[at',hkl] using this
 have:=kq (v:=(s.num:Int)) hkl hf1 (by omega);refine⟨by simp[bF,h.len],by have:=h.num;simp only[bF];omega,?_,?_⟩
 ·have:=h.cnt;simp only[bF];omega
 ·intro v hv;rcases List.mem_or_eq_of_mem_set hv with hv | rfl
  ·exact h.low v hv
  ·omega
theorem Fit.low' {m:Nat} {s:Cz} (h:Fit b m s) (i:Int) (hi:0<=i/\i<b.nodes.length) : -1<=at' s.pl i:=by
 have hl:=h.len;have:i.toNat<s.pl.length:=by omega
 rw[at',show s.pl.getD i.toNat default=s.pl[i.toNat] by simp[this]];exact h.low _ (List.getElem_mem this)
def fu (b:aG):Prop:=∀ x:Int,0<=x/\x<b.nodes.length->(at' b.nodes x).parent<x
theorem k9 (hd:fu b) {m:Nat} {s:Cz} (h:Fit b (m+1) s):∃ k,k ∈ dX b s.pl:=by
 have hex:∃ i:Nat,i<s.pl.length/\at' s.pl (i:Int)<0:=by
  have hc:=h.cnt;cases hq:s.pl.filter fun x=>decide (x<0) with
  | nil=>rw[hq] at hc;simp at hc
  | cons x t=>
   have hx:x ∈ s.pl.filter fun x=>decide (x<0):=by rw[hq];simp
   obtain⟨h1,h2⟩:=List.mem_filter.1 hx;obtain⟨i,hi,rfl⟩:=List.getElem_of_mem h1;exact⟨i,hi,by simpa[at',hi] using h2⟩
 obtain⟨i,⟨hi1,hi2⟩,hmin⟩:∃ i:Nat,(i<s.pl.length/\at' s.pl (i:Int)<0)/\∀ j:Nat,j<i->¬ (j<s.pl.length/\at' s.pl (j:Int)<0):=by
  obtain⟨i,hi⟩:=hex
  induction i using Nat.strongRecOn with
  | _ i ih=>
   by_cases hj:∃ j:Nat,j<i/\(j<s.pl.length/\at' s.pl (j:Int)<0)
   ·obtain⟨j,h1,h2⟩:=hj;exact ih j h1 h2
   ·exact⟨i,hi,fun j h1 h2=>hj ⟨j,h1,h2⟩⟩
 have hl:=h.len;refine⟨i,cF.2 ⟨⟨by omega,by omega⟩,?_⟩⟩;simp only[dm,Bool.and_eq_true,Bool.or_eq_true,decide_eq_true_eq];refine⟨hi2,?_⟩;have hp:=hd i ⟨by omega,by omega⟩;rcases Int.lt_or_le (at' b.nodes (i:Int)).parent 0 with h0 | h0
 ·exact .inl h0
 ·right
  have:=hmin (at' b.nodes (i:Int)).parent.toNat (by omega);rw[show (((at' b.nodes (i:Int)).parent.toNat:Nat):Int)=(at' b.nodes (i:Int)).parent by omega] at this;have h1:(at' b.nodes (i:Int)).parent.toNat<s.pl.length:=by omega
  simp only[h1,true_and] at this;omega
theorem qA (hd:fu b):∀ {m:Nat} {s:Cz},Fit b m s->∃ p,p ∈ fw b m s
 | 0,s,_=>⟨_,List.mem_singleton.2 rfl⟩
 | m+1,s,h=>by
  obtain⟨k,hk⟩:=k9 hd h;obtain⟨q,hq⟩:=qA hd (h.step hk);exact⟨_,eh.2 ⟨k,hk,q,hq,rfl⟩⟩
end
section
variable {b:aG}
structure Twin (b:aG) (x y:Int):Prop where
 ctl:(at' b.nodes x).control=(at' b.nodes y).control
 par:(at' b.nodes x).parent=(at' b.nodes y).parent
 lnk:(at' b.nodes x).links=(at' b.nodes y).links
 kx:∀ i:Int,0<=i/\i<b.nodes.length->(at' b.nodes i).parent ≠ x
 ky:∀ i:Int,0<=i/\i<b.nodes.length->(at' b.nodes i).parent ≠ y
 sx:∀ p ∈ b.sites,p ≠ x
 sy:∀ p ∈ b.sites,p ≠ y
def swp (x y i:Int):Int:=if i=x then y else if i=y then x else i
theorem pC {n x y i:Int} (hx:0<=x/\x<n) (hy:0<=y/\y<n) (hi:0<=i/\i<n):0<=swp x y i/\swp x y i<n:=by
 unfold swp;repeat' split
 all_goals assumption
theorem zG (x y i:Int):swp x y (swp x y i)=i:=by
 unfold swp;repeat' split
 all_goals omega
structure zY (b:aG) (x y:Int) (s t:Cz):Prop where
 es:t.es=s.es
 num:t.num=s.num
 l1:s.pl.length=b.nodes.length
 l2:t.pl.length=b.nodes.length
 pl:∀ i:Int,0<=i/\i<b.nodes.length->at' t.pl (swp x y i)=at' s.pl i
theorem Ex {x y:Int} (h:Twin b x y) (i:Int):(at' b.nodes (swp x y i)).control=(at' b.nodes i).control:=by
 unfold swp;repeat' split
 ·subst_vars;exact h.ctl.symm
 ·subst_vars;exact h.ctl
 ·rfl
theorem yY {x y:Int} (h:Twin b x y) (i:Int):(at' b.nodes (swp x y i)).parent=(at' b.nodes i).parent:=by
 unfold swp;repeat' split
 ·subst_vars;exact h.par.symm
 ·subst_vars;exact h.par
 ·rfl
theorem Ev {x y:Int} (h:Twin b x y) (i:Int):(at' b.nodes (swp x y i)).links=(at' b.nodes i).links:=by
 unfold swp;repeat' split
 ·subst_vars;exact h.lnk.symm
 ·subst_vars;exact h.lnk
 ·rfl
variable {x y:Int} {s t:Cz}
theorem zY.place (hw:zY b x y s t) {p:Int} (hx:p ≠ x) (hy:p ≠ y) (hp:p<b.nodes.length):cA t.pl p=cA s.pl p:=by
 unfold cA
 split
 ·rfl
 ·have:=hw.pl p ⟨by omega,hp⟩;rw[show swp x y p=p by unfold swp;rw[if_neg hx,if_neg hy]] at this;rw[this]
theorem zY.chunk (hw:zY b x y s t) (h:Twin b x y) (hd:fu b) {k:Int} (hk:0<=k/\k<b.nodes.length):bk b t (swp x y k)=bk b s k:=by
 have hp:=hd k hk;simp only[bk,Ex h,yY h,Ev h,hw.es,hw.place (h.kx k hk) (h.ky k hk) (by omega)]
theorem zY.free (hw:zY b x y s t) (h:Twin b x y) (hd:fu b) (hx:0<=x/\x<b.nodes.length) (hy:0<=y/\y<b.nodes.length) {k:Int} (hk:k ∈ dX b s.pl):swp x y k ∈ dX b t.pl:=by
 obtain⟨hr,hf⟩:=cF.1 hk;refine cF.2 ⟨pC hx hy hr,?_⟩;simp only[dm,Bool.and_eq_true,Bool.or_eq_true,decide_eq_true_eq] at hf ⊢;rw[hw.pl k hr,yY h];refine⟨hf.1,?_⟩;have hp:=hd k hr;rcases Int.lt_or_le (at' b.nodes k).parent 0 with hn | hn
 ·exact .inl hn
 ·right
  have:=hw.pl _ ⟨hn,by omega⟩;rw[show swp x y (at' b.nodes k).parent=(at' b.nodes k).parent by unfold swp;rw[if_neg (h.kx k hr),if_neg (h.ky k hr)]] at this;rw[this];rcases hf.2 with h0 | h0
  ·omega
  ·exact h0
theorem zY.step (hw:zY b x y s t) (h:Twin b x y) (hd:fu b) (hx:0<=x/\x<b.nodes.length) (hy:0<=y/\y<b.nodes.length) {k:Int} (hk:0<=k/\k<b.nodes.length):zY b x y (bF b s k) (bF b t (swp x y k)):=by
 have hr:=pC hx hy hk;refine⟨by simp only[bF,hw.chunk h hd hk],by simp[bF,hw.num],by simp[bF,hw.l1],by simp[bF,hw.l2],fun i hi=>?_⟩;simp only[bF];rw[iK (pC hx hy hi).1 (by rw[hw.l2];exact hr),iK hi.1 (by rw[hw.l1];exact hk),hw.num]
 by_cases e:i=k
 ·subst e;simp
 ·rw[if_neg e,if_neg (fun e2=>e (by rw[<- zG x y i,e2,zG]))];exact hw.pl i hi
theorem zY.tail (hw:zY b x y s t) (h:Twin b x y) (hs:∀ p ∈ b.sites,p<b.nodes.length):iN b t=iN b s:=by
 simp only[iN,hw.es];rw[List.map_congr_left fun p hp=>hw.place (h.sx p hp) (h.sy p hp) (hs p hp)]
theorem pV (h:Twin b x y) (hd:fu b) (hs:∀ p ∈ b.sites,p<b.nodes.length) (hx:0<=x/\x<b.nodes.length) (hy:0<=y/\y<b.nodes.length):∀ {m:Nat} {s t:Cz},zY b x y s t->∀ q ∈ fw b m s,∃ q' ∈ fw b m t,q'.1=q.1
 | 0,s,t,hw,q,hq=>by
  simp only[fw,List.mem_singleton] at hq;subst hq;exact⟨_,List.mem_singleton.2 rfl,by simp only[hw.tail h hs]⟩
 | m+1,s,t,hw,q,hq=>by
  obtain⟨k,hk,q1,hq1,rfl⟩:=eh.1 hq;have hr:=(cF.1 hk).1;obtain⟨q2,hq2,he⟩:=pV h hd hs hx hy (hw.step h hd hx hy hr) q1 hq1;exact⟨_,eh.2 ⟨_,hw.free h hd hx hy hk,q2,hq2,rfl⟩,by simp only[hw.chunk h hd hr,he]⟩
theorem xo (h:Twin b x y) (hd:fu b) (hs:∀ p ∈ b.sites,p<b.nodes.length) {m:Nat} {s:Cz} (hl:s.pl.length=b.nodes.length) (hlow:∀ i:Int,0<=i/\i<b.nodes.length -> -1<=at' s.pl i) (hx:x ∈ dX b s.pl) (hy:y ∈ dX b s.pl) (hxy:x<y) {q:P2} (hq:q ∈ fw b m (bF b s y)) :
  ∃ q' ∈ fw b m (bF b s x),vi ((bk b s x).1++q'.1,x::q'.2) ((bk b s y).1++q.1,y::q.2):=by
 obtain⟨rx,fx⟩:=cF.1 hx;obtain⟨ry,fy⟩:=cF.1 hy;have hc:bk b s x=bk b s y:=by simp only[bk,h.ctl,h.par,h.lnk]
 have hw:zY b x y (bF b s y) (bF b s x):=by
  refine⟨by simp only[bF,hc],rfl,by simp[bF,hl],by simp[bF,hl],fun i hi=>?_⟩;simp only[bF];rw[iK (pC rx ry hi).1 (by omega),iK hi.1 (by omega)];simp only[dm,Bool.and_eq_true,decide_eq_true_eq] at fx fy;have lx:=hlow x rx;have ly:=hlow y ry;unfold swp
  by_cases e1:i=x
  ·subst e1;rw[if_pos rfl,if_neg (by omega),if_neg (by omega)];omega
  ·by_cases e2:i=y
   ·subst e2;rw[if_neg e1,if_pos rfl,if_pos rfl,if_pos rfl]
   ·rw[if_neg e1,if_neg e2,if_neg e1,if_neg e2]
 obtain⟨q',hq',he⟩:=pV h hd hs rx ry hw q hq;exact⟨q',hq',.inr ⟨by simp only[hc,he],by simp[cmpL,hxy]⟩⟩
end
section
variable {b:aG}
def thin (tw:Int->Int->Bool):List Int->List Int->List Int
 | out,[]=>out
 | out,i::l=>thin tw (if out.any (fun x=>tw x i) then out else out++[i]) l
theorem pN (tw:Int->Int->Bool):∀ {l out:List Int} {x:Int},x ∈ thin tw out l->x ∈ out\/x ∈ l
 | [],_,_,h=>.inl h
 | i::l,out,x,h=>by
  rcases pN tw (l:=l) h with h | h
  ·split at h
   ·exact .inl h
   ·rcases List.mem_append.1 h with h | h
    ·exact .inl h
    ·exact .inr (by simp[List.mem_singleton.1 h])
  ·exact .inr (by simp[h])
theorem oo (tw:Int->Int->Bool):∀ {l out:List Int} {x:Int},x ∈ out->x ∈ thin tw out l
 | [],_,_,h=>h
 | i::l,out,x,h=>oo tw (l:=l) (by split<;>simp[h])
theorem qy (tw:Int->Int->Bool):∀ {l out:List Int},(∀ x ∈ out,∀ y ∈ l,x<y)->l.Pairwise (·<·)->∀ y ∈ l,y ∈ thin tw out l\/∃ x ∈ thin tw out l,tw x y=true/\x<y
 | i::l,out,ho,hp,y,hy=>by
  have hp2:=(List.pairwise_cons.1 hp)
  rcases List.mem_cons.1 hy with rfl | hy
  ·simp only[thin]
   by_cases h:out.any (fun x=>tw x y)=true
   ·rw[if_pos h];obtain⟨x,hx,ht⟩:=List.any_eq_true.1 h;exact .inr ⟨x,oo tw hx,ht,ho x hx y (by simp)⟩
   ·rw[if_neg h];exact .inl (oo tw (by simp))
  ·exact qy tw (l:=l) (fun x hx z hz=>by
    split at hx
    ·exact ho x hx z (by simp[hz])
    ·rcases List.mem_append.1 hx with hx | hx
     ·exact ho x hx z (by simp[hz])
     ·rw[List.mem_singleton.1 hx];exact hp2.1 z hz) hp2.2 y hy
theorem wq (tw:Int->Int->Bool):∀ {l out:List Int},(∀ x ∈ out,∀ y ∈ l,x<y)->l.Pairwise (·<·)->out.Pairwise (·<·)->(thin tw out l).Pairwise (·<·)
 | [],_,_,_,h=>h
 | i::l,out,ho,hp,h=>by
  have hp2:=(List.pairwise_cons.1 hp)
  refine wq tw (l:=l) (fun x hx z hz=>?_) hp2.2 ?_
  ·split at hx
   ·exact ho x hx z (by simp[hz])
   ·rcases List.mem_append.1 hx with hx | hx
    ·exact ho x hx z (by simp[hz])
    ·rw[List.mem_singleton.1 hx];exact hp2.1 z hz
  ·split
   ·exact h
   ·exact List.pairwise_append.2 ⟨h,by simp,fun x hx z hz=>by rw[List.mem_singleton.1 hz];exact ho x hx i (by simp)⟩
theorem oz (pl:List Int):(dX b pl).Pairwise (·<·):=by
 refine List.Pairwise.filter _ (List.pairwise_map.2 ?_);exact List.pairwise_lt_range.imp fun h=>by omega
def e9 (b:aG) (x y:Int):Bool:=
 decide ((at' b.nodes x).control=(at' b.nodes y).control) && decide ((at' b.nodes x).parent=(at' b.nodes y).parent) && decide ((at' b.nodes x).links=(at' b.nodes y).links) &&
  b.nodes.all (fun n=>decide (n.parent ≠ x) && decide (n.parent ≠ y)) && b.sites.all (fun p=>decide (p ≠ x) && decide (p ≠ y))
theorem Ar {x y:Int} (h:e9 b x y=true):Twin b x y:=by
 simp only[e9,Bool.and_eq_true,decide_eq_true_eq,List.all_eq_true] at h;obtain⟨⟨⟨⟨h1,h2⟩,h3⟩,h4⟩,h5⟩:=h;have hm:∀ i:Int,0<=i/\i<b.nodes.length->at' b.nodes i ∈ b.nodes:=fun i hi=>by
  have:i.toNat<b.nodes.length:=by omega
  rw[at',show b.nodes.getD i.toNat default=b.nodes[i.toNat] by simp[this]];exact List.getElem_mem this
 exact⟨h1,h2,h3,fun i hi=>(h4 _ (hm i hi)).1,fun i hi=>(h4 _ (hm i hi)).2,fun p hp=>(h5 p hp).1,fun p hp=>(h5 p hp).2⟩
def ec (b:aG) (pl:List Int):List Int:=thin (e9 b) [] (dX b pl)
def iT (b:aG) (s:Cz):List Int->List Int
 | []=>[]
 | k::l=>l.foldl (fun a k=>if cmpL (bk b s k).1 a<0 then (bk b s k).1 else a) (bk b s k).1
theorem pg (f:Int->List Int):∀ (l:List Int) (a:List Int),(l.foldl (fun a k=>if cmpL (f k) a<0 then f k else a) a=a\/∃ k ∈ l,l.foldl (fun a k=>if cmpL (f k) a<0 then f k else a) a=f k)/\¬ cmpL a (l.foldl (fun a k=>if cmpL (f k) a<0 then f k else a) a)<0/\∀ k ∈ l,¬ cmpL (f k) (l.foldl (fun a k=>if cmpL (f k) a<0 then f k else a) a)<0
 | [],a=>⟨.inl rfl,by simp[ff],by simp⟩
 | k::l,a=>by
  obtain⟨h1,h2,h3⟩:=pg f l (if cmpL (f k) a<0 then f k else a);simp only[List.foldl_cons];generalize l.foldl (fun a k=>if cmpL (f k) a<0 then f k else a) (if cmpL (f k) a<0 then f k else a)=r at h1 h2 h3
  by_cases h:cmpL (f k) a<0
  ·rw[if_pos h] at h1 h2;refine⟨.inr ?_,fun h4=>h2 (eN h h4),fun j hj=>?_⟩
   ·rcases h1 with h1 | ⟨j,hj,h1⟩
    ·exact⟨k,by simp,h1⟩
    ·exact⟨j,by simp[hj],h1⟩
   ·rcases List.mem_cons.1 hj with rfl | hj
    ·exact h2
    ·exact h3 j hj
  ·rw[if_neg h] at h1 h2;refine⟨?_,h2,fun j hj=>?_⟩
   ·rcases h1 with h1 | ⟨j,hj,h1⟩
    ·exact .inl h1
    ·exact .inr ⟨j,by simp[hj],h1⟩
   ·rcases List.mem_cons.1 hj with rfl | hj
    ·exact fun h4=>h2 (mg h h4)
    ·exact h3 j hj
theorem A5 (s:Cz) {l:List Int} (hl:l ≠ []):(∃ k ∈ l,iT b s l=(bk b s k).1)/\∀ k ∈ l,¬ cmpL (bk b s k).1 (iT b s l)<0:=by
 cases l with
 | nil=>exact absurd rfl hl
 | cons k l=>
  obtain⟨h1,h2,h3⟩:=pg (fun k=>(bk b s k).1) l (bk b s k).1;refine⟨?_,fun j hj=>?_⟩
  ·rcases h1 with h1 | ⟨j,hj,h1⟩
   ·exact⟨k,by simp,h1⟩
   ·exact⟨j,by simp[hj],h1⟩
  ·rcases List.mem_cons.1 hj with rfl | hj
   ·exact h2
   ·exact h3 j hj
abbrev AccB:=List Int × List Int × Bool
def jx (f:Int->Bool) (g:Int->P2) (a:AccB) (k:Int):AccB:=if f k then (if a.2.2=false\/cmpL (g k).1 a.1<0 then ((g k).1,k::(g k).2,true) else a) else a
theorem qz (f:Int->Bool) (g:Int->P2):∀ (l pre:List Int) (a:AccB),(pre++l).Pairwise (·<·)->(a.2.2=true/\(∃ k ∈ pre,f k=true/\a.1=(g k).1/\a.2.1=k::(g k).2/\∀ j ∈ pre,f j=true->¬ vi ((g j).1,j::(g j).2) (a.1,a.2.1))\/a.2.2=false/\∀ j ∈ pre,f j=false) ->
  (∃ k ∈ pre++l,f k=true)->∃ k ∈ pre++l,f k=true/\(l.foldl (jx f g) a).1=(g k).1/\(l.foldl (jx f g) a).2.1=k::(g k).2/\∀ j ∈ pre++l,f j=true->¬ vi ((g j).1,j::(g j).2) ((l.foldl (jx f g) a).1,(l.foldl (jx f g) a).2.1)
 | [],pre,a,hp,h,he=>by
  simp only[List.append_nil] at he ⊢;rcases h with ⟨_,h⟩ | ⟨_,h⟩
  ·exact h
  ·obtain⟨k,hk,hf⟩:=he;rw[h k hk] at hf;cases hf
 | i::l,pre,a,hp,h,he=>by
  have:=qz f g l (pre++[i]) (jx f g a i) (by simpa using hp) ?_ (by simpa using he)
  ·simpa using this
  ·unfold jx
   by_cases hi:f i=true
   ·rw[if_pos hi]
    by_cases hc:a.2.2=false\/cmpL (g i).1 a.1<0
    ·rw[if_pos hc];refine .inl ⟨rfl,i,by simp,hi,rfl,rfl,fun j hj hfj=>?_⟩;rcases List.mem_append.1 hj with hj | hj
     ·rcases h with ⟨h1,k,hk,hf,e1,e2,h2⟩ | ⟨h1,h2⟩
      ·rcases hc with hc | hc
       ·rw[h1] at hc;cases hc
       ·intro hlt;refine h2 j hj hfj (ia hlt (.inl hc))
      ·rw[h2 j hj] at hfj;cases hfj
     ·rw[List.mem_singleton.1 hj];exact jW _
    ·rw[if_neg hc];rcases h with ⟨h1,k,hk,hf,e1,e2,h2⟩ | ⟨h1,h2⟩
     ·refine .inl ⟨h1,k,by simp[hk],hf,e1,e2,fun j hj hfj=>?_⟩;rcases List.mem_append.1 hj with hj | hj
      ·exact h2 j hj hfj
      ·rw[List.mem_singleton.1 hj];have hki:k<i:=(List.pairwise_append.1 hp).2.2 k hk i (by simp);rintro (hlt | ⟨_,hlt⟩)
       ·exact hc (.inr hlt)
       ·simp only[e2] at hlt;rw[cmpL,if_neg (by omega),if_pos hki] at hlt;omega
     ·exact absurd (.inl h1) hc
   ·rw[if_neg hi];rcases h with ⟨h1,k,hk,hf,e1,e2,h2⟩ | ⟨h1,h2⟩
    ·refine .inl ⟨h1,k,by simp[hk],hf,e1,e2,fun j hj hfj=>?_⟩;rcases List.mem_append.1 hj with hj | hj
     ·exact h2 j hj hfj
     ·rw[List.mem_singleton.1 hj] at hfj;exact absurd hfj hi
    ·refine .inr ⟨h1,fun j hj=>?_⟩;rcases List.mem_append.1 hj with hj | hj
     ·exact h2 j hj
     ·rw[List.mem_singleton.1 hj];simpa using hi
def dH (b:aG):Nat->Cz->P2
 | 0,s=>((iN b s).1,[])
 | m+1,s=>let r:=(ec b s.pl).foldl (jx (fun k=>decide ((bk b s k).1=iT b s (ec b s.pl))) fun k=>dH b m (bF b s k)) ([],[],false)
  (iT b s (ec b s.pl)++r.1,r.2.1)
theorem la (he:mG b) (hd:fu b) (hs:∀ p ∈ b.sites,p<b.nodes.length):∀ {m:Nat} {s:Cz},Fit b m s->vM (fw b m s) (dH b m s)
 | 0,s,_=>⟨List.mem_singleton.2 rfl,fun x hx=>by rw[List.mem_singleton.1 hx];exact jW _⟩
 | m+1,s,h=>by
  have hin:∀ k ∈ ec b s.pl,k ∈ dX b s.pl:=fun k hk=>(pN _ hk).resolve_left (by simp)
  have hhas:=qy (e9 b) (l:=dX b s.pl) (out:=[]) (by simp) (oz s.pl);have hne:ec b s.pl ≠ []:=by
   obtain⟨k,hk⟩:=k9 hd h;rcases hhas k hk with h1 | ⟨x,h1,_⟩<;>intro e<;>rw[ec] at e<;>rw[e] at h1<;>cases h1
  obtain⟨⟨k0,hk0,e0⟩,hle⟩:=A5 (b:=b) s hne;have hasc:(ec b s.pl).Pairwise (·<·):=wq _ (by simp) (oz s.pl) (by simp);obtain⟨k,hk,hf,e1,e2,hmin⟩:=qz (fun k=>decide ((bk b s k).1=iT b s (ec b s.pl))) (fun k=>dH b m (bF b s k)) (ec b s.pl) [] ([],[],false) (by simpa using hasc) (.inr ⟨rfl,by simp⟩) ⟨k0,by simpa using hk0,by simp[e0]⟩;simp only[List.nil_append] at hk hmin;simp only[decide_eq_true_eq] at hf hmin;have eb:dH b (m+1) s=((bk b s k).1++(dH b m (bF b s k)).1,k::(dH b m (bF b s k)).2):=by
   rw[dH];simp only[e1,e2,hf]
  have ih:=la he hd hs (h.step (hin k hk));have hT:∀ j ∈ ec b s.pl,∀ q ∈ fw b m (bF b s j),¬ vi ((bk b s j).1++q.1,j::q.2) (dH b (m+1) s):=by
   intro j hj q hq hlt;rw[eb] at hlt
   by_cases hc:(bk b s j).1=iT b s (ec b s.pl)
   ·have ihj:=(la he hd hs (h.step (hin j hj))).2 q hq;have hm:=hmin j hj hc;rw[e1,e2] at hm;rw[hc,hf] at hlt;rcases hlt with hlt | ⟨hlt,hlt2⟩
    ·rw[vW] at hlt;exact hm (.inl (mg (fun h'=>ihj (.inl h')) hlt))
    ·simp only[List.append_cancel_left_eq] at hlt;have h3:¬ cmpL q.1 (dH b m (bF b s j)).1<0:=fun h'=>ihj (.inl h')
     rw[hlt] at h3;rcases Int.lt_trichotomy (cmpL (dH b m (bF b s j)).1 (dH b m (bF b s k)).1) 0 with h4 | h4 | h4
     ·exact hm (.inl h4)
     ·have h5:=cmpL_eq h4;rcases Int.lt_trichotomy j k with h6 | h6 | h6
      ·exact hm (.inr ⟨h5,by simp[cmpL,h6]⟩)
      ·subst h6;simp only[cmpL,Int.lt_irrefl,if_false] at hlt2;exact ihj (.inr ⟨hlt,hlt2⟩)
      ·simp only[cmpL] at hlt2;rw[if_neg (by omega),if_pos h6] at hlt2;omega
     ·exact h3 (by rw[ej (dH b m (bF b s j)).1];omega)
   ·have h1:cmpL (iT b s (ec b s.pl)) (bk b s j).1<0:=by
     have:=hle j hj;rcases Int.lt_trichotomy (cmpL (iT b s (ec b s.pl)) (bk b s j).1) 0 with h4 | h4 | h4
     ·exact h4
     ·exact absurd (cmpL_eq h4).symm hc
     ·exact absurd (by rw[ej (iT b s (ec b s.pl))];omega) this
    obtain⟨x1,c1,p1,l1⟩:=ow he s (cF.1 (hin k hk)).1;obtain⟨x2,c2,p2,l2⟩:=ow he s (cF.1 (hin j hj)).1;have hch1:Ch (wid b) 1 (bk b s k).1:=⟨x1,c1,[],by simp[p1],l1,rfl⟩
    have hch2:Ch (wid b) 1 (bk b s j).1:=⟨x2,c2,[],by simp[p2],l2,rfl⟩
    rw[<- hf] at h1;have:=Ch.lt (dH b m (bF b s k)).1 q.1 hch1 hch2 h1;exact jW _ (ia hlt (.inl this))
  refine⟨eb ▸ eh.2 ⟨k,hin k hk,_,ih.1,rfl⟩,fun p hp hlt=>?_⟩;obtain⟨j,hj,q,hq,rfl⟩:=eh.1 hp;rcases hhas j hj with h1 | ⟨x,h1,htw,hxy⟩
  ·exact hT j h1 q hq hlt
  ·obtain⟨q',hq',hlt'⟩:=xo (Ar htw) hd hs h.len h.low' (hin x h1) hj hxy hq;exact hT x h1 q' hq' (ia hlt' hlt)
end
structure gl where
 order:List Int
 s:Cz
 code:List Int
section
variable (b:aG)
def fV (a:gl):List gl:=(dX b a.s.pl).map fun k=>⟨a.order++[k],bF b a.s k,a.code++(bk b a.s k).1⟩
def mi (out:List gl) (x:gl):List gl:=
 match out with
 | []=>[x]
 | w::t=>if cmpL x.code w.code<0 then [x] else if cmpL x.code w.code=0 then (w::t)++[x] else w::t
def fA (l:List gl):List gl:=l.foldl mi []
def db (a:gl):gl:=⟨a.order,⟨(iN b a.s).2,a.s.pl,a.s.num⟩,a.code++(iN b a.s).1⟩
def gJ:Nat->List gl->List gl
 | 0,l=>l
 | m+1,l=>gJ m (fA (l.flatMap (fV b)))
def dg (l:List gl) (d:gl):gl:=l.foldl (fun best x=>if cmpL x.order best.order<0 then x else best) d
def jf:Cz:=⟨[],List.replicate b.nodes.length (-1),0⟩
end
section
variable {b:aG}
theorem ka:∀ (l pre out:List gl),(∀ x,x ∈ out↔x ∈ pre/\∀ y ∈ pre,¬ cmpL y.code x.code<0)->(pre ≠ []->out ≠ []) ->
  (∀ x,x ∈ l.foldl mi out↔x ∈ pre++l/\∀ y ∈ pre++l,¬ cmpL y.code x.code<0) /\
  (pre++l ≠ []->l.foldl mi out ≠ [])
 | [],pre,out,h,hn=>by
  simp only[List.append_nil,List.foldl_nil];exact⟨h,hn⟩
 | z::l,pre,out,h,hn=>by
  have:=ka l (pre++[z]) (mi out z) ?_ ?_
  ·simpa only [List.append_assoc,List.singleton_append,List.foldl_cons] using this
  ·intro x;cases out with
   | nil=>
    have hp:pre=[]:=by
     rcases List.eq_nil_or_concat pre with hp | ⟨_,_,hp⟩
     ·exact hp
     ·exact absurd rfl (hn (by rw[hp];simp))
    subst hp;simp only[mi,List.nil_append,List.mem_singleton,forall_eq];exact⟨fun e=>⟨e,by rw[e,ff];omega⟩,fun e=>e.1⟩
   | cons w t=>
    obtain⟨hw1,hw2⟩:=(h w).1 (by simp);have hsame:∀ v ∈ pre,(∀ y ∈ pre,¬ cmpL y.code v.code<0)->v.code=w.code:=fun v hv h1=>by
     have a1:=h1 w hw1;have a2:=hw2 v hv;have:=ej v.code w.code;exact cmpL_eq (by omega)
    simp only[mi]
    by_cases h1:cmpL z.code w.code<0
    ·rw[if_pos h1];simp only[List.mem_singleton,List.mem_append]
     constructor
     ·rintro rfl;refine⟨.inr rfl,fun y hy=>?_⟩;rcases hy with hy | rfl
      ·intro h2;exact hw2 y hy (eN h2 h1)
      ·rw[ff];omega
     ·rintro⟨hx | rfl,h2⟩
      ·have e:=hsame x hx fun y hy=>h2 y (.inl hy)
       exact absurd (e ▸ h1) (h2 z (.inr rfl))
      ·rfl
    ·rw[if_neg h1]
     by_cases h2:cmpL z.code w.code=0
     ·rw[if_pos h2];have e2:=cmpL_eq h2;rw[List.mem_append,List.mem_singleton,h x];simp only[List.mem_append,List.mem_singleton]
      constructor
      ·rintro (⟨hx,h3⟩ | rfl)
       ·refine⟨.inl hx,fun y hy=>?_⟩;rcases hy with hy | rfl
        ·exact h3 y hy
        ·rw[e2,<- hsame x hx h3,ff];omega
       ·refine⟨.inr rfl,fun y hy=>?_⟩;rcases hy with hy | rfl
        ·rw[e2];exact hw2 y hy
        ·rw[ff];omega
      ·rintro⟨hx | rfl,h3⟩
       ·exact .inl ⟨hx,fun y hy=>h3 y (.inl hy)⟩
       ·exact .inr rfl
     ·rw[if_neg h2,h x];simp only[List.mem_append,List.mem_singleton];have h4:cmpL w.code z.code<0:=by rw[ej z.code];omega
      constructor
      ·rintro⟨hx,h3⟩;refine⟨.inl hx,fun y hy=>?_⟩;rcases hy with hy | rfl
       ·exact h3 y hy
       ·rw[hsame x hx h3];exact h1
      ·rintro⟨hx | rfl,h3⟩
       ·exact⟨hx,fun y hy=>h3 y (.inl hy)⟩
       ·exact absurd h4 (h3 w (.inl hw1))
  ·intro _;unfold mi
   repeat' split
   all_goals simp
theorem du {l:List gl} {x:gl}:x ∈ fA l↔x ∈ l/\∀ y ∈ l,¬ cmpL y.code x.code<0:=(ka l [] [] (by simp) (by simp)).1 x
theorem lv {l:List gl} (h:l ≠ []):fA l ≠ []:=(ka l [] [] (by simp) (by simp)).2 h
theorem xZ:Fit b b.nodes.length (jf b):=by
 refine⟨by simp[jf],by simp[jf],?_,fun v hv=>?_⟩
 ·have:(List.replicate b.nodes.length (-1:Int)).filter (fun x=>decide (x<0))=List.replicate b.nodes.length (-1):=List.filter_eq_self.2 fun x hx=>by rw[(List.mem_replicate.1 hx).2];rfl
  simp only[jf];rw[this];simp
 ·simp only[jf] at hv;rw[(List.mem_replicate.1 hv).2];omega
structure Lay (b:aG) (m:Nat) (l:List gl):Prop where
 fit:∀ a ∈ l,Fit b m a.s
 run:∀ a ∈ l,a.s=a.order.foldl (bF b) (jf b)
 nd:∀ a ∈ l,a.order.length+m=b.nodes.length
 ch:∀ a ∈ l,Ch (wid b) a.order.length a.code
 sound:∀ a ∈ l,∀ q ∈ fw b m a.s,(a.code++q.1,a.order++q.2) ∈ fw b b.nodes.length (jf b)
 cover:∀ p ∈ fw b b.nodes.length (jf b),∃ a ∈ l,∃ q ∈ fw b m a.s,¬ vi p (a.code++q.1,a.order++q.2)
theorem lay0:Lay b b.nodes.length [⟨[],jf b,[]⟩] where
 fit a ha:=by rw[List.mem_singleton.1 ha];exact xZ
 run a ha:=by rw[List.mem_singleton.1 ha];rfl
 nd a ha:=by rw[List.mem_singleton.1 ha];simp
 ch a ha:=by rw[List.mem_singleton.1 ha];rfl
 sound a ha q hq:=by rw[List.mem_singleton.1 ha] at hq ⊢;simpa using hq
 cover p hp:=⟨_,List.mem_singleton.2 rfl,p,hp,jW _⟩
theorem zm (he:mG b) {m:Nat} {l:List gl} (h:Lay b (m+1) l):Lay b m (l.flatMap (fV b)):=by
 have hm:∀ x,x ∈ l.flatMap (fV b)↔∃ a ∈ l,∃ k ∈ dX b a.s.pl,x=⟨a.order++[k],bF b a.s k,a.code++(bk b a.s k).1⟩:=fun x=>by
  simp only[fV,List.mem_flatMap,List.mem_map,eq_comm]
 refine⟨fun x hx=>?_,fun x hx=>?_,fun x hx=>?_,fun x hx=>?_,fun x hx q hq=>?_,fun p hp=>?_⟩
 ·obtain⟨a,ha,k,hk,rfl⟩:=(hm x).1 hx;exact (h.fit a ha).step hk
 ·obtain⟨a,ha,k,hk,rfl⟩:=(hm x).1 hx;simp only[List.foldl_append,List.foldl_cons,List.foldl_nil,<- h.run a ha]
 ·obtain⟨a,ha,k,hk,rfl⟩:=(hm x).1 hx;have:=h.nd a ha;simp;omega
 ·obtain⟨a,ha,k,hk,rfl⟩:=(hm x).1 hx;obtain⟨y,c,e1,e2⟩:=ow he a.s (cF.1 hk).1;have:=(h.ch a ha).snoc e2;simp only[e1,List.length_append,List.length_cons,List.length_nil];exact this
 ·obtain⟨a,ha,k,hk,rfl⟩:=(hm x).1 hx;have:=h.sound a ha _ (eh.2 ⟨k,hk,q,hq,rfl⟩);simpa using this
 ·obtain⟨a,ha,q,hq,hlt⟩:=h.cover p hp;obtain⟨k,hk,q2,hq2,rfl⟩:=eh.1 hq;exact⟨_,(hm _).2 ⟨a,ha,k,hk,rfl⟩,q2,hq2,by simpa using hlt⟩
theorem te {p x y:P2} (h:¬ vi p x) (k:vi y x):¬ vi p y:=fun h'=>h (ia h' k)
theorem sr (hd:fu b) {m:Nat} {l:List gl} (h:Lay b m l):Lay b m (fA l):=by
 refine⟨fun x hx=>h.fit x (du.1 hx).1,fun x hx=>h.run x (du.1 hx).1,fun x hx=>h.nd x (du.1 hx).1,fun x hx=>h.ch x (du.1 hx).1,fun x hx=>h.sound x (du.1 hx).1,fun p hp=>?_⟩;obtain⟨a,ha,q,hq,hlt⟩:=h.cover p hp;obtain⟨z,hz⟩:=List.exists_mem_of_ne_nil _ (lv (fun e=>by rw[e] at ha;cases ha):fA l ≠ []);obtain⟨hz1,hz2⟩:=du.1 hz;rcases Int.lt_trichotomy (cmpL z.code a.code) 0 with h1 | h1 | h1
 ·obtain⟨q',hq'⟩:=qA hd (h.fit z hz1);refine⟨z,hz,q',hq',te hlt (.inl ?_)⟩;have c1:=h.ch z hz1;have c2:=h.ch a ha;have e:z.order.length=a.order.length:=by have:=h.nd z hz1;have:=h.nd a ha;omega
  rw[e] at c1;exact Ch.lt q'.1 q.1 c1 c2 h1
 ·refine⟨a,du.2 ⟨ha,fun y hy=>?_⟩,q,hq,hlt⟩;rw[<- cmpL_eq h1];exact hz2 y hy
 ·exact absurd (by rw[ej z.code];omega) (hz2 a ha)
theorem zo (he:mG b) (hd:fu b):∀ {m:Nat} {l:List gl},Lay b m l->Lay b 0 (gJ b m l)
 | 0,_,h=>h
 | m+1,l,h=>by rw[gJ];exact zo he hd (sr hd (zm he h))
theorem nU:∀ (l:List gl) (d:gl),(dg l d=d\/dg l d ∈ l)/\¬ cmpL d.order (dg l d).order<0/\∀ x ∈ l,¬ cmpL x.order (dg l d).order<0
 | [],d=>⟨.inl rfl,by simp[dg,ff],by simp⟩
 | x::l,d=>by
  obtain⟨h1,h2,h3⟩:=nU l (if cmpL x.order d.order<0 then x else d);have e:dg (x::l) d=dg l (if cmpL x.order d.order<0 then x else d):=rfl;rw[e];generalize dg l (if cmpL x.order d.order<0 then x else d)=r at h1 h2 h3
  by_cases h:cmpL x.order d.order<0
  ·rw[if_pos h] at h1 h2;refine⟨.inr ?_,fun h4=>h2 (eN h h4),fun j hj=>?_⟩
   ·rcases h1 with h1 | h1
    ·simp[h1]
    ·simp[h1]
   ·rcases List.mem_cons.1 hj with rfl | hj
    ·exact h2
    ·exact h3 j hj
  ·rw[if_neg h] at h1 h2;refine⟨?_,h2,fun j hj=>?_⟩
   ·rcases h1 with h1 | h1
    ·exact .inl h1
    ·simp[h1]
   ·rcases List.mem_cons.1 hj with rfl | hj
    ·exact fun h4=>h2 (mg h h4)
    ·exact h3 j hj
theorem wG (he:mG b) (hd:fu b) (hs:∀ p ∈ b.sites,p<b.nodes.length) {l:List gl} (hl:l=fA ((gJ b b.nodes.length [⟨[],jf b,[]⟩]).map (db b))) (d:gl) (hdl:d ∈ l) :
  ((dg l d).code,(dg l d).order)=dH b b.nodes.length (jf b)/\dg l d=db b ⟨(dg l d).order,(dg l d).order.foldl (bF b) (jf b),((dg l d).code.take ((dg l d).code.length - (iN b ((dg l d).order.foldl (bF b) (jf b))).1.length))⟩:=by
 have hL:=zo he hd (lay0 (b:=b));generalize gJ b b.nodes.length [⟨[],jf b,[]⟩]=L at hL hl;obtain⟨f1,f2,f3⟩:=nU l d;have hf:dg l d ∈ l:=by
  rcases f1 with f1 | f1
  ·rw[f1];exact hdl
  ·exact f1
 generalize dg l d=r at f1 f2 f3 hf;subst hl;obtain⟨g1,g2⟩:=du.1 hf;obtain⟨a,ha,rfl⟩:=List.mem_map.1 g1;have hrun:=hL.run a ha;refine⟨vM.uniq ⟨?_,fun p hp hlt=>?_⟩ (la he hd hs xZ),?_⟩
 ·have:=hL.sound a ha _ (List.mem_singleton.2 rfl);simpa[db] using this
 ·obtain⟨a',ha',q,hq,hn⟩:=hL.cover p hp;simp only[fw,List.mem_singleton] at hq;subst hq;have hm':db b a' ∈ L.map (db b):=List.mem_map.2 ⟨a',ha',rfl⟩;have e1:=g2 _ hm';apply hn;have hlt':vi p ((db b a).code,(db b a).order):=hlt;have:vi p ((db b a').code,(db b a').order):=by
   rcases Int.lt_trichotomy (cmpL (db b a).code (db b a').code) 0 with h1 | h1 | h1
   ·exact ia hlt' (.inl h1)
   ·have h2:=cmpL_eq h1;have h3:=f3 _ (du.2 ⟨hm',fun y hy=>by rw[<- h2];exact g2 y hy⟩);rcases Int.lt_trichotomy (cmpL (db b a).order (db b a').order) 0 with h4 | h4 | h4
    ·exact ia hlt' (.inr ⟨h2,h4⟩)
    ·rw[h2,cmpL_eq h4] at hlt';exact hlt'
    ·exact absurd (by rw[ej (db b a).order];omega) h3
   ·exact absurd (by rw[ej (db b a).code];omega) e1
  simpa[db] using this
 ·have e:(db b a).order=a.order:=rfl;rw[e,<- hrun];simp[db]
end
end Go.Ab.Vg
namespace Go.Ab
open Go.Proofs
theorem Ep:a8 prog 76:=a8.of func76 (by kernel_rfl) rfl
theorem e127:a8 prog 127:=a8.of func127 (by kernel_rfl) rfl
theorem gO (n lo hi:Int):aF prog 76 [int n,int lo,int hi] (fun r=>r=bool (within n lo hi)):=by
 refine aF.of func76 rfl ntmps76 (by simp) fun Q hQ=>?_
 refine zE fun _ V=>?_
 simp;refine V _ _ _ (zE fun _ V=>?_);simp
 by_cases h:lo<=n
 all_goals
  simp[h];refine V _ _ _ (J.ret func76 (aM.one results76) (hQ _ _ _ _ (eB.v _ _ _) ?_));simp[within,h]
theorem vO {s:cH} {k:Nat} (hk:k<s.length) (h:lower s[k]=false):nA s=false:=by
 have:s.all lower=false:=by
  rw[List.all_eq_false];exact⟨s[k],List.getElem_mem hk,by simp[h]⟩
 simp[nA,this]
theorem sS (s:cH) (hs:s.length<=4294967296):aF prog 127 [str s] (fun r=>r=bool (nA s)):=by
 refine aF.of func127 rfl ntmps127 (by simp) fun Q hQ=>?_
 refine zE fun _ V=>?_
 simp;apply V;refine zS fun _ V=>?_
 simp;apply V;refine J.block (J.bS s.length (fun k O H n=>O 0=str s/\O 3=int k/\(s.take k).all lower=true) ?_ ?_)
 ·simp
 ·rintro k O H n hk ⟨h0,h3,hall⟩ IH;refine zS fun _ V=>?_
  simp [h0, h3];apply V;refine J.ite rfl (fun hc1 => ?_) (fun hc1 => ?_)
  ·simp at hc1;apply zK;apply J.block;refine zE fun _ V=>?_
   simp [h0, h3, hc1]
   by_cases ha:(s[k].toNat:Int)<97
   ·simp[ha];apply V;refine J.ite rfl (fun _=>?_) (fun h=>by simp at h);refine zE fun _ V=>?_
    simp;apply V;refine J.ret func127 (aM.one results127) (hQ _ _ _ _ (.v _ _ _) ?_);rw[vO hc1 (by simp[lower];omega)]
   ·by_cases hz:(122:Int)<s[k].toNat
    ·simp[ha,hz,h0,h3,hc1];apply V;refine J.ite rfl (fun _=>?_) (fun h=>by simp at h);refine zE fun _ V=>?_
     simp;apply V;refine J.ret func127 (aM.one results127) (hQ _ _ _ _ (.v _ _ _) ?_);rw[vO hc1 (by simp[lower];omega)]
    ·simp[ha,hz,h0,h3,hc1];apply V;refine J.ite rfl (fun h=>by simp at h) (fun _=>?_);apply J.skip;refine zI fun _ V=>?_
     simp [h3, bg (show k < 4611686018427387904 by omega)];apply V;refine IH hc1 _ _ _ ?_;rw[List.take_succ_eq_append_getElem hc1,List.all_append,hall];simp[h0,lower];omega
  ·simp at hc1;refine J.exit rfl ?_;refine zE fun _ V=>?_
   simp [h0];refine zA (gO s.length 1 4) Ep (.cons (.v _ _ _) (.cons (.v _ _ _) (.cons (.v _ _ _) .nil))) (by simp) ?_;rintro _ rfl;simp;apply V;refine J.ret func127 (aM.one results127) (hQ _ _ _ _ (.v _ _ _) ?_);rw[List.take_of_length_le hc1] at hall;simp only[nA,hall,Bool.and_true]
end Go.Ab
namespace Go.Ab
open Go.Proofs
theorem e96:a8 prog 96:=a8.of func96 (by kernel_rfl) rfl
theorem e81:a8 prog 81:=a8.of func81 (by kernel_rfl) rfl
theorem e93:a8 prog 93:=a8.of func93 (by kernel_rfl) rfl
theorem e80:a8 prog 80:=a8.of func80 (by kernel_rfl) rfl
theorem sH (b:aG) (l:Int) (he:0<=b.edges/\b.edges<=8) (ho:b.outer.length<=1048576):aF prog 96 [cQ false b,int l] (fun r=>r=bool (dp b l)):=by
 have hw1:IntKind.i64.wrap (b.edges+b.outer.length)=b.edges+b.outer.length:=by rw[wrap64]<;>omega
 have hw2:IntKind.i64.wrap (b.edges+b.outer.length - 1)=b.edges+b.outer.length - 1:=by rw[wrap64]<;>omega
 refine aF.of func96 rfl ntmps96 (by simp) fun Q hQ=>?_
 refine zE fun _ V=>?_
 simp [cQ, aG.cells];apply V;refine zE fun _ V=>?_
 simp [encS, hw1, hw2];refine zA (fa l 0 (b.edges+b.outer.length - 1)) E6 (.cons (.v _ _ _) (.cons (.v _ _ _) (.cons (.v _ _ _) .nil))) (by simp) ?_;rintro _ rfl;simp;apply V;exact J.ret func96 (aM.one results96) (hQ _ _ _ _ (.v _ _ _) rfl)
theorem tc (b:aG) (l:Int) (he:0<=b.edges/\b.edges<=8) (ho:b.outer.length<=1048576):aF prog 81 [cQ false b,int l] (fun r=>r=bool (dp b l)):=by
 have hw1:IntKind.i64.wrap (b.edges+b.outer.length)=b.edges+b.outer.length:=by rw[wrap64]<;>omega
 have hw2:IntKind.i64.wrap (b.edges+b.outer.length - 1)=b.edges+b.outer.length - 1:=by rw[wrap64]<;>omega
 refine aF.of func81 rfl ntmps81 (by simp) fun Q hQ=>?_
 refine zE fun _ V=>?_
 simp [cQ, aG.cells];apply V;refine zE fun _ V=>?_
 simp [encS, hw1, hw2];refine zA (gO l 0 (b.edges+b.outer.length - 1)) Ep (.cons (.v _ _ _) (.cons (.v _ _ _) (.cons (.v _ _ _) .nil))) (by simp) ?_;rintro _ rfl;simp;apply V;exact J.ret func81 (aM.one results81) (hQ _ _ _ _ (.v _ _ _) rfl)
def Ee (b:aG) (x:Int):Bool:=within x 0 ((b.nodes.length:Int) - 1)
def ph (sig:dG) (b:aG) (below:Nat):Prop:=∀ i,i<below->0<=(b.nodes.getD i default).control/\(b.nodes.getD i default).control<sig.length
theorem oM (sig:dG) (b:aG) (parent:Int) (below:Nat) (hr:0<=b.roots/\b.roots<=4) (hb:below<=b.nodes.length) (hc:ph sig b below) :
  aF prog 93 [cQ false b,bz false sig,int parent,int below] (fun r=>r=bool (cd sig b parent below)):=by
 refine aF.of func93 rfl ntmps93 (by simp) fun Q hQ=>?_
 refine zE fun _ V=>?_
 simp [cQ, aG.cells];apply V;refine zS fun _ V=>?_
 simp;apply V;refine J.ite rfl (fun hc1 => ?_) (fun hc1 => ?_)
 ·have hc1:parent<0:=by simpa using hc1
  have hw:IntKind.i64.wrap (0 - b.roots) = -b.roots:=by rw[wrap64]<;>omega
  refine zE fun _ V=>?_
  have hw':IntKind.i64.wrap (-b.roots) = -b.roots:=by rw[wrap64]<;>omega
  simp [hw, hw'];apply V;exact J.ret func93 (aM.one results93) (hQ _ _ _ _ (.v _ _ _) (by simp[cd,hc1]))
 ·have hc1:¬ parent<0:=by simpa using hc1
  apply J.skip;refine zE fun _ V=>?_
  by_cases hlt:parent<(below:Int)
  ·obtain⟨q,rfl⟩:∃ q:Nat,parent=q:=⟨parent.toNat,by omega⟩
   have hq:q<b.nodes.length:=by omega
   have hcq:=hc q (by omega);have hg:b.nodes.getD q default=b.nodes[q]:=by simp[hq]
   rw[hg] at hcq;obtain⟨c,hcc⟩:∃ c:Nat,b.nodes[q].control=c:=⟨b.nodes[q].control.toNat,by omega⟩
   have hcl:c<sig.length:=by omega
   simp [hlt, bE, bz, hq, ay.cells, hcc, hcl, Control.cells, guardOf];apply V;refine J.ret func93 (aM.one results93) (hQ _ _ _ _ (.v _ _ _) ?_);have hlt':q<below:=by omega
   simp[cd,hlt',hq,hcc,hcl]
   rfl
  ·simp [hlt, guardOf];apply V;exact J.ret func93 (aM.one results93) (hQ _ _ _ _ (.v _ _ _) (by simp[cd,hc1,hlt]))
theorem qG (sig:dG) (b:aG) (parent:Int) (below:Nat) (hp:bP parent) (hr:0<=b.roots/\b.roots<=4) (hb:below<=b.nodes.length) (hc:ph sig b below) :
  aF prog 80 [bz false sig,cQ false b,int parent,int below] (fun r=>r=bool (cd sig b parent below)):=by
 obtain⟨hp1,hp2⟩:=hp;refine aF.of func80 rfl ntmps80 (by simp) fun Q hQ=>?_
 refine zE fun _ V=>?_
 simp [cQ, aG.cells];apply V;refine zS fun _ V=>?_
 simp;apply V;refine J.ite rfl (fun hc1 => ?_) (fun hc1 => ?_)
 ·have hc1:parent<0:=by simpa using hc1
  have hw:IntKind.i64.wrap (-1 - parent) = -1 - parent:=by rw[wrap64]<;>omega
  have hw2:IntKind.i64.wrap (b.roots - 1)=b.roots - 1:=by rw[wrap64]<;>omega
  refine zE fun _ V=>?_
  simp [hw, hw2];refine zA (gO (-1 - parent) 0 (b.roots - 1)) Ep (.cons (.v _ _ _) (.cons (.v _ _ _) (.cons (.v _ _ _) .nil))) (by simp) ?_;rintro _ rfl;simp;apply V;refine J.ret func80 (aM.one results80) (hQ _ _ _ _ (.v _ _ _) ?_);have:within (-1 - parent) 0 (b.roots - 1)=decide (-b.roots<=parent):=by
   simp only[within]
   by_cases h : -b.roots<=parent
   ·simp[h];omega
   ·simp[h];omega
  simp[cd,hc1,this]
 ·have hc1:¬ parent<0:=by simpa using hc1
  apply J.skip;refine zE fun _ V=>?_
  by_cases hlt:parent<(below:Int)
  ·obtain⟨q,rfl⟩:∃ q:Nat,parent=q:=⟨parent.toNat,by omega⟩
   have hq:q<b.nodes.length:=by omega
   have hcq:=hc q (by omega);have hg:b.nodes.getD q default=b.nodes[q]:=by simp[hq]
   rw[hg] at hcq;obtain⟨c,hcc⟩:∃ c:Nat,b.nodes[q].control=c:=⟨b.nodes[q].control.toNat,by omega⟩
   have hcl:c<sig.length:=by omega
   simp [hlt, bE, bz, hq, ay.cells, hcc, hcl, Control.cells, guardOf];apply V;refine J.ret func80 (aM.one results80) (hQ _ _ _ _ (.v _ _ _) ?_);have hlt':q<below:=by omega
   simp[cd,hlt',hq,hcc,hcl]
   rfl
  ·simp [hlt, guardOf];apply V;exact J.ret func80 (aM.one results80) (hQ _ _ _ _ (.v _ _ _) (by simp[cd,hc1,hlt]))
end Go.Ab
namespace Go.Ab
open Go.Proofs
theorem e91:a8 prog 91:=a8.of func91 (by kernel_rfl) rfl
theorem e77:a8 prog 77:=a8.of func77 (by kernel_rfl) rfl
theorem wM:∀ (s p:cH),(Op.bytesLess s p || s == p) = !Op.bytesLess p s
 | [],[]=>by simp[Op.bytesLess]
 | [],_::_=>by simp[Op.bytesLess]
 | _::_,[]=>by simp[Op.bytesLess]
 | a::x,b::y=>by
  have ih:=wM x y;simp only[Op.bytesLess];rcases Nat.lt_trichotomy a.toNat b.toNat with h | h | h
  ·have h1:a<b:=h;have h2:¬ b<a:=fun h'=>by have h':b.toNat<a.toNat:=h';omega
   have h3:(b == a)=false:=by
    rw[beq_eq_false_iff_ne];rintro rfl;omega
   simp[h1,h2,h3]
  ·have h0:a=b:=UInt8.toNat_inj.1 h;subst h0;have h2:¬ a<a:=fun h'=>by have h':a.toNat<a.toNat:=h';omega
   simp[h2];rw[<- ih];try (cases Op.bytesLess x y<;>simp)
   try (by_cases hxy:x=y<;>simp[hxy])
  ·have h1:b<a:=h;have h2:¬ a<b:=fun h'=>by have h':a.toNat<b.toNat:=h';omega
   have h3:(a == b)=false:=by
    rw[beq_eq_false_iff_ne];rintro rfl;omega
   have h4:¬ a=b:=by simpa using h3
   simp[h1,h2,h4]
theorem dT {n k:Nat} {q:Nat->Bool} (hk:k<n) (h:q k=false):(List.range n).all q=false:=by
 rw[List.all_eq_false];exact⟨k,by simpa using hk,by simp[h]⟩
theorem dS {n:Nat} {q:Nat->Bool} (h:∀ i,i<n->q i=true):(List.range n).all q=true:=by
 simpa[List.all_eq_true] using h
def eU (l:List cH) (i:Nat):Bool:=nA (l.getD i []) && lz l i
theorem ft (l:List cH):c7 l=(decide (l.length<=16) && (List.range l.length).all (eU l)):=rfl
theorem pf (l:List cH) (hl:l.length<=1048576) (hs:∀ s ∈ l,s.length<=1048576):aF prog 91 [encS false l] (fun r=>r=bool (c7 l)):=by
 refine aF.of func91 rfl ntmps91 (by simp) fun Q hQ=>?_
 refine zE fun k' V=>?_
 simp [encS];apply V;refine zS fun k' V=>?_
 simp;apply V;refine J.block (J.bS l.length (fun k O H n=>O 0 = .list false (l.map a7)/\O 5 = .list false (l.map a7)/\O 6=int l.length/\O 7=int k/\∀ i,i<k->eU l i=true) ?_ ?_)
 ·simp
 ·rintro k O H n hk ⟨h0,h5,h6,h7,hall⟩ IH;refine zE fun k' V=>?_
  simp [h6, h7];apply V;apply J.seq;refine J.ite rfl (fun hc1 => ?_) (fun hc1 => ?_)
  ·have hc1:k<l.length:=by simpa using hc1
   apply zK;apply J.block;refine zE fun k' V=>?_
   simp [h5, h7, hc1, a7];apply V;refine zE fun k' V=>?_
   have fin:∀ O:Env,O 0 = .list false (l.map a7)->O 5 = .list false (l.map a7)->O 6=int l.length->O 7=int k->O 27=bool (!eU l k)->J prog 91 32 k' O H n Q:=by
    intro O h0 h5 h6 h7 h27;apply V;refine J.ite h27 (fun hc2 => ?_) (fun hc2 => ?_)
    ·have hb:eU l k=false:=by simpa using hc2
     refine zE fun k' V=>?_
     simp;apply V;exact J.ret func91 (aM.one results91) (hQ _ _ _ _ (.v _ _ _) (by rw[ft,dT hc1 hb,Bool.and_false]))
    ·have hb:eU l k=true:=by simpa using hc2
     apply J.skip;refine zI fun k' V=>?_
     simp [h7, bg (show k < 4611686018427387904 by omega)];apply V;refine IH hc1 _ _ _ ⟨by simp[h0],by simp[h5],by simp[h6],by simp,fun i hi=>?_⟩;rcases Nat.lt_or_ge i k with h | h
     ·exact hall i h
     ·rw[show i=k by omega];exact hb
   have hgk:l.getD k []=l[k]:=by simp[hc1]
   simp;refine zA (sY l[k] (Nat.le_trans (hs _ (List.getElem_mem hc1)) (by decide))) e136 (.cons (.v _ _ _) .nil) (by simp) ?_;rintro _ rfl;cases hnm:nA l[k]
   ·simp[guardOf];exact fin _ (by simp[h0]) (by simp[h5]) (by simp[h6]) (by simp[h7]) (by simp[eU,hc1,hnm])
   ·by_cases hk0:k=0
    ·subst hk0;simp[guardOf];exact fin _ (by simp[h0]) (by simp[h5]) (by simp[h6]) (by simp[h7]) (by simp[eU,hc1,hnm,lz])
    ·have hk1:0<k:=by omega
     have hw:IntKind.i64.wrap ((k:Int) - 1)=((k - 1:Nat):Int):=by rw[wrap64]<;>omega
     have hkl:k - 1<l.length:=by omega
     have hgk1:l.getD (k - 1) []=l[k - 1]:=by simp[hkl]
     have hp:=wM l[k] l[k - 1];simp[guardOf,hk1,h0,hw,hkl,a7];refine fin _ (by simp[h0]) (by simp[h5]) (by simp[h6]) (by simp[h7]) ?_;simp only[eU,hgk,hnm,lz,hgk1,hk0,decide_false,Bool.false_or,Bool.true_and];rw[<- hp];simp
  ·have hc1:¬ k<l.length:=by simpa using hc1
   have hke:k=l.length:=by omega
   subst hke;refine J.exit rfl ?_;refine zE fun k' V=>?_
   simp [h0];apply V;refine J.ret func91 (aM.one results91) (hQ _ _ _ _ (.v _ _ _) ?_);rw[ft,dS hall];simp;omega
end Go.Ab
namespace Go.Ab
open Go.Proofs
theorem e92:a8 prog 92:=a8.of func92 (by kernel_rfl) rfl
theorem e78:a8 prog 78:=a8.of func78 (by kernel_rfl) rfl
theorem qH (l:List cH) (hl:l.length<=1048576) (hs:∀ s ∈ l,s.length<=1048576):aF prog 77 [encS false l] (fun r=>r=bool (c7 l)):=by
 refine aF.of func77 rfl ntmps77 (by simp) fun Q hQ=>?_
 refine zE fun k' V=>?_
 simp [encS];apply V;refine zS fun k' V=>?_
 simp;apply V;refine J.block (J.bS l.length (fun k O H n=>O 0 = .list false (l.map a7)/\O 3=int k/\∀ i,i<k->eU l i=true) ?_ ?_)
 ·simp
 ·rintro k O H n hk ⟨h0,h3,hall⟩ IH;refine zS fun k' V=>?_
  simp [h0, h3];apply V;refine J.ite rfl (fun hc1 => ?_) (fun hc1 => ?_)
  ·have hc1:k<l.length:=by simpa using hc1
   apply zK;apply J.block;refine J.gr aw aH bY (by decide) (by kernel_rfl) fun k' V=>?_
   have fin:∀ O:Env,O 0 = .list false (l.map a7)->O 3=int k->O 31=bool (!eU l k)->J prog 77 35 k' O H n Q:=by
    intro O h0 h3 h31;apply V;refine J.ite h31 (fun hc2=>?_) (fun hc2=>?_)
    ·have hb:eU l k=false:=by simpa using hc2
     refine zE fun k' V=>?_
     simp;apply V;exact J.ret func77 (aM.one results77) (hQ _ _ _ _ (.v _ _ _) (by rw[ft,dT hc1 hb,Bool.and_false]))
    ·have hb:eU l k=true:=by simpa using hc2
     apply J.skip;refine zI fun k' V=>?_
     simp [h3, bg (show k < 4611686018427387904 by omega)];apply V;refine IH hc1 _ _ _ ⟨by simp[h0],by simp,fun i hi=>?_⟩;rcases Nat.lt_or_ge i k with h | h
     ·exact hall i h
     ·rw[show i=k by omega];exact hb
   have hgk:l.getD k []=l[k]:=by simp[hc1]
   simp [h0, h3, hc1, a7];refine bA.cY aw aH (sS l[k] (Nat.le_trans (hs _ (List.getElem_mem hc1)) (by decide))) e127 (.cons (.v _ _ _) .nil) (by decide) rfl (by simp) ?_;cases hnm:nA l[k]
   ·simp[guardOf];exact fin _ (by simp[h0,a7]) (by simp[h3]) (by simp[eU,hc1,hnm])
   ·by_cases hk0:k=0
    ·subst hk0;simp[h3,guardOf];exact fin _ (by simp[h0,a7]) (by simp[h3]) (by simp[eU,hc1,hnm,lz])
    ·have hk1:0<k:=by omega
     have hw:IntKind.i64.wrap ((k:Int) - 1)=((k - 1:Nat):Int):=by rw[wrap64]<;>omega
     have hkl:k - 1<l.length:=by omega
     have hgk1:l.getD (k - 1) []=l[k - 1]:=by simp[hkl]
     simp[guardOf,hk1,h0,h3,hw,hkl,hc1,a7];refine fin _ (by simp[h0,a7]) (by simp[h3]) ?_;simp only[eU,hgk,hnm,lz,hgk1,hk0,decide_false,Bool.false_or,Bool.true_and];simp
  ·have hc1:¬ k<l.length:=by simpa using hc1
   have hke:k=l.length:=by omega
   subst hke;refine J.exit rfl ?_;refine zE fun k' V=>?_
   simp [h0];apply V;refine J.ret func77 (aM.one results77) (hQ _ _ _ _ (.v _ _ _) ?_);rw[ft,dS hall];simp;omega
def names (b:aG):List cH:=b.inner.map (·.name)
theorem rY (b:aG) (hl:b.inner.length<=1048576):aF prog 92 [cQ false b] (fun r=>r=encS true (names b)):=by
 refine aF.of func92 rfl ntmps92 (by simp) fun Q hQ=>?_
 refine zE fun _ V=>?_
 simp [cQ, aG.cells];apply V;refine zE fun _ V=>?_
 simp;apply V;refine zS fun _ V=>?_
 simp [bO];apply V;refine J.block (J.bS b.inner.length (fun k O H n=>O 8 = .list false (b.inner.map aI.cells)/\O 9=int b.inner.length/\O 10=int k/\O 3 = .arr (1,6) k 0 k/\H (1,6)=some ⟨1,((names b).take k).map a7⟩) ?_ ?_)
 ·simp
 ·rintro k O H n hk ⟨h8,h9,h10,h3,hH⟩ IH;refine zE fun _ V=>?_
  simp [h9, h10];apply V;apply J.seq;refine J.ite rfl (fun hc1 => ?_) (fun hc1 => ?_)
  ·have hc1:k<b.inner.length:=by simpa using hc1
   have htk:(((names b).take k).map a7).length=k:=by simp[names];omega
   have hts:(names b).take (k+1)=(names b).take k++[b.inner[k].name]:=by
    rw[List.take_succ_eq_append_getElem (by simpa[names] using hc1)];simp[names]
   apply zK;apply J.block;refine zE fun _ V=>?_
   simp [h8, h10, hc1, aI.cells];apply V;refine zF fun _ V=>?_
   generalize hels:((names b).take k).map a7=els at hH htk;simp [h3, hH, htk, live, show k <= 1073741823 by omega];apply V;refine zI fun _ V=>?_
   simp [h10, bg (show k < 4611686018427387904 by omega)];apply V;refine IH hc1 _ _ _ ⟨by simp[h8],by simp[h9],by simp,by simp,?_⟩;simp[hts,<- hels,a7]
  ·have hc1:¬ k<b.inner.length:=by simpa using hc1
   have hke:k=b.inner.length:=by omega
   subst hke;refine J.exit rfl ?_;refine zE fun _ V=>?_
   simp [h3];apply V;have he:(names b).take b.inner.length=names b:=List.take_of_length_le (by simp[names]);rw[he] at hH;exact J.ret func92 (aM.one results92) (hQ _ _ _ _ (.of (jD.yA (by simp[live,hH,names];rfl) (by simp[a7]))) rfl)
theorem xB (b:aG) (hl:b.inner.length<=1048576):aF prog 78 [cQ false b] (fun r=>r=encS true (names b)):=by
 refine aF.of func78 rfl ntmps78 (by simp) fun Q hQ=>?_
 refine zE fun _ V=>?_
 simp [cQ, aG.cells];apply V;refine zE fun _ V=>?_
 simp;apply V;refine zS fun _ V=>?_
 simp [bO];apply V;refine J.block (J.bS b.inner.length (fun k O H n=>O 1 = .ptr (0,1) 1 0 0/\H (0,1)=some ⟨6,[b.cells false]⟩/\O 4=int k/\O 3 = .arr (1,5) k 0 k/\H (1,5)=some ⟨1,((names b).take k).map a7⟩) ?_ ?_)
 ·simp[aG.cells,bO]
 ·rintro k O H n hk ⟨h1,hb,h4,h3,hH⟩ IH;refine zS fun _ V=>?_
  simp [h1, hb, h4, aG.cells, bO];apply V;refine J.ite rfl (fun hc1 => ?_) (fun hc1 => ?_)
  ·have hc1:k<b.inner.length:=by simpa using hc1
   have htk:(((names b).take k).map a7).length=k:=by simp[names];omega
   have hts:(names b).take (k+1)=(names b).take k++[b.inner[k].name]:=by
    rw[List.take_succ_eq_append_getElem (by simpa[names] using hc1)];simp[names]
   apply zK;apply J.block;refine zF fun _ V=>?_
   generalize hels:((names b).take k).map a7=els at hH htk;simp [h1, hb, h3, h4, hH, htk, hc1, live, aG.cells, bO, aI.cells, show k <= 1073741823 by omega];apply V;refine zI fun _ V=>?_
   simp [h4, bg (show k < 4611686018427387904 by omega)];apply V;refine IH hc1 _ _ _ ⟨by simp[h1],by simp[hb,aG.cells,bO],by simp,by simp,?_⟩;simp[hts,<- hels,a7]
  ·have hc1:¬ k<b.inner.length:=by simpa using hc1
   have hke:k=b.inner.length:=by omega
   subst hke;refine J.exit rfl ?_;refine zE fun _ V=>?_
   simp [h3];apply V;have he:(names b).take b.inner.length=names b:=List.take_of_length_le (by simp[names]);rw[he] at hH;exact J.ret func78 (aM.one results78) (hQ _ _ _ _ (.of (jD.yA (by simp[live,hH,names];rfl) (by simp[a7]))) rfl)
end Go.Ab
namespace Go.Ab
open Go.Proofs
def se {α:Type} (l:List α) (p:α->Bool):Int:=if l.findIdx p<l.length then (l.findIdx p:Int) else -1
theorem py {α:Type} {l:List α} {p:α->Bool} {k:Nat} (hk:k<l.length) (h:p l[k]=true) (hno:∀ i (h:i<l.length),i<k->p l[i]=false):se l p=k:=by
 have:l.findIdx p=k:=(List.findIdx_eq hk).2 ⟨h,fun j hj=>hno j (by omega) hj⟩;rw[se,this,if_pos hk]
theorem pz {α:Type} {l:List α} {p:α->Bool} (hno:∀ i (h:i<l.length),p l[i]=false):se l p = -1:=by
 have:l.findIdx p=l.length:=List.findIdx_eq_length.2 fun x hx=>by
  obtain⟨i,hi,rfl⟩:=List.getElem_of_mem hx;exact hno i hi
 rw[se,this,if_neg (Nat.lt_irrefl _)]
theorem mJ {α:Type} (l:List α) (p:α->Bool):decide (0<=se l p)=l.any p:=by
 unfold se;cases h:l.any p
 ·have:l.findIdx p=l.length:=List.findIdx_eq_length.2 fun x hx=>by
   rw[List.any_eq_false] at h;simpa using h x hx
  rw[if_neg (by omega)];simp
 ·have:l.findIdx p<l.length:=by
   rw[List.findIdx_lt_length];simpa[List.any_eq_true] using h
  rw[if_pos this];simp
theorem e139:a8 prog 139:=a8.of func139 (by kernel_rfl) rfl
theorem e94:a8 prog 94:=a8.of func94 (by kernel_rfl) rfl
theorem sc {H:av} {n:Nat} {cl:I} (t:Bool) (l:List (Int)) (p:Int->Bool) (hl:l.length<=1048576) (hcl:∀ x ∈ l,kL prog H n cl [int x] (fun r=>r=bool (p x))) :
  cU prog 139 [.list t (l.map au),cl] H n (fun r=>r=int (se l p)):=by
 refine cU.of func139 rfl ntmps139 (by simp) fun Q _ hQ=>?_
 refine zE fun _ V=>?_
 simp;apply V;refine zS fun _ V=>?_
 simp;apply V;refine J.block (J.bS l.length (fun k O H' n'=>O 0 = .list t (l.map au)/\O 1=cl/\O 7=int l.length/\O 8=int k/\H'=H/\n'=n/\∀ i (h:i<l.length),i<k->p l[i]=false) ?_ ?_)
 ·simp
 ·rintro k O H' n' hk ⟨h0,h1,h7,h8,rfl,rfl,hno⟩ IH;refine zE fun _ V=>?_
  simp [h7, h8];apply V;apply J.seq;refine J.ite rfl (fun hc1 => ?_) (fun hc1 => ?_)
  ·have hc1:k<l.length:=by simpa using hc1
   apply zK;apply J.block;refine zE fun _ V=>?_
   simp [h8];apply V;refine zE fun _ V=>?_
   simp [h0, h1, hc1, au];refine bq.Dj aw (hcl l[k] (List.getElem_mem hc1)) (by decide) (by decide) (by simp[h1]) (by simp) ?_;rintro _ rfl;simp;apply V;refine J.ite rfl (fun hc2 => ?_) (fun hc2 => ?_)
   ·have hc2:p l[k]=true:=by simpa using hc2
    refine zE fun _ V=>?_
    simp;apply V;refine J.ret func139 (aM.one results139) (hQ _ _ _ _ (.rS (.v _)) (Frame.refl _ _) ?_);simp[py hc1 hc2 hno]
   ·have hc2:p l[k]=false:=by simpa using hc2
    apply J.skip;refine zI fun _ V=>?_
    simp [h8, bg (show k < 4611686018427387904 by omega)];apply V;refine IH hc1 _ _ _ ⟨by simp[h0,au],by simp[h1],by simp[h7],by simp,rfl,rfl,fun i h hi=>?_⟩;rcases Nat.lt_or_ge i k with hik | hik
    ·exact hno i h hik
    ·have:i=k:=by omega
     subst this;exact hc2
  ·have hc1:¬ k<l.length:=by simpa using hc1
   have hke:k=l.length:=by omega
   subst hke;refine J.exit rfl ?_;refine zE fun _ V=>?_
   simp;apply V;refine J.ret func139 (aM.one results139) (hQ _ _ _ _ (.rS (.v _)) (Frame.refl _ _) ?_);simp[pz fun i h=>hno i h h]
theorem jh {H:av} {n:Nat} {cl:I} (t:Bool) (l:List (Int)) (p:Int->Bool) (hl:l.length<=1048576) (hcl:∀ x ∈ l,kL prog H n cl [int x] (fun r=>r=bool (p x))) :
  cU prog 94 [.list t (l.map au),cl] H n (fun r=>r=bool (l.any p)):=by
 refine cU.of func94 rfl ntmps94 (by simp) fun Q _ hQ=>?_
 refine zE fun _ V=>?_
 simp;apply V;refine zE fun _ V=>?_
 simp;refine bq.j0 aw (sc t l p hl hcl) e139 (by decide) (by decide) rfl (by simp) ?_;rintro _ rfl;simp;apply V;refine J.ret func94 (aM.one results94) (hQ _ _ _ _ (.rS (.v _)) (Frame.refl _ _) ?_);simp[mJ]
theorem e140:a8 prog 140:=a8.of func140 (by kernel_rfl) rfl
theorem e98:a8 prog 98:=a8.of func98 (by kernel_rfl) rfl
theorem rW {H:av} {n:Nat} {cl:I} (t:Bool) (l:List (aI)) (p:aI->Bool) (hl:l.length<=1048576) (hcl:∀ x ∈ l,kL prog H n cl [.agg x.cells] (fun r=>r=bool (p x))) :
  cU prog 140 [.list t (l.map aI.cells),cl] H n (fun r=>r=int (se l p)):=by
 refine cU.of func140 rfl ntmps140 (by simp) fun Q _ hQ=>?_
 refine zE fun _ V=>?_
 simp;apply V;refine zS fun _ V=>?_
 simp;apply V;refine J.block (J.bS l.length (fun k O H' n'=>O 0 = .list t (l.map aI.cells)/\O 1=cl/\O 7=int l.length/\O 8=int k/\H'=H/\n'=n/\∀ i (h:i<l.length),i<k->p l[i]=false) ?_ ?_)
 ·simp
 ·rintro k O H' n' hk ⟨h0,h1,h7,h8,rfl,rfl,hno⟩ IH;refine zE fun _ V=>?_
  simp [h7, h8];apply V;apply J.seq;refine J.ite rfl (fun hc1 => ?_) (fun hc1 => ?_)
  ·have hc1:k<l.length:=by simpa using hc1
   apply zK;apply J.block;refine zE fun _ V=>?_
   simp [h8];apply V;refine zE fun _ V=>?_
   simp [h0, h1, hc1, aI.cells];refine bq.Dj aw (hcl l[k] (List.getElem_mem hc1)) (by decide) (by decide) (by simp[h1]) (by simp[aI.cells]) ?_;rintro _ rfl;simp;apply V;refine J.ite rfl (fun hc2 => ?_) (fun hc2 => ?_)
   ·have hc2:p l[k]=true:=by simpa using hc2
    refine zE fun _ V=>?_
    simp;apply V;refine J.ret func140 (aM.one results140) (hQ _ _ _ _ (.rS (.v _)) (Frame.refl _ _) ?_);simp[py hc1 hc2 hno]
   ·have hc2:p l[k]=false:=by simpa using hc2
    apply J.skip;refine zI fun _ V=>?_
    simp [h8, bg (show k < 4611686018427387904 by omega)];apply V;refine IH hc1 _ _ _ ⟨by simp[h0,aI.cells],by simp[h1],by simp[h7],by simp,rfl,rfl,fun i h hi=>?_⟩;rcases Nat.lt_or_ge i k with hik | hik
    ·exact hno i h hik
    ·have:i=k:=by omega
     subst this;exact hc2
  ·have hc1:¬ k<l.length:=by simpa using hc1
   have hke:k=l.length:=by omega
   subst hke;refine J.exit rfl ?_;refine zE fun _ V=>?_
   simp;apply V;refine J.ret func140 (aM.one results140) (hQ _ _ _ _ (.rS (.v _)) (Frame.refl _ _) ?_);simp[pz fun i h=>hno i h h]
theorem nL {H:av} {n:Nat} {cl:I} (t:Bool) (l:List (aI)) (p:aI->Bool) (hl:l.length<=1048576) (hcl:∀ x ∈ l,kL prog H n cl [.agg x.cells] (fun r=>r=bool (p x))) :
  cU prog 98 [.list t (l.map aI.cells),cl] H n (fun r=>r=bool (l.any p)):=by
 refine cU.of func98 rfl ntmps98 (by simp) fun Q _ hQ=>?_
 refine zE fun _ V=>?_
 simp;apply V;refine zE fun _ V=>?_
 simp;refine bq.j0 aw (rW t l p hl hcl) e140 (by decide) (by decide) rfl (by simp) ?_;rintro _ rfl;simp;apply V;refine J.ret func98 (aM.one results98) (hQ _ _ _ _ (.rS (.v _)) (Frame.refl _ _) ?_);simp[mJ]
theorem e157:a8 prog 157:=a8.of func157 (by kernel_rfl) rfl
theorem e137:a8 prog 137:=a8.of func137 (by kernel_rfl) rfl
theorem rP {H:av} {n:Nat} {cl:I} (t:Bool) (l:List (Control)) (p:Control->Bool) (hl:l.length<=1048576) (hcl:∀ x ∈ l,kL prog H n cl [.agg x.cells] (fun r=>r=bool (p x))) :
  cU prog 157 [.list t (l.map Control.cells),cl] H n (fun r=>r=int (se l p)):=by
 refine cU.of func157 rfl ntmps157 (by simp) fun Q _ hQ=>?_
 refine zE fun _ V=>?_
 simp;apply V;refine zS fun _ V=>?_
 simp;apply V;refine J.block (J.bS l.length (fun k O H' n'=>O 0 = .list t (l.map Control.cells)/\O 1=cl/\O 7=int l.length/\O 8=int k/\H'=H/\n'=n/\∀ i (h:i<l.length),i<k->p l[i]=false) ?_ ?_)
 ·simp
 ·rintro k O H' n' hk ⟨h0,h1,h7,h8,rfl,rfl,hno⟩ IH;refine zE fun _ V=>?_
  simp [h7, h8];apply V;apply J.seq;refine J.ite rfl (fun hc1 => ?_) (fun hc1 => ?_)
  ·have hc1:k<l.length:=by simpa using hc1
   apply zK;apply J.block;refine zE fun _ V=>?_
   simp [h8];apply V;refine zE fun _ V=>?_
   simp [h0, h1, hc1, Control.cells];refine bq.Dj aw (hcl l[k] (List.getElem_mem hc1)) (by decide) (by decide) (by simp[h1]) (by simp[Control.cells]) ?_;rintro _ rfl;simp;apply V;refine J.ite rfl (fun hc2 => ?_) (fun hc2 => ?_)
   ·have hc2:p l[k]=true:=by simpa using hc2
    refine zE fun _ V=>?_
    simp;apply V;refine J.ret func157 (aM.one results157) (hQ _ _ _ _ (.rS (.v _)) (Frame.refl _ _) ?_);simp[py hc1 hc2 hno]
   ·have hc2:p l[k]=false:=by simpa using hc2
    apply J.skip;refine zI fun _ V=>?_
    simp [h8, bg (show k < 4611686018427387904 by omega)];apply V;refine IH hc1 _ _ _ ⟨by simp[h0,Control.cells],by simp[h1],by simp[h7],by simp,rfl,rfl,fun i h hi=>?_⟩;rcases Nat.lt_or_ge i k with hik | hik
    ·exact hno i h hik
    ·have:i=k:=by omega
     subst this;exact hc2
  ·have hc1:¬ k<l.length:=by simpa using hc1
   have hke:k=l.length:=by omega
   subst hke;refine J.exit rfl ?_;refine zE fun _ V=>?_
   simp;apply V;refine J.ret func157 (aM.one results157) (hQ _ _ _ _ (.rS (.v _)) (Frame.refl _ _) ?_);simp[pz fun i h=>hno i h h]
theorem nS {H:av} {n:Nat} {cl:I} (t:Bool) (l:List (Control)) (p:Control->Bool) (hl:l.length<=1048576) (hcl:∀ x ∈ l,kL prog H n cl [.agg x.cells] (fun r=>r=bool (p x))) :
  cU prog 137 [.list t (l.map Control.cells),cl] H n (fun r=>r=bool (l.any p)):=by
 refine cU.of func137 rfl ntmps137 (by simp) fun Q _ hQ=>?_
 refine zE fun _ V=>?_
 simp;apply V;refine zE fun _ V=>?_
 simp;refine bq.j0 aw (rP t l p hl hcl) e157 (by decide) (by decide) rfl (by simp) ?_;rintro _ rfl;simp;apply V;refine J.ret func137 (aM.one results137) (hQ _ _ _ _ (.rS (.v _)) (Frame.refl _ _) ?_);simp[mJ]
end Go.Ab
namespace Go.Ab
open Go.Proofs
theorem e89:a8 prog 89:=a8.of func89 (by kernel_rfl) rfl
theorem e75:a8 prog 75:=a8.of func75 (by kernel_rfl) rfl
theorem e138:a8 prog 138:=a8.of func138 (by kernel_rfl) rfl
theorem DZ {H:av} {n:Nat} {X:Id} (c:Control) (hX:H X=some ⟨3,[c.cells]⟩) (d:Control):kL prog H n (.fn (.func 138) [] [.ptr X 1 0 0]) [.agg d.cells] (fun r=>r=bool (d.name == c.name)):=by
 refine⟨138,[],[.ptr X 1 0 0],rfl,e138,?_⟩;refine cU.of func138 rfl ntmps138 (by simp) fun Q hB hQ=>?_
 have hXn:=(hB X _ hX).1;have hX2:¬ X=(n,2):=by rintro rfl;simp at hXn
 refine zE fun _ V=>?_
 simp [Control.cells];apply V;refine zE fun _ V=>?_
 simp [hX2, hX, Control.cells];apply V;exact J.ret func138 (aM.one results138) (hQ _ _ _ _ (.rS (.v _)) (Frame.set (by simp) (Frame.refl _ _)) (by simp))
def iF (sig:dG) (i:Nat):Bool:=c5 (sig.getD i default) && newName sig i
theorem iw (sig:dG):fP sig=(within sig.length 1 6 && (List.range sig.length).all (iF sig)):=rfl
theorem ri (sig:dG) (hl:sig.length<=1048576) (hs:∀ c ∈ sig,c.name.length<=1048576):aF prog 89 [bz false sig] (fun r=>r=bool (fP sig)):=by
 refine aF.of func89 rfl ntmps89 (by simp) fun Q hQ=>?_
 refine zE fun k' V=>?_
 simp [bz];apply V;refine zS fun k' V=>?_
 simp;refine zA (fa sig.length 1 6) E6 (.cons (.v _ _ _) (.cons (.v _ _ _) (.cons (.v _ _ _) .nil))) (by simp) ?_;rintro _ rfl;simp;apply V;refine J.ite rfl (fun hc1 => ?_) (fun hc1 => ?_)
 ·have hw:within sig.length 1 6=false:=by simpa using hc1
  refine zE fun k' V=>?_
  simp;apply V;exact J.ret func89 (aM.one results89) (hQ _ _ _ _ (.v _ _ _) (by rw[iw,hw,Bool.false_and]))
 ·have hw:within sig.length 1 6=true:=by simpa using hc1
  apply J.skip;refine zS fun k' V=>?_
  simp;apply V;refine J.block (J.bS sig.length (fun k O H n=>O 0 = .list false (sig.map Control.cells)/\O 9 = .list false (sig.map Control.cells)/\O 10=int sig.length/\O 11=int k/\∀ i,i<k->iF sig i=true) ?_ ?_)
  ·simp
  ·rintro k O H n hk ⟨h0,h9,h10,h11,hall⟩ IH;refine zE fun k' V=>?_
   simp [h10, h11];apply V;apply J.seq;refine J.ite rfl (fun hc1 => ?_) (fun hc1 => ?_)
   ·have hc1:k<sig.length:=by simpa using hc1
    have hgk:sig.getD k default=sig[k]:=by simp[hc1]
    apply zK;apply J.block;refine zE fun k' V=>?_
    simp [h9, h11, hc1, Control.cells];apply V;refine J.cut (fun O H n=>O 0 = .list false (sig.map Control.cells)/\O 9 = .list false (sig.map Control.cells)/\O 10=int sig.length/\O 11=int k/\O 3=int k/\∃ m,O 4 = .ptr (m,4) 1 0 0/\H (m,4)=some ⟨3,[sig[k].cells]⟩) ?_ ?_
    ·exact⟨by simp[h0],by simp[h9],by simp[h10],by simp[h11],by simp,n,by simp,by simp[Control.cells]⟩
    clear V h0 h9 h10 h11;rintro O H n ⟨h0,h9,h10,h11,h3,m,h4,hm⟩;refine zE fun k' V=>?_
    have fin:∀ O:Env,O 0 = .list false (sig.map Control.cells)->O 9 = .list false (sig.map Control.cells)->O 10=int sig.length->O 11=int k->O 38=bool (!iF sig k)->J prog 89 40 k' O H n Q:=by
     intro O h0 h9 h10 h11 h38;apply V;refine J.ite h38 (fun hc2 => ?_) (fun hc2 => ?_)
     ·have hb:iF sig k=false:=by simpa using hc2
      refine zE fun k' V=>?_
      simp;apply V;exact J.ret func89 (aM.one results89) (hQ _ _ _ _ (.v _ _ _) (by rw[iw,dT hc1 hb,Bool.and_false]))
     ·have hb:iF sig k=true:=by simpa using hc2
      apply J.skip;refine zI fun k' V=>?_
      simp [h11, bg (show k < 4611686018427387904 by omega)];apply V;refine IH hc1 _ _ _ ⟨by simp[h0],by simp[h9],by simp[h10],by simp,fun i hi=>?_⟩;rcases Nat.lt_or_ge i k with h | h
      ·exact hall i h
      ·rw[show i=k by omega];exact hb
    have hm':=hm;simp only[Control.cells] at hm';simp [h4, hm'];refine zA (sY sig[k].name (Nat.le_trans (hs _ (List.getElem_mem hc1)) (by decide))) e136 (.cons (.v _ _ _) .nil) (by simp) ?_;rintro _ rfl;cases hnm:nA sig[k].name
    ·simp[guardOf];exact fin _ (by simp[h0]) (by simp[h9]) (by simp[h10]) (by simp[h11]) (by simp only[iF,hgk,c5,hnm];simp)
    ·simp[h4,hm',guardOf];refine zA (fa sig[k].ports 0 3) E6 (.cons (.v _ _ _) (.cons (.v _ _ _) (.cons (.v _ _ _) .nil))) (by simp) ?_;rintro _ rfl;cases hpo:within sig[k].ports 0 3
     ·simp[guardOf];exact fin _ (by simp[h0]) (by simp[h9]) (by simp[h10]) (by simp[h11]) (by simp only[iF,hgk,c5,hnm,hpo];simp)
     ·simp[h4,hm',guardOf];refine zA (fa sig[k].kind 0 2) E6 (.cons (.v _ _ _) (.cons (.v _ _ _) (.cons (.v _ _ _) .nil))) (by simp) ?_;rintro _ rfl;cases hki:within sig[k].kind 0 2
      ·simp[guardOf];exact fin _ (by simp[h0]) (by simp[h9]) (by simp[h10]) (by simp[h11]) (by simp only[iF,hgk,c5,hnm,hpo,hki];simp)
      ·have hkl:(k:Int)<=sig.length:=by omega
       simp[h0,h3,h4,hkl,guardOf,Control.cells];refine bq.j0 aw (nS false (sig.take k) (fun d=>d.name == sig[k].name) (by simp;omega) (fun d _=>DZ sig[k] hm d)) e137 (by decide) (by decide) rfl (by simp[Control.cells]) ?_;rintro _ rfl;simp[guardOf];refine fin _ (by simp[h0,Control.cells]) (by simp[h9,Control.cells]) (by simp[h10]) (by simp[h11]) ?_;simp only[iF,hgk,c5,hnm,hpo,hki,newName];simp
   ·have hc1:¬ k<sig.length:=by simpa using hc1
    have hke:k=sig.length:=by omega
    subst hke;refine J.exit rfl ?_;refine zE fun k' V=>?_
    simp;apply V;exact J.ret func89 (aM.one results89) (hQ _ _ _ _ (.v _ _ _) (by rw[iw,hw,dS hall];rfl))
end Go.Ab
