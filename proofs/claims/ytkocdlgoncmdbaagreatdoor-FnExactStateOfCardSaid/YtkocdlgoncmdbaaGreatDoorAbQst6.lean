/- Merged texts (6 of 18) of the proof that ends in Sty: Shelf S Q aa Ga Sn Vp Kb Kc W Gb Gc Gd Ge Gf. -/
import Derived.Test.YtkocdlgoncmdbaaGreatDoorAbQst5
import Derived.Shelf.Strings.Builder1
import Derived.Shelf.Strings.Builder2
import Derived.Shelf.Strings.OnBuilder
import Derived.Shelf.Strings.Trim
import Derived.Shelf.Small.Utf8
import Derived.Shelf.Small.Strs
import Derived.Shelf.Small.Wraps
import Derived.Shelf.Strings.Search1
import Derived.Shelf.Strings.Runes
import Derived.Shelf.Strings.AsciiSet
import Derived.Shelf.Bits.Mul64
import Derived.Shelf.Unicode.DecodeSlow
import Derived.Shelf.Slices.Turned
import Derived.Ground.Names2Prog
import Derived.Shelf.Slices.Clone
import Derived.Test.YtkocdlgoncmdbaaGreatDoorProg
import Derived.Shelf.Strings.SlTrimAscii
import Derived.Lib.Join
open Go.Proofs.Tryz
set_option linter.unusedSectionVars false
set_option linter.unusedSimpArgs false
set_option linter.unusedVariables false
namespace Go.Proofs
open Go.Shelf
def Tryz.vr:Go.Shelf.Ren:=⟨fun | 160=>156 | 232=>168 | 231=>167 | 227=>169 | 234=>171 | 233=>170 | 236=>173 | 235=>172 | 228=>181 | 271=>184 | 151=>183 | 197=>182 | 120=>193 | 152=>192 | 260=>191 | 137=>199 | 119=>200 | 224=>201 | 225=>202 | 217=>205 | 266=>206 | n=>n,fun | 9=>9 | 4=>4 | 3=>3 | 5=>5 | 117=>181 | 116=>180 | 0=>0 | 124=>184 | 21=>21 | 105=>194 | 46=>185 | 119=>213 | 139=>216 | 138=>215 | n=>n,fun | 3=>2 | 4=>3 | n=>n⟩
theorem Tryz.FK:Go.Proofs.Lays.n160 prog Tryz.vr:={
 mixed:=by kernel_rfl
 f119:=Tryz.func200.trans (congrArg some (by kernel_rfl))
 f120:=Tryz.func193.trans (congrArg some (by kernel_rfl))
 f137:=Tryz.func199.trans (congrArg some (by kernel_rfl))
 f151:=Tryz.func183.trans (congrArg some (by kernel_rfl))
 f152:=Tryz.func192.trans (congrArg some (by kernel_rfl))
 f160:=Tryz.func156.trans (congrArg some (by kernel_rfl))
 f197:=Tryz.func182.trans (congrArg some (by kernel_rfl))
 f217:=Tryz.func205.trans (congrArg some (by kernel_rfl))
 f224:=Tryz.func201.trans (congrArg some (by kernel_rfl))
 f225:=Tryz.func202.trans (congrArg some (by kernel_rfl))
 f227:=Tryz.func169.trans (congrArg some (by kernel_rfl))
 f228:=Tryz.func181.trans (congrArg some (by kernel_rfl))
 f231:=Tryz.func167.trans (congrArg some (by kernel_rfl))
 f232:=Tryz.func168.trans (congrArg some (by kernel_rfl))
 f233:=Tryz.func170.trans (congrArg some (by kernel_rfl))
 f234:=Tryz.func171.trans (congrArg some (by kernel_rfl))
 f235:=Tryz.func172.trans (congrArg some (by kernel_rfl))
 f236:=Tryz.func173.trans (congrArg some (by kernel_rfl))
 f260:=Tryz.func191.trans (congrArg some (by kernel_rfl))
 f266:=Tryz.func206.trans (congrArg some (by kernel_rfl))
 f271:=Tryz.func184.trans (congrArg some (by kernel_rfl))
 t0:=Tryz.underlying0
 a0:=Tryz.isAgg0
 z0:=Tryz.sizeOf0
 v0:=Tryz.zeroValue0
 t3:=Tryz.underlying3
 a3:=Tryz.isAgg3
 z3:=Tryz.sizeOf3
 v3:=Tryz.zeroValue3
 t4:=Tryz.underlying4
 a4:=Tryz.isAgg4
 z4:=Tryz.sizeOf4
 v4:=Tryz.zeroValue4
 t5:=Tryz.underlying5
 a5:=Tryz.isAgg5
 z5:=Tryz.sizeOf5
 v5:=Tryz.zeroValue5
 t9:=Tryz.underlying9
 a9:=Tryz.isAgg9
 z9:=Tryz.sizeOf9
 v9:=Tryz.zeroValue9
 t21:=Tryz.underlying21
 a21:=Tryz.isAgg21
 z21:=Tryz.sizeOf21
 v21:=Tryz.zeroValue21
 t46:=Tryz.underlying185
 a46:=Tryz.isAgg185
 z46:=Tryz.sizeOf185
 v46:=Tryz.zeroValue185
 t105:=Tryz.underlying194
 a105:=Tryz.isAgg194
 z105:=Tryz.sizeOf194
 v105:=Tryz.zeroValue194
 t116:=Tryz.underlying180
 a116:=Tryz.isAgg180
 z116:=Tryz.sizeOf180
 t117:=Tryz.underlying181
 a117:=Tryz.isAgg181
 z117:=Tryz.sizeOf181
 v117:=Tryz.zeroValue181
 t119:=Tryz.underlying213
 a119:=Tryz.isAgg213
 z119:=Tryz.sizeOf213
 t124:=Tryz.underlying184
 a124:=Tryz.isAgg184
 z124:=Tryz.sizeOf184
 v124:=Tryz.zeroValue184
 t138:=Tryz.underlying215
 a138:=Tryz.isAgg215
 z138:=Tryz.sizeOf215
 v138:=Tryz.zeroValue215
 t139:=Tryz.underlying216
 a139:=Tryz.isAgg216
 z139:=Tryz.sizeOf216
 v139:=Tryz.zeroValue216
 g3:=by kernel_rfl
 g4:=by kernel_rfl }
def Tryz.vA:Go.Shelf.Ren:=⟨fun | 212=>174 | 263=>185 | 264=>186 | n=>n,fun | 46=>185 | 51=>197 | 146=>198 | 53=>200 | 148=>201 | n=>n,fun | n=>n⟩
theorem Tryz.Gx:Go.Proofs.Lays.n212 prog Tryz.vA:={
 mixed:=by kernel_rfl
 f212:=Tryz.func174.trans (congrArg some (by kernel_rfl))
 f263:=Tryz.func185.trans (congrArg some (by kernel_rfl))
 f264:=Tryz.func186.trans (congrArg some (by kernel_rfl))
 t46:=Tryz.underlying185
 a46:=Tryz.isAgg185
 z46:=Tryz.sizeOf185
 v46:=Tryz.zeroValue185
 t51:=Tryz.underlying197
 a51:=Tryz.isAgg197
 z51:=Tryz.sizeOf197
 v51:=Tryz.zeroValue197
 t53:=Tryz.underlying200
 a53:=Tryz.isAgg200
 z53:=Tryz.sizeOf200
 v53:=Tryz.zeroValue200
 t146:=Tryz.underlying198
 a146:=Tryz.isAgg198
 z146:=Tryz.sizeOf198
 v146:=Tryz.zeroValue198
 t148:=Tryz.underlying201
 a148:=Tryz.isAgg201
 z148:=Tryz.sizeOf201
 v148:=Tryz.zeroValue201 }
open Go.RowKit Go.Lib in
theorem Tryz.bits_Mul (x y:Nat) (hx:x<18446744073709551616) (hy:y<18446744073709551616) (w:World) :
  Calls prog 174 #[.int .u64 x,.int .u64 y] w fun e w'=>e = .returned (.tuple #[.int .u64 ((x * y / 18446744073709551616:Nat):Int),.int .u64 ((x * y % 18446744073709551616:Nat):Int)])/\w'=w:=Any.bits_Mul Tryz.Gx x y hx hy w
end Go.Proofs
namespace Go.Ab
open Go.Proofs Go.RowKit
theorem aC.w4 {P:Program} {f:FuncId} {args:List au} {R:au->Prop}
  (h:∀ (c:Ctx) (xs:List Value),(∀ id,c.H id=none)->dD c args xs->Calls P f xs.toArray c.w fun e w'=>∃ x v,e = .returned x/\R v/\bY v/\(∀ c':Ctx,bW c' v x)/\Below c.w.heap.size c.w w'):aC P f args R:=by
 intro c xs hH hn g r;refine (h c xs (by intro id;rw[hH];rfl) r).mono ?_;rintro e w' ⟨x,v,he,hR,hf,hv,hb⟩;obtain⟨hk,hg⟩:=ee g w' ⟨hb.os,hb.tape,hb.output⟩ hb.size hb.block;exact⟨x,v,{ c with w:=w' },he,rfl,⟨v,.of (jk.fresh hf),hR⟩,hv _,hg,hk⟩
theorem dD.two2 {c:Ctx} {a b:au} {xs:List Value} (r:dD c [a,b] xs):∃ x y,xs=[x,y]/\bW c a x/\bW c b y:=by
 obtain⟨hl,hr⟩:=r
 match xs,hl with
 | [x,y],_=>exact⟨x,y,rfl,hr 0 a x rfl rfl,hr 1 b y rfl rfl⟩
theorem F5 (s cut:cP) (hs:s.length<=4611686018427387904) (hc:cut.length<=1000) (ha:cut.all (fun b=>decide (b.toNat<128))=true):aC prog 156 [str s,str cut] (fun r=>r=str (Lib.trimS s cut)):=by
 refine aC.w4 fun c xs _ r=>?_
 obtain⟨x,y,rfl,hx,hy⟩:=r.two2;rw[hx.cE,hy.cE];refine (Any.strings_Trim_laid Tryz.FK (by kernel_rfl) ⟨s.toArray⟩ ⟨cut.toArray⟩ c.w (by simp;omega) (by simp;omega) (ascii_of_all (by simpa using ha))).mono ?_;rintro e w' ⟨he,hb⟩;exact⟨_,_,he,rfl,.v _,fun _=>.v _,by simpa using hb⟩
end Go.Ab
namespace Go.Ab
open Go.Proofs
theorem e156:a8 prog 156:=a8.of func156 (by kernel_rfl) rfl
end Go.Ab
namespace Go.Ab
open Go.Proofs
theorem e136:a8 prog 136:=a8.of func136 (by kernel_rfl) rfl
def lower (c:UInt8):Bool:=decide (97<=c.toNat) && decide (c.toNat<=122)
def nO (s:cP):Bool:=within s.length 1 4 && s.all lower
def alpha:cP:=[97,98,99,100,101,102,103,104,105,106,107,108,109,110,111,112,113,114,115,116,117,118,119,120,121,122]
set_option maxRecDepth 10000 in
theorem wj (c:UInt8):alpha.contains c=lower c:=by
 have h:∀ n:Fin 256,alpha.contains (UInt8.ofNat n.val)=lower (UInt8.ofNat n.val):=by decide
 have:=h ⟨c.toNat,c.toNat_lt⟩;simpa using this
theorem dropWhile_nil {q:UInt8->Bool}:∀ l:cP,l.dropWhile q=[]↔l.all q=true
 | []=>by simp
 | a::l=>by
  rw[List.dropWhile_cons];cases h:q a<;>simp[h,dropWhile_nil l]
theorem j7 {q:UInt8->Bool}:∀ l:cP,(l.dropWhile q).reverse.all q=true->l.all q=true
 | [],_=>by simp
 | a::l,h=>by
  rw[List.dropWhile_cons] at h;cases hq:q a
  ·simp[hq] at h
  ·simp only[hq,if_true] at h;have:=j7 l h;simp only[List.all_cons,hq,this,Bool.and_self]
theorem AZ (s:cP):(Lib.trimS s alpha=[])↔s.all lower=true:=by
 have he:(fun c=>alpha.contains c)=lower:=funext wj;unfold Lib.trimS Lib.trimLeftS Lib.trimRightS;rw[he,dropWhile_nil]
 constructor
 ·intro h;have:=j7 _ h;simpa using this
 ·intro h;have h2:s.reverse.dropWhile lower=[]:=by rw[dropWhile_nil];simpa using h
  rw[h2]
  rfl
theorem tk (s:cP) (hs:s.length<=4294967296):aC prog 136 [str s] (fun r=>r=bool (nO s)):=by
 refine aC.of func136 rfl ntmps136 (by simp) fun Q hQ=>?_
 refine zE fun _ V=>?_
 simp;apply V;refine zE fun _ V=>?_
 simp;refine zA (db s.length 1 4) Dg (.cons (.v _ _ _) (.cons (.v _ _ _) (.cons (.v _ _ _) .nil))) (by simp) ?_;rintro _ rfl;cases hw:within s.length 1 4
 ·simp[hw];apply V;exact J.ret func136 (aR.one results136) (hQ _ _ _ _ (.v _ _ _) (by simp[nO,hw]))
 ·simp[hw];refine zA (F5 s alpha (by omega) (by decide) (by decide)) e156 (.cons (.v _ _ _) (.cons (.v _ _ _) .nil)) (by simp[alpha]) ?_;rintro _ rfl;simp[hw];apply V;refine J.ret func136 (aR.one results136) (hQ _ _ _ _ (.v _ _ _) ?_);have:=AZ s;cases h:s.all lower<;>simp[h] at this<;>simp[nO,hw,h,this]
end Go.Ab
namespace Go.Ab
structure Control where
 name:cP
 ports:Int
 kind:Int
 deriving Inhabited,DecidableEq
structure az where
 control:Int
 parent:Int
 links:List Int
 deriving Inhabited,DecidableEq
structure aQ where
 name:cP
 link:Int
 deriving Inhabited,DecidableEq
structure I where
 roots:Int
 nodes:List az
 sites:List Int
 edges:Int
 outer:List cP
 inner:List aQ
 deriving Inhabited,DecidableEq
abbrev cZ:=List Control
def gZ {α:Type} (fr:Bool) (f:α->List au) (l:List α):List au:=[.list fr (l.map f)]
def Control.cells (x:Control):List au:=[str x.name,int x.ports,int x.kind]
def aQ.cells (x:aQ):List au:=[str x.name,int x.link]
def az.cells (t:Bool) (x:az):List au:=[int x.control,int x.parent,.list t (x.links.map av)]
def bF (t:Bool) (s:cZ):au:=.list t (s.map Control.cells)
def encI (t:Bool) (l:List Int):au:=.list t (l.map av)
def encS (t:Bool) (l:List cP):au:=.list t (l.map bg)
def aD (t:Bool) (l:List aQ):au:=.list t (l.map aQ.cells)
def aB (t:Bool) (l:List az):au:=.list t (l.map (az.cells t))
def I.cells (t:Bool) (b:I):List au:=[int b.roots,aB t b.nodes,encI t b.sites,int b.edges,encS t b.outer,aD t b.inner]
def cI (t:Bool) (b:I):au:=.agg (b.cells t)
theorem tj (l:List Int):∀ e ∈ l.map av,∀ a ∈ e,flat a=true:=by simp[av]
theorem sZ (l:List cP):∀ e ∈ l.map bg,∀ a ∈ e,flat a=true:=by simp[bg]
theorem rP (l:List aQ):∀ e ∈ l.map aQ.cells,∀ a ∈ e,flat a=true:=by simp[aQ.cells]
theorem vS (l:cZ):∀ e ∈ l.map Control.cells,∀ a ∈ e,flat a=true:=by simp[Control.cells]
theorem nQ (t:Bool) (l:List Int):old (encI t l)=encI false l:=by rw[encI,fg,dQ (tj l)];rfl
theorem rE (t:Bool) (l:List cP):old (encS t l)=encS false l:=by rw[encS,fg,dQ (sZ l)];rfl
theorem rY (t:Bool) (l:List aQ):old (aD t l)=aD false l:=by rw[aD,fg,dQ (rP l)];rfl
theorem yb (t:Bool) (l:cZ):old (bF t l)=bF false l:=by rw[bF,fg,dQ (vS l)];rfl
theorem xt (t:Bool) (x:az):(x.cells t).map old=x.cells false:=by
 simp only[az.cells,List.map_cons,List.map_nil,Hg];have:=nQ t x.links;simp only[encI] at this;rw[this]
theorem qJ (t:Bool) (l:List az):old (aB t l)=aB false l:=by
 rw[aB,fg,List.map_map];simp only[aB]
 congr 1
 exact List.map_congr_left fun x _=>xt t x
theorem E5 (t:Bool) (b:I):old (cI t b)=cI false b:=by
 simp only[cI,I.cells,p9,List.map_cons,List.map_nil,Hg,qJ,nQ,rE,rY]
theorem od (t:Bool) (l:List Int):fY (encI t l):=.list _ _ fun e he a ha=>fY.flat (tj l e he a ha)
theorem qn (t:Bool) (l:List cP):fY (encS t l):=.list _ _ fun e he a ha=>fY.flat (sZ l e he a ha)
theorem rO (t:Bool) (l:List aQ):fY (aD t l):=.list _ _ fun e he a ha=>fY.flat (rP l e he a ha)
theorem Ad (t:Bool) (l:cZ):fY (bF t l):=.list _ _ fun e he a ha=>fY.flat (vS l e he a ha)
theorem vk (t:Bool) (x:az):∀ a ∈ x.cells t,fY a:=by
 intro a ha;simp only[az.cells,List.mem_cons,List.not_mem_nil,or_false] at ha;rcases ha with rfl | rfl | rfl
 ·exact .v _
 ·exact .v _
 ·exact od t x.links
theorem qq (t:Bool) (l:List az):fY (aB t l):=by
 refine .list _ _ fun e he a ha=>?_
 obtain⟨x,_,rfl⟩:=List.mem_map.1 he;exact vk t x a ha
theorem EY (t:Bool) (b:I):fY (cI t b):=by
 refine .agg _ fun a ha=>?_
 simp only[I.cells,List.mem_cons,List.not_mem_nil,or_false] at ha;rcases ha with rfl | rfl | rfl | rfl | rfl | rfl
 ·exact .v _
 ·exact qq t _
 ·exact od t _
 ·exact .v _
 ·exact qn t _
 ·exact rO t _
section
variable {H:ax} {n:Nat}
theorem aJ.encI (t:Bool) (l:List Int):aJ H n (encI t l) (encI false l):=aJ.su (od t l) (nQ t l)
theorem aJ.encS (t:Bool) (l:List cP):aJ H n (encS t l) (encS false l):=aJ.su (qn t l) (rE t l)
theorem aJ.aD (t:Bool) (l:List aQ):aJ H n (aD t l) (aD false l):=aJ.su (rO t l) (rY t l)
theorem aJ.bF (t:Bool) (l:cZ):aJ H n (bF t l) (bF false l):=aJ.su (Ad t l) (yb t l)
theorem aJ.aB (t:Bool) (l:List az):aJ H n (aB t l) (aB false l):=aJ.su (qq t l) (qJ t l)
theorem aJ.cI (t:Bool) (b:I):aJ H n (cI t b) (cI false b):=aJ.su (EY t b) (E5 t b)
end
def cV (c:Control):Bool:=nO c.name && within c.ports 0 3 && within c.kind 0 2
def newName (sig:cZ) (i:Nat):Bool := !(sig.take i).any fun d=>d.name == (sig.getD i default).name
def fE (sig:cZ):Bool:=within sig.length 1 6 && (List.range sig.length).all fun i=>cV (sig.getD i default) && newName sig i
def kO (l:List cP) (i:Nat):Bool:=decide (i=0) || Op.bytesLess (l.getD (i - 1) []) (l.getD i [])
def cT (l:List cP):Bool:=decide (l.length<=16) && (List.range l.length).all fun i=>nO (l.getD i []) && kO l i
def dp (b:I) (l:Int):Bool:=within l 0 (b.edges+b.outer.length - 1)
def b4 (sig:cZ) (b:I) (parent:Int) (below:Nat):Bool:=
 if parent<0 then decide (-b.roots<=parent) else decide (parent<below) && decide ((sig.getD (b.nodes.getD parent.toNat default).control.toNat default).kind ≠ 2)
def cr (sig:cZ) (b:I) (i:Nat):Bool:=
 within (b.nodes.getD i default).control 0 (sig.length - 1) && b4 sig b (b.nodes.getD i default).parent i && decide ((b.nodes.getD i default).links.length=(sig.getD (b.nodes.getD i default).control.toNat default).ports) &&
  (b.nodes.getD i default).links.all (dp b)
def gU (sig:cZ) (b:I):Bool:=
 fE sig && within b.roots 0 4 && decide (b.nodes.length<=8) && decide (b.sites.length<=4) && within b.edges 0 8 && cT b.outer && cT (b.inner.map (·.name)) &&
  (List.range b.nodes.length).all (cr sig b) && b.sites.all (fun p=>b4 sig b p b.nodes.length) && b.inner.all (fun w=>dp b w.link)
end Go.Ab
namespace Go.Ab
structure Match where
 nodes:List Int
 roots:List Int
 deriving Inhabited,DecidableEq
def aT (x:Int × Int × Int):List au:=[int x.1,int x.2.1,int x.2.2]
abbrev oE {α:Type} (l:List Sh) (f:α->List au) (v:au) (es:List α):bX:=(.s l,v,.list true (es.map f))
abbrev oI (v:au) (es:List Int):bX:=(.s [.c],v,.list true (es.map av))
abbrev oS (v:au) (es:List cP):bX:=(.s [.c],v,.list true (es.map bg))
abbrev oN (v:au) (es:List az):bX:=(.s [.c,.c,.s [.c]],v,.list true (es.map (az.cells true)))
abbrev oW (v:au) (es:List aQ):bX:=(.s [.c,.c],v,.list true (es.map aQ.cells))
section
variable {H H':ax} {n n':Nat} {K:List bX} {ids:List Id} {x:bX}
theorem Sep.f1 {a:bX} (h:Sep H n (a::x::K) ids):Sep H n (x::a::K) ids:=Sep.front (K1:=[a]) h
theorem Sep.f2 {a b:bX} (h:Sep H n (a::b::x::K) ids):Sep H n (x::a::b::K) ids:=Sep.front (K1:=[a,b]) h
theorem Sep.f3 {a b c:bX} (h:Sep H n (a::b::c::x::K) ids):Sep H n (x::a::b::c::K) ids:=Sep.front (K1:=[a,b,c]) h
theorem Sep.f4 {a b c d:bX} (h:Sep H n (a::b::c::d::x::K) ids):Sep H n (x::a::b::c::d::K) ids:=Sep.front (K1:=[a,b,c,d]) h
theorem Sep.f5 {a b c d e:bX} (h:Sep H n (a::b::c::d::e::x::K) ids):Sep H n (x::a::b::c::d::e::K) ids:=Sep.front (K1:=[a,b,c,d,e]) h
theorem Sep.f6 {a b c d e f:bX} (h:Sep H n (a::b::c::d::e::f::x::K) ids):Sep H n (x::a::b::c::d::e::f::K) ids:=Sep.front (K1:=[a,b,c,d,e,f]) h
theorem Sep.dr (h:Sep H n (x::K) ids):Sep H n K ids:=Sep.right (K1:=[x]) h
theorem Sep.ap {α:Type} {l:List Sh} {f:α->List au} {v:au} {xs ys zs:List α} (hz:zs=xs++ys) (h:Sep H n ((.s l,v,.list true (xs.map f++ys.map f))::K) ids):Sep H n ((.s l,v,.list true (zs.map f))::K) ids:=by
 rw[hz,List.map_append];exact h
theorem Sep.bx {α:Type} [Inhabited α] {f:α->List au} {l:List Sh} {d k:Nat} {z:List au} {K:List bX} {ids:List Id} {xs:List α} (he:xs=List.replicate k default) (hs:Sep H n K ids) (hz:∀ H:ax,Row H l z (f default) []) :
  Sep (H.set (n,d) ⟨l.length,List.replicate k z⟩) (n+1) ((.s l,.arr (n,d) k 0 k,.list true (xs.map f))::K) ids:=by
 rw[he];exact Sep.addRep hs hz
theorem Sep.st {α:Type} {l:List Sh} {f:α->List au} {v:au} {xs zs:List α} {q:Nat} {y:α} (hz:zs=xs.set q y) (h:Sep H n ((.s l,v,.list true ((xs.map f).set q (f y)))::K) ids):Sep H n ((.s l,v,.list true (zs.map f))::K) ids:=by
 rw[hz,List.map_set];exact h
theorem Sep.oc {l:List Sh} {v e:au} (h:Sep H n ((.s l,v,e)::K) ids):aE v=some [v]/\Ab.aM v=true:=⟨h.cells,h.aM⟩
end
theorem bu:(∀ (k:IntKind) (a:Int),aM (.v (.int k a))=true)/\(∀ a:Bool,aM (.v (.bool a))=true)/\(∀ a:ByteArray,aM (.v (.string a))=true)/\aM (.v (.slice none 0 0))=true /\
  (∀ (fr:Bool) (l:List (List au)),aM (.list fr l)=true)/\(∀ (id:Id) (g o l:Nat),aM (.arr id g o l)=true)/\∀ (id:Id) (g o l:Nat),aM (.ptr id g o l)=true:=
 ⟨fun _ _=>rfl,fun _=>rfl,fun _=>rfl,rfl,fun _ _=>rfl,fun _ _ _ _=>rfl,fun _ _ _ _=>rfl⟩
theorem bT:(∀ (k:IntKind) (a:Int),aE (.v (.int k a))=some [.v (.int k a)])/\(∀ a:Bool,aE (.v (.bool a))=some [.v (.bool a)])/\(∀ a:ByteArray,aE (.v (.string a))=some [.v (.string a)])/\aE (.v (.slice none 0 0))=some [.v (.slice none 0 0)] /\
  (∀ l:List au,aE (.agg l)=some l)/\(∀ (fr:Bool) (l:List (List au)),aE (.list fr l)=some [.list fr l])/\(∀ (id:Id) (g o l:Nat),aE (.arr id g o l)=some [.arr id g o l])/\∀ (id:Id) (g o l:Nat),aE (.ptr id g o l)=some [.ptr id g o l]:=
 ⟨fun _ _=>rfl,fun _=>rfl,fun _=>rfl,rfl,fun _=>rfl,fun _ _=>rfl,fun _ _ _ _=>rfl,fun _ _ _ _=>rfl⟩
theorem aJ.ji {H:ax} {n:Nat} (t:Bool) (l:List az):aJ H n (.list t (l.map (az.cells t))) (.list false (l.map (az.cells false))):=aJ.aB t l
theorem aK {α:Sort _} {x:α} {p:α->Prop} (h:∀ v,v=x->p v):∃ v,v=x/\p v:=⟨x,rfl,h x rfl⟩
abbrev pA (i n:Nat):au:=.ptr (i,n) 1 0 0
abbrev bC (t:Bool) (b:I):List au:=[int b.roots,.list t (b.nodes.map (az.cells t)),.list t (b.sites.map av),int b.edges,.list t (b.outer.map bg),.list t (b.inner.map aQ.cells)]
abbrev mC (t:Bool) (m:Match):List au:=[.list t (m.nodes.map av),.list t (m.roots.map av)]
abbrev zB:List au:=[int 0,.v (.slice none 0 0),.v (.slice none 0 0),int 0,.v (.slice none 0 0),.v (.slice none 0 0)]
section
variable {H:ax} {n:Nat}
theorem cU (t:Bool) (l:List Int):aJ H n (.list t (l.map av)) (.list false (l.map av)):=aJ.encI t l
theorem BB (t:Bool) (l:List cP):aJ H n (.list t (l.map bg)) (.list false (l.map bg)):=aJ.encS t l
theorem Ee (t:Bool) (l:List aQ):aJ H n (.list t (l.map aQ.cells)) (.list false (l.map aQ.cells)):=aJ.aD t l
theorem pH (t:Bool) (l:List Control):aJ H n (.list t (l.map Control.cells)) (.list false (l.map Control.cells)):=aJ.bF t l
theorem cN (t:Bool) (b:I):aJ H n (.agg (bC t b)) (.agg (bC false b)):=aJ.cI t b
end
end Go.Ab
namespace Go.Ab.Vg
theorem aO.up {σ τ:Type} {body:σ->(σ->Prop)->Prop} {s:σ} (N:Nat) (idx:σ->Int) (mk:Nat->τ->σ) (hidx:∀ k t,idx (mk k t)=(k:Int)) (aq:Nat->τ->Prop) (t0:τ) (hs:s=mk 0 t0) (h0:aq 0 t0)
  (step:∀ k t (K:σ->Prop),k<=N->aq k t->(k<N->∀ t',aq (k+1) t'->K (mk (k+1) t'))->body (mk k t) K):aO body s:=by
 refine⟨fun s=>∃ k t,s=mk k t/\k<=N/\aq k t,fun s=>N - (idx s).toNat,⟨0,t0,hs,Nat.zero_le _,h0⟩,?_⟩;rintro s ⟨k,t,rfl,hk,hI⟩;refine step k t _ hk hI fun hlt t' hI'=>⟨⟨k+1,t',rfl,hlt,hI'⟩,?_⟩
 show N - (idx _).toNat<N - (idx _).toNat;rw[hidx,hidx];omega
theorem aO.pN {τ:Type} {body:Int × τ->(Int × τ->Prop)->Prop} (N:Nat) (aq:Nat->τ->Prop) (t0:τ) (h0:aq 0 t0)
  (step:∀ k t (K:Int × τ->Prop),k<=N->aq k t->(k<N->∀ t',aq (k+1) t'->K (((k:Int)+1),t'))->body ((k:Int),t) K):aO body (0,t0):=
 aO.up N (·.1) (fun k t=>((k:Int),t)) (fun _ _=>rfl) aq t0 rfl h0 fun k t K hk hI h=>step k t K hk hI fun hlt t' hI'=>by have:=h hlt t' hI';simpa using this
theorem aO.upR {τ:Type} {body:τ × Int->(τ × Int->Prop)->Prop} (N:Nat) (aq:Nat->τ->Prop) (t0:τ) (h0:aq 0 t0)
  (step:∀ k t (K:τ × Int->Prop),k<=N->aq k t->(k<N->∀ t',aq (k+1) t'->K (t',((k:Int)+1)))->body (t,(k:Int)) K):aO body (t0,0):=
 aO.up N (·.2) (fun k t=>(t,(k:Int))) (fun _ _=>rfl) aq t0 rfl h0 fun k t K hk hI h=>step k t K hk hI fun hlt t' hI'=>by have:=h hlt t' hI';simpa using this
theorem aO.xj {body:Int->(Int->Prop)->Prop} (N:Nat) (aq:Nat->Prop) (h0:aq 0)
  (step:∀ k (K:Int->Prop),k<=N->aq k->(k<N->aq (k+1)->K ((k:Int)+1))->body (k:Int) K):aO body 0:=
 aO.up (τ:=Unit) N id (fun k _=>(k:Int)) (fun _ _=>rfl) (fun k _=>aq k) () rfl h0 fun k _ K hk hI h=>step k K hk hI fun hlt hI'=>by have:=h hlt () hI';simpa using this
theorem aO.byM {σ:Type} {body:σ->(σ->Prop)->Prop} {s:σ} (aq:σ->Prop) (m:σ->Nat) (h0:aq s) (step:∀ s,aq s->body s (fun s'=>aq s'/\m s'<m s)):aO body s:=⟨aq,m,h0,step⟩
theorem bp {α:Type} [Inhabited α] {l:List α} {k:Nat} (h:k<l.length):at' l (k:Int)=l[k]:=by simp[at',h]
def idxs {α:Type} [Inhabited α] (l:List α) (p:α->Bool) (k:Nat):List Int:=((List.range k).filter fun i:Nat=>p (at' l (i:Int))).map fun i:Nat=>(i:Int)
section
variable {α:Type} [Inhabited α] (l:List α) (p:α->Bool)
theorem wM {k:Nat} (h:p (at' l (k:Int))=true):idxs l p (k+1)=idxs l p k++[(k:Int)]:=by simp[idxs,List.range_succ,h]
theorem AQ {k:Nat} (h:p (at' l (k:Int))=false):idxs l p (k+1)=idxs l p k:=by simp[idxs,List.range_succ,h]
theorem xA (k:Nat):(idxs l p k).length<=k:=by
 have:=List.length_filter_le (fun i:Nat=>p (at' l (i:Int))) (List.range k);simpa[idxs] using this
theorem nb {k:Nat} {x:Int}:x ∈ idxs l p k↔0<=x/\x<k/\p (at' l x)=true:=by
 simp only[idxs,List.mem_map,List.mem_filter,List.mem_range]
 constructor
 ·rintro⟨i,⟨h1,h2⟩,rfl⟩;exact⟨by omega,by omega,h2⟩
 ·rintro⟨h1,h2,h3⟩;exact⟨x.toNat,⟨by omega,by rwa [Int.toNat_of_nonneg h1]⟩,by omega⟩
end
end Go.Ab.Vg
namespace Go.Ab.Vg
def cmpL:List Int->List Int->Int
 | [],[]=>0
 | [],_::_ => -1
 | _::_,[]=>1
 | a::x,b::y=>if a<b then -1 else if b<a then 1 else cmpL x y
theorem eZ:∀ a:List Int,cmpL a a=0
 | []=>rfl
 | a::x=>by simp[cmpL,eZ x]
theorem cmpL_eq:∀ {a b:List Int},cmpL a b=0->a=b
 | [],[],_=>rfl
 | [],_::_,h=>by simp[cmpL] at h
 | _::_,[],h=>by simp[cmpL] at h
 | a::x,b::y,h=>by
  simp only[cmpL] at h
  split at h
  ·omega
  ·split at h
   ·omega
   ·rw[cmpL_eq h,show a=b by omega]
theorem eh:∀ a b:List Int,cmpL b a = - cmpL a b
 | [],[]=>rfl
 | [],_::_=>rfl
 | _::_,[]=>rfl
 | a::x,b::y=>by
  have:=eh x y;simp only[cmpL]
  repeat' split
  all_goals omega
theorem eK:∀ {a b c:List Int},cmpL a b<0->cmpL b c<0->cmpL a c<0
 | [],[],_,h,_=>by simp[cmpL] at h
 | [],_::_,[],_,h=>by simp[cmpL] at h
 | [],_::_,_::_,_,_=>by simp[cmpL]
 | _::_,[],_,h,_=>by simp[cmpL] at h
 | _::_,_::_,[],_,h=>by simp[cmpL] at h
 | a::x,b::y,c::z,h,k=>by
  have:=@eK x y z;simp only[cmpL] at h k ⊢
  repeat' split at h
  all_goals repeat' split at k
  all_goals repeat' split
  all_goals first | omega | (exact this h k)
theorem lP {a b c:List Int} (h:¬ cmpL b a<0) (k:cmpL b c<0):cmpL a c<0:=by
 rcases Int.lt_trichotomy (cmpL a b) 0 with h1 | h1 | h1
 ·exact eK h1 k
 ·rw[cmpL_eq h1];exact k
 ·exact absurd (by rw[eh a b];omega) h
theorem wi (p:List Int):∀ a b:List Int,cmpL (p++a) (p++b)=cmpL a b:=by
 induction p with
 | nil=>simp
 | cons x p ih=>intro a b;simp[cmpL,ih]
end Go.Ab.Vg
namespace Go.Ab.Vg
theorem qP:∀ {a b:List Int} (x y:List Int),cmpL a b<0->(∀ z,b=a++z->z=[])->cmpL (a++x) (b++y)<0
 | [],[],_,_,h,_=>by simp[cmpL] at h
 | [],c::y,_,_,_,hp=>by simpa using hp (c::y) rfl
 | _::_,[],_,_,h,_=>by simp[cmpL] at h
 | a::p,b::q,x,y,h,hp=>by
  simp only[cmpL,List.cons_append] at h ⊢
  split
  ·omega
  ·rename_i h1
   rw[if_neg h1] at h
   split
   ·rename_i h2;rw[if_pos h2] at h;omega
   ·rename_i h2
    rw[if_neg h2] at h;have e:a=b:=by omega
    subst e;exact qP x y h fun z hz=>hp z (by rw[hz];rfl)
abbrev P2:=List Int × List Int
def w5 (a b:P2):Prop:=cmpL a.1 b.1<0\/(a.1=b.1/\cmpL a.2 b.2<0)
theorem gF {a b c:P2} (h:w5 a b) (k:w5 b c):w5 a c:=by
 rcases h with h | ⟨h,h'⟩<;>rcases k with k | ⟨k,k'⟩
 ·exact .inl (eK h k)
 ·exact .inl (k ▸ h)
 ·exact .inl (h ▸ k)
 ·exact .inr ⟨h.trans k,eK h' k'⟩
theorem jx (a:P2):¬ w5 a a:=by
 rintro (h | ⟨_,h⟩)<;>rw[eZ] at h<;>omega
theorem Gu (a b:P2):w5 a b\/a=b\/w5 b a:=by
 rcases Int.lt_trichotomy (cmpL a.1 b.1) 0 with h | h | h
 ·exact .inl (.inl h)
 ·have e:=cmpL_eq h;rcases Int.lt_trichotomy (cmpL a.2 b.2) 0 with k | k | k
  ·exact .inl (.inr ⟨e,k⟩)
  ·exact .inr (.inl (Prod.ext e (cmpL_eq k)))
  ·exact .inr (.inr (.inr ⟨e.symm,by rw[eh a.2 b.2];omega⟩))
 ·exact .inr (.inr (.inl (by rw[eh a.1 b.1];omega)))
def w8 (l:List P2) (m:P2):Prop:=m ∈ l/\∀ x ∈ l,¬ w5 x m
theorem w8.uniq {l:List P2} {m m':P2} (h:w8 l m) (k:w8 l m'):m=m':=by
 rcases Gu m m' with h1 | h1 | h1
 ·exact absurd h1 (k.2 _ h.1)
 ·exact h1
 ·exact absurd h1 (h.2 _ k.1)
structure Cz where
 es:List Int
 pl:List Int
 num:Nat
section
variable (b:I)
def cp (pl:List Int) (p:Int):Int:=if p<0 then -1 - p else 4+at' pl p
def bL:List Int->List Int->List Int × List Int
 | es,[]=>([],es)
 | es,l::t=>if l >= b.edges then let r:=bL es t;((l - b.edges)::r.1,r.2) else if l ∈ es then let r:=bL es t;((16+((es.idxOf l:Nat):Int))::r.1,r.2) else let r:=bL (es++[l]) t;((16+((es.length:Nat):Int))::r.1,r.2)
def bt (s:Cz) (k:Int):List Int × List Int:=
 let x:=at' b.nodes k;let r:=bL b s.es x.links;(x.control::cp s.pl x.parent::r.1,r.2)
def bJ (s:Cz) (k:Int):Cz:=⟨(bt b s k).2,s.pl.set k.toNat s.num,s.num+1⟩
def iy (s:Cz):List Int × List Int:=let r:=bL b s.es (b.inner.map fun w=>w.link);(b.sites.map (cp s.pl)++r.1,r.2)
def dj (pl:List Int) (k:Int):Bool:=decide (at' pl k<0) && (decide ((at' b.nodes k).parent<0) || decide (0<=at' pl (at' b.nodes k).parent))
def dW (pl:List Int):List Int:=((List.range b.nodes.length).map fun i:Nat=>(i:Int)).filter (dj b pl)
def fp:Nat->Cz->List P2
 | 0,s=>[((iy b s).1,[])]
 | m+1,s=>(dW b s.pl).flatMap fun k=>(fp m (bJ b s k)).map fun q=>((bt b s k).1++q.1,k::q.2)
end
def Ch (f:Int->Nat):Nat->List Int->Prop
 | 0,l=>l=[]
 | m+1,l=>∃ x c r,l=(x::c)++r/\c.length=f x/\Ch f m r
theorem Ch.snoc {f:Int->Nat} {x:Int} {c:List Int} (hc:c.length=f x):∀ {m:Nat} {l:List Int},Ch f m l->Ch f (m+1) (l++(x::c))
 | 0,l,h=>by rw[show l=[] from h];exact⟨x,c,[],by simp,hc,rfl⟩
 | m+1,l,⟨y,d,r,h1,h2,h3⟩=>⟨y,d,r++(x::c),by rw[h1];simp,h2,Ch.snoc hc h3⟩
theorem Ch.apart {f:Int->Nat}:∀ {m:Nat} {a c:List Int},Ch f m a->Ch f m c->∀ z,c=a++z->z=[]
 | 0,a,c,h,k,z,e=>by rw[show a=[] from h,show c=[] from k] at e;simpa using e.symm
 | m+1,a,c,⟨x,u,r,h1,h2,h3⟩,⟨y,v,t,k1,k2,k3⟩,z,e=>by
  rw[h1,k1] at e;simp only[List.cons_append,List.append_assoc,List.cons.injEq] at e;obtain⟨rfl,e⟩:=e;have hl:v.length=u.length:=by rw[h2,k2]
  have:=List.append_inj e hl;exact Ch.apart h3 k3 z this.2
theorem Ch.lt {f:Int->Nat} {m:Nat} {a c:List Int} (x y:List Int) (h:Ch f m a) (k:Ch f m c) (hl:cmpL a c<0):cmpL (a++x) (c++y)<0:=qP x y hl (h.apart k)
section
variable {b:I}
theorem dJ:∀ (l es:List Int),(bL b es l).1.length=l.length
 | [],_=>rfl
 | x::t,es=>by
  simp only[bL]
  repeat' split
  all_goals simp[dJ t]
def nJ (b:I):Prop:=∀ x y:Int,0<=x/\x<b.nodes.length->0<=y/\y<b.nodes.length->(at' b.nodes x).control=(at' b.nodes y).control->(at' b.nodes x).links.length=(at' b.nodes y).links.length
noncomputable def wid (b:I) (c:Int):Nat:=open Classical in if h:∃ x:Int,(0<=x/\x<b.nodes.length)/\(at' b.nodes x).control=c then 1+(at' b.nodes h.choose).links.length else 0
theorem wid_at (he:nJ b) {x:Int} (hx:0<=x/\x<b.nodes.length):wid b (at' b.nodes x).control=1+(at' b.nodes x).links.length:=by
 have h:∃ y:Int,(0<=y/\y<b.nodes.length)/\(at' b.nodes y).control=(at' b.nodes x).control:=⟨x,hx,rfl⟩
 unfold wid;rw[dif_pos h];rw[he _ x h.choose_spec.1 hx h.choose_spec.2]
theorem cy {pl:List Int} {k:Int}:k ∈ dW b pl↔(0<=k/\k<b.nodes.length)/\dj b pl k=true:=by
 simp only[dW,List.mem_filter,List.mem_map,List.mem_range]
 constructor
 ·rintro⟨⟨i,hi,rfl⟩,h⟩;exact⟨⟨by omega,by omega⟩,h⟩
 ·rintro⟨⟨h1,h2⟩,h⟩;exact⟨⟨k.toNat,by omega,by omega⟩,h⟩
theorem oK (he:nJ b) (s:Cz) {k:Int} (hk:0<=k/\k<b.nodes.length):∃ x c,(bt b s k).1=x::c/\c.length=wid b x:=by
 refine⟨_,_,rfl,?_⟩;rw[wid_at he hk];simp[dJ];omega
theorem ea {m:Nat} {s:Cz} {p:P2}:p ∈ fp b (m+1) s↔∃ k ∈ dW b s.pl,∃ q ∈ fp b m (bJ b s k),p=((bt b s k).1++q.1,k::q.2):=by
 simp only[fp,List.mem_flatMap,List.mem_map,eq_comm]
structure Fit (b:I) (m:Nat) (s:Cz):Prop where
 len:s.pl.length=b.nodes.length
 num:s.num+m=b.nodes.length
 cnt:(s.pl.filter fun x=>decide (x<0)).length=m
 low:∀ v ∈ s.pl,-1<=v
theorem kr:∀ {l:List Int} {k:Nat} {v:Int} (hk:k<l.length),l[k]<0->0<=v->((l.set k v).filter fun x=>decide (x<0)).length+1=(l.filter fun x=>decide (x<0)).length
 | a::l,0,v,_,h,hv=>by
  simp only[List.getElem_cons_zero] at h;simp[List.set_cons_zero,h,show ¬ v<0 by omega]
 | a::l,k+1,v,hk,h,hv=>by
  simp only[List.getElem_cons_succ] at h;have:=kr (l:=l) (k:=k) (by simpa using hk) h hv;simp only[List.set_cons_succ,List.filter_cons]
  split<;>(try simp only[List.length_cons])<;>omega
theorem ic {l:List Int} {i k v:Int} (hi:0<=i) (hk:0<=k/\k<l.length):at' (l.set k.toNat v) i=if i=k then v else at' l i:=by
 unfold at'
 by_cases h:i=k
 ·subst h;rw[if_pos rfl];simp[List.getD_eq_getElem?_getD,show i.toNat<l.length by omega]
 ·rw[if_neg h];simp[List.getD_eq_getElem?_getD,show ¬ k.toNat=i.toNat by omega]
theorem Fit.step {m:Nat} {s:Cz} {k:Int} (h:Fit b (m+1) s) (hk:k ∈ dW b s.pl):Fit b m (bJ b s k):=by
 obtain⟨⟨k0,k1⟩,hf⟩:=cy.1 hk;have hl:=h.len;have hkl:k.toNat<s.pl.length:=by omega
 simp only[dj,Bool.and_eq_true,decide_eq_true_eq] at hf;have hf1:s.pl[k.toNat]<0:=by have:=hf.1;simpa[at',hkl] using this
 have:=kr (v:=(s.num:Int)) hkl hf1 (by omega);refine⟨by simp[bJ,h.len],by have:=h.num;simp only[bJ];omega,?_,?_⟩
 ·have:=h.cnt;simp only[bJ];omega
 ·intro v hv;rcases List.mem_or_eq_of_mem_set hv with hv | rfl
  ·exact h.low v hv
  ·omega
theorem Fit.low' {m:Nat} {s:Cz} (h:Fit b m s) (i:Int) (hi:0<=i/\i<b.nodes.length) : -1<=at' s.pl i:=by
 have hl:=h.len;have:i.toNat<s.pl.length:=by omega
 rw[at',show s.pl.getD i.toNat default=s.pl[i.toNat] by simp[this]];exact h.low _ (List.getElem_mem this)
def fh (b:I):Prop:=∀ x:Int,0<=x/\x<b.nodes.length->(at' b.nodes x).parent<x
theorem lk (hd:fh b) {m:Nat} {s:Cz} (h:Fit b (m+1) s):∃ k,k ∈ dW b s.pl:=by
 have hex:∃ i:Nat,i<s.pl.length/\at' s.pl (i:Int)<0:=by
  have hc:=h.cnt;cases hq:s.pl.filter fun x=>decide (x<0) with
  | nil=>rw[hq] at hc;simp at hc
  | cons x t=>
   have hx:x ∈ s.pl.filter fun x=>decide (x<0):=by rw[hq];simp
   obtain⟨h1,h2⟩:=List.mem_filter.1 hx;obtain⟨i,hi,rfl⟩:=List.getElem_of_mem h1;exact⟨i,hi,by simpa[at',hi] using h2⟩
 obtain⟨i,⟨hi1,hi2⟩,hmin⟩:∃ i:Nat,(i<s.pl.length/\at' s.pl (i:Int)<0)/\∀ j:Nat,j<i->¬ (j<s.pl.length/\at' s.pl (j:Int)<0):=by
  obtain⟨i,hi⟩:=hex
  induction i using Nat.strongRecOn with
  | _ i ih=>
   by_cases hj:∃ j:Nat,j<i/\(j<s.pl.length/\at' s.pl (j:Int)<0)
   ·obtain⟨j,h1,h2⟩:=hj;exact ih j h1 h2
   ·exact⟨i,hi,fun j h1 h2=>hj ⟨j,h1,h2⟩⟩
 have hl:=h.len;refine⟨i,cy.2 ⟨⟨by omega,by omega⟩,?_⟩⟩;simp only[dj,Bool.and_eq_true,Bool.or_eq_true,decide_eq_true_eq];refine⟨hi2,?_⟩;have hp:=hd i ⟨by omega,by omega⟩;rcases Int.lt_or_le (at' b.nodes (i:Int)).parent 0 with h0 | h0
 ·exact .inl h0
 ·right
  have:=hmin (at' b.nodes (i:Int)).parent.toNat (by omega);rw[show (((at' b.nodes (i:Int)).parent.toNat:Nat):Int)=(at' b.nodes (i:Int)).parent by omega] at this;have h1:(at' b.nodes (i:Int)).parent.toNat<s.pl.length:=by omega
  simp only[h1,true_and] at this;omega
theorem qF (hd:fh b):∀ {m:Nat} {s:Cz},Fit b m s->∃ p,p ∈ fp b m s
 | 0,s,_=>⟨_,List.mem_singleton.2 rfl⟩
 | m+1,s,h=>by
  obtain⟨k,hk⟩:=lk hd h;obtain⟨q,hq⟩:=qF hd (h.step hk);exact⟨_,ea.2 ⟨k,hk,q,hq,rfl⟩⟩
end
section
variable {b:I}
structure Twin (b:I) (x y:Int):Prop where
 ctl:(at' b.nodes x).control=(at' b.nodes y).control
 par:(at' b.nodes x).parent=(at' b.nodes y).parent
 lnk:(at' b.nodes x).links=(at' b.nodes y).links
 kx:∀ i:Int,0<=i/\i<b.nodes.length->(at' b.nodes i).parent ≠ x
 ky:∀ i:Int,0<=i/\i<b.nodes.length->(at' b.nodes i).parent ≠ y
 sx:∀ p ∈ b.sites,p ≠ x
 sy:∀ p ∈ b.sites,p ≠ y
def swp (x y i:Int):Int:=if i=x then y else if i=y then x else i
theorem pZ {n x y i:Int} (hx:0<=x/\x<n) (hy:0<=y/\y<n) (hi:0<=i/\i<n):0<=swp x y i/\swp x y i<n:=by
 unfold swp;repeat' split
 all_goals assumption
theorem Ar (x y i:Int):swp x y (swp x y i)=i:=by
 unfold swp;repeat' split
 all_goals omega
structure C0 (b:I) (x y:Int) (s t:Cz):Prop where
 es:t.es=s.es
 num:t.num=s.num
 l1:s.pl.length=b.nodes.length
 l2:t.pl.length=b.nodes.length
 pl:∀ i:Int,0<=i/\i<b.nodes.length->at' t.pl (swp x y i)=at' s.pl i
theorem FX {x y:Int} (h:Twin b x y) (i:Int):(at' b.nodes (swp x y i)).control=(at' b.nodes i).control:=by
 unfold swp;repeat' split
 ·subst_vars;exact h.ctl.symm
 ·subst_vars;exact h.ctl
 ·rfl
theorem Ap {x y:Int} (h:Twin b x y) (i:Int):(at' b.nodes (swp x y i)).parent=(at' b.nodes i).parent:=by
 unfold swp;repeat' split
 ·subst_vars;exact h.par.symm
 ·subst_vars;exact h.par
 ·rfl
theorem GK {x y:Int} (h:Twin b x y) (i:Int):(at' b.nodes (swp x y i)).links=(at' b.nodes i).links:=by
 unfold swp;repeat' split
 ·subst_vars;exact h.lnk.symm
 ·subst_vars;exact h.lnk
 ·rfl
variable {x y:Int} {s t:Cz}
theorem C0.place (hw:C0 b x y s t) {p:Int} (hx:p ≠ x) (hy:p ≠ y) (hp:p<b.nodes.length):cp t.pl p=cp s.pl p:=by
 unfold cp
 split
 ·rfl
 ·have:=hw.pl p ⟨by omega,hp⟩;rw[show swp x y p=p by unfold swp;rw[if_neg hx,if_neg hy]] at this;rw[this]
theorem C0.chunk (hw:C0 b x y s t) (h:Twin b x y) (hd:fh b) {k:Int} (hk:0<=k/\k<b.nodes.length):bt b t (swp x y k)=bt b s k:=by
 have hp:=hd k hk;simp only[bt,FX h,Ap h,GK h,hw.es,hw.place (h.kx k hk) (h.ky k hk) (by omega)]
theorem C0.free (hw:C0 b x y s t) (h:Twin b x y) (hd:fh b) (hx:0<=x/\x<b.nodes.length) (hy:0<=y/\y<b.nodes.length) {k:Int} (hk:k ∈ dW b s.pl):swp x y k ∈ dW b t.pl:=by
 obtain⟨hr,hf⟩:=cy.1 hk;refine cy.2 ⟨pZ hx hy hr,?_⟩;simp only[dj,Bool.and_eq_true,Bool.or_eq_true,decide_eq_true_eq] at hf ⊢;rw[hw.pl k hr,Ap h];refine⟨hf.1,?_⟩;have hp:=hd k hr;rcases Int.lt_or_le (at' b.nodes k).parent 0 with hn | hn
 ·exact .inl hn
 ·right
  have:=hw.pl _ ⟨hn,by omega⟩;rw[show swp x y (at' b.nodes k).parent=(at' b.nodes k).parent by unfold swp;rw[if_neg (h.kx k hr),if_neg (h.ky k hr)]] at this;rw[this];rcases hf.2 with h0 | h0
  ·omega
  ·exact h0
theorem C0.step (hw:C0 b x y s t) (h:Twin b x y) (hd:fh b) (hx:0<=x/\x<b.nodes.length) (hy:0<=y/\y<b.nodes.length) {k:Int} (hk:0<=k/\k<b.nodes.length):C0 b x y (bJ b s k) (bJ b t (swp x y k)):=by
 have hr:=pZ hx hy hk;refine⟨by simp only[bJ,hw.chunk h hd hk],by simp[bJ,hw.num],by simp[bJ,hw.l1],by simp[bJ,hw.l2],fun i hi=>?_⟩;simp only[bJ];rw[ic (pZ hx hy hi).1 (by rw[hw.l2];exact hr),ic hi.1 (by rw[hw.l1];exact hk),hw.num]
 by_cases e:i=k
 ·subst e;simp
 ·rw[if_neg e,if_neg (fun e2=>e (by rw[<- Ar x y i,e2,Ar]))];exact hw.pl i hi
theorem C0.tail (hw:C0 b x y s t) (h:Twin b x y) (hs:∀ p ∈ b.sites,p<b.nodes.length):iy b t=iy b s:=by
 simp only[iy,hw.es];rw[List.map_congr_left fun p hp=>hw.place (h.sx p hp) (h.sy p hp) (hs p hp)]
theorem qo (h:Twin b x y) (hd:fh b) (hs:∀ p ∈ b.sites,p<b.nodes.length) (hx:0<=x/\x<b.nodes.length) (hy:0<=y/\y<b.nodes.length):∀ {m:Nat} {s t:Cz},C0 b x y s t->∀ q ∈ fp b m s,∃ q' ∈ fp b m t,q'.1=q.1
 | 0,s,t,hw,q,hq=>by
  simp only[fp,List.mem_singleton] at hq;subst hq;exact⟨_,List.mem_singleton.2 rfl,by simp only[hw.tail h hs]⟩
 | m+1,s,t,hw,q,hq=>by
  obtain⟨k,hk,q1,hq1,rfl⟩:=ea.1 hq;have hr:=(cy.1 hk).1;obtain⟨q2,hq2,he⟩:=qo h hd hs hx hy (hw.step h hd hx hy hr) q1 hq1;exact⟨_,ea.2 ⟨_,hw.free h hd hx hy hk,q2,hq2,rfl⟩,by simp only[hw.chunk h hd hr,he]⟩
theorem xH (h:Twin b x y) (hd:fh b) (hs:∀ p ∈ b.sites,p<b.nodes.length) {m:Nat} {s:Cz} (hl:s.pl.length=b.nodes.length) (hlow:∀ i:Int,0<=i/\i<b.nodes.length -> -1<=at' s.pl i) (hx:x ∈ dW b s.pl) (hy:y ∈ dW b s.pl) (hxy:x<y) {q:P2} (hq:q ∈ fp b m (bJ b s y)) :
  ∃ q' ∈ fp b m (bJ b s x),w5 ((bt b s x).1++q'.1,x::q'.2) ((bt b s y).1++q.1,y::q.2):=by
 obtain⟨rx,fx⟩:=cy.1 hx;obtain⟨ry,fy⟩:=cy.1 hy;have hc:bt b s x=bt b s y:=by simp only[bt,h.ctl,h.par,h.lnk]
 have hw:C0 b x y (bJ b s y) (bJ b s x):=by
  refine⟨by simp only[bJ,hc],rfl,by simp[bJ,hl],by simp[bJ,hl],fun i hi=>?_⟩;simp only[bJ];rw[ic (pZ rx ry hi).1 (by omega),ic hi.1 (by omega)];simp only[dj,Bool.and_eq_true,decide_eq_true_eq] at fx fy;have lx:=hlow x rx;have ly:=hlow y ry;unfold swp
  by_cases e1:i=x
  ·subst e1;rw[if_pos rfl,if_neg (by omega),if_neg (by omega)];omega
  ·by_cases e2:i=y
   ·subst e2;rw[if_neg e1,if_pos rfl,if_pos rfl,if_pos rfl]
   ·rw[if_neg e1,if_neg e2,if_neg e1,if_neg e2]
 obtain⟨q',hq',he⟩:=qo h hd hs rx ry hw q hq;exact⟨q',hq',.inr ⟨by simp only[hc,he],by simp[cmpL,hxy]⟩⟩
end
section
variable {b:I}
def thin (tw:Int->Int->Bool):List Int->List Int->List Int
 | out,[]=>out
 | out,i::l=>thin tw (if out.any (fun x=>tw x i) then out else out++[i]) l
theorem qe (tw:Int->Int->Bool):∀ {l out:List Int} {x:Int},x ∈ thin tw out l->x ∈ out\/x ∈ l
 | [],_,_,h=>.inl h
 | i::l,out,x,h=>by
  rcases qe tw (l:=l) h with h | h
  ·split at h
   ·exact .inl h
   ·rcases List.mem_append.1 h with h | h
    ·exact .inl h
    ·exact .inr (by simp[List.mem_singleton.1 h])
  ·exact .inr (by simp[h])
theorem oM (tw:Int->Int->Bool):∀ {l out:List Int} {x:Int},x ∈ out->x ∈ thin tw out l
 | [],_,_,h=>h
 | i::l,out,x,h=>oM tw (l:=l) (by split<;>simp[h])
theorem qH (tw:Int->Int->Bool):∀ {l out:List Int},(∀ x ∈ out,∀ y ∈ l,x<y)->l.Pairwise (·<·)->∀ y ∈ l,y ∈ thin tw out l\/∃ x ∈ thin tw out l,tw x y=true/\x<y
 | i::l,out,ho,hp,y,hy=>by
  have hp2:=(List.pairwise_cons.1 hp)
  rcases List.mem_cons.1 hy with rfl | hy
  ·simp only[thin]
   by_cases h:out.any (fun x=>tw x y)=true
   ·rw[if_pos h];obtain⟨x,hx,ht⟩:=List.any_eq_true.1 h;exact .inr ⟨x,oM tw hx,ht,ho x hx y (by simp)⟩
   ·rw[if_neg h];exact .inl (oM tw (by simp))
  ·exact qH tw (l:=l) (fun x hx z hz=>by
    split at hx
    ·exact ho x hx z (by simp[hz])
    ·rcases List.mem_append.1 hx with hx | hx
     ·exact ho x hx z (by simp[hz])
     ·rw[List.mem_singleton.1 hx];exact hp2.1 z hz) hp2.2 y hy
theorem wW (tw:Int->Int->Bool):∀ {l out:List Int},(∀ x ∈ out,∀ y ∈ l,x<y)->l.Pairwise (·<·)->out.Pairwise (·<·)->(thin tw out l).Pairwise (·<·)
 | [],_,_,_,h=>h
 | i::l,out,ho,hp,h=>by
  have hp2:=(List.pairwise_cons.1 hp)
  refine wW tw (l:=l) (fun x hx z hz=>?_) hp2.2 ?_
  ·split at hx
   ·exact ho x hx z (by simp[hz])
   ·rcases List.mem_append.1 hx with hx | hx
    ·exact ho x hx z (by simp[hz])
    ·rw[List.mem_singleton.1 hx];exact hp2.1 z hz
  ·split
   ·exact h
   ·exact List.pairwise_append.2 ⟨h,by simp,fun x hx z hz=>by rw[List.mem_singleton.1 hz];exact ho x hx i (by simp)⟩
theorem oR (pl:List Int):(dW b pl).Pairwise (·<·):=by
 refine List.Pairwise.filter _ (List.pairwise_map.2 ?_);exact List.pairwise_lt_range.imp fun h=>by omega
def eY (b:I) (x y:Int):Bool:=
 decide ((at' b.nodes x).control=(at' b.nodes y).control) && decide ((at' b.nodes x).parent=(at' b.nodes y).parent) && decide ((at' b.nodes x).links=(at' b.nodes y).links) &&
  b.nodes.all (fun n=>decide (n.parent ≠ x) && decide (n.parent ≠ y)) && b.sites.all (fun p=>decide (p ≠ x) && decide (p ≠ y))
theorem A0 {x y:Int} (h:eY b x y=true):Twin b x y:=by
 simp only[eY,Bool.and_eq_true,decide_eq_true_eq,List.all_eq_true] at h;obtain⟨⟨⟨⟨h1,h2⟩,h3⟩,h4⟩,h5⟩:=h;have hm:∀ i:Int,0<=i/\i<b.nodes.length->at' b.nodes i ∈ b.nodes:=fun i hi=>by
  have:i.toNat<b.nodes.length:=by omega
  rw[at',show b.nodes.getD i.toNat default=b.nodes[i.toNat] by simp[this]];exact List.getElem_mem this
 exact⟨h1,h2,h3,fun i hi=>(h4 _ (hm i hi)).1,fun i hi=>(h4 _ (hm i hi)).2,fun p hp=>(h5 p hp).1,fun p hp=>(h5 p hp).2⟩
def dT (b:I) (pl:List Int):List Int:=thin (eY b) [] (dW b pl)
def iA (b:I) (s:Cz):List Int->List Int
 | []=>[]
 | k::l=>l.foldl (fun a k=>if cmpL (bt b s k).1 a<0 then (bt b s k).1 else a) (bt b s k).1
theorem pz (f:Int->List Int):∀ (l:List Int) (a:List Int),(l.foldl (fun a k=>if cmpL (f k) a<0 then f k else a) a=a\/∃ k ∈ l,l.foldl (fun a k=>if cmpL (f k) a<0 then f k else a) a=f k)/\¬ cmpL a (l.foldl (fun a k=>if cmpL (f k) a<0 then f k else a) a)<0/\∀ k ∈ l,¬ cmpL (f k) (l.foldl (fun a k=>if cmpL (f k) a<0 then f k else a) a)<0
 | [],a=>⟨.inl rfl,by simp[eZ],by simp⟩
 | k::l,a=>by
  obtain⟨h1,h2,h3⟩:=pz f l (if cmpL (f k) a<0 then f k else a);simp only[List.foldl_cons];generalize l.foldl (fun a k=>if cmpL (f k) a<0 then f k else a) (if cmpL (f k) a<0 then f k else a)=r at h1 h2 h3
  by_cases h:cmpL (f k) a<0
  ·rw[if_pos h] at h1 h2;refine⟨.inr ?_,fun h4=>h2 (eK h h4),fun j hj=>?_⟩
   ·rcases h1 with h1 | ⟨j,hj,h1⟩
    ·exact⟨k,by simp,h1⟩
    ·exact⟨j,by simp[hj],h1⟩
   ·rcases List.mem_cons.1 hj with rfl | hj
    ·exact h2
    ·exact h3 j hj
  ·rw[if_neg h] at h1 h2;refine⟨?_,h2,fun j hj=>?_⟩
   ·rcases h1 with h1 | ⟨j,hj,h1⟩
    ·exact .inl h1
    ·exact .inr ⟨j,by simp[hj],h1⟩
   ·rcases List.mem_cons.1 hj with rfl | hj
    ·exact fun h4=>h2 (lP h h4)
    ·exact h3 j hj
theorem Cm (s:Cz) {l:List Int} (hl:l ≠ []):(∃ k ∈ l,iA b s l=(bt b s k).1)/\∀ k ∈ l,¬ cmpL (bt b s k).1 (iA b s l)<0:=by
 cases l with
 | nil=>exact absurd rfl hl
 | cons k l=>
  obtain⟨h1,h2,h3⟩:=pz (fun k=>(bt b s k).1) l (bt b s k).1;refine⟨?_,fun j hj=>?_⟩
  ·rcases h1 with h1 | ⟨j,hj,h1⟩
   ·exact⟨k,by simp,h1⟩
   ·exact⟨j,by simp[hj],h1⟩
  ·rcases List.mem_cons.1 hj with rfl | hj
   ·exact h2
   ·exact h3 j hj
abbrev AccB:=List Int × List Int × Bool
def iI (f:Int->Bool) (g:Int->P2) (a:AccB) (k:Int):AccB:=if f k then (if a.2.2=false\/cmpL (g k).1 a.1<0 then ((g k).1,k::(g k).2,true) else a) else a
theorem rG (f:Int->Bool) (g:Int->P2):∀ (l pre:List Int) (a:AccB),(pre++l).Pairwise (·<·)->(a.2.2=true/\(∃ k ∈ pre,f k=true/\a.1=(g k).1/\a.2.1=k::(g k).2/\∀ j ∈ pre,f j=true->¬ w5 ((g j).1,j::(g j).2) (a.1,a.2.1))\/a.2.2=false/\∀ j ∈ pre,f j=false) ->
  (∃ k ∈ pre++l,f k=true)->∃ k ∈ pre++l,f k=true/\(l.foldl (iI f g) a).1=(g k).1/\(l.foldl (iI f g) a).2.1=k::(g k).2/\∀ j ∈ pre++l,f j=true->¬ w5 ((g j).1,j::(g j).2) ((l.foldl (iI f g) a).1,(l.foldl (iI f g) a).2.1)
 | [],pre,a,hp,h,he=>by
  simp only[List.append_nil] at he ⊢;rcases h with ⟨_,h⟩ | ⟨_,h⟩
  ·exact h
  ·obtain⟨k,hk,hf⟩:=he;rw[h k hk] at hf;cases hf
 | i::l,pre,a,hp,h,he=>by
  have:=rG f g l (pre++[i]) (iI f g a i) (by simpa using hp) ?_ (by simpa using he)
  ·simpa using this
  ·unfold iI
   by_cases hi:f i=true
   ·rw[if_pos hi]
    by_cases hc:a.2.2=false\/cmpL (g i).1 a.1<0
    ·rw[if_pos hc];refine .inl ⟨rfl,i,by simp,hi,rfl,rfl,fun j hj hfj=>?_⟩;rcases List.mem_append.1 hj with hj | hj
     ·rcases h with ⟨h1,k,hk,hf,e1,e2,h2⟩ | ⟨h1,h2⟩
      ·rcases hc with hc | hc
       ·rw[h1] at hc;cases hc
       ·intro hlt;refine h2 j hj hfj (gF hlt (.inl hc))
      ·rw[h2 j hj] at hfj;cases hfj
     ·rw[List.mem_singleton.1 hj];exact jx _
    ·rw[if_neg hc];rcases h with ⟨h1,k,hk,hf,e1,e2,h2⟩ | ⟨h1,h2⟩
     ·refine .inl ⟨h1,k,by simp[hk],hf,e1,e2,fun j hj hfj=>?_⟩;rcases List.mem_append.1 hj with hj | hj
      ·exact h2 j hj hfj
      ·rw[List.mem_singleton.1 hj];have hki:k<i:=(List.pairwise_append.1 hp).2.2 k hk i (by simp);rintro (hlt | ⟨_,hlt⟩)
       ·exact hc (.inr hlt)
       ·simp only[e2] at hlt;rw[cmpL,if_neg (by omega),if_pos hki] at hlt;omega
     ·exact absurd (.inl h1) hc
   ·rw[if_neg hi];rcases h with ⟨h1,k,hk,hf,e1,e2,h2⟩ | ⟨h1,h2⟩
    ·refine .inl ⟨h1,k,by simp[hk],hf,e1,e2,fun j hj hfj=>?_⟩;rcases List.mem_append.1 hj with hj | hj
     ·exact h2 j hj hfj
     ·rw[List.mem_singleton.1 hj] at hfj;exact absurd hfj hi
    ·refine .inr ⟨h1,fun j hj=>?_⟩;rcases List.mem_append.1 hj with hj | hj
     ·exact h2 j hj
     ·rw[List.mem_singleton.1 hj];simpa using hi
def dF (b:I):Nat->Cz->P2
 | 0,s=>((iy b s).1,[])
 | m+1,s=>let r:=(dT b s.pl).foldl (iI (fun k=>decide ((bt b s k).1=iA b s (dT b s.pl))) fun k=>dF b m (bJ b s k)) ([],[],false)
  (iA b s (dT b s.pl)++r.1,r.2.1)
theorem lp (he:nJ b) (hd:fh b) (hs:∀ p ∈ b.sites,p<b.nodes.length):∀ {m:Nat} {s:Cz},Fit b m s->w8 (fp b m s) (dF b m s)
 | 0,s,_=>⟨List.mem_singleton.2 rfl,fun x hx=>by rw[List.mem_singleton.1 hx];exact jx _⟩
 | m+1,s,h=>by
  have hin:∀ k ∈ dT b s.pl,k ∈ dW b s.pl:=fun k hk=>(qe _ hk).resolve_left (by simp)
  have hhas:=qH (eY b) (l:=dW b s.pl) (out:=[]) (by simp) (oR s.pl);have hne:dT b s.pl ≠ []:=by
   obtain⟨k,hk⟩:=lk hd h;rcases hhas k hk with h1 | ⟨x,h1,_⟩<;>intro e<;>rw[dT] at e<;>rw[e] at h1<;>cases h1
  obtain⟨⟨k0,hk0,e0⟩,hle⟩:=Cm (b:=b) s hne;have hasc:(dT b s.pl).Pairwise (·<·):=wW _ (by simp) (oR s.pl) (by simp);obtain⟨k,hk,hf,e1,e2,hmin⟩:=rG (fun k=>decide ((bt b s k).1=iA b s (dT b s.pl))) (fun k=>dF b m (bJ b s k)) (dT b s.pl) [] ([],[],false) (by simpa using hasc) (.inr ⟨rfl,by simp⟩) ⟨k0,by simpa using hk0,by simp[e0]⟩;simp only[List.nil_append] at hk hmin;simp only[decide_eq_true_eq] at hf hmin;have eb:dF b (m+1) s=((bt b s k).1++(dF b m (bJ b s k)).1,k::(dF b m (bJ b s k)).2):=by
   rw[dF];simp only[e1,e2,hf]
  have ih:=lp he hd hs (h.step (hin k hk));have hT:∀ j ∈ dT b s.pl,∀ q ∈ fp b m (bJ b s j),¬ w5 ((bt b s j).1++q.1,j::q.2) (dF b (m+1) s):=by
   intro j hj q hq hlt;rw[eb] at hlt
   by_cases hc:(bt b s j).1=iA b s (dT b s.pl)
   ·have ihj:=(lp he hd hs (h.step (hin j hj))).2 q hq;have hm:=hmin j hj hc;rw[e1,e2] at hm;rw[hc,hf] at hlt;rcases hlt with hlt | ⟨hlt,hlt2⟩
    ·rw[wi] at hlt;exact hm (.inl (lP (fun h'=>ihj (.inl h')) hlt))
    ·simp only[List.append_cancel_left_eq] at hlt;have h3:¬ cmpL q.1 (dF b m (bJ b s j)).1<0:=fun h'=>ihj (.inl h')
     rw[hlt] at h3;rcases Int.lt_trichotomy (cmpL (dF b m (bJ b s j)).1 (dF b m (bJ b s k)).1) 0 with h4 | h4 | h4
     ·exact hm (.inl h4)
     ·have h5:=cmpL_eq h4;rcases Int.lt_trichotomy j k with h6 | h6 | h6
      ·exact hm (.inr ⟨h5,by simp[cmpL,h6]⟩)
      ·subst h6;simp only[cmpL,Int.lt_irrefl,if_false] at hlt2;exact ihj (.inr ⟨hlt,hlt2⟩)
      ·simp only[cmpL] at hlt2;rw[if_neg (by omega),if_pos h6] at hlt2;omega
     ·exact h3 (by rw[eh (dF b m (bJ b s j)).1];omega)
   ·have h1:cmpL (iA b s (dT b s.pl)) (bt b s j).1<0:=by
     have:=hle j hj;rcases Int.lt_trichotomy (cmpL (iA b s (dT b s.pl)) (bt b s j).1) 0 with h4 | h4 | h4
     ·exact h4
     ·exact absurd (cmpL_eq h4).symm hc
     ·exact absurd (by rw[eh (iA b s (dT b s.pl))];omega) this
    obtain⟨x1,c1,p1,l1⟩:=oK he s (cy.1 (hin k hk)).1;obtain⟨x2,c2,p2,l2⟩:=oK he s (cy.1 (hin j hj)).1;have hch1:Ch (wid b) 1 (bt b s k).1:=⟨x1,c1,[],by simp[p1],l1,rfl⟩
    have hch2:Ch (wid b) 1 (bt b s j).1:=⟨x2,c2,[],by simp[p2],l2,rfl⟩
    rw[<- hf] at h1;have:=Ch.lt (dF b m (bJ b s k)).1 q.1 hch1 hch2 h1;exact jx _ (gF hlt (.inl this))
  refine⟨eb ▸ ea.2 ⟨k,hin k hk,_,ih.1,rfl⟩,fun p hp hlt=>?_⟩;obtain⟨j,hj,q,hq,rfl⟩:=ea.1 hp;rcases hhas j hj with h1 | ⟨x,h1,htw,hxy⟩
  ·exact hT j h1 q hq hlt
  ·obtain⟨q',hq',hlt'⟩:=xH (A0 htw) hd hs h.len h.low' (hin x h1) hj hxy hq;exact hT x h1 q' hq' (gF hlt' hlt)
end
structure fZ where
 order:List Int
 s:Cz
 code:List Int
section
variable (b:I)
def fL (a:fZ):List fZ:=(dW b a.s.pl).map fun k=>⟨a.order++[k],bJ b a.s k,a.code++(bt b a.s k).1⟩
def mi (out:List fZ) (x:fZ):List fZ:=
 match out with
 | []=>[x]
 | w::t=>if cmpL x.code w.code<0 then [x] else if cmpL x.code w.code=0 then (w::t)++[x] else w::t
def fw (l:List fZ):List fZ:=l.foldl mi []
def cX (a:fZ):fZ:=⟨a.order,⟨(iy b a.s).2,a.s.pl,a.s.num⟩,a.code++(iy b a.s).1⟩
def gC:Nat->List fZ->List fZ
 | 0,l=>l
 | m+1,l=>gC m (fw (l.flatMap (fL b)))
def c5 (l:List fZ) (d:fZ):fZ:=l.foldl (fun best x=>if cmpL x.order best.order<0 then x else best) d
def jj:Cz:=⟨[],List.replicate b.nodes.length (-1),0⟩
end
section
variable {b:I}
theorem kf:∀ (l pre out:List fZ),(∀ x,x ∈ out↔x ∈ pre/\∀ y ∈ pre,¬ cmpL y.code x.code<0)->(pre ≠ []->out ≠ []) ->
  (∀ x,x ∈ l.foldl mi out↔x ∈ pre++l/\∀ y ∈ pre++l,¬ cmpL y.code x.code<0) /\
  (pre++l ≠ []->l.foldl mi out ≠ [])
 | [],pre,out,h,hn=>by
  simp only[List.append_nil,List.foldl_nil];exact⟨h,hn⟩
 | z::l,pre,out,h,hn=>by
  have:=kf l (pre++[z]) (mi out z) ?_ ?_
  ·simpa only [List.append_assoc,List.singleton_append,List.foldl_cons] using this
  ·intro x;cases out with
   | nil=>
    have hp:pre=[]:=by
     rcases List.eq_nil_or_concat pre with hp | ⟨_,_,hp⟩
     ·exact hp
     ·exact absurd rfl (hn (by rw[hp];simp))
    subst hp;simp only[mi,List.nil_append,List.mem_singleton,forall_eq];exact⟨fun e=>⟨e,by rw[e,eZ];omega⟩,fun e=>e.1⟩
   | cons w t=>
    obtain⟨hw1,hw2⟩:=(h w).1 (by simp);have hsame:∀ v ∈ pre,(∀ y ∈ pre,¬ cmpL y.code v.code<0)->v.code=w.code:=fun v hv h1=>by
     have a1:=h1 w hw1;have a2:=hw2 v hv;have:=eh v.code w.code;exact cmpL_eq (by omega)
    simp only[mi]
    by_cases h1:cmpL z.code w.code<0
    ·rw[if_pos h1];simp only[List.mem_singleton,List.mem_append]
     constructor
     ·rintro rfl;refine⟨.inr rfl,fun y hy=>?_⟩;rcases hy with hy | rfl
      ·intro h2;exact hw2 y hy (eK h2 h1)
      ·rw[eZ];omega
     ·rintro⟨hx | rfl,h2⟩
      ·have e:=hsame x hx fun y hy=>h2 y (.inl hy)
       exact absurd (e ▸ h1) (h2 z (.inr rfl))
      ·rfl
    ·rw[if_neg h1]
     by_cases h2:cmpL z.code w.code=0
     ·rw[if_pos h2];have e2:=cmpL_eq h2;rw[List.mem_append,List.mem_singleton,h x];simp only[List.mem_append,List.mem_singleton]
      constructor
      ·rintro (⟨hx,h3⟩ | rfl)
       ·refine⟨.inl hx,fun y hy=>?_⟩;rcases hy with hy | rfl
        ·exact h3 y hy
        ·rw[e2,<- hsame x hx h3,eZ];omega
       ·refine⟨.inr rfl,fun y hy=>?_⟩;rcases hy with hy | rfl
        ·rw[e2];exact hw2 y hy
        ·rw[eZ];omega
      ·rintro⟨hx | rfl,h3⟩
       ·exact .inl ⟨hx,fun y hy=>h3 y (.inl hy)⟩
       ·exact .inr rfl
     ·rw[if_neg h2,h x];simp only[List.mem_append,List.mem_singleton];have h4:cmpL w.code z.code<0:=by rw[eh z.code];omega
      constructor
      ·rintro⟨hx,h3⟩;refine⟨.inl hx,fun y hy=>?_⟩;rcases hy with hy | rfl
       ·exact h3 y hy
       ·rw[hsame x hx h3];exact h1
      ·rintro⟨hx | rfl,h3⟩
       ·exact⟨hx,fun y hy=>h3 y (.inl hy)⟩
       ·exact absurd h4 (h3 w (.inl hw1))
  ·intro _;unfold mi
   repeat' split
   all_goals simp
theorem dq {l:List fZ} {x:fZ}:x ∈ fw l↔x ∈ l/\∀ y ∈ l,¬ cmpL y.code x.code<0:=(kf l [] [] (by simp) (by simp)).1 x
theorem kS {l:List fZ} (h:l ≠ []):fw l ≠ []:=(kf l [] [] (by simp) (by simp)).2 h
theorem xJ:Fit b b.nodes.length (jj b):=by
 refine⟨by simp[jj],by simp[jj],?_,fun v hv=>?_⟩
 ·have:(List.replicate b.nodes.length (-1:Int)).filter (fun x=>decide (x<0))=List.replicate b.nodes.length (-1):=List.filter_eq_self.2 fun x hx=>by rw[(List.mem_replicate.1 hx).2];rfl
  simp only[jj];rw[this];simp
 ·simp only[jj] at hv;rw[(List.mem_replicate.1 hv).2];omega
structure Lay (b:I) (m:Nat) (l:List fZ):Prop where
 fit:∀ a ∈ l,Fit b m a.s
 run:∀ a ∈ l,a.s=a.order.foldl (bJ b) (jj b)
 nd:∀ a ∈ l,a.order.length+m=b.nodes.length
 ch:∀ a ∈ l,Ch (wid b) a.order.length a.code
 sound:∀ a ∈ l,∀ q ∈ fp b m a.s,(a.code++q.1,a.order++q.2) ∈ fp b b.nodes.length (jj b)
 cover:∀ p ∈ fp b b.nodes.length (jj b),∃ a ∈ l,∃ q ∈ fp b m a.s,¬ w5 p (a.code++q.1,a.order++q.2)
theorem lay0:Lay b b.nodes.length [⟨[],jj b,[]⟩] where
 fit a ha:=by rw[List.mem_singleton.1 ha];exact xJ
 run a ha:=by rw[List.mem_singleton.1 ha];rfl
 nd a ha:=by rw[List.mem_singleton.1 ha];simp
 ch a ha:=by rw[List.mem_singleton.1 ha];rfl
 sound a ha q hq:=by rw[List.mem_singleton.1 ha] at hq ⊢;simpa using hq
 cover p hp:=⟨_,List.mem_singleton.2 rfl,p,hp,jx _⟩
theorem Ai (he:nJ b) {m:Nat} {l:List fZ} (h:Lay b (m+1) l):Lay b m (l.flatMap (fL b)):=by
 have hm:∀ x,x ∈ l.flatMap (fL b)↔∃ a ∈ l,∃ k ∈ dW b a.s.pl,x=⟨a.order++[k],bJ b a.s k,a.code++(bt b a.s k).1⟩:=fun x=>by
  simp only[fL,List.mem_flatMap,List.mem_map,eq_comm]
 refine⟨fun x hx=>?_,fun x hx=>?_,fun x hx=>?_,fun x hx=>?_,fun x hx q hq=>?_,fun p hp=>?_⟩
 ·obtain⟨a,ha,k,hk,rfl⟩:=(hm x).1 hx;exact (h.fit a ha).step hk
 ·obtain⟨a,ha,k,hk,rfl⟩:=(hm x).1 hx;simp only[List.foldl_append,List.foldl_cons,List.foldl_nil,<- h.run a ha]
 ·obtain⟨a,ha,k,hk,rfl⟩:=(hm x).1 hx;have:=h.nd a ha;simp;omega
 ·obtain⟨a,ha,k,hk,rfl⟩:=(hm x).1 hx;obtain⟨y,c,e1,e2⟩:=oK he a.s (cy.1 hk).1;have:=(h.ch a ha).snoc e2;simp only[e1,List.length_append,List.length_cons,List.length_nil];exact this
 ·obtain⟨a,ha,k,hk,rfl⟩:=(hm x).1 hx;have:=h.sound a ha _ (ea.2 ⟨k,hk,q,hq,rfl⟩);simpa using this
 ·obtain⟨a,ha,q,hq,hlt⟩:=h.cover p hp;obtain⟨k,hk,q2,hq2,rfl⟩:=ea.1 hq;exact⟨_,(hm _).2 ⟨a,ha,k,hk,rfl⟩,q2,hq2,by simpa using hlt⟩
theorem tP {p x y:P2} (h:¬ w5 p x) (k:w5 y x):¬ w5 p y:=fun h'=>h (gF h' k)
theorem sR (hd:fh b) {m:Nat} {l:List fZ} (h:Lay b m l):Lay b m (fw l):=by
 refine⟨fun x hx=>h.fit x (dq.1 hx).1,fun x hx=>h.run x (dq.1 hx).1,fun x hx=>h.nd x (dq.1 hx).1,fun x hx=>h.ch x (dq.1 hx).1,fun x hx=>h.sound x (dq.1 hx).1,fun p hp=>?_⟩;obtain⟨a,ha,q,hq,hlt⟩:=h.cover p hp;obtain⟨z,hz⟩:=List.exists_mem_of_ne_nil _ (kS (fun e=>by rw[e] at ha;cases ha):fw l ≠ []);obtain⟨hz1,hz2⟩:=dq.1 hz;rcases Int.lt_trichotomy (cmpL z.code a.code) 0 with h1 | h1 | h1
 ·obtain⟨q',hq'⟩:=qF hd (h.fit z hz1);refine⟨z,hz,q',hq',tP hlt (.inl ?_)⟩;have c1:=h.ch z hz1;have c2:=h.ch a ha;have e:z.order.length=a.order.length:=by have:=h.nd z hz1;have:=h.nd a ha;omega
  rw[e] at c1;exact Ch.lt q'.1 q.1 c1 c2 h1
 ·refine⟨a,dq.2 ⟨ha,fun y hy=>?_⟩,q,hq,hlt⟩;rw[<- cmpL_eq h1];exact hz2 y hy
 ·exact absurd (by rw[eh z.code];omega) (hz2 a ha)
theorem Al (he:nJ b) (hd:fh b):∀ {m:Nat} {l:List fZ},Lay b m l->Lay b 0 (gC b m l)
 | 0,_,h=>h
 | m+1,l,h=>by rw[gC];exact Al he hd (sR hd (Ai he h))
theorem oY:∀ (l:List fZ) (d:fZ),(c5 l d=d\/c5 l d ∈ l)/\¬ cmpL d.order (c5 l d).order<0/\∀ x ∈ l,¬ cmpL x.order (c5 l d).order<0
 | [],d=>⟨.inl rfl,by simp[c5,eZ],by simp⟩
 | x::l,d=>by
  obtain⟨h1,h2,h3⟩:=oY l (if cmpL x.order d.order<0 then x else d);have e:c5 (x::l) d=c5 l (if cmpL x.order d.order<0 then x else d):=rfl;rw[e];generalize c5 l (if cmpL x.order d.order<0 then x else d)=r at h1 h2 h3
  by_cases h:cmpL x.order d.order<0
  ·rw[if_pos h] at h1 h2;refine⟨.inr ?_,fun h4=>h2 (eK h h4),fun j hj=>?_⟩
   ·rcases h1 with h1 | h1
    ·simp[h1]
    ·simp[h1]
   ·rcases List.mem_cons.1 hj with rfl | hj
    ·exact h2
    ·exact h3 j hj
  ·rw[if_neg h] at h1 h2;refine⟨?_,h2,fun j hj=>?_⟩
   ·rcases h1 with h1 | h1
    ·exact .inl h1
    ·simp[h1]
   ·rcases List.mem_cons.1 hj with rfl | hj
    ·exact fun h4=>h2 (lP h h4)
    ·exact h3 j hj
theorem xk (he:nJ b) (hd:fh b) (hs:∀ p ∈ b.sites,p<b.nodes.length) {l:List fZ} (hl:l=fw ((gC b b.nodes.length [⟨[],jj b,[]⟩]).map (cX b))) (d:fZ) (hdl:d ∈ l) :
  ((c5 l d).code,(c5 l d).order)=dF b b.nodes.length (jj b)/\c5 l d=cX b ⟨(c5 l d).order,(c5 l d).order.foldl (bJ b) (jj b),((c5 l d).code.take ((c5 l d).code.length - (iy b ((c5 l d).order.foldl (bJ b) (jj b))).1.length))⟩:=by
 have hL:=Al he hd (lay0 (b:=b));generalize gC b b.nodes.length [⟨[],jj b,[]⟩]=L at hL hl;obtain⟨f1,f2,f3⟩:=oY l d;have hf:c5 l d ∈ l:=by
  rcases f1 with f1 | f1
  ·rw[f1];exact hdl
  ·exact f1
 generalize c5 l d=r at f1 f2 f3 hf;subst hl;obtain⟨g1,g2⟩:=dq.1 hf;obtain⟨a,ha,rfl⟩:=List.mem_map.1 g1;have hrun:=hL.run a ha;refine⟨w8.uniq ⟨?_,fun p hp hlt=>?_⟩ (lp he hd hs xJ),?_⟩
 ·have:=hL.sound a ha _ (List.mem_singleton.2 rfl);simpa[cX] using this
 ·obtain⟨a',ha',q,hq,hn⟩:=hL.cover p hp;simp only[fp,List.mem_singleton] at hq;subst hq;have hm':cX b a' ∈ L.map (cX b):=List.mem_map.2 ⟨a',ha',rfl⟩;have e1:=g2 _ hm';apply hn;have hlt':w5 p ((cX b a).code,(cX b a).order):=hlt;have:w5 p ((cX b a').code,(cX b a').order):=by
   rcases Int.lt_trichotomy (cmpL (cX b a).code (cX b a').code) 0 with h1 | h1 | h1
   ·exact gF hlt' (.inl h1)
   ·have h2:=cmpL_eq h1;have h3:=f3 _ (dq.2 ⟨hm',fun y hy=>by rw[<- h2];exact g2 y hy⟩);rcases Int.lt_trichotomy (cmpL (cX b a).order (cX b a').order) 0 with h4 | h4 | h4
    ·exact gF hlt' (.inr ⟨h2,h4⟩)
    ·rw[h2,cmpL_eq h4] at hlt';exact hlt'
    ·exact absurd (by rw[eh (cX b a).order];omega) h3
   ·exact absurd (by rw[eh (cX b a).code];omega) e1
  simpa[cX] using this
 ·have e:(cX b a).order=a.order:=rfl;rw[e,<- hrun];simp[cX]
end
end Go.Ab.Vg
namespace Go.Ab
open Go.Proofs
theorem Bo:a8 prog 76:=a8.of func76 (by kernel_rfl) rfl
theorem e127:a8 prog 127:=a8.of func127 (by kernel_rfl) rfl
theorem et (n lo hi:Int):aC prog 76 [int n,int lo,int hi] (fun r=>r=bool (within n lo hi)):=by
 refine aC.of func76 rfl ntmps76 (by simp) fun Q hQ=>?_
 refine zE fun _ V=>?_
 simp;refine V _ _ _ (zE fun _ V=>?_);simp
 by_cases h:lo<=n
 all_goals
  simp[h];refine V _ _ _ (J.ret func76 (aR.one results76) (hQ _ _ _ _ (eG.v _ _ _) ?_));simp[within,h]
theorem w7 {s:cP} {k:Nat} (hk:k<s.length) (h:lower s[k]=false):nO s=false:=by
 have:s.all lower=false:=by
  rw[List.all_eq_false];exact⟨s[k],List.getElem_mem hk,by simp[h]⟩
 simp[nO,this]
theorem sV (s:cP) (hs:s.length<=4294967296):aC prog 127 [str s] (fun r=>r=bool (nO s)):=by
 refine aC.of func127 rfl ntmps127 (by simp) fun Q hQ=>?_
 refine zE fun _ V=>?_
 simp;apply V;refine zS fun _ V=>?_
 simp;apply V;refine J.block (J.bO s.length (fun k O H n=>O 0=str s/\O 3=int k/\(s.take k).all lower=true) ?_ ?_)
 ·simp
 ·rintro k O H n hk ⟨h0,h3,hall⟩ IH;refine zS fun _ V=>?_
  simp [h0, h3];apply V;refine J.ite rfl (fun hc1 => ?_) (fun hc1 => ?_)
  ·simp at hc1;apply zK;apply J.block;refine zE fun _ V=>?_
   simp [h0, h3, hc1]
   by_cases ha:(s[k].toNat:Int)<97
   ·simp[ha];apply V;refine J.ite rfl (fun _=>?_) (fun h=>by simp at h);refine zE fun _ V=>?_
    simp;apply V;refine J.ret func127 (aR.one results127) (hQ _ _ _ _ (.v _ _ _) ?_);rw[w7 hc1 (by simp[lower];omega)]
   ·by_cases hz:(122:Int)<s[k].toNat
    ·simp[ha,hz,h0,h3,hc1];apply V;refine J.ite rfl (fun _=>?_) (fun h=>by simp at h);refine zE fun _ V=>?_
     simp;apply V;refine J.ret func127 (aR.one results127) (hQ _ _ _ _ (.v _ _ _) ?_);rw[w7 hc1 (by simp[lower];omega)]
    ·simp[ha,hz,h0,h3,hc1];apply V;refine J.ite rfl (fun h=>by simp at h) (fun _=>?_);apply J.skip;refine zI fun _ V=>?_
     simp [h3, bm (show k < 4611686018427387904 by omega)];apply V;refine IH hc1 _ _ _ ?_;rw[List.take_succ_eq_append_getElem hc1,List.all_append,hall];simp[h0,lower];omega
  ·simp at hc1;refine J.exit rfl ?_;refine zE fun _ V=>?_
   simp [h0];refine zA (et s.length 1 4) Bo (.cons (.v _ _ _) (.cons (.v _ _ _) (.cons (.v _ _ _) .nil))) (by simp) ?_;rintro _ rfl;simp;apply V;refine J.ret func127 (aR.one results127) (hQ _ _ _ _ (.v _ _ _) ?_);rw[List.take_of_length_le hc1] at hall;simp only[nO,hall,Bool.and_true]
end Go.Ab
namespace Go.Ab
open Go.Proofs
theorem e96:a8 prog 96:=a8.of func96 (by kernel_rfl) rfl
theorem e81:a8 prog 81:=a8.of func81 (by kernel_rfl) rfl
theorem e93:a8 prog 93:=a8.of func93 (by kernel_rfl) rfl
theorem e80:a8 prog 80:=a8.of func80 (by kernel_rfl) rfl
theorem tE (b:I) (l:Int) (he:0<=b.edges/\b.edges<=8) (ho:b.outer.length<=1048576):aC prog 96 [cI false b,int l] (fun r=>r=bool (dp b l)):=by
 have hw1:IntKind.i64.wrap (b.edges+b.outer.length)=b.edges+b.outer.length:=by rw[wrap64]<;>omega
 have hw2:IntKind.i64.wrap (b.edges+b.outer.length - 1)=b.edges+b.outer.length - 1:=by rw[wrap64]<;>omega
 refine aC.of func96 rfl ntmps96 (by simp) fun Q hQ=>?_
 refine zE fun _ V=>?_
 simp [cI, I.cells];apply V;refine zE fun _ V=>?_
 simp [encS, hw1, hw2];refine zA (db l 0 (b.edges+b.outer.length - 1)) Dg (.cons (.v _ _ _) (.cons (.v _ _ _) (.cons (.v _ _ _) .nil))) (by simp) ?_;rintro _ rfl;simp;apply V;exact J.ret func96 (aR.one results96) (hQ _ _ _ _ (.v _ _ _) rfl)
theorem tt (b:I) (l:Int) (he:0<=b.edges/\b.edges<=8) (ho:b.outer.length<=1048576):aC prog 81 [cI false b,int l] (fun r=>r=bool (dp b l)):=by
 have hw1:IntKind.i64.wrap (b.edges+b.outer.length)=b.edges+b.outer.length:=by rw[wrap64]<;>omega
 have hw2:IntKind.i64.wrap (b.edges+b.outer.length - 1)=b.edges+b.outer.length - 1:=by rw[wrap64]<;>omega
 refine aC.of func81 rfl ntmps81 (by simp) fun Q hQ=>?_
 refine zE fun _ V=>?_
 simp [cI, I.cells];apply V;refine zE fun _ V=>?_
 simp [encS, hw1, hw2];refine zA (et l 0 (b.edges+b.outer.length - 1)) Bo (.cons (.v _ _ _) (.cons (.v _ _ _) (.cons (.v _ _ _) .nil))) (by simp) ?_;rintro _ rfl;simp;apply V;exact J.ret func81 (aR.one results81) (hQ _ _ _ _ (.v _ _ _) rfl)
def GX (b:I) (x:Int):Bool:=within x 0 ((b.nodes.length:Int) - 1)
def o9 (sig:cZ) (b:I) (below:Nat):Prop:=∀ i,i<below->0<=(b.nodes.getD i default).control/\(b.nodes.getD i default).control<sig.length
theorem pD (sig:cZ) (b:I) (parent:Int) (below:Nat) (hr:0<=b.roots/\b.roots<=4) (hb:below<=b.nodes.length) (hc:o9 sig b below) :
  aC prog 93 [cI false b,bF false sig,int parent,int below] (fun r=>r=bool (b4 sig b parent below)):=by
 refine aC.of func93 rfl ntmps93 (by simp) fun Q hQ=>?_
 refine zE fun _ V=>?_
 simp [cI, I.cells];apply V;refine zS fun _ V=>?_
 simp;apply V;refine J.ite rfl (fun hc1 => ?_) (fun hc1 => ?_)
 ·have hc1:parent<0:=by simpa using hc1
  have hw:IntKind.i64.wrap (0 - b.roots) = -b.roots:=by rw[wrap64]<;>omega
  refine zE fun _ V=>?_
  have hw':IntKind.i64.wrap (-b.roots) = -b.roots:=by rw[wrap64]<;>omega
  simp [hw, hw'];apply V;exact J.ret func93 (aR.one results93) (hQ _ _ _ _ (.v _ _ _) (by simp[b4,hc1]))
 ·have hc1:¬ parent<0:=by simpa using hc1
  apply J.skip;refine zE fun _ V=>?_
  by_cases hlt:parent<(below:Int)
  ·obtain⟨q,rfl⟩:∃ q:Nat,parent=q:=⟨parent.toNat,by omega⟩
   have hq:q<b.nodes.length:=by omega
   have hcq:=hc q (by omega);have hg:b.nodes.getD q default=b.nodes[q]:=by simp[hq]
   rw[hg] at hcq;obtain⟨c,hcc⟩:∃ c:Nat,b.nodes[q].control=c:=⟨b.nodes[q].control.toNat,by omega⟩
   have hcl:c<sig.length:=by omega
   simp [hlt, aB, bF, hq, az.cells, hcc, hcl, Control.cells, guardOf];apply V;refine J.ret func93 (aR.one results93) (hQ _ _ _ _ (.v _ _ _) ?_);have hlt':q<below:=by omega
   simp[b4,hlt',hq,hcc,hcl]
   rfl
  ·simp [hlt, guardOf];apply V;exact J.ret func93 (aR.one results93) (hQ _ _ _ _ (.v _ _ _) (by simp[b4,hc1,hlt]))
theorem qL (sig:cZ) (b:I) (parent:Int) (below:Nat) (hp:bB parent) (hr:0<=b.roots/\b.roots<=4) (hb:below<=b.nodes.length) (hc:o9 sig b below) :
  aC prog 80 [bF false sig,cI false b,int parent,int below] (fun r=>r=bool (b4 sig b parent below)):=by
 obtain⟨hp1,hp2⟩:=hp;refine aC.of func80 rfl ntmps80 (by simp) fun Q hQ=>?_
 refine zE fun _ V=>?_
 simp [cI, I.cells];apply V;refine zS fun _ V=>?_
 simp;apply V;refine J.ite rfl (fun hc1 => ?_) (fun hc1 => ?_)
 ·have hc1:parent<0:=by simpa using hc1
  have hw:IntKind.i64.wrap (-1 - parent) = -1 - parent:=by rw[wrap64]<;>omega
  have hw2:IntKind.i64.wrap (b.roots - 1)=b.roots - 1:=by rw[wrap64]<;>omega
  refine zE fun _ V=>?_
  simp [hw, hw2];refine zA (et (-1 - parent) 0 (b.roots - 1)) Bo (.cons (.v _ _ _) (.cons (.v _ _ _) (.cons (.v _ _ _) .nil))) (by simp) ?_;rintro _ rfl;simp;apply V;refine J.ret func80 (aR.one results80) (hQ _ _ _ _ (.v _ _ _) ?_);have:within (-1 - parent) 0 (b.roots - 1)=decide (-b.roots<=parent):=by
   simp only[within]
   by_cases h : -b.roots<=parent
   ·simp[h];omega
   ·simp[h];omega
  simp[b4,hc1,this]
 ·have hc1:¬ parent<0:=by simpa using hc1
  apply J.skip;refine zE fun _ V=>?_
  by_cases hlt:parent<(below:Int)
  ·obtain⟨q,rfl⟩:∃ q:Nat,parent=q:=⟨parent.toNat,by omega⟩
   have hq:q<b.nodes.length:=by omega
   have hcq:=hc q (by omega);have hg:b.nodes.getD q default=b.nodes[q]:=by simp[hq]
   rw[hg] at hcq;obtain⟨c,hcc⟩:∃ c:Nat,b.nodes[q].control=c:=⟨b.nodes[q].control.toNat,by omega⟩
   have hcl:c<sig.length:=by omega
   simp [hlt, aB, bF, hq, az.cells, hcc, hcl, Control.cells, guardOf];apply V;refine J.ret func80 (aR.one results80) (hQ _ _ _ _ (.v _ _ _) ?_);have hlt':q<below:=by omega
   simp[b4,hlt',hq,hcc,hcl]
   rfl
  ·simp [hlt, guardOf];apply V;exact J.ret func80 (aR.one results80) (hQ _ _ _ _ (.v _ _ _) (by simp[b4,hc1,hlt]))
end Go.Ab
namespace Go.Ab
open Go.Proofs
theorem e91:a8 prog 91:=a8.of func91 (by kernel_rfl) rfl
theorem e77:a8 prog 77:=a8.of func77 (by kernel_rfl) rfl
theorem xu:∀ (s p:cP),(Op.bytesLess s p || s == p) = !Op.bytesLess p s
 | [],[]=>by simp[Op.bytesLess]
 | [],_::_=>by simp[Op.bytesLess]
 | _::_,[]=>by simp[Op.bytesLess]
 | a::x,b::y=>by
  have ih:=xu x y;simp only[Op.bytesLess];rcases Nat.lt_trichotomy a.toNat b.toNat with h | h | h
  ·have h1:a<b:=h;have h2:¬ b<a:=fun h'=>by have h':b.toNat<a.toNat:=h';omega
   have h3:(b == a)=false:=by
    rw[beq_eq_false_iff_ne];rintro rfl;omega
   simp[h1,h2,h3]
  ·have h0:a=b:=UInt8.toNat_inj.1 h;subst h0;have h2:¬ a<a:=fun h'=>by have h':a.toNat<a.toNat:=h';omega
   simp[h2];rw[<- ih];try (cases Op.bytesLess x y<;>simp)
   try (by_cases hxy:x=y<;>simp[hxy])
  ·have h1:b<a:=h;have h2:¬ a<b:=fun h'=>by have h':a.toNat<b.toNat:=h';omega
   have h3:(a == b)=false:=by
    rw[beq_eq_false_iff_ne];rintro rfl;omega
   have h4:¬ a=b:=by simpa using h3
   simp[h1,h2,h4]
theorem dP {n k:Nat} {q:Nat->Bool} (hk:k<n) (h:q k=false):(List.range n).all q=false:=by
 rw[List.all_eq_false];exact⟨k,by simpa using hk,by simp[h]⟩
theorem dO {n:Nat} {q:Nat->Bool} (h:∀ i,i<n->q i=true):(List.range n).all q=true:=by
 simpa[List.all_eq_true] using h
def eM (l:List cP) (i:Nat):Bool:=nO (l.getD i []) && kO l i
theorem fj (l:List cP):cT l=(decide (l.length<=16) && (List.range l.length).all (eM l)):=rfl
theorem pr (l:List cP) (hl:l.length<=1048576) (hs:∀ s ∈ l,s.length<=1048576):aC prog 91 [encS false l] (fun r=>r=bool (cT l)):=by
 refine aC.of func91 rfl ntmps91 (by simp) fun Q hQ=>?_
 refine zE fun k' V=>?_
 simp [encS];apply V;refine zS fun k' V=>?_
 simp;apply V;refine J.block (J.bO l.length (fun k O H n=>O 0 = .list false (l.map bg)/\O 5 = .list false (l.map bg)/\O 6=int l.length/\O 7=int k/\∀ i,i<k->eM l i=true) ?_ ?_)
 ·simp
 ·rintro k O H n hk ⟨h0,h5,h6,h7,hall⟩ IH;refine zE fun k' V=>?_
  simp [h6, h7];apply V;apply J.seq;refine J.ite rfl (fun hc1 => ?_) (fun hc1 => ?_)
  ·have hc1:k<l.length:=by simpa using hc1
   apply zK;apply J.block;refine zE fun k' V=>?_
   simp [h5, h7, hc1, bg];apply V;refine zE fun k' V=>?_
   have fin:∀ O:Env,O 0 = .list false (l.map bg)->O 5 = .list false (l.map bg)->O 6=int l.length->O 7=int k->O 27=bool (!eM l k)->J prog 91 32 k' O H n Q:=by
    intro O h0 h5 h6 h7 h27;apply V;refine J.ite h27 (fun hc2 => ?_) (fun hc2 => ?_)
    ·have hb:eM l k=false:=by simpa using hc2
     refine zE fun k' V=>?_
     simp;apply V;exact J.ret func91 (aR.one results91) (hQ _ _ _ _ (.v _ _ _) (by rw[fj,dP hc1 hb,Bool.and_false]))
    ·have hb:eM l k=true:=by simpa using hc2
     apply J.skip;refine zI fun k' V=>?_
     simp [h7, bm (show k < 4611686018427387904 by omega)];apply V;refine IH hc1 _ _ _ ⟨by simp[h0],by simp[h5],by simp[h6],by simp,fun i hi=>?_⟩;rcases Nat.lt_or_ge i k with h | h
     ·exact hall i h
     ·rw[show i=k by omega];exact hb
   have hgk:l.getD k []=l[k]:=by simp[hc1]
   simp;refine zA (tk l[k] (Nat.le_trans (hs _ (List.getElem_mem hc1)) (by decide))) e136 (.cons (.v _ _ _) .nil) (by simp) ?_;rintro _ rfl;cases hnm:nO l[k]
   ·simp[guardOf];exact fin _ (by simp[h0]) (by simp[h5]) (by simp[h6]) (by simp[h7]) (by simp[eM,hc1,hnm])
   ·by_cases hk0:k=0
    ·subst hk0;simp[guardOf];exact fin _ (by simp[h0]) (by simp[h5]) (by simp[h6]) (by simp[h7]) (by simp[eM,hc1,hnm,kO])
    ·have hk1:0<k:=by omega
     have hw:IntKind.i64.wrap ((k:Int) - 1)=((k - 1:Nat):Int):=by rw[wrap64]<;>omega
     have hkl:k - 1<l.length:=by omega
     have hgk1:l.getD (k - 1) []=l[k - 1]:=by simp[hkl]
     have hp:=xu l[k] l[k - 1];simp[guardOf,hk1,h0,hw,hkl,bg];refine fin _ (by simp[h0]) (by simp[h5]) (by simp[h6]) (by simp[h7]) ?_;simp only[eM,hgk,hnm,kO,hgk1,hk0,decide_false,Bool.false_or,Bool.true_and];rw[<- hp];simp
  ·have hc1:¬ k<l.length:=by simpa using hc1
   have hke:k=l.length:=by omega
   subst hke;refine J.exit rfl ?_;refine zE fun k' V=>?_
   simp [h0];apply V;refine J.ret func91 (aR.one results91) (hQ _ _ _ _ (.v _ _ _) ?_);rw[fj,dO hall];simp;omega
end Go.Ab
namespace Go.Ab
open Go.Proofs
theorem e92:a8 prog 92:=a8.of func92 (by kernel_rfl) rfl
theorem e78:a8 prog 78:=a8.of func78 (by kernel_rfl) rfl
theorem qK (l:List cP) (hl:l.length<=1048576) (hs:∀ s ∈ l,s.length<=1048576):aC prog 77 [encS false l] (fun r=>r=bool (cT l)):=by
 refine aC.of func77 rfl ntmps77 (by simp) fun Q hQ=>?_
 refine zE fun k' V=>?_
 simp [encS];apply V;refine zS fun k' V=>?_
 simp;apply V;refine J.block (J.bO l.length (fun k O H n=>O 0 = .list false (l.map bg)/\O 3=int k/\∀ i,i<k->eM l i=true) ?_ ?_)
 ·simp
 ·rintro k O H n hk ⟨h0,h3,hall⟩ IH;refine zS fun k' V=>?_
  simp [h0, h3];apply V;refine J.ite rfl (fun hc1 => ?_) (fun hc1 => ?_)
  ·have hc1:k<l.length:=by simpa using hc1
   apply zK;apply J.block;refine J.cO ay aA bq (by decide) (by kernel_rfl) fun k' V=>?_
   have fin:∀ O:Env,O 0 = .list false (l.map bg)->O 3=int k->O 31=bool (!eM l k)->J prog 77 35 k' O H n Q:=by
    intro O h0 h3 h31;apply V;refine J.ite h31 (fun hc2=>?_) (fun hc2=>?_)
    ·have hb:eM l k=false:=by simpa using hc2
     refine zE fun k' V=>?_
     simp;apply V;exact J.ret func77 (aR.one results77) (hQ _ _ _ _ (.v _ _ _) (by rw[fj,dP hc1 hb,Bool.and_false]))
    ·have hb:eM l k=true:=by simpa using hc2
     apply J.skip;refine zI fun k' V=>?_
     simp [h3, bm (show k < 4611686018427387904 by omega)];apply V;refine IH hc1 _ _ _ ⟨by simp[h0],by simp,fun i hi=>?_⟩;rcases Nat.lt_or_ge i k with h | h
     ·exact hall i h
     ·rw[show i=k by omega];exact hb
   have hgk:l.getD k []=l[k]:=by simp[hc1]
   simp [h0, h3, hc1, bg];refine bf.bN ay aA (sV l[k] (Nat.le_trans (hs _ (List.getElem_mem hc1)) (by decide))) e127 (.cons (.v _ _ _) .nil) (by decide) rfl (by simp) ?_;cases hnm:nO l[k]
   ·simp[guardOf];exact fin _ (by simp[h0,bg]) (by simp[h3]) (by simp[eM,hc1,hnm])
   ·by_cases hk0:k=0
    ·subst hk0;simp[h3,guardOf];exact fin _ (by simp[h0,bg]) (by simp[h3]) (by simp[eM,hc1,hnm,kO])
    ·have hk1:0<k:=by omega
     have hw:IntKind.i64.wrap ((k:Int) - 1)=((k - 1:Nat):Int):=by rw[wrap64]<;>omega
     have hkl:k - 1<l.length:=by omega
     have hgk1:l.getD (k - 1) []=l[k - 1]:=by simp[hkl]
     simp[guardOf,hk1,h0,h3,hw,hkl,hc1,bg];refine fin _ (by simp[h0,bg]) (by simp[h3]) ?_;simp only[eM,hgk,hnm,kO,hgk1,hk0,decide_false,Bool.false_or,Bool.true_and];simp
  ·have hc1:¬ k<l.length:=by simpa using hc1
   have hke:k=l.length:=by omega
   subst hke;refine J.exit rfl ?_;refine zE fun k' V=>?_
   simp [h0];apply V;refine J.ret func77 (aR.one results77) (hQ _ _ _ _ (.v _ _ _) ?_);rw[fj,dO hall];simp;omega
def names (b:I):List cP:=b.inner.map (·.name)
theorem sM (b:I) (hl:b.inner.length<=1048576):aC prog 92 [cI false b] (fun r=>r=encS true (names b)):=by
 refine aC.of func92 rfl ntmps92 (by simp) fun Q hQ=>?_
 refine zE fun _ V=>?_
 simp [cI, I.cells];apply V;refine zE fun _ V=>?_
 simp;apply V;refine zS fun _ V=>?_
 simp [aD];apply V;refine J.block (J.bO b.inner.length (fun k O H n=>O 8 = .list false (b.inner.map aQ.cells)/\O 9=int b.inner.length/\O 10=int k/\O 3 = .arr (1,6) k 0 k/\H (1,6)=some ⟨1,((names b).take k).map bg⟩) ?_ ?_)
 ·simp
 ·rintro k O H n hk ⟨h8,h9,h10,h3,hH⟩ IH;refine zE fun _ V=>?_
  simp [h9, h10];apply V;apply J.seq;refine J.ite rfl (fun hc1 => ?_) (fun hc1 => ?_)
  ·have hc1:k<b.inner.length:=by simpa using hc1
   have htk:(((names b).take k).map bg).length=k:=by simp[names];omega
   have hts:(names b).take (k+1)=(names b).take k++[b.inner[k].name]:=by
    rw[List.take_succ_eq_append_getElem (by simpa[names] using hc1)];simp[names]
   apply zK;apply J.block;refine zE fun _ V=>?_
   simp [h8, h10, hc1, aQ.cells];apply V;refine zF fun _ V=>?_
   generalize hels:((names b).take k).map bg=els at hH htk;simp [h3, hH, htk, live, show k <= 1073741823 by omega];apply V;refine zI fun _ V=>?_
   simp [h10, bm (show k < 4611686018427387904 by omega)];apply V;refine IH hc1 _ _ _ ⟨by simp[h8],by simp[h9],by simp,by simp,?_⟩;simp[hts,<- hels,bg]
  ·have hc1:¬ k<b.inner.length:=by simpa using hc1
   have hke:k=b.inner.length:=by omega
   subst hke;refine J.exit rfl ?_;refine zE fun _ V=>?_
   simp [h3];apply V;have he:(names b).take b.inner.length=names b:=List.take_of_length_le (by simp[names]);rw[he] at hH;exact J.ret func92 (aR.one results92) (hQ _ _ _ _ (.of (jk.xR (by simp[live,hH,names];rfl) (by simp[bg]))) rfl)
theorem zt (b:I) (hl:b.inner.length<=1048576):aC prog 78 [cI false b] (fun r=>r=encS true (names b)):=by
 refine aC.of func78 rfl ntmps78 (by simp) fun Q hQ=>?_
 refine zE fun _ V=>?_
 simp [cI, I.cells];apply V;refine zE fun _ V=>?_
 simp;apply V;refine zS fun _ V=>?_
 simp [aD];apply V;refine J.block (J.bO b.inner.length (fun k O H n=>O 1 = .ptr (0,1) 1 0 0/\H (0,1)=some ⟨6,[b.cells false]⟩/\O 4=int k/\O 3 = .arr (1,5) k 0 k/\H (1,5)=some ⟨1,((names b).take k).map bg⟩) ?_ ?_)
 ·simp[I.cells,aD]
 ·rintro k O H n hk ⟨h1,hb,h4,h3,hH⟩ IH;refine zS fun _ V=>?_
  simp [h1, hb, h4, I.cells, aD];apply V;refine J.ite rfl (fun hc1 => ?_) (fun hc1 => ?_)
  ·have hc1:k<b.inner.length:=by simpa using hc1
   have htk:(((names b).take k).map bg).length=k:=by simp[names];omega
   have hts:(names b).take (k+1)=(names b).take k++[b.inner[k].name]:=by
    rw[List.take_succ_eq_append_getElem (by simpa[names] using hc1)];simp[names]
   apply zK;apply J.block;refine zF fun _ V=>?_
   generalize hels:((names b).take k).map bg=els at hH htk;simp [h1, hb, h3, h4, hH, htk, hc1, live, I.cells, aD, aQ.cells, show k <= 1073741823 by omega];apply V;refine zI fun _ V=>?_
   simp [h4, bm (show k < 4611686018427387904 by omega)];apply V;refine IH hc1 _ _ _ ⟨by simp[h1],by simp[hb,I.cells,aD],by simp,by simp,?_⟩;simp[hts,<- hels,bg]
  ·have hc1:¬ k<b.inner.length:=by simpa using hc1
   have hke:k=b.inner.length:=by omega
   subst hke;refine J.exit rfl ?_;refine zE fun _ V=>?_
   simp [h3];apply V;have he:(names b).take b.inner.length=names b:=List.take_of_length_le (by simp[names]);rw[he] at hH;exact J.ret func78 (aR.one results78) (hQ _ _ _ _ (.of (jk.xR (by simp[live,hH,names];rfl) (by simp[bg]))) rfl)
end Go.Ab
namespace Go.Ab
open Go.Proofs
def mT {α:Type} (l:List α) (p:α->Bool):Int:=if l.findIdx p<l.length then (l.findIdx p:Int) else -1
theorem nu {α:Type} {l:List α} {p:α->Bool} {k:Nat} (hk:k<l.length) (h:p l[k]=true) (hno:∀ i (h:i<l.length),i<k->p l[i]=false):mT l p=k:=by
 have:l.findIdx p=k:=(List.findIdx_eq hk).2 ⟨h,fun j hj=>hno j (by omega) hj⟩;rw[mT,this,if_pos hk]
theorem mz {α:Type} {l:List α} {p:α->Bool} (hno:∀ i (h:i<l.length),p l[i]=false):mT l p = -1:=by
 have:l.findIdx p=l.length:=List.findIdx_eq_length.2 fun x hx=>by
  obtain⟨i,hi,rfl⟩:=List.getElem_of_mem hx;exact hno i hi
 rw[mT,this,if_neg (Nat.lt_irrefl _)]
theorem nK {α:Type} (l:List α) (p:α->Bool):decide (0<=mT l p)=l.any p:=by
 unfold mT;cases h:l.any p
 ·have:l.findIdx p=l.length:=List.findIdx_eq_length.2 fun x hx=>by
   rw[List.any_eq_false] at h;simpa using h x hx
  rw[if_neg (by omega)];simp
 ·have:l.findIdx p<l.length:=by
   rw[List.findIdx_lt_length];simpa[List.any_eq_true] using h
  rw[if_pos this];simp
theorem e139:a8 prog 139:=a8.of func139 (by kernel_rfl) rfl
theorem e94:a8 prog 94:=a8.of func94 (by kernel_rfl) rfl
theorem sl {H:ax} {n:Nat} {cl:au} (t:Bool) (l:List (Int)) (p:Int->Bool) (hl:l.length<=1048576) (hcl:∀ x ∈ l,fP prog H n cl [int x] (fun r=>r=bool (p x))) :
  cB prog 139 [.list t (l.map av),cl] H n (fun r=>r=int (mT l p)):=by
 refine cB.of func139 rfl ntmps139 (by simp) fun Q _ hQ=>?_
 refine zE fun _ V=>?_
 simp;apply V;refine zS fun _ V=>?_
 simp;apply V;refine J.block (J.bO l.length (fun k O H' n'=>O 0 = .list t (l.map av)/\O 1=cl/\O 7=int l.length/\O 8=int k/\H'=H/\n'=n/\∀ i (h:i<l.length),i<k->p l[i]=false) ?_ ?_)
 ·simp
 ·rintro k O H' n' hk ⟨h0,h1,h7,h8,rfl,rfl,hno⟩ IH;refine zE fun _ V=>?_
  simp [h7, h8];apply V;apply J.seq;refine J.ite rfl (fun hc1 => ?_) (fun hc1 => ?_)
  ·have hc1:k<l.length:=by simpa using hc1
   apply zK;apply J.block;refine zE fun _ V=>?_
   simp [h8];apply V;refine zE fun _ V=>?_
   simp [h0, h1, hc1, av];refine bz.wa ay (hcl l[k] (List.getElem_mem hc1)) (by decide) (by decide) (by simp[h1]) (by simp) ?_;rintro _ rfl;simp;apply V;refine J.ite rfl (fun hc2 => ?_) (fun hc2 => ?_)
   ·have hc2:p l[k]=true:=by simpa using hc2
    refine zE fun _ V=>?_
    simp;apply V;refine J.ret func139 (aR.one results139) (hQ _ _ _ _ (.p8 (.v _)) (Frame.refl _ _) ?_);simp[nu hc1 hc2 hno]
   ·have hc2:p l[k]=false:=by simpa using hc2
    apply J.skip;refine zI fun _ V=>?_
    simp [h8, bm (show k < 4611686018427387904 by omega)];apply V;refine IH hc1 _ _ _ ⟨by simp[h0,av],by simp[h1],by simp[h7],by simp,rfl,rfl,fun i h hi=>?_⟩;rcases Nat.lt_or_ge i k with hik | hik
    ·exact hno i h hik
    ·have:i=k:=by omega
     subst this;exact hc2
  ·have hc1:¬ k<l.length:=by simpa using hc1
   have hke:k=l.length:=by omega
   subst hke;refine J.exit rfl ?_;refine zE fun _ V=>?_
   simp;apply V;refine J.ret func139 (aR.one results139) (hQ _ _ _ _ (.p8 (.v _)) (Frame.refl _ _) ?_);simp[mz fun i h=>hno i h h]
theorem jc {H:ax} {n:Nat} {cl:au} (t:Bool) (l:List (Int)) (p:Int->Bool) (hl:l.length<=1048576) (hcl:∀ x ∈ l,fP prog H n cl [int x] (fun r=>r=bool (p x))) :
  cB prog 94 [.list t (l.map av),cl] H n (fun r=>r=bool (l.any p)):=by
 refine cB.of func94 rfl ntmps94 (by simp) fun Q _ hQ=>?_
 refine zE fun _ V=>?_
 simp;apply V;refine zE fun _ V=>?_
 simp;refine bz.iX ay (sl t l p hl hcl) e139 (by decide) (by decide) rfl (by simp) ?_;rintro _ rfl;simp;apply V;refine J.ret func94 (aR.one results94) (hQ _ _ _ _ (.p8 (.v _)) (Frame.refl _ _) ?_);simp[nK]
theorem e140:a8 prog 140:=a8.of func140 (by kernel_rfl) rfl
theorem e98:a8 prog 98:=a8.of func98 (by kernel_rfl) rfl
theorem sB {H:ax} {n:Nat} {cl:au} (t:Bool) (l:List (aQ)) (p:aQ->Bool) (hl:l.length<=1048576) (hcl:∀ x ∈ l,fP prog H n cl [.agg x.cells] (fun r=>r=bool (p x))) :
  cB prog 140 [.list t (l.map aQ.cells),cl] H n (fun r=>r=int (mT l p)):=by
 refine cB.of func140 rfl ntmps140 (by simp) fun Q _ hQ=>?_
 refine zE fun _ V=>?_
 simp;apply V;refine zS fun _ V=>?_
 simp;apply V;refine J.block (J.bO l.length (fun k O H' n'=>O 0 = .list t (l.map aQ.cells)/\O 1=cl/\O 7=int l.length/\O 8=int k/\H'=H/\n'=n/\∀ i (h:i<l.length),i<k->p l[i]=false) ?_ ?_)
 ·simp
 ·rintro k O H' n' hk ⟨h0,h1,h7,h8,rfl,rfl,hno⟩ IH;refine zE fun _ V=>?_
  simp [h7, h8];apply V;apply J.seq;refine J.ite rfl (fun hc1 => ?_) (fun hc1 => ?_)
  ·have hc1:k<l.length:=by simpa using hc1
   apply zK;apply J.block;refine zE fun _ V=>?_
   simp [h8];apply V;refine zE fun _ V=>?_
   simp [h0, h1, hc1, aQ.cells];refine bz.wa ay (hcl l[k] (List.getElem_mem hc1)) (by decide) (by decide) (by simp[h1]) (by simp[aQ.cells]) ?_;rintro _ rfl;simp;apply V;refine J.ite rfl (fun hc2 => ?_) (fun hc2 => ?_)
   ·have hc2:p l[k]=true:=by simpa using hc2
    refine zE fun _ V=>?_
    simp;apply V;refine J.ret func140 (aR.one results140) (hQ _ _ _ _ (.p8 (.v _)) (Frame.refl _ _) ?_);simp[nu hc1 hc2 hno]
   ·have hc2:p l[k]=false:=by simpa using hc2
    apply J.skip;refine zI fun _ V=>?_
    simp [h8, bm (show k < 4611686018427387904 by omega)];apply V;refine IH hc1 _ _ _ ⟨by simp[h0,aQ.cells],by simp[h1],by simp[h7],by simp,rfl,rfl,fun i h hi=>?_⟩;rcases Nat.lt_or_ge i k with hik | hik
    ·exact hno i h hik
    ·have:i=k:=by omega
     subst this;exact hc2
  ·have hc1:¬ k<l.length:=by simpa using hc1
   have hke:k=l.length:=by omega
   subst hke;refine J.exit rfl ?_;refine zE fun _ V=>?_
   simp;apply V;refine J.ret func140 (aR.one results140) (hQ _ _ _ _ (.p8 (.v _)) (Frame.refl _ _) ?_);simp[mz fun i h=>hno i h h]
theorem oP {H:ax} {n:Nat} {cl:au} (t:Bool) (l:List (aQ)) (p:aQ->Bool) (hl:l.length<=1048576) (hcl:∀ x ∈ l,fP prog H n cl [.agg x.cells] (fun r=>r=bool (p x))) :
  cB prog 98 [.list t (l.map aQ.cells),cl] H n (fun r=>r=bool (l.any p)):=by
 refine cB.of func98 rfl ntmps98 (by simp) fun Q _ hQ=>?_
 refine zE fun _ V=>?_
 simp;apply V;refine zE fun _ V=>?_
 simp;refine bz.iX ay (sB t l p hl hcl) e140 (by decide) (by decide) rfl (by simp) ?_;rintro _ rfl;simp;apply V;refine J.ret func98 (aR.one results98) (hQ _ _ _ _ (.p8 (.v _)) (Frame.refl _ _) ?_);simp[nK]
theorem e157:a8 prog 157:=a8.of func157 (by kernel_rfl) rfl
theorem e137:a8 prog 137:=a8.of func137 (by kernel_rfl) rfl
theorem sr {H:ax} {n:Nat} {cl:au} (t:Bool) (l:List (Control)) (p:Control->Bool) (hl:l.length<=1048576) (hcl:∀ x ∈ l,fP prog H n cl [.agg x.cells] (fun r=>r=bool (p x))) :
  cB prog 157 [.list t (l.map Control.cells),cl] H n (fun r=>r=int (mT l p)):=by
 refine cB.of func157 rfl ntmps157 (by simp) fun Q _ hQ=>?_
 refine zE fun _ V=>?_
 simp;apply V;refine zS fun _ V=>?_
 simp;apply V;refine J.block (J.bO l.length (fun k O H' n'=>O 0 = .list t (l.map Control.cells)/\O 1=cl/\O 7=int l.length/\O 8=int k/\H'=H/\n'=n/\∀ i (h:i<l.length),i<k->p l[i]=false) ?_ ?_)
 ·simp
 ·rintro k O H' n' hk ⟨h0,h1,h7,h8,rfl,rfl,hno⟩ IH;refine zE fun _ V=>?_
  simp [h7, h8];apply V;apply J.seq;refine J.ite rfl (fun hc1 => ?_) (fun hc1 => ?_)
  ·have hc1:k<l.length:=by simpa using hc1
   apply zK;apply J.block;refine zE fun _ V=>?_
   simp [h8];apply V;refine zE fun _ V=>?_
   simp [h0, h1, hc1, Control.cells];refine bz.wa ay (hcl l[k] (List.getElem_mem hc1)) (by decide) (by decide) (by simp[h1]) (by simp[Control.cells]) ?_;rintro _ rfl;simp;apply V;refine J.ite rfl (fun hc2 => ?_) (fun hc2 => ?_)
   ·have hc2:p l[k]=true:=by simpa using hc2
    refine zE fun _ V=>?_
    simp;apply V;refine J.ret func157 (aR.one results157) (hQ _ _ _ _ (.p8 (.v _)) (Frame.refl _ _) ?_);simp[nu hc1 hc2 hno]
   ·have hc2:p l[k]=false:=by simpa using hc2
    apply J.skip;refine zI fun _ V=>?_
    simp [h8, bm (show k < 4611686018427387904 by omega)];apply V;refine IH hc1 _ _ _ ⟨by simp[h0,Control.cells],by simp[h1],by simp[h7],by simp,rfl,rfl,fun i h hi=>?_⟩;rcases Nat.lt_or_ge i k with hik | hik
    ·exact hno i h hik
    ·have:i=k:=by omega
     subst this;exact hc2
  ·have hc1:¬ k<l.length:=by simpa using hc1
   have hke:k=l.length:=by omega
   subst hke;refine J.exit rfl ?_;refine zE fun _ V=>?_
   simp;apply V;refine J.ret func157 (aR.one results157) (hQ _ _ _ _ (.p8 (.v _)) (Frame.refl _ _) ?_);simp[mz fun i h=>hno i h h]
theorem o6 {H:ax} {n:Nat} {cl:au} (t:Bool) (l:List (Control)) (p:Control->Bool) (hl:l.length<=1048576) (hcl:∀ x ∈ l,fP prog H n cl [.agg x.cells] (fun r=>r=bool (p x))) :
  cB prog 137 [.list t (l.map Control.cells),cl] H n (fun r=>r=bool (l.any p)):=by
 refine cB.of func137 rfl ntmps137 (by simp) fun Q _ hQ=>?_
 refine zE fun _ V=>?_
 simp;apply V;refine zE fun _ V=>?_
 simp;refine bz.iX ay (sr t l p hl hcl) e157 (by decide) (by decide) rfl (by simp) ?_;rintro _ rfl;simp;apply V;refine J.ret func137 (aR.one results137) (hQ _ _ _ _ (.p8 (.v _)) (Frame.refl _ _) ?_);simp[nK]
end Go.Ab
namespace Go.Ab
open Go.Proofs
theorem e89:a8 prog 89:=a8.of func89 (by kernel_rfl) rfl
theorem e75:a8 prog 75:=a8.of func75 (by kernel_rfl) rfl
theorem e138:a8 prog 138:=a8.of func138 (by kernel_rfl) rfl
theorem FM {H:ax} {n:Nat} {X:Id} (c:Control) (hX:H X=some ⟨3,[c.cells]⟩) (d:Control):fP prog H n (.fn (.func 138) [] [.ptr X 1 0 0]) [.agg d.cells] (fun r=>r=bool (d.name == c.name)):=by
 refine⟨138,[],[.ptr X 1 0 0],rfl,e138,?_⟩;refine cB.of func138 rfl ntmps138 (by simp) fun Q hB hQ=>?_
 have hXn:=(hB X _ hX).1;have hX2:¬ X=(n,2):=by rintro rfl;simp at hXn
 refine zE fun _ V=>?_
 simp [Control.cells];apply V;refine zE fun _ V=>?_
 simp [hX2, hX, Control.cells];apply V;exact J.ret func138 (aR.one results138) (hQ _ _ _ _ (.p8 (.v _)) (Frame.set (by simp) (Frame.refl _ _)) (by simp))
def ig (sig:cZ) (i:Nat):Bool:=cV (sig.getD i default) && newName sig i
theorem gW (sig:cZ):fE sig=(within sig.length 1 6 && (List.range sig.length).all (ig sig)):=rfl
theorem qX (sig:cZ) (hl:sig.length<=1048576) (hs:∀ c ∈ sig,c.name.length<=1048576):aC prog 89 [bF false sig] (fun r=>r=bool (fE sig)):=by
 refine aC.of func89 rfl ntmps89 (by simp) fun Q hQ=>?_
 refine zE fun k' V=>?_
 simp [bF];apply V;refine zS fun k' V=>?_
 simp;refine zA (db sig.length 1 6) Dg (.cons (.v _ _ _) (.cons (.v _ _ _) (.cons (.v _ _ _) .nil))) (by simp) ?_;rintro _ rfl;simp;apply V;refine J.ite rfl (fun hc1 => ?_) (fun hc1 => ?_)
 ·have hw:within sig.length 1 6=false:=by simpa using hc1
  refine zE fun k' V=>?_
  simp;apply V;exact J.ret func89 (aR.one results89) (hQ _ _ _ _ (.v _ _ _) (by rw[gW,hw,Bool.false_and]))
 ·have hw:within sig.length 1 6=true:=by simpa using hc1
  apply J.skip;refine zS fun k' V=>?_
  simp;apply V;refine J.block (J.bO sig.length (fun k O H n=>O 0 = .list false (sig.map Control.cells)/\O 9 = .list false (sig.map Control.cells)/\O 10=int sig.length/\O 11=int k/\∀ i,i<k->ig sig i=true) ?_ ?_)
  ·simp
  ·rintro k O H n hk ⟨h0,h9,h10,h11,hall⟩ IH;refine zE fun k' V=>?_
   simp [h10, h11];apply V;apply J.seq;refine J.ite rfl (fun hc1 => ?_) (fun hc1 => ?_)
   ·have hc1:k<sig.length:=by simpa using hc1
    have hgk:sig.getD k default=sig[k]:=by simp[hc1]
    apply zK;apply J.block;refine zE fun k' V=>?_
    simp [h9, h11, hc1, Control.cells];apply V;refine J.cut (fun O H n=>O 0 = .list false (sig.map Control.cells)/\O 9 = .list false (sig.map Control.cells)/\O 10=int sig.length/\O 11=int k/\O 3=int k/\∃ m,O 4 = .ptr (m,4) 1 0 0/\H (m,4)=some ⟨3,[sig[k].cells]⟩) ?_ ?_
    ·exact⟨by simp[h0],by simp[h9],by simp[h10],by simp[h11],by simp,n,by simp,by simp[Control.cells]⟩
    clear V h0 h9 h10 h11;rintro O H n ⟨h0,h9,h10,h11,h3,m,h4,hm⟩;refine zE fun k' V=>?_
    have fin:∀ O:Env,O 0 = .list false (sig.map Control.cells)->O 9 = .list false (sig.map Control.cells)->O 10=int sig.length->O 11=int k->O 38=bool (!ig sig k)->J prog 89 40 k' O H n Q:=by
     intro O h0 h9 h10 h11 h38;apply V;refine J.ite h38 (fun hc2 => ?_) (fun hc2 => ?_)
     ·have hb:ig sig k=false:=by simpa using hc2
      refine zE fun k' V=>?_
      simp;apply V;exact J.ret func89 (aR.one results89) (hQ _ _ _ _ (.v _ _ _) (by rw[gW,dP hc1 hb,Bool.and_false]))
     ·have hb:ig sig k=true:=by simpa using hc2
      apply J.skip;refine zI fun k' V=>?_
      simp [h11, bm (show k < 4611686018427387904 by omega)];apply V;refine IH hc1 _ _ _ ⟨by simp[h0],by simp[h9],by simp[h10],by simp,fun i hi=>?_⟩;rcases Nat.lt_or_ge i k with h | h
      ·exact hall i h
      ·rw[show i=k by omega];exact hb
    have hm':=hm;simp only[Control.cells] at hm';simp [h4, hm'];refine zA (tk sig[k].name (Nat.le_trans (hs _ (List.getElem_mem hc1)) (by decide))) e136 (.cons (.v _ _ _) .nil) (by simp) ?_;rintro _ rfl;cases hnm:nO sig[k].name
    ·simp[guardOf];exact fin _ (by simp[h0]) (by simp[h9]) (by simp[h10]) (by simp[h11]) (by simp only[ig,hgk,cV,hnm];simp)
    ·simp[h4,hm',guardOf];refine zA (db sig[k].ports 0 3) Dg (.cons (.v _ _ _) (.cons (.v _ _ _) (.cons (.v _ _ _) .nil))) (by simp) ?_;rintro _ rfl;cases hpo:within sig[k].ports 0 3
     ·simp[guardOf];exact fin _ (by simp[h0]) (by simp[h9]) (by simp[h10]) (by simp[h11]) (by simp only[ig,hgk,cV,hnm,hpo];simp)
     ·simp[h4,hm',guardOf];refine zA (db sig[k].kind 0 2) Dg (.cons (.v _ _ _) (.cons (.v _ _ _) (.cons (.v _ _ _) .nil))) (by simp) ?_;rintro _ rfl;cases hki:within sig[k].kind 0 2
      ·simp[guardOf];exact fin _ (by simp[h0]) (by simp[h9]) (by simp[h10]) (by simp[h11]) (by simp only[ig,hgk,cV,hnm,hpo,hki];simp)
      ·have hkl:(k:Int)<=sig.length:=by omega
       simp[h0,h3,h4,hkl,guardOf,Control.cells];refine bz.iX ay (o6 false (sig.take k) (fun d=>d.name == sig[k].name) (by simp;omega) (fun d _=>FM sig[k] hm d)) e137 (by decide) (by decide) rfl (by simp[Control.cells]) ?_;rintro _ rfl;simp[guardOf];refine fin _ (by simp[h0,Control.cells]) (by simp[h9,Control.cells]) (by simp[h10]) (by simp[h11]) ?_;simp only[ig,hgk,cV,hnm,hpo,hki,newName];simp
   ·have hc1:¬ k<sig.length:=by simpa using hc1
    have hke:k=sig.length:=by omega
    subst hke;refine J.exit rfl ?_;refine zE fun k' V=>?_
    simp;apply V;exact J.ret func89 (aR.one results89) (hQ _ _ _ _ (.v _ _ _) (by rw[gW,hw,dO hall];rfl))
end Go.Ab
