/- Merged texts (16 of 18) of the proof that ends in Sty: Ktw Mxw Myw. -/
import Derived.Test.YtkocdlgoncmdbaaGreatDoorAbQst15
open Go.Proofs.Tryz
set_option linter.unusedSimpArgs false
set_option linter.unusedVariables false
namespace Go.Ab.Vg
open Go.Proofs
set_option maxRecDepth 100000
attribute [local simp] Control.cells az.cells aQ.cells av gZ bg bC pA
theorem e100:a8 prog 100:=a8.of func100 (by kernel_rfl) rfl
theorem w6 (s1:List Int) (s2:List Int) (Z:Bool->Prop) (h:kP s1 s2 Z):aC prog 100 [.list false (s1.map av),.list false (s2.map av)] (fun r=>∃ y:Bool,Z y/\r=bool y):=by
 unfold kP at h;refine aC.of func100 rfl ntmps100 (by simp) fun Q hQ=>?_
 refine J.cut (fun O H n=>(O 0 = .list false (s1.map av)/\O 1 = .list false (s2.map av))) (by simp) ?_;rintro O H U E;refine zE fun _ V=>?_
 simp[E];apply V;refine zS fun _ V=>?_
 obtain⟨bh,elen2,h⟩:=aK h;have f3:=fun H=>aI (H:=H) (fr:=false) (f:=av) aS elen2
 obtain⟨cM,elen4,h⟩:=aK h;have f5:=fun H=>aI (H:=H) (fr:=false) (f:=av) aS elen4
 obtain⟨c6,ec6,h⟩:=aK h;have f7:=cg (k:=.i64) ec6;simp[E,f3,f5,f7,-aw,-aL];apply V;refine J.ite (b:=c6) (by simp[E]) (fun dc6=>?_) (fun dc6=>?_)
 ·replace h:=h.1 dc6;refine zE fun _ V=>?_
  simp[E,dc6];apply V;exact J.bj (v:=bool false) func100 results100 (by simp[E,dc6]) (hQ _ _ _ _ (.of (.v _)) ⟨false,h,rfl⟩)
 replace h:=h.2 dc6;apply J.skip;refine zS fun _ V=>?_
 obtain⟨len8,elen8,h⟩:=aK h;have f9:=fun H=>aI (H:=H) (fr:=false) (f:=av) aS elen8
 simp[E,f9,dc6,-aL];apply V;apply J.block;refine J.aO h (fun (sJ:Int) O H n=>match sJ with | v12=>(O 0 = .list false (s1.map av)/\O 1 = .list false (s2.map av)/\O 12=int len8/\O 13=int v12)) (by simp[E,dc6]) ?_;clear E;rintro v12 O H B K h E d;refine zE fun _ V=>?_
 obtain⟨e,g,h⟩:=aK h;have f17:=aY (k:=.i64) g;simp[E,f17,-aw];apply V;apply J.seq;refine J.ite (b:=e) (by simp[E]) (fun a=>?_) (fun a=>?_)
 ·replace h:=h.1 a;apply zK;apply J.block;refine zE fun _ V=>?_
  simp[E,a];apply V;refine J.cO ay aA bq (by decide) (by kernel_rfl) fun _ V=>?_
  obtain⟨i,h⟩:=h;obtain⟨C,j,h⟩:=aK h;have f20:=fun H=>aP (H:=H) (fr:=false) (f:=av) (k:=.i64) aS (fun _=>rfl) i j
  obtain⟨l,h⟩:=h;obtain⟨D,o,h⟩:=aK h;have f23:=fun H=>aP (H:=H) (fr:=false) (f:=av) (k:=.i64) aS (fun _=>rfl) l o
  obtain⟨p,q,h⟩:=aK h;have f25:=cg (k:=.i64) q;simp[E,f20,f23,f25,a,-ar,-aw];apply V;refine J.ite (b:=p) (by simp[E,a]) (fun c=>?_) (fun c=>?_)
  ·replace h:=h.1 c;refine zE fun _ V=>?_
   simp[E,a,c];apply V;exact J.bj (v:=bool false) func100 results100 (by simp[E,a,c]) (hQ _ _ _ _ (.of (.v _)) ⟨false,h,rfl⟩)
  replace h:=h.2 c;apply J.skip;refine zI fun _ V=>?_
  obtain⟨t,h⟩:=h;obtain⟨u,A,h⟩:=aK h;have f28:=aU t A;simp[E,f28,a,c,-aw];apply V;refine d (u) _ _ _ h (by simp[E,a,c])
 replace h:=h.2 a;refine J.exit rfl ?_;refine zE fun _ V=>?_
 simp[E,a];apply V;exact J.bj (v:=bool true) func100 results100 (by simp[E,a]) (hQ _ _ _ _ (.of (.v _)) ⟨true,h,rfl⟩)
theorem sU (s1:List Int) (s2:List Int) (hp:jo s1 s2):aC prog 100 [.list false (s1.map av),.list false (s2.map av)] (fun r=>r=bool (kc s1 s2)):=(w6 s1 s2 _ (CZ s1 s2 hp)).mono (by rintro _ ⟨_,rfl,rfl⟩;rfl)
theorem e102:a8 prog 102:=a8.of func102 (by kernel_rfl) rfl
theorem uz (s1:List aQ) (s2:List aQ) (Z:Bool->Prop) (h:jl s1 s2 Z):aC prog 102 [.list false (s1.map aQ.cells),.list false (s2.map aQ.cells)] (fun r=>∃ y:Bool,Z y/\r=bool y):=by
 unfold jl at h;refine aC.of func102 rfl ntmps102 (by simp) fun Q hQ=>?_
 refine J.cut (fun O H n=>(O 0 = .list false (s1.map aQ.cells)/\O 1 = .list false (s2.map aQ.cells))) (by simp) ?_;rintro O H U E;refine zE fun _ V=>?_
 simp[E];apply V;refine zS fun _ V=>?_
 obtain⟨bh,elen2,h⟩:=aK h;have f3:=fun H=>aI (H:=H) (fr:=false) (f:=aQ.cells) dM elen2
 obtain⟨cM,elen4,h⟩:=aK h;have f5:=fun H=>aI (H:=H) (fr:=false) (f:=aQ.cells) dM elen4
 obtain⟨c6,ec6,h⟩:=aK h;have f7:=cg (k:=.i64) ec6;simp[E,f3,f5,f7,-aw,-aL];apply V;refine J.ite (b:=c6) (by simp[E]) (fun dc6=>?_) (fun dc6=>?_)
 ·replace h:=h.1 dc6;refine zE fun _ V=>?_
  simp[E,dc6];apply V;exact J.bj (v:=bool false) func102 results102 (by simp[E,dc6]) (hQ _ _ _ _ (.of (.v _)) ⟨false,h,rfl⟩)
 replace h:=h.2 dc6;apply J.skip;refine zS fun _ V=>?_
 obtain⟨len8,elen8,h⟩:=aK h;have f9:=fun H=>aI (H:=H) (fr:=false) (f:=aQ.cells) dM elen8
 simp[E,f9,dc6,-aL];apply V;apply J.block;refine J.aO h (fun (sJ:Int) O H n=>match sJ with | v12=>(O 0 = .list false (s1.map aQ.cells)/\O 1 = .list false (s2.map aQ.cells)/\O 12=int len8/\O 13=int v12)) (by simp[E,dc6]) ?_;clear E;rintro v12 O H F K h E j;refine zE fun _ V=>?_
 obtain⟨l,o,h⟩:=aK h;have f17:=aY (k:=.i64) o;simp[E,f17,-aw];apply V;apply J.seq;refine J.ite (b:=l) (by simp[E]) (fun a=>?_) (fun a=>?_)
 ·replace h:=h.1 a;apply zK;apply J.block;refine zE fun _ V=>?_
  simp[E,a];apply V;refine J.cO ay aA bq (by decide) (by kernel_rfl) fun _ V=>?_
  obtain⟨p,h⟩:=h;obtain⟨e,q,h⟩:=aK h;have f20:=fun H=>aP (H:=H) (fr:=false) (f:=aQ.cells) (k:=.i64) dM (fun _=>rfl) p q
  obtain⟨t,h⟩:=h;obtain⟨g,u,h⟩:=aK h;have f23:=fun H=>aP (H:=H) (fr:=false) (f:=aQ.cells) (k:=.i64) dM (fun _=>rfl) t u
  obtain⟨i,A,h⟩:=aK h;simp[E,f20,f23,a,-ar];refine bf.eqS (c:=i) ay aA [.string ⟨e.name.toArray⟩,.int .i64 e.link] [.string ⟨g.name.toArray⟩,.int .i64 g.link] (xh e g) (.inr rfl) (by rw[A];rfl) (by simp[E,f20,f23,a,-ar]) (by simp[E,f20,f23,a,-ar]) ?_;simp[E,f20,f23,a,-ar];apply V;refine J.ite (b:=i) (by simp[E,a]) (fun d=>?_) (fun d=>?_)
  ·replace h:=h.1 d;refine zE fun _ V=>?_
   simp[E,a,d];apply V;exact J.bj (v:=bool false) func102 results102 (by simp[E,a,d]) (hQ _ _ _ _ (.of (.v _)) ⟨false,h,rfl⟩)
  replace h:=h.2 d;apply J.skip;refine zI fun _ V=>?_
  obtain⟨B,h⟩:=h;obtain⟨C,D,h⟩:=aK h;have f27:=aU B D;simp[E,f27,a,d,-aw];apply V;refine j (C) _ _ _ h (by simp[E,a,d])
 replace h:=h.2 a;refine J.exit rfl ?_;refine zE fun _ V=>?_
 simp[E,a];apply V;exact J.bj (v:=bool true) func102 results102 (by simp[E,a]) (hQ _ _ _ _ (.of (.v _)) ⟨true,h,rfl⟩)
theorem xS (s1:List aQ) (s2:List aQ) (hp:kv s1 s2):aC prog 102 [.list false (s1.map aQ.cells),.list false (s2.map aQ.cells)] (fun r=>r=bool (kZ s1 s2)):=(uz s1 s2 _ (yD s1 s2 hp)).mono (by rintro _ ⟨_,rfl,rfl⟩;rfl)
theorem e104:a8 prog 104:=a8.of func104 (by kernel_rfl) rfl
theorem zL (m:az) (n_:az) (Z:Bool->Prop) (h:nY m n_ Z):aC prog 104 [.agg [int m.control,int m.parent,.list false (m.links.map av)],.agg [int n_.control,int n_.parent,.list false (n_.links.map av)]] (fun r=>∃ y:Bool,Z y/\r=bool y):=by
 unfold nY at h;refine aC.of func104 rfl ntmps104 (by simp) fun Q hQ=>?_
 refine J.cut (fun O H n=>(O 0 = .agg [int m.control,int m.parent,.list false (m.links.map av)]/\O 1 = .agg [int n_.control,int n_.parent,.list false (n_.links.map av)])) (by simp) ?_;rintro O H U E;refine zE fun k' V=>?_
 simp[E];apply V;refine J.cut (fun O H n=>(O 2=pA U 2/\O 3=pA (U+1) 3)/\H (U,2)=some ⟨3,[[int m.control,int m.parent,.list false (m.links.map av)]]⟩/\H (U+1,3)=some ⟨3,[[int n_.control,int n_.parent,.list false (n_.links.map av)]]⟩) (by refine⟨?_,?_,?_⟩<;>simp[E]) ?_;clear E;rintro O H n4 ⟨E,c,d⟩;refine zE fun k' V=>?_
 obtain⟨J5,hJ6,hr7⟩:=h;have fin9:∀ (sJ:Bool) (O:Env) (H:ax) (n:Nat),J5 sJ->(match sJ with | b8=>O 4=bool b8)->J prog 104 24 k' O H n Q:=by
  rintro b8 O H q h E;replace h:=hr7 _ h;apply V;exact J.bj (v:=bool b8) func104 results104 (by simp[E]) (hQ _ _ _ _ (.of (.v _)) ⟨b8,h,rfl⟩)
 replace h:=hJ6;obtain⟨e,g,h⟩:=aK h;have f12:=eg (k:=.i64) g;rcases Bool.eq_false_or_eq_true e with a | a
 ·replace h:=h.1 a;obtain⟨i,j,h⟩:=aK h;have f14:=eg (k:=.i64) j;rcases Bool.eq_false_or_eq_true i with b | b
  ·replace h:=h.1 b;obtain⟨l,h⟩:=h;obtain⟨o,p,h⟩:=aK h;simp[E,c,d,f12,f14,a,b,-aw];refine zA (sU m.links n_.links l) e100 (.cons (cU false m.links) (.cons (cU false n_.links) .nil)) (by simp[E,c,d,f12,f14,a,b,-aw]) ?_;rintro _ rfl;rw[<- p];simp[E,c,d,f12,f14,a,b,-aw];exact fin9 (o) _ _ _ h (by simp[E,c,d,f12,f14,a,b,-aw])
  replace h:=h.2 b;simp[E,c,d,f12,f14,a,b,-aw];exact fin9 (false) _ _ _ h (by simp[E,c,d,f12,f14,a,b,-aw])
 replace h:=h.2 a;simp[E,c,d,f12,a,-aw];exact fin9 (false) _ _ _ h (by simp[E,c,d,f12,a,-aw])
theorem Fg (m:az) (n_:az) (hp:iP m n_):aC prog 104 [.agg [int m.control,int m.parent,.list false (m.links.map av)],.agg [int n_.control,int n_.parent,.list false (n_.links.map av)]] (fun r=>r=bool (jX m n_)):=(zL m n_ _ (D6 m n_ hp)).mono (by rintro _ ⟨_,rfl,rfl⟩;rfl)
theorem e103:a8 prog 103:=a8.of func103 (by kernel_rfl) rfl
theorem Fm {gF2:FuncId} {cF2:List au} (s1:List az) (s2:List az) (f2:az->az->Bool) (D2:az->az->Prop) (heF2:a8 prog gF2) (hcF2:∀ H n,bS H n cF2 cF2) (hF2:∀ z0 z1,D2 z0 z1->aC prog gF2 ((.agg [int z0.control,int z0.parent,.list false (z0.links.map av)])::(.agg [int z1.control,int z1.parent,.list false (z1.links.map av)])::cF2) (fun r=>r=bool (f2 z0 z1))) (Z:Bool->Prop) (h:uV s1 s2 f2 D2 Z):aC prog 103 [.list false (s1.map (az.cells false)),.list false (s2.map (az.cells false)),.fn (.func gF2) [] cF2] (fun r=>∃ y:Bool,Z y/\r=bool y):=by
 unfold uV at h;refine aC.of func103 rfl ntmps103 (by simp) fun Q hQ=>?_
 refine J.cut (fun O H n=>(O 0 = .list false (s1.map (az.cells false))/\O 1 = .list false (s2.map (az.cells false))/\O 2 = .fn (.func gF2) [] cF2)) (by simp) ?_;rintro O H U E;refine zE fun _ V=>?_
 simp[E];apply V;refine zS fun _ V=>?_
 obtain⟨bh,elen2,h⟩:=aK h;have f3:=fun H=>aI (H:=H) (fr:=false) (f:=(az.cells false)) b9 elen2
 obtain⟨cM,elen4,h⟩:=aK h;have f5:=fun H=>aI (H:=H) (fr:=false) (f:=(az.cells false)) b9 elen4
 obtain⟨c6,ec6,h⟩:=aK h;have f7:=cg (k:=.i64) ec6;simp[E,f3,f5,f7,-aw,-aL];apply V;refine J.ite (b:=c6) (by simp[E]) (fun dc6=>?_) (fun dc6=>?_)
 ·replace h:=h.1 dc6;refine zE fun _ V=>?_
  simp[E,dc6];apply V;exact J.bj (v:=bool false) func103 results103 (by simp[E,dc6]) (hQ _ _ _ _ (.of (.v _)) ⟨false,h,rfl⟩)
 replace h:=h.2 dc6;apply J.skip;refine zS fun _ V=>?_
 obtain⟨len8,elen8,h⟩:=aK h;have f9:=fun H=>aI (H:=H) (fr:=false) (f:=(az.cells false)) b9 elen8
 simp[E,f9,dc6,-aL];apply V;apply J.block;refine J.aO h (fun (sJ:Int) O H n=>match sJ with | v12=>(O 1 = .list false (s2.map (az.cells false))/\O 2 = .fn (.func gF2) [] cF2/\O 15 = .list false (s1.map (az.cells false))/\O 16=int len8/\O 17=int v12)) (by simp[E,dc6]) ?_;clear E;rintro v12 O H j K h E l;refine zE fun _ V=>?_
 obtain⟨o,p,h⟩:=aK h;have f17:=aY (k:=.i64) p;simp[E,f17,-aw];apply V;apply J.seq;refine J.ite (b:=o) (by simp[E]) (fun i=>?_) (fun i=>?_)
 ·replace h:=h.1 i;apply zK;apply J.block;refine zE fun _ V=>?_
  obtain⟨q,h⟩:=h;obtain⟨a,t,h⟩:=aK h;have f20:=fun H=>aP (H:=H) (fr:=false) (f:=(az.cells false)) (k:=.i64) b9 (fun _=>rfl) q t
  simp[E,f20,i,-ar];apply V;refine J.cut (fun O H n=>(O 1 = .list false (s2.map (az.cells false))/\O 2 = .fn (.func gF2) [] cF2/\O 7=int v12/\O 8=pA j 8/\O 15 = .list false (s1.map (az.cells false))/\O 16=int len8/\O 17=int v12)/\H (j,8)=some ⟨3,[[int a.control,int a.parent,.list false (a.links.map av)]]⟩) (by refine⟨?_,?_⟩<;>simp[E,f20,i,-ar]) ?_;clear E;rintro O H n22 ⟨E,c⟩;refine zE fun _ V=>?_
  obtain⟨u,h⟩:=h;obtain⟨d,A,h⟩:=aK h;have f25:=fun H=>aP (H:=H) (fr:=false) (f:=(az.cells false)) (k:=.i64) b9 (fun _=>rfl) u A
  simp[E,c,f25,-ar];apply V;refine J.cut (fun O H n=>(O 1 = .list false (s2.map (az.cells false))/\O 2 = .fn (.func gF2) [] cF2/\O 8=pA j 8/\O 9=pA n22 9/\O 15 = .list false (s1.map (az.cells false))/\O 16=int len8/\O 17=int v12)/\H (j,8)=some ⟨3,[[int a.control,int a.parent,.list false (a.links.map av)]]⟩/\H (n22,9)=some ⟨3,[[int d.control,int d.parent,.list false (d.links.map av)]]⟩) (by refine⟨?_,?_,?_⟩<;>simp[E,c,f25,-ar]) ?_;clear E c;rintro O H n27 ⟨E,c,g⟩;refine zE fun _ V=>?_
  obtain⟨B,h⟩:=h;obtain⟨r29,C,h⟩:=aK h;simp[E,c,g];refine bz.pe (xs1:=[.agg [int a.control,int a.parent,.list false (a.links.map av)],.agg [int d.control,int d.parent,.list false (d.links.map av)]]) (xs2:=[.agg [int a.control,int a.parent,.list false (a.links.map av)],.agg [int d.control,int d.parent,.list false (d.links.map av)]]) ay (hF2 a d B) heF2 (.cons (aJ.agg (.cons (.v _ _ _) (.cons (.v _ _ _) (.cons (cU false a.links) .nil)))) (.cons (aJ.agg (.cons (.v _ _ _) (.cons (.v _ _ _) (.cons (cU false d.links) .nil)))) .nil)) (hcF2 _ _) (by decide) (by decide) rfl (by simp[E,c,g]) ?_;rintro _ rfl;rw[<- C];simp[E,c,g];apply V;refine J.ite (b:=(!r29)) (by simp[E,c,g]) (fun e=>?_) (fun e=>?_)
  ·have e:r29=false:=by simpa using e
   replace h:=h.2 e;refine zE fun _ V=>?_
   simp[E,c,g,e];apply V;exact J.bj (v:=bool false) func103 results103 (by simp[E,c,g,e]) (hQ _ _ _ _ (.of (.v _)) ⟨false,h,rfl⟩)
  have e:r29=true:=by simpa using e
  replace h:=h.1 e;apply J.skip;refine zI fun _ V=>?_
  obtain⟨D,h⟩:=h;obtain⟨v31,F,h⟩:=aK h;have f32:=aU D F;simp[E,c,g,f32,e,-aw];apply V;refine l (v31) _ _ _ h (by simp[E,c,g,e])
 replace h:=h.2 i;refine J.exit rfl ?_;refine zE fun _ V=>?_
 simp[E,i];apply V;exact J.bj (v:=bool true) func103 results103 (by simp[E,i]) (hQ _ _ _ _ (.of (.v _)) ⟨true,h,rfl⟩)
theorem eqF_ok {gF2:FuncId} {cF2:List au} (s1:List az) (s2:List az) (f2:az->az->Bool) (D2:az->az->Prop) (heF2:a8 prog gF2) (hcF2:∀ H n,bS H n cF2 cF2) (hF2:∀ z0 z1,D2 z0 z1->aC prog gF2 ((.agg [int z0.control,int z0.parent,.list false (z0.links.map av)])::(.agg [int z1.control,int z1.parent,.list false (z1.links.map av)])::cF2) (fun r=>r=bool (f2 z0 z1))) (hp:uf s1 s2 f2 D2):aC prog 103 [.list false (s1.map (az.cells false)),.list false (s2.map (az.cells false)),.fn (.func gF2) [] cF2] (fun r=>r=bool (Hb s1 s2 f2 D2)):=(Fm s1 s2 f2 D2 heF2 hcF2 hF2 _ (eqF_vc s1 s2 f2 D2 hp)).mono (by rintro _ ⟨_,rfl,rfl⟩;rfl)
theorem e41:a8 prog 41:=a8.of func41 (by kernel_rfl) rfl
theorem yH (a:I) (b:I) (Z:Bool->Prop) (h:og a b Z):aC prog 41 [.agg (bC false a),.agg (bC false b)] (fun r=>∃ y:Bool,Z y/\r=bool y):=by
 unfold og at h;refine aC.of func41 rfl ntmps41 (by simp) fun Q hQ=>?_
 refine J.cut (fun O H n=>(O 0 = .agg (bC false a)/\O 1 = .agg (bC false b))) (by simp) ?_;rintro O H U E;refine zE fun k' V=>?_
 simp[E];apply V;refine J.cut (fun O H n=>(O 2=pA U 2/\O 3=pA (U+1) 3)/\H (U,2)=some ⟨6,[bC false a]⟩/\H (U+1,3)=some ⟨6,[bC false b]⟩) (by refine⟨?_,?_,?_⟩<;>simp[E]) ?_;clear E;rintro O H n4 ⟨E,e,g⟩;refine zE fun k' V=>?_
 obtain⟨J5,hJ6,hr7⟩:=h;have fin9:∀ (sJ:Bool) (O:Env) (H:ax) (n:Nat),J5 sJ->(match sJ with | b8=>O 4=bool b8)->J prog 41 45 k' O H n Q:=by
  rintro b8 O H W h E;replace h:=hr7 _ h;apply V;exact J.bj (v:=bool b8) func41 results41 (by simp[E]) (hQ _ _ _ _ (.of (.v _)) ⟨b8,h,rfl⟩)
 replace h:=hJ6;obtain⟨o,p,h⟩:=aK h;have f12:=eg (k:=.i64) p;rcases Bool.eq_false_or_eq_true o with c | c
 ·replace h:=h.1 c;obtain⟨q,t,h⟩:=aK h;have f14:=eg (k:=.i64) t;rcases Bool.eq_false_or_eq_true q with d | d
  ·replace h:=h.1 d;obtain⟨u,h⟩:=h;obtain⟨A,B,h⟩:=aK h;simp[E,e,g,f12,f14,c,d,-aw];refine zA (sU a.sites b.sites u) e100 (.cons (cU false a.sites) (.cons (cU false b.sites) .nil)) (by simp[E,e,g,f12,f14,c,d,-aw]) ?_;rintro _ rfl;rw[<- B];rcases Bool.eq_false_or_eq_true A with i | i
   ·replace h:=h.1 i;obtain⟨C,h⟩:=h;obtain⟨D,F,h⟩:=aK h;simp[E,e,g,f12,f14,c,d,i,-aw];refine zA (Ci a.outer b.outer C) e101 (.cons (BB false a.outer) (.cons (BB false b.outer) .nil)) (by simp[E,e,g,f12,f14,c,d,i,-aw]) ?_;rintro _ rfl;rw[<- F];rcases Bool.eq_false_or_eq_true D with j | j
    ·replace h:=h.1 j;obtain⟨G,h⟩:=h;obtain⟨K,L,h⟩:=aK h;simp[E,e,g,f12,f14,c,d,i,j,-aw];refine zA (xS a.inner b.inner G) e102 (.cons (Ee false a.inner) (.cons (Ee false b.inner) .nil)) (by simp[E,e,g,f12,f14,c,d,i,j,-aw]) ?_;rintro _ rfl;rw[<- L];rcases Bool.eq_false_or_eq_true K with l | l
     ·replace h:=h.1 l;obtain⟨N,h⟩:=h;obtain⟨R,T,h⟩:=aK h;simp[E,e,g,f12,f14,c,d,i,j,l,-aw];refine zA (eqF_ok a.nodes b.nodes (fun z0 z1=>jX z0 z1) (fun z0 z1=>iP z0 z1) e104 (fun _ _=>by exact .nil) (fun z0 z1 hz=>Fg z0 z1 hz) N) e103 (.cons (aJ.ji false a.nodes) (.cons (aJ.ji false b.nodes) (.cons (aJ.fnF .nil .nil) .nil))) (by simp[E,e,g,f12,f14,c,d,i,j,l,-aw]) ?_;rintro _ rfl;rw[<- T];simp[E,e,g,f12,f14,c,d,i,j,l,-aw];exact fin9 (R) _ _ _ h (by simp[E,e,g,f12,f14,c,d,i,j,l,-aw])
     replace h:=h.2 l;simp[E,e,g,f12,f14,c,d,i,j,l,-aw];exact fin9 (false) _ _ _ h (by simp[E,e,g,f12,f14,c,d,i,j,l,-aw])
    replace h:=h.2 j;simp[E,e,g,f12,f14,c,d,i,j,-aw];exact fin9 (false) _ _ _ h (by simp[E,e,g,f12,f14,c,d,i,j,-aw])
   replace h:=h.2 i;simp[E,e,g,f12,f14,c,d,i,-aw];exact fin9 (false) _ _ _ h (by simp[E,e,g,f12,f14,c,d,i,-aw])
  replace h:=h.2 d;simp[E,e,g,f12,f14,c,d,-aw];exact fin9 (false) _ _ _ h (by simp[E,e,g,f12,f14,c,d,-aw])
 replace h:=h.2 c;simp[E,e,g,f12,c,-aw];exact fin9 (false) _ _ _ h (by simp[E,e,g,f12,c,-aw])
theorem EI (a:I) (b:I) (hp:kW a b):aC prog 41 [.agg (bC false a),.agg (bC false b)] (fun r=>r=bool (lI a b)):=(yH a b _ (D4 a b hp)).mono (by rintro _ ⟨_,rfl,rfl⟩;rfl)
theorem e33:a8 prog 33:=a8.of func33 (by kernel_rfl) rfl
theorem ya (a:I) (b:I) (Z:Bool->Prop) (h:nr a b Z):aC prog 33 [.agg (bC false a),.agg (bC false b)] (fun r=>∃ y:Bool,Z y/\r=bool y):=by
 unfold nr at h;refine aC.of func33 rfl ntmps33 (by simp) fun Q hQ=>?_
 refine J.cut (fun O H n=>(O 0 = .agg (bC false a)/\O 1 = .agg (bC false b))) (by simp) ?_;rintro O H U E;refine zE fun k' V=>?_
 simp[E];apply V;refine J.cut (fun O H n=>(O 2=pA U 2/\O 3=pA (U+1) 3)/\H (U,2)=some ⟨6,[bC false a]⟩/\H (U+1,3)=some ⟨6,[bC false b]⟩) (by refine⟨?_,?_,?_⟩<;>simp[E]) ?_;clear E;rintro O H n4 ⟨E,d,e⟩;refine zS fun k' V=>?_
 obtain⟨J5,hJ6,hr7⟩:=h;have fin9:∀ (sJ:Bool) (O:Env) (H:ax) (n:Nat),J5 sJ->(match sJ with | b8=>(O 2=pA U 2/\O 3=pA (U+1) 3/\O 54=bool b8)/\H (U,2)=some ⟨6,[bC false a]⟩/\H (U+1,3)=some ⟨6,[bC false b]⟩)->J prog 33 142 k' O H n Q:=by
  rintro b8 O H e4 h ⟨E,d,e⟩;replace h:=hr7 _ h;apply V;refine J.ite (b:=b8) (by simp[E,d,e]) (fun db8=>?_) (fun db8=>?_)
  ·replace h:=h.1 db8;refine zE fun k' V=>?_
   simp[E,d,e,db8];apply V;exact J.bj (v:=bool false) func33 results33 (by simp[E,d,e,db8]) (hQ _ _ _ _ (.of (.v _)) ⟨false,h,rfl⟩)
  replace h:=h.2 db8;apply J.skip;refine zS fun k' V=>?_
  simp[E,d,e,db8];apply V;apply J.block;refine J.aO h (fun (sJ:Int) O H n=>match sJ with | i13=>(O 2=pA U 2/\O 3=pA (U+1) 3/\O 5=int i13)/\H (U,2)=some ⟨6,[bC false a]⟩/\H (U+1,3)=some ⟨6,[bC false b]⟩) (by refine⟨?_,?_,?_⟩<;>simp[E,d,e,db8]) ?_;clear E d e;rintro i13 O H e5 K h ⟨E,d,e⟩ ac;refine zS fun k' V=>?_
  obtain⟨e6,ad,h⟩:=aK h;have f18:=fun H=>aI (H:=H) (fr:=false) (f:=(az.cells false)) b9 ad
  obtain⟨af,am,h⟩:=aK h;have f20:=aY (k:=.i64) am;simp[E,d,e,f18,f20,-aw,-aL];apply V;refine J.ite (b:=af) (by simp[E,d,e]) (fun j=>?_) (fun j=>?_)
  ·replace h:=h.1 j;apply zK;apply J.block;refine J.cO ay aA bq (by decide) (by kernel_rfl) fun k' V=>?_
   obtain⟨ao,ap,aX⟩:=h;have L:∀ (sJ:Bool) (O:Env) (H:ax) (n:Nat),ao sJ->(match sJ with | N=>(O 2=pA U 2/\O 3=pA (U+1) 3/\O 5=int i13/\O 105=bool N)/\H (U,2)=some ⟨6,[bC false a]⟩/\H (U+1,3)=some ⟨6,[bC false b]⟩)->J prog 33 142 k' O H n Q:=by
    rintro N O H n26 h ⟨E,d,e⟩;replace h:=aX _ h;apply V;refine J.ite (b:=N) (by simp[E,d,e]) (fun A=>?_) (fun A=>?_)
    ·replace h:=h.1 A;refine zE fun k' V=>?_
     simp[E,d,e,A];apply V;exact J.bj (v:=bool false) func33 results33 (by simp[E,d,e,A]) (hQ _ _ _ _ (.of (.v _)) ⟨false,h,rfl⟩)
    replace h:=h.2 A;apply J.skip;refine zI fun k' V=>?_
    obtain⟨a0,h⟩:=h;obtain⟨v28,a1,h⟩:=aK h;have f29:=aU a0 a1;simp[E,d,e,f29,A,-aw];apply V;refine ac (v28) _ _ _ h (by refine⟨?_,?_,?_⟩<;>simp[E,d,e,A])
   replace h:=ap;obtain⟨a2,h⟩:=h;obtain⟨X,F,h⟩:=aK h;have f32:=fun H=>aP (H:=H) (fr:=false) (f:=(az.cells false)) (k:=.i64) b9 (fun _=>rfl) a2 F
   obtain⟨a3,h⟩:=h;obtain⟨Y,G,h⟩:=aK h;have f35:=fun H=>aP (H:=H) (fr:=false) (f:=(az.cells false)) (k:=.i64) b9 (fun _=>rfl) a3 G
   obtain⟨a4,a5,h⟩:=aK h;have f37:=cg (k:=.i64) a5;rcases Bool.eq_false_or_eq_true a4 with o | o
   ·replace h:=h.1 o;simp[E,d,e,f32,f35,f37,j,o,-ar,-aw];exact L (true) _ _ _ h (by refine⟨?_,?_,?_⟩<;>simp[E,d,e,f32,f35,f37,j,o,-ar,-aw])
   replace h:=h.2 o;obtain⟨a9,h⟩:=h;obtain⟨e7,bd,h⟩:=aK h;have be:=F.trans bd.symm;subst be;have f41:=fun H=>aP (H:=H) (fr:=false) (f:=(az.cells false)) (k:=.i64) b9 (fun _=>rfl) a9 F
   obtain⟨bi,h⟩:=h;obtain⟨e8,br,h⟩:=aK h;have bs:=G.trans br.symm;subst bs;have f45:=fun H=>aP (H:=H) (fr:=false) (f:=(az.cells false)) (k:=.i64) b9 (fun _=>rfl) bi G
   obtain⟨bv,b0,h⟩:=aK h;have f47:=cg (k:=.i64) b0;rcases Bool.eq_false_or_eq_true bv with t | t
   ·replace h:=h.1 t;simp[E,d,e,f32,f35,f37,f41,f45,f47,j,o,t,-ar,-aw];exact L (true) _ _ _ h (by refine⟨?_,?_,?_⟩<;>simp[E,d,e,f32,f35,f37,f41,f45,f47,j,o,t,-ar,-aw])
   replace h:=h.2 t;obtain⟨b1,h⟩:=h;obtain⟨fd,b2,h⟩:=aK h;have b3:=F.trans b2.symm;subst b3;have f51:=fun H=>aP (H:=H) (fr:=false) (f:=(az.cells false)) (k:=.i64) b9 (fun _=>rfl) b1 F
   obtain⟨b7,h⟩:=h;obtain⟨fl,cc,h⟩:=aK h;have ce:=G.trans cc.symm;subst ce;have f55:=fun H=>aP (H:=H) (fr:=false) (f:=(az.cells false)) (k:=.i64) b9 (fun _=>rfl) b7 G
   obtain⟨ch,h⟩:=h;obtain⟨ci,cj,h⟩:=aK h;simp[E,d,e,f32,f35,f37,f41,f45,f47,f51,f55,j,o,t,-ar,-aw];refine bf.bN ay aA (nB X.links Y.links ch) e82 (.cons (cU false X.links) (.cons (cU false Y.links) .nil)) (by decide) rfl (by simp[E,d,e,f32,f35,f37,f41,f45,f47,f51,f55,j,o,t,-ar,-aw]) ?_;rw[<- cj];simp[E,d,e,f32,f35,f37,f41,f45,f47,f51,f55,j,o,t,-ar,-aw];exact L ((!ci)) _ _ _ h (by refine⟨?_,?_,?_⟩<;>simp[E,d,e,f32,f35,f37,f41,f45,f47,f51,f55,j,o,t,-ar,-aw])
  replace h:=h.2 j;refine J.exit rfl ?_;refine zS fun k' V=>?_
  simp[E,d,e,j];apply V;apply J.block;refine J.aO h (fun (sJ:Int) O H n=>match sJ with | i60=>(O 2=pA U 2/\O 3=pA (U+1) 3/\O 6=int i60)/\H (U,2)=some ⟨6,[bC false a]⟩/\H (U+1,3)=some ⟨6,[bC false b]⟩) (by refine⟨?_,?_,?_⟩<;>simp[E,d,e,j]) ?_;clear E d e;rintro i60 O H fn K h ⟨E,d,e⟩ cl;refine zS fun k' V=>?_
  obtain⟨fo,co,h⟩:=aK h;have f65:=fun H=>aI (H:=H) (fr:=false) (f:=bg) du co
  obtain⟨cs,cv,h⟩:=aK h;have f67:=aY (k:=.i64) cv;simp[E,d,e,f65,f67,-aw,-aL];apply V;refine J.ite (b:=cs) (by simp[E,d,e]) (fun B=>?_) (fun B=>?_)
  ·replace h:=h.1 B;apply zK;apply J.block;refine J.cO ay aA bq (by decide) (by kernel_rfl) fun k' V=>?_
   obtain⟨c0,h⟩:=h;obtain⟨fs,c1,h⟩:=aK h;have f70:=fun H=>aP (H:=H) (fr:=false) (f:=bg) (k:=.i64) du (fun _=>rfl) c0 c1
   obtain⟨c2,h⟩:=h;obtain⟨fx,c3,h⟩:=aK h;have f73:=fun H=>aP (H:=H) (fr:=false) (f:=bg) (k:=.i64) du (fun _=>rfl) c2 c3
   obtain⟨ab,c4,h⟩:=aK h;have f75:=DW c4;simp[E,d,e,f70,f73,f75,B,-ar,-jw];apply V;refine J.cut (fun O H n=>(O 2=pA U 2/\O 3=pA (U+1) 3/\O 6=int i60/\O 123=bool ab)/\H (U,2)=some ⟨6,[bC false a]⟩/\H (U+1,3)=some ⟨6,[bC false b]⟩) (by refine⟨?_,?_,?_⟩<;>simp[E,d,e,f70,f73,f75,B,-ar,-jw]) ?_;clear E d e;rintro O H fy ⟨E,d,e⟩;refine J.ite (b:=ab) (by simp[E,d,e]) (fun C=>?_) (fun C=>?_)
   ·replace h:=h.1 C;refine zE fun k' V=>?_
    simp[E,d,e,C];apply V;exact J.bj (v:=bool false) func33 results33 (by simp[E,d,e,C]) (hQ _ _ _ _ (.of (.v _)) ⟨false,h,rfl⟩)
   replace h:=h.2 C;apply J.skip;refine zI fun k' V=>?_
   obtain⟨c6,h⟩:=h;obtain⟨c7,c8,h⟩:=aK h;have f79:=aU c6 c8;simp[E,d,e,f79,C,-aw];apply V;refine cl (c7) _ _ _ h (by refine⟨?_,?_,?_⟩<;>simp[E,d,e,C])
  replace h:=h.2 B;refine J.exit rfl ?_;refine zS fun k' V=>?_
  simp[E,d,e,B];apply V;apply J.block;refine J.aO h (fun (sJ:Int) O H n=>match sJ with | i82=>(O 2=pA U 2/\O 3=pA (U+1) 3/\O 7=int i82)/\H (U,2)=some ⟨6,[bC false a]⟩/\H (U+1,3)=some ⟨6,[bC false b]⟩) (by refine⟨?_,?_,?_⟩<;>simp[E,d,e,B]) ?_;clear E d e;rintro i82 O H fz K h ⟨E,d,e⟩ da;refine zS fun k' V=>?_
  obtain⟨f0,dc,h⟩:=aK h;have f87:=fun H=>aI (H:=H) (fr:=false) (f:=aQ.cells) dM dc
  obtain⟨dd,dl,h⟩:=aK h;have f89:=aY (k:=.i64) dl;simp[E,d,e,f87,f89,-aw,-aL];apply V;refine J.ite (b:=dd) (by simp[E,d,e]) (fun q=>?_) (fun q=>?_)
  ·replace h:=h.1 q;apply zK;apply J.block;refine J.cO ay aA bq (by decide) (by kernel_rfl) fun k' V=>?_
   obtain⟨dr,h⟩:=h;obtain⟨R,ds,h⟩:=aK h;have f92:=fun H=>aP (H:=H) (fr:=false) (f:=aQ.cells) (k:=.i64) dM (fun _=>rfl) dr ds
   obtain⟨d0,h⟩:=h;obtain⟨T,d1,h⟩:=aK h;have f95:=fun H=>aP (H:=H) (fr:=false) (f:=aQ.cells) (k:=.i64) dM (fun _=>rfl) d0 d1
   obtain⟨W,d2,h⟩:=aK h;simp[E,d,e,f92,f95,q,-ar];refine bf.eqS (c:=W) ay aA [.string ⟨R.name.toArray⟩,.int .i64 R.link] [.string ⟨T.name.toArray⟩,.int .i64 T.link] (xh R T) (.inr rfl) (by rw[d2];rfl) (by simp[E,d,e,f92,f95,q,-ar]) (by simp[E,d,e,f92,f95,q,-ar]) ?_;simp[E,d,e,f92,f95,q,-ar];apply V;refine J.cut (fun O H n=>(O 2=pA U 2/\O 3=pA (U+1) 3/\O 7=int i82/\O 141=bool W)/\H (U,2)=some ⟨6,[bC false a]⟩/\H (U+1,3)=some ⟨6,[bC false b]⟩) (by refine⟨?_,?_,?_⟩<;>simp[E,d,e,f92,f95,q,-ar]) ?_;clear E d e;rintro O H f1 ⟨E,d,e⟩;refine J.ite (b:=W) (by simp[E,d,e]) (fun D=>?_) (fun D=>?_)
   ·replace h:=h.1 D;refine zE fun k' V=>?_
    simp[E,d,e,D];apply V;exact J.bj (v:=bool false) func33 results33 (by simp[E,d,e,D]) (hQ _ _ _ _ (.of (.v _)) ⟨false,h,rfl⟩)
   replace h:=h.2 D;apply J.skip;refine zI fun k' V=>?_
   obtain⟨d3,h⟩:=h;obtain⟨d4,d5,h⟩:=aK h;have f100:=aU d3 d5;simp[E,d,e,f100,D,-aw];apply V;refine da (d4) _ _ _ h (by refine⟨?_,?_,?_⟩<;>simp[E,d,e,D])
  replace h:=h.2 q;refine J.exit rfl ?_;refine zE fun k' V=>?_
  simp[E,d,e,q];apply V;exact J.bj (v:=bool true) func33 results33 (by simp[E,d,e,q]) (hQ _ _ _ _ (.of (.v _)) ⟨true,h,rfl⟩)
 replace h:=hJ6;obtain⟨d6,d7,h⟩:=aK h;have f102:=cg (k:=.i64) d7;rcases Bool.eq_false_or_eq_true d6 with g | g
 ·replace h:=h.1 g;simp[E,d,e,f102,g,-aw];exact fin9 (true) _ _ _ h (by refine⟨?_,?_,?_⟩<;>simp[E,d,e,f102,g,-aw])
 replace h:=h.2 g;obtain⟨d8,d9,h⟩:=aK h;have f104:=cg (k:=.i64) d9;rcases Bool.eq_false_or_eq_true d8 with i | i
 ·replace h:=h.1 i;simp[E,d,e,f102,f104,g,i,-aw];exact fin9 (true) _ _ _ h (by refine⟨?_,?_,?_⟩<;>simp[E,d,e,f102,f104,g,i,-aw])
 replace h:=h.2 i;obtain⟨f2,eb,h⟩:=aK h;have f106:=fun H=>aI (H:=H) (fr:=false) (f:=(az.cells false)) b9 eb
 obtain⟨f3,ed,h⟩:=aK h;have f108:=fun H=>aI (H:=H) (fr:=false) (f:=(az.cells false)) b9 ed
 obtain⟨ei,el,h⟩:=aK h;have f110:=cg (k:=.i64) el;rcases Bool.eq_false_or_eq_true ei with l | l
 ·replace h:=h.1 l;simp[E,d,e,f102,f104,f106,f108,f110,g,i,l,-aw,-aL];exact fin9 (true) _ _ _ h (by refine⟨?_,?_,?_⟩<;>simp[E,d,e,f102,f104,f106,f108,f110,g,i,l,-aw,-aL])
 replace h:=h.2 l;obtain⟨f4,em,h⟩:=aK h;have f112:=fun H=>aI (H:=H) (fr:=false) (f:=bg) du em
 obtain⟨f5,en,h⟩:=aK h;have f114:=fun H=>aI (H:=H) (fr:=false) (f:=bg) du en
 obtain⟨eo,es,h⟩:=aK h;have f116:=cg (k:=.i64) es;rcases Bool.eq_false_or_eq_true eo with p | p
 ·replace h:=h.1 p;simp[E,d,e,f102,f104,f106,f108,f110,f112,f114,f116,g,i,l,p,-aw,-aL];exact fin9 (true) _ _ _ h (by refine⟨?_,?_,?_⟩<;>simp[E,d,e,f102,f104,f106,f108,f110,f112,f114,f116,g,i,l,p,-aw,-aL])
 replace h:=h.2 p;obtain⟨f6,ev,h⟩:=aK h;have f118:=fun H=>aI (H:=H) (fr:=false) (f:=aQ.cells) dM ev
 obtain⟨f7,ex,h⟩:=aK h;have f120:=fun H=>aI (H:=H) (fr:=false) (f:=aQ.cells) dM ex
 obtain⟨ey,e0,h⟩:=aK h;have f122:=cg (k:=.i64) e0;rcases Bool.eq_false_or_eq_true ey with u | u
 ·replace h:=h.1 u;simp[E,d,e,f102,f104,f106,f108,f110,f112,f114,f116,f118,f120,f122,g,i,l,p,u,-aw,-aL];exact fin9 (true) _ _ _ h (by refine⟨?_,?_,?_⟩<;>simp[E,d,e,f102,f104,f106,f108,f110,f112,f114,f116,f118,f120,f122,g,i,l,p,u,-aw,-aL])
 replace h:=h.2 u;obtain⟨e1,h⟩:=h;obtain⟨e2,e3,h⟩:=aK h;simp[E,d,e,f102,f104,f106,f108,f110,f112,f114,f116,f118,f120,f122,g,i,l,p,u,-aw,-aL];refine zA (nB a.sites b.sites e1) e82 (.cons (cU false a.sites) (.cons (cU false b.sites) .nil)) (by simp[E,d,e,f102,f104,f106,f108,f110,f112,f114,f116,f118,f120,f122,g,i,l,p,u,-aw,-aL]) ?_;rintro _ rfl;rw[<- e3];simp[E,d,e,f102,f104,f106,f108,f110,f112,f114,f116,f118,f120,f122,g,i,l,p,u,-aw,-aL];exact fin9 ((!e2)) _ _ _ h (by refine⟨?_,?_,?_⟩<;>simp[E,d,e,f102,f104,f106,f108,f110,f112,f114,f116,f118,f120,f122,g,i,l,p,u,-aw,-aL])
theorem DS (a:I) (b:I) (hp:ot a b):aC prog 33 [.agg (bC false a),.agg (bC false b)] (fun r=>r=bool (po a b)):=(ya a b _ (Fv a b hp)).mono (by rintro _ ⟨_,rfl,rfl⟩;rfl)
theorem e3:a8 prog 3:=a8.of func3 (by kernel_rfl) rfl
end Go.Ab.Vg
namespace Go.Ab.Vg
open Go.Proofs
set_option maxRecDepth 100000
attribute [local simp] az.cells aQ.cells av aT gZ bg pA
theorem yr (x:Int) (Z:Bool->Prop) (h:mr x Z):aC prog 175 [int x] (fun r=>∃ y:Bool,Z y/\r=bool y):=by
 unfold mr at h;refine aC.of func175 rfl ntmps175 (by simp) fun Q hQ=>?_
 refine J.cut (fun O H n=>O 0=int x) (by simp[]) ?_;rintro O H U E;refine zE fun _ V=>?_
 simp[E];apply V;refine zE fun _ V=>?_
 obtain⟨c2,ec2,h⟩:=aK h;have f3:=cg (k:=.i64) ec2;simp[E,f3,-aw];apply V;exact J.bj (v:=bool c2) func175 results175 (by simp[E]) (hQ _ _ _ _ (.of (.v _)) ⟨c2,h,rfl⟩)
theorem vu (x:Int)  : aC prog 175 [int x] (fun r=>r=bool (isNaN x)):=(yr x _ (Ex x )).mono (by rintro _ ⟨_,rfl,rfl⟩;rfl)
theorem CX (x:Int) (y:Int) (Z:Int->Prop) (h:pY x y Z):aC prog 161 [int x,int y] (fun r=>∃ y:Int,Z y/\r=int y):=by
 unfold pY at h;refine aC.of func161 rfl ntmps161 (by simp) fun Q hQ=>?_
 refine J.cut (fun O H n=>(O 0=int x/\O 1=int y)) (by simp[]) ?_;rintro O H U E;refine zE fun _ V=>?_
 simp[E];apply V;refine zE fun _ V=>?_
 obtain⟨r2,er2,h⟩:=aK h;simp[E];refine zA (vu x ) FH (.cons (.v _ _ _) .nil) (by simp[E]) ?_;rintro _ rfl;rw[<- er2];simp[E];apply V;refine zE fun _ V=>?_
 obtain⟨r3,er3,h⟩:=aK h;simp[E];refine zA (vu y ) FH (.cons (.v _ _ _) .nil) (by simp[E]) ?_;rintro _ rfl;rw[<- er3];simp[E];apply V;refine zS fun _ V=>?_
 simp[E];apply V;refine J.ite (b:=r2) (by simp[E]) (fun dr2=>?_) (fun dr2=>?_)
 ·replace h:=h.1 dr2;refine zS fun _ V=>?_
  simp[E,dr2];apply V;refine J.ite (b:=r3) (by simp[E,dr2]) (fun dr3=>?_) (fun dr3=>?_)
  ·replace h:=h.1 dr3;refine zE fun _ V=>?_
   simp[E,dr2,dr3];apply V;exact J.bj (v:=int 0) func161 results161 (by simp[E,dr2,dr3]) (hQ _ _ _ _ (.of (.v _)) ⟨0,h,rfl⟩)
  replace h:=h.2 dr3;apply J.skip;refine zE fun _ V=>?_
  simp[E,dr2,dr3];apply V;exact J.bj (v:=int (-1)) func161 results161 (by simp[E,dr2,dr3]) (hQ _ _ _ _ (.of (.v _)) ⟨(-1),h,rfl⟩)
 replace h:=h.2 dr2;apply J.skip;refine zS fun _ V=>?_
 simp[E,dr2];apply V;refine J.ite (b:=r3) (by simp[E,dr2]) (fun dr3=>?_) (fun dr3=>?_)
 ·replace h:=h.1 dr3;refine zE fun _ V=>?_
  simp[E,dr2,dr3];apply V;exact J.bj (v:=int 1) func161 results161 (by simp[E,dr2,dr3]) (hQ _ _ _ _ (.of (.v _)) ⟨1,h,rfl⟩)
 replace h:=h.2 dr3;apply J.skip;refine zS fun _ V=>?_
 obtain⟨c4,ec4,h⟩:=aK h;have f5:=aY (k:=.i64) ec4;simp[E,f5,dr2,dr3,-aw];apply V;refine J.ite (b:=c4) (by simp[E,dr2,dr3]) (fun dc4=>?_) (fun dc4=>?_)
 ·replace h:=h.1 dc4;refine zE fun _ V=>?_
  simp[E,dr2,dr3,dc4];apply V;exact J.bj (v:=int (-1)) func161 results161 (by simp[E,dr2,dr3,dc4]) (hQ _ _ _ _ (.of (.v _)) ⟨(-1),h,rfl⟩)
 replace h:=h.2 dc4;apply J.skip;refine zS fun _ V=>?_
 obtain⟨c6,ec6,h⟩:=aK h;have f7:=tJ (k:=.i64) ec6;simp[E,f7,dr2,dr3,dc4,-aw];apply V;refine J.cut (fun O H n=>O 19=bool c6) (by simp[E,f7,dr2,dr3,dc4,-aw]) ?_;clear E;rintro O H n8 E;refine J.ite (b:=c6) (by simp[E]) (fun dc6=>?_) (fun dc6=>?_)
 ·replace h:=h.1 dc6;refine zE fun _ V=>?_
  simp[E,dc6];apply V;exact J.bj (v:=int 1) func161 results161 (by simp[E,dc6]) (hQ _ _ _ _ (.of (.v _)) ⟨1,h,rfl⟩)
 replace h:=h.2 dc6;apply J.skip;refine zE fun _ V=>?_
 simp[E,dc6];apply V;exact J.bj (v:=int 0) func161 results161 (by simp[E,dc6]) (hQ _ _ _ _ (.of (.v _)) ⟨0,h,rfl⟩)
theorem FT (x:Int) (y:Int)  : aC prog 161 [int x,int y] (fun r=>r=int (uO x y)):=(CX x y _ (Gq x y )).mono (by rintro _ ⟨_,rfl,rfl⟩;rfl)
theorem Bn (s1:List Int) (s2:List Int) (Z:Int->Prop) (h:qa s1 s2 Z):aC prog 146 [.list false (s1.map av),.list false (s2.map av)] (fun r=>∃ y:Int,Z y/\r=int y):=by
 unfold qa at h;refine aC.of func146 rfl ntmps146 (by simp) fun Q hQ=>?_
 refine J.cut (fun O H n=>(O 0 = .list false (s1.map av)/\O 1 = .list false (s2.map av))) (by simp) ?_;rintro O H U E;refine zE fun _ V=>?_
 simp[E];apply V;refine zS fun _ V=>?_
 obtain⟨bh,elen2,h⟩:=aK h;have f3:=fun H=>aI (H:=H) (fr:=false) (f:=av) aS elen2
 simp[E,f3,-aL];apply V;apply J.block;refine J.aO h (fun (sJ:Int) O H n=>match sJ with | v6=>(O 0 = .list false (s1.map av)/\O 1 = .list false (s2.map av)/\O 9 = .list false (s1.map av)/\O 10=int bh/\O 11=int v6)) (by simp[E]) ?_;clear E;rintro v6 O H n7 K h E IH8;refine zE fun _ V=>?_
 obtain⟨l,o,h⟩:=aK h;have f11:=aY (k:=.i64) o;simp[E,f11,-aw];apply V;apply J.seq;refine J.ite (b:=l) (by simp[E]) (fun a=>?_) (fun a=>?_)
 ·replace h:=h.1 a;apply zK;apply J.block;refine zE fun _ V=>?_
  obtain⟨p,h⟩:=h;obtain⟨g,q,h⟩:=aK h;have f14:=fun H=>aP (H:=H) (fr:=false) (f:=av) (k:=.i64) aS (fun _=>rfl) p q
  simp[E,f14,a,-ar];apply V;refine zS fun _ V=>?_
  obtain⟨ab,t,h⟩:=aK h;have f16:=fun H=>aI (H:=H) (fr:=false) (f:=av) aS t
  obtain⟨u,A,h⟩:=aK h;have f18:=jM (k:=.i64) A;simp[E,f16,f18,a,-aw,-aL];apply V;refine J.ite (b:=u) (by simp[E,a]) (fun c=>?_) (fun c=>?_)
  ·replace h:=h.1 c;refine zE fun _ V=>?_
   simp[E,a,c];apply V;exact J.bj (v:=int 1) func146 results146 (by simp[E,a,c]) (hQ _ _ _ _ (.of (.v _)) ⟨1,h,rfl⟩)
  replace h:=h.2 c;apply J.skip;refine zE fun _ V=>?_
  obtain⟨B,h⟩:=h;obtain⟨i,C,h⟩:=aK h;have f21:=fun H=>aP (H:=H) (fr:=false) (f:=av) (k:=.i64) aS (fun _=>rfl) B C
  simp[E,f21,a,c,-ar];apply V;refine J.cut (fun O H n=>(O 0 = .list false (s1.map av)/\O 1 = .list false (s2.map av)/\O 6=int g/\O 7=int i/\O 9 = .list false (s1.map av)/\O 10=int bh/\O 11=int v6)) (by simp[E,f21,a,c,-ar]) ?_;clear E;rintro O H n22 E;refine zE fun _ V=>?_
  obtain⟨j,D,h⟩:=aK h;simp[E];refine zA (FT g i ) e161 (.cons (.v _ _ _) (.cons (.v _ _ _) .nil)) (by simp[E]) ?_;rintro _ rfl;rw[<- D];simp[E];apply V;refine zE fun _ V=>?_
  obtain⟨F,G,h⟩:=aK h;have f25:=cg (k:=.i64) G;simp[E,f25,-aw];apply V;refine J.ite (b:=F) (by simp[E]) (fun d=>?_) (fun d=>?_)
  ·replace h:=h.1 d;refine zE fun _ V=>?_
   simp[E,d];apply V;exact J.bj (v:=int j) func146 results146 (by simp[E,d]) (hQ _ _ _ _ (.of (.v _)) ⟨j,h,rfl⟩)
  replace h:=h.2 d;apply J.skip;refine zI fun _ V=>?_
  obtain⟨L,h⟩:=h;obtain⟨N,R,h⟩:=aK h;have f28:=aU L R;simp[E,f28,d,-aw];apply V;refine IH8 (N) _ _ _ h (by simp[E,d])
 replace h:=h.2 a;refine J.exit rfl ?_;refine zS fun _ V=>?_
 obtain⟨ac,T,h⟩:=aK h;have f30:=fun H=>aI (H:=H) (fr:=false) (f:=av) aS T
 obtain⟨ad,W,h⟩:=aK h;have f32:=fun H=>aI (H:=H) (fr:=false) (f:=av) aS W
 obtain⟨X,Y,h⟩:=aK h;have f34:=aY (k:=.i64) Y;simp[E,f30,f32,f34,a,-aw,-aL];apply V;refine J.ite (b:=X) (by simp[E,a]) (fun e=>?_) (fun e=>?_)
 ·replace h:=h.1 e;refine zE fun _ V=>?_
  simp[E,a,e];apply V;exact J.bj (v:=int (-1)) func146 results146 (by simp[E,a,e]) (hQ _ _ _ _ (.of (.v _)) ⟨(-1),h,rfl⟩)
 replace h:=h.2 e;apply J.skip;refine zE fun _ V=>?_
 simp[E,a,e];apply V;exact J.bj (v:=int 0) func146 results146 (by simp[E,a,e]) (hQ _ _ _ _ (.of (.v _)) ⟨0,h,rfl⟩)
theorem Gg (s1:List Int) (s2:List Int) (hp:rH s1 s2):aC prog 146 [.list false (s1.map av),.list false (s2.map av)] (fun r=>r=int (sH s1 s2)):=(Bn s1 s2 _ (Gz s1 s2 hp)).mono (by rintro _ ⟨_,rfl,rfl⟩;rfl)
theorem e147:a8 prog 147:=a8.of func147 (by kernel_rfl) rfl
theorem CQ (a:Int × Int × Int) (b:Int × Int × Int) (Z:Int->Prop) (h:qf a b Z):aC prog 147 [.agg [int a.1,int a.2.1,int a.2.2],.agg [int b.1,int b.2.1,int b.2.2]] (fun r=>∃ y:Int,Z y/\r=int y):=by
 unfold qf at h;refine aC.of func147 rfl ntmps147 (by simp) fun Q hQ=>?_
 refine J.cut (fun O H n=>(O 0 = .agg [int a.1,int a.2.1,int a.2.2]/\O 1 = .agg [int b.1,int b.2.1,int b.2.2])) (by simp[]) ?_;rintro O H U E;refine J.seqK ay (by decide) fun _ V=>?_
 refine bz.boxK [int a.1,int a.2.1,int a.2.2] (by decide) (by simp[E]) ?_;refine bz.boxK [int b.1,int b.2.1,int b.2.2] (by decide) (by simp[E]) ?_;refine bz.ofE ay (by decide) (by decide) ?_;simp[E];apply V;refine J.cO ay aA bq (by decide) (by kernel_rfl) fun _ V=>?_
 simp[E];refine bf.uS (fr:=true) (cs:=[int a.1,int a.2.1,int a.2.2]) ay yq (by simp) (by simp[E]) rfl (by decide) ?_;simp[E];refine bf.uS (fr:=true) (cs:=[int b.1,int b.2.1,int b.2.2]) ay yq (by simp) (by simp[E]) rfl (by decide) ?_;obtain⟨hb2,h⟩:=h;obtain⟨r3,er3,h⟩:=aK h;simp[E];refine bf.bN ay aA (Gg [a.1,a.2.1,a.2.2] [b.1,b.2.1,b.2.2] hb2) e146 (.cons (aJ.dE (fr:=true) (els:=[a.1,a.2.1,a.2.2].map av) (by simp)) (.cons (aJ.dE (fr:=true) (els:=[b.1,b.2.1,b.2.2].map av) (by simp)) .nil)) (by decide) rfl (by simp[E]) ?_;rw[<- er3];simp[E];apply V;exact J.bj (v:=int r3) func147 results147 (by simp[E]) (hQ _ _ _ _ (.of (.v _)) ⟨r3,h,rfl⟩)
theorem Gb (a:Int × Int × Int) (b:Int × Int × Int)  : aC prog 147 [.agg [int a.1,int a.2.1,int a.2.2],.agg [int b.1,int b.2.1,int b.2.2]] (fun r=>r=int (DQ a b)):=(CQ a b _ (Gn a b )).mono (by rintro _ ⟨_,rfl,rfl⟩;rfl)
theorem e116:a8 prog 116:=a8.of func116 (by kernel_rfl) rfl
theorem sO (l:List (Int × Int × Int)) (states:Int) (middle:Int) (Z:Bool->Prop) (h:ib l states middle Z):aC prog 116 [.list false (l.map aT),int states,int middle] (fun r=>∃ y:Bool,Z y/\r=bool y):=by
 unfold ib at h;refine aC.of func116 rfl ntmps116 (by simp) fun Q hQ=>?_
 refine J.cut (fun O H n=>(O 0 = .list false (l.map aT)/\O 1=int states/\O 2=int middle)) (by simp) ?_;rintro O H U E;refine zE fun k' V=>?_
 simp[E];apply V;refine zS fun k' V=>?_
 obtain⟨bh,elen2,h⟩:=aK h;have f3:=fun H=>aI (H:=H) (fr:=false) (f:=aT) fM elen2
 simp[E,f3,-aL];apply V;apply J.block;refine J.aO h (fun (sJ:Int) O H n=>match sJ with | v6=>(O 0 = .list false (l.map aT)/\O 1=int states/\O 2=int middle/\O 9 = .list false (l.map aT)/\O 10=int bh/\O 11=int v6)) (by simp[E]) ?_;clear E;rintro v6 O H n7 K h E IH8;refine zE fun k' V=>?_
 obtain⟨B,C,h⟩:=aK h;have f11:=aY (k:=.i64) C;simp[E,f11,-aw];apply V;apply J.seq;refine J.ite (b:=B) (by simp[E]) (fun j=>?_) (fun j=>?_)
 ·replace h:=h.1 j;apply zK;apply J.block;refine zE fun k' V=>?_
  obtain⟨D,h⟩:=h;obtain⟨g,F,h⟩:=aK h;have f14:=fun H=>aP (H:=H) (fr:=false) (f:=aT) (k:=.i64) fM (fun _=>rfl) D F
  simp[E,f14,j,-ar];apply V;refine J.cut (fun O H n=>(O 0 = .list false (l.map aT)/\O 1=int states/\O 2=int middle/\O 7=int v6/\O 8=pA n7 8/\O 9 = .list false (l.map aT)/\O 10=int bh/\O 11=int v6)/\H (n7,8)=some ⟨3,[[int g.1,int g.2.1,int g.2.2]]⟩) (by refine⟨?_,?_⟩<;>simp[E,f14,j,-ar]) ?_;clear E;rintro O H n16 ⟨E,c⟩;refine J.cO ay aA bq (by decide) (by kernel_rfl) fun k' V=>?_
  obtain⟨G,L,N⟩:=h;have p:∀ (sJ:Bool) (O:Env) (H:ax) (n:Nat),G sJ->(match sJ with | q=>(O 0 = .list false (l.map aT)/\O 1=int states/\O 2=int middle/\O 9 = .list false (l.map aT)/\O 10=int bh/\O 11=int v6/\O 51=bool q))->J prog 116 53 k' O H n Q:=by
   rintro q O H n22 h E;replace h:=N _ h;apply V;refine J.ite (b:=q) (by simp[E]) (fun o=>?_) (fun o=>?_)
   ·replace h:=h.1 o;refine zE fun k' V=>?_
    simp[E,o];apply V;exact J.bj (v:=bool false) func116 results116 (by simp[E,o]) (hQ _ _ _ _ (.of (.v _)) ⟨false,h,rfl⟩)
   replace h:=h.2 o;apply J.skip;refine zI fun k' V=>?_
   obtain⟨R,h⟩:=h;obtain⟨v24,T,h⟩:=aK h;have f25:=aU R T;simp[E,f25,o,-aw];apply V;refine IH8 (v24) _ _ _ h (by simp[E,o])
  replace h:=L;obtain⟨W,h⟩:=h;obtain⟨A,t,h⟩:=aK h;have f28:=fu W t;obtain⟨r29,X,h⟩:=aK h;simp[E,c,f28,-aw];refine bf.bN ay aA (db g.1 0 A ) Dg (.cons (.v _ _ _) (.cons (.v _ _ _) (.cons (.v _ _ _) .nil))) (by decide) rfl (by simp[E,c,f28,-aw]) ?_;rw[<- X];rcases Bool.eq_false_or_eq_true r29 with a | a
  ·replace h:=h.1 a;obtain⟨Y,h⟩:=h;obtain⟨v31,ab,h⟩:=aK h;have f32:=fu Y ab;obtain⟨ac,ad,h⟩:=aK h;simp[E,c,f28,f32,a,-aw];refine bf.bN ay aA (db g.2.1 0 v31 ) Dg (.cons (.v _ _ _) (.cons (.v _ _ _) (.cons (.v _ _ _) .nil))) (by decide) rfl (by simp[E,c,f28,f32,a,-aw]) ?_;rw[<- ad];rcases Bool.eq_false_or_eq_true ac with d | d
   ·replace h:=h.1 d;obtain⟨af,h⟩:=h;obtain⟨be,am,h⟩:=aK h;have ao:=t.trans am.symm;subst ao;have f37:=fu af t;obtain⟨r38,ap,h⟩:=aK h;simp[E,c,f28,f32,f37,a,d,-aw];refine bf.bN ay aA (db g.2.2 0 A ) Dg (.cons (.v _ _ _) (.cons (.v _ _ _) (.cons (.v _ _ _) .nil))) (by decide) rfl (by simp[E,c,f28,f32,f37,a,d,-aw]) ?_;rw[<- ap];rcases Bool.eq_false_or_eq_true r38 with e | e
    ·replace h:=h.1 e;obtain⟨aX,a0,h⟩:=aK h;have f40:=tJ (k:=.i64) a0;rcases Bool.eq_false_or_eq_true aX with i | i
     ·replace h:=h.1 i;obtain⟨a1,h⟩:=h;obtain⟨bi,a2,h⟩:=aK h;have f43:=fu a1 a2;obtain⟨a3,h⟩:=h;obtain⟨u,a4,h⟩:=aK h;have f46:=fun H=>aP (H:=H) (fr:=false) (f:=aT) (k:=.i64) fM (fun _=>rfl) a3 a4
      obtain⟨br,a5,h⟩:=aK h;simp[E,c,f28,f32,f37,f40,f43,f46,a,d,e,i,-ar,-aw];refine bf.bN ay aA (Gb (u.1,u.2.1,u.2.2) (g.1,g.2.1,g.2.2) ) e147 (.cons (aJ.agg (.cons (.v _ _ _) (.cons (.v _ _ _) (.cons (.v _ _ _) .nil)))) (.cons (aJ.agg (.cons (.v _ _ _) (.cons (.v _ _ _) (.cons (.v _ _ _) .nil)))) .nil)) (by decide) rfl (by simp[E,c,f28,f32,f37,f40,f43,f46,a,d,e,i,-ar,-aw]) ?_;rw[<- a5];obtain⟨a9,bd,h⟩:=aK h;have f49:=jM (k:=.i64) bd;simp[E,c,f28,f32,f37,f40,f43,f46,f49,a,d,e,i,-ar,-aw];exact p (a9) _ _ _ h (by simp[E,c,f28,f32,f37,f40,f43,f46,f49,a,d,e,i,-ar,-aw])
     replace h:=h.2 i;simp[E,c,f28,f32,f37,f40,a,d,e,i,-aw];exact p (false) _ _ _ h (by simp[E,c,f28,f32,f37,f40,a,d,e,i,-aw])
    replace h:=h.2 e;simp[E,c,f28,f32,f37,a,d,e,-aw];exact p (true) _ _ _ h (by simp[E,c,f28,f32,f37,a,d,e,-aw])
   replace h:=h.2 d;simp[E,c,f28,f32,a,d,-aw];exact p (true) _ _ _ h (by simp[E,c,f28,f32,a,d,-aw])
  replace h:=h.2 a;simp[E,c,f28,a,-aw];exact p (true) _ _ _ h (by simp[E,c,f28,a,-aw])
 replace h:=h.2 j;refine J.exit rfl ?_;refine zE fun k' V=>?_
 simp[E,j];apply V;exact J.bj (v:=bool true) func116 results116 (by simp[E,j]) (hQ _ _ _ _ (.of (.v _)) ⟨true,h,rfl⟩)
theorem xb (l:List (Int × Int × Int)) (states:Int) (middle:Int) (hp:jE l states middle):aC prog 116 [.list false (l.map aT),int states,int middle] (fun r=>r=bool (qO l states middle)):=(sO l states middle _ (vv l states middle hp)).mono (by rintro _ ⟨_,rfl,rfl⟩;rfl)
theorem e64:a8 prog 64:=a8.of func64 (by kernel_rfl) rfl
theorem sk (x:Sys) (Z:Bool->Prop) (h:ir x Z):aC prog 64 [.agg [.list false (x.states.map (I.cells false)),.list false (x.steps.map aT)]] (fun r=>∃ y:Bool,Z y/\r=bool y):=by
 unfold ir at h;refine aC.of func64 rfl ntmps64 (by simp) fun Q hQ=>?_
 refine J.cut (fun O H n=>O 0 = .agg [.list false (x.states.map (I.cells false)),.list false (x.steps.map aT)]) (by simp[I.cells,encI,aB,encS,aD]) ?_;rintro O H U E;refine zE fun k' V=>?_
 simp[E,I.cells,encI,aB,encS,aD];apply V;refine J.cut (fun O H n=>O 1=pA U 1/\H (U,1)=some ⟨2,[[.list false (x.states.map (I.cells false)),.list false (x.steps.map aT)]]⟩) (by refine⟨?_,?_⟩<;>simp[E,I.cells,encI,aB,encS,aD]) ?_;clear E;rintro O H n3 ⟨E,b⟩;refine zE fun k' V=>?_
 obtain⟨J4,hJ5,hr6⟩:=h;have fin8:∀ (sJ:Bool) (O:Env) (H:ax) (n:Nat),J4 sJ->(match sJ with | b7=>O 2=bool b7)->J prog 64 15 k' O H n Q:=by
  rintro b7 O H n9 h E;replace h:=hr6 _ h;apply V;exact J.bj (v:=bool b7) func64 results64 (by simp[E,I.cells,encI,aB,encS,aD]) (hQ _ _ _ _ (.of (.v _)) ⟨b7,h,rfl⟩)
 replace h:=hJ5;obtain⟨gk,c,h⟩:=aK h;have f11:=fun H=>aI (H:=H) (fr:=false) (f:=(I.cells false)) iR c
 obtain⟨d,e,h⟩:=aK h;simp[E,b,f11,I.cells,encI,aB,encS,aD,-aL];refine zA (db gk 1 40 ) Dg (.cons (.v _ _ _) (.cons (.v _ _ _) (.cons (.v _ _ _) .nil))) (by simp[E,b,f11,I.cells,encI,aB,encS,aD,-aL]) ?_;rintro _ rfl;rw[<- e];rcases Bool.eq_false_or_eq_true d with a | a
 ·replace h:=h.1 a;obtain⟨Fs,g,h⟩:=aK h;have i:=c.trans g.symm;subst i;have f15:=fun H=>aI (H:=H) (fr:=false) (f:=(I.cells false)) iR c
  obtain⟨j,h⟩:=h;obtain⟨l,o,h⟩:=aK h;simp[E,b,f11,f15,a,I.cells,encI,aB,encS,aD,-aL];refine zA (xb x.steps gk 6 j) e116 (.cons (aJ.dE (fr:=false) (els:=x.steps.map aT) (ej _)) (.cons (.v _ _ _) (.cons (.v _ _ _) .nil))) (by simp[E,b,f11,f15,a,I.cells,encI,aB,encS,aD,-aL]) ?_;rintro _ rfl;rw[<- o];simp[E,b,f11,f15,a,I.cells,encI,aB,encS,aD,-aL];exact fin8 (l) _ _ _ h (by simp[E,b,f11,f15,a,I.cells,encI,aB,encS,aD,-aL])
 replace h:=h.2 a;simp[E,b,f11,a,I.cells,encI,aB,encS,aD,-aL];exact fin8 (false) _ _ _ h (by simp[E,b,f11,a,I.cells,encI,aB,encS,aD,-aL])
theorem wR (x:Sys) (hp:er x):aC prog 64 [.agg [.list false (x.states.map (I.cells false)),.list false (x.steps.map aT)]] (fun r=>r=bool (rr x)):=(sk x _ (vt x hp)).mono (by rintro _ ⟨_,rfl,rfl⟩;rfl)
theorem e114:a8 prog 114:=a8.of func114 (by kernel_rfl) rfl
theorem q7 (a:Int × Int × Int) (b:Int × Int × Int) (Z:Bool->Prop) (h:gz a b Z):aC prog 114 [.agg [int a.1,int a.2.1,int a.2.2],.agg [int b.1,int b.2.1,int b.2.2]] (fun r=>∃ y:Bool,Z y/\r=bool y):=by
 unfold gz at h;refine aC.of func114 rfl ntmps114 (by simp) fun Q hQ=>?_
 refine J.cut (fun O H n=>(O 0 = .agg [int a.1,int a.2.1,int a.2.2]/\O 1 = .agg [int b.1,int b.2.1,int b.2.2])) (by simp[]) ?_;rintro O H U E;refine zE fun _ V=>?_
 simp[E];apply V;refine J.cut (fun O H n=>(O 2=pA U 2/\O 3=pA (U+1) 3)/\H (U,2)=some ⟨3,[[int a.1,int a.2.1,int a.2.2]]⟩/\H (U+1,3)=some ⟨3,[[int b.1,int b.2.1,int b.2.2]]⟩) (by refine⟨?_,?_,?_⟩<;>simp[E]) ?_;clear E;rintro O H n4 ⟨E,c,d⟩;refine zS fun _ V=>?_
 simp[E,c,d];apply V;apply J.block;apply J.loop;refine zS fun _ V=>?_
 have f5:=aY (k:=.i64) (show true=decide (0<(3:Int)) by decide);simp[E,c,d,f5,-aw];apply V;refine J.cond (b:=true) (by simp[E,c,d]) ?_;simp only[if_true,if_false,Bool.false_eq_true,↓reduceIte];apply zK;apply J.block;refine J.cO ay aA bq (by decide) (by kernel_rfl) fun _ V=>?_
 obtain⟨c6,ec6,h⟩:=aK h;have f7:=cg (k:=.i64) ec6;simp[E,c,d,f7,-aw];apply V;refine J.ite (b:=c6) (by simp[E,c,d]) (fun dc6=>?_) (fun dc6=>?_)
 ·replace h:=h.1 dc6;refine J.cO ay aA bq (by decide) (by kernel_rfl) fun _ V=>?_
  obtain⟨c8,ec8,h⟩:=aK h;have f9:=aY (k:=.i64) ec8;simp[E,c,d,f9,dc6,-aw];apply V;refine J.cut (fun O H n=>O 4=bool c8) (by simp[E,c,d,f9,dc6,-aw]) ?_;clear E c d;rintro O H A E;exact J.bj (v:=bool c8) func114 results114 (by simp[E]) (hQ _ _ _ _ (.of (.v _)) ⟨c8,h,rfl⟩)
 replace h:=h.2 dc6;apply J.skip;refine zI fun _ V=>?_
 have f11:=aU (show bB ((0:Int)+1) from ⟨by decide,by decide⟩) (show (1:Int)=(0:Int)+1 by decide);simp[E,c,d,f11,dc6,-aw];apply V;apply J.inLoop;refine zS fun _ V=>?_
 have f12:=aY (k:=.i64) (show true=decide (1<(3:Int)) by decide);simp[E,c,d,f12,dc6,-aw];apply V;refine J.cut (fun O H n=>(O 2=pA U 2/\O 3=pA (U+1) 3/\O 5=int 1/\O 7=bool true)/\H (U,2)=some ⟨3,[[int a.1,int a.2.1,int a.2.2]]⟩/\H (U+1,3)=some ⟨3,[[int b.1,int b.2.1,int b.2.2]]⟩) (by refine⟨?_,?_,?_⟩<;>simp[E,c,d,f12,dc6,-aw]) ?_;clear E c d;rintro O H B ⟨E,c,d⟩;refine J.cond (b:=true) (by simp[E,c,d]) ?_;simp only[if_true,if_false,Bool.false_eq_true,↓reduceIte];apply zK;apply J.block;refine J.cO ay aA bq (by decide) (by kernel_rfl) fun _ V=>?_
 obtain⟨o,p,h⟩:=aK h;have f15:=cg (k:=.i64) p;simp[E,c,d,f15,-aw];apply V;refine J.ite (b:=o) (by simp[E,c,d]) (fun g=>?_) (fun g=>?_)
 ·replace h:=h.1 g;refine J.cO ay aA bq (by decide) (by kernel_rfl) fun _ V=>?_
  obtain⟨i,q,h⟩:=aK h;have f17:=aY (k:=.i64) q;simp[E,c,d,f17,g,-aw];apply V;refine J.cut (fun O H n=>O 4=bool i) (by simp[E,c,d,f17,g,-aw]) ?_;clear E c d;rintro O H n18 E;exact J.bj (v:=bool i) func114 results114 (by simp[E]) (hQ _ _ _ _ (.of (.v _)) ⟨i,h,rfl⟩)
 replace h:=h.2 g;apply J.skip;refine zI fun _ V=>?_
 have f19:=aU (show bB ((1:Int)+1) from ⟨by decide,by decide⟩) (show (2:Int)=(1:Int)+1 by decide);simp[E,c,d,f19,g,-aw];apply V;apply J.inLoop;refine zS fun _ V=>?_
 have f20:=aY (k:=.i64) (show true=decide (2<(3:Int)) by decide);simp[E,c,d,f20,g,-aw];apply V;refine J.cond (b:=true) (by simp[E,c,d,g]) ?_;simp only[if_true,if_false,Bool.false_eq_true,↓reduceIte];apply zK;apply J.block;refine J.cO ay aA bq (by decide) (by kernel_rfl) fun _ V=>?_
 obtain⟨j,t,h⟩:=aK h;have f22:=cg (k:=.i64) t;simp[E,c,d,f22,-aw];apply V;refine J.cut (fun O H n=>(O 2=pA U 2/\O 3=pA (U+1) 3/\O 5=int 2/\O 16=bool j)/\H (U,2)=some ⟨3,[[int a.1,int a.2.1,int a.2.2]]⟩/\H (U+1,3)=some ⟨3,[[int b.1,int b.2.1,int b.2.2]]⟩) (by refine⟨?_,?_,?_⟩<;>simp[E,c,d,f22,-aw]) ?_;clear E c d;rintro O H n23 ⟨E,c,d⟩;refine J.ite (b:=j) (by simp[E,c,d]) (fun e=>?_) (fun e=>?_)
 ·replace h:=h.1 e;refine J.cO ay aA bq (by decide) (by kernel_rfl) fun _ V=>?_
  obtain⟨l,u,h⟩:=aK h;have f25:=aY (k:=.i64) u;simp[E,c,d,f25,e,-aw];apply V;exact J.bj (v:=bool l) func114 results114 (by simp[E,c,d,e]) (hQ _ _ _ _ (.of (.v _)) ⟨l,h,rfl⟩)
 replace h:=h.2 e;apply J.skip;refine zI fun _ V=>?_
 have f26:=aU (show bB ((2:Int)+1) from ⟨by decide,by decide⟩) (show (3:Int)=(2:Int)+1 by decide);simp[E,c,d,f26,e,-aw];apply V;apply J.inLoop;refine zS fun _ V=>?_
 have f27:=aY (k:=.i64) (show false=decide (3<(3:Int)) by decide);simp[E,c,d,f27,e,-aw];apply V;refine J.cond (b:=false) (by simp[E,c,d,e]) ?_;simp only[if_true,if_false,Bool.false_eq_true,↓reduceIte];refine J.exit rfl ?_;refine zE fun _ V=>?_
 simp[E,c,d,e];apply V;exact J.bj (v:=bool false) func114 results114 (by simp[E,c,d,e]) (hQ _ _ _ _ (.of (.v _)) ⟨false,h,rfl⟩)
theorem tZ (a:Int × Int × Int) (b:Int × Int × Int)  : aC prog 114 [.agg [int a.1,int a.2.1,int a.2.2],.agg [int b.1,int b.2.1,int b.2.2]] (fun r=>r=bool (kC a b)):=(q7 a b _ (tO a b )).mono (by rintro _ ⟨_,rfl,rfl⟩;rfl)
theorem e59:a8 prog 59:=a8.of func59 (by kernel_rfl) rfl
theorem tK (x:Sys) (Z:Bool->Prop) (h:jP x Z):aC prog 59 [.agg [.list false (x.states.map (I.cells false)),.list false (x.steps.map aT)]] (fun r=>∃ y:Bool,Z y/\r=bool y):=by
 unfold jP at h;refine aC.of func59 rfl ntmps59 (by simp) fun Q hQ=>?_
 refine J.cut (fun O H n=>O 0 = .agg [.list false (x.states.map (I.cells false)),.list false (x.steps.map aT)]) (by simp[I.cells,encI,aB,encS,aD]) ?_;rintro O H U E;refine zE fun k' V=>?_
 simp[E,I.cells,encI,aB,encS,aD];apply V;refine J.cut (fun O H n=>O 1=pA U 1/\H (U,1)=some ⟨2,[[.list false (x.states.map (I.cells false)),.list false (x.steps.map aT)]]⟩) (by refine⟨?_,?_⟩<;>simp[E,I.cells,encI,aB,encS,aD]) ?_;clear E;rintro O H n3 ⟨E,a⟩;refine zE fun k' V=>?_
 obtain⟨cM,elen4,h⟩:=aK h;have f5:=fun H=>aI (H:=H) (fr:=false) (f:=(I.cells false)) iR elen4
 simp[E,a,f5,I.cells,encI,aB,encS,aD,-aL];apply V;refine zS fun k' V=>?_
 simp[E,a,I.cells,encI,aB,encS,aD];apply V;apply J.block;refine J.aO h (fun (sJ:Int) O H n=>match sJ with | i8=>(O 1=pA U 1/\O 3=int cM/\O 4=int i8)/\H (U,1)=some ⟨2,[[.list false (x.states.map (I.cells false)),.list false (x.steps.map aT)]]⟩) (by refine⟨?_,?_⟩<;>simp[E,a,I.cells,encI,aB,encS,aD]) ?_;clear E a;rintro i8 O H n9 K h ⟨E,a⟩ B;refine zS fun k' V=>?_
 obtain⟨pk,C,h⟩:=aK h;have f13:=fun H=>aI (H:=H) (fr:=false) (f:=aT) fM C
 obtain⟨D,F,h⟩:=aK h;have f15:=aY (k:=.i64) F;simp[E,a,f13,f15,I.cells,encI,aB,encS,aD,-aw,-aL];apply V;refine J.ite (b:=D) (by simp[E,a,I.cells,encI,aB,encS,aD]) (fun i=>?_) (fun i=>?_)
 ·replace h:=h.1 i;apply zK;apply J.block;refine zE fun k' V=>?_
  obtain⟨G,h⟩:=h;obtain⟨j,L,h⟩:=aK h;have f18:=fun H=>aP (H:=H) (fr:=false) (f:=aT) (k:=.i64) fM (fun _=>rfl) G L
  simp[E,a,f18,i,I.cells,encI,aB,encS,aD,-ar];apply V;refine J.cut (fun O H n=>(O 1=pA U 1/\O 3=int cM/\O 4=int i8/\O 5=pA n9 5)/\H (U,1)=some ⟨2,[[.list false (x.states.map (I.cells false)),.list false (x.steps.map aT)]]⟩/\H (n9,5)=some ⟨3,[[int j.1,int j.2.1,int j.2.2]]⟩) (by refine⟨?_,?_,?_⟩<;>simp[E,a,f18,i,I.cells,encI,aB,encS,aD,-ar]) ?_;clear E a;rintro O H n20 ⟨E,a,d⟩;refine J.cO ay aA bq (by decide) (by kernel_rfl) fun k' V=>?_
  obtain⟨N,R,T⟩:=h;have p:∀ (sJ:Bool) (O:Env) (H:ax) (n:Nat),N sJ->(match sJ with | q=>(O 1=pA U 1/\O 3=int cM/\O 4=int i8/\O 55=bool q)/\H (U,1)=some ⟨2,[[.list false (x.states.map (I.cells false)),.list false (x.steps.map aT)]]⟩)->J prog 59 58 k' O H n Q:=by
   rintro q O H n26 h ⟨E,a⟩;replace h:=T _ h;apply V;refine J.ite (b:=q) (by simp[E,a,I.cells,encI,aB,encS,aD]) (fun o=>?_) (fun o=>?_)
   ·replace h:=h.1 o;refine zE fun k' V=>?_
    simp[E,a,o,I.cells,encI,aB,encS,aD];apply V;exact J.bj (v:=bool false) func59 results59 (by simp[E,a,o,I.cells,encI,aB,encS,aD]) (hQ _ _ _ _ (.of (.v _)) ⟨false,h,rfl⟩)
   replace h:=h.2 o;apply J.skip;refine zI fun k' V=>?_
   obtain⟨W,h⟩:=h;obtain⟨v28,X,h⟩:=aK h;have f29:=aU W X;simp[E,a,f29,o,I.cells,encI,aB,encS,aD,-aw];apply V;refine B (v28) _ _ _ h (by refine⟨?_,?_⟩<;>simp[E,a,o,I.cells,encI,aB,encS,aD])
  replace h:=R;obtain⟨Y,h⟩:=h;obtain⟨v31,t,h⟩:=aK h;have f32:=fu Y t;obtain⟨ab,ac,h⟩:=aK h;simp[E,a,d,f32,I.cells,encI,aB,encS,aD,-aw];refine bf.bN ay aA (et j.1 0 v31) Bo (.cons (.v _ _ _) (.cons (.v _ _ _) (.cons (.v _ _ _) .nil))) (by decide) rfl (by simp[E,a,d,f32,I.cells,encI,aB,encS,aD,-aw]) ?_;rw[<- ac];rcases Bool.eq_false_or_eq_true ab with c | c
  ·replace h:=h.1 c;obtain⟨ad,af,h⟩:=aK h;simp[E,a,d,f32,c,I.cells,encI,aB,encS,aD,-aw];refine bf.bN ay aA (et j.2.1 0 5) Bo (.cons (.v _ _ _) (.cons (.v _ _ _) (.cons (.v _ _ _) .nil))) (by decide) rfl (by simp[E,a,d,f32,c,I.cells,encI,aB,encS,aD,-aw]) ?_;rw[<- af];rcases Bool.eq_false_or_eq_true ad with e | e
   ·replace h:=h.1 e;obtain⟨am,h⟩:=h;obtain⟨br,ao,h⟩:=aK h;have ap:=t.trans ao.symm;subst ap;have f38:=fu am t;obtain⟨aX,a0,h⟩:=aK h;simp[E,a,d,f32,f38,c,e,I.cells,encI,aB,encS,aD,-aw];refine bf.bN ay aA (et j.2.2 0 v31) Bo (.cons (.v _ _ _) (.cons (.v _ _ _) (.cons (.v _ _ _) .nil))) (by decide) rfl (by simp[E,a,d,f32,f38,c,e,I.cells,encI,aB,encS,aD,-aw]) ?_;rw[<- a0];rcases Bool.eq_false_or_eq_true aX with g | g
    ·replace h:=h.1 g;obtain⟨a1,a2,h⟩:=aK h;have f41:=tJ (k:=.i64) a2;rcases Bool.eq_false_or_eq_true a1 with l | l
     ·replace h:=h.1 l;obtain⟨a3,h⟩:=h;obtain⟨bs,a4,h⟩:=aK h;have f44:=fu a3 a4;obtain⟨a5,h⟩:=h;obtain⟨u,a9,h⟩:=aK h;have f47:=fun H=>aP (H:=H) (fr:=false) (f:=aT) (k:=.i64) fM (fun _=>rfl) a5 a9
      obtain⟨bd,be,h⟩:=aK h;simp[E,a,d,f32,f38,f41,f44,f47,c,e,g,l,I.cells,encI,aB,encS,aD,-ar,-aw];refine bf.bN ay aA (tZ (u.1,u.2.1,u.2.2) (j.1,j.2.1,j.2.2) ) e114 (.cons (aJ.agg (.cons (.v _ _ _) (.cons (.v _ _ _) (.cons (.v _ _ _) .nil)))) (.cons (aJ.agg (.cons (.v _ _ _) (.cons (.v _ _ _) (.cons (.v _ _ _) .nil)))) .nil)) (by decide) rfl (by simp[E,a,d,f32,f38,f41,f44,f47,c,e,g,l,I.cells,encI,aB,encS,aD,-ar,-aw]) ?_;rw[<- be];simp[E,a,d,f32,f38,f41,f44,f47,c,e,g,l,I.cells,encI,aB,encS,aD,-ar,-aw];exact p ((!bd)) _ _ _ h (by refine⟨?_,?_⟩<;>simp[E,a,d,f32,f38,f41,f44,f47,c,e,g,l,I.cells,encI,aB,encS,aD,-ar,-aw])
     replace h:=h.2 l;simp[E,a,d,f32,f38,f41,c,e,g,l,I.cells,encI,aB,encS,aD,-aw];exact p (false) _ _ _ h (by refine⟨?_,?_⟩<;>simp[E,a,d,f32,f38,f41,c,e,g,l,I.cells,encI,aB,encS,aD,-aw])
    replace h:=h.2 g;simp[E,a,d,f32,f38,c,e,g,I.cells,encI,aB,encS,aD,-aw];exact p (true) _ _ _ h (by refine⟨?_,?_⟩<;>simp[E,a,d,f32,f38,c,e,g,I.cells,encI,aB,encS,aD,-aw])
   replace h:=h.2 e;simp[E,a,d,f32,c,e,I.cells,encI,aB,encS,aD,-aw];exact p (true) _ _ _ h (by refine⟨?_,?_⟩<;>simp[E,a,d,f32,c,e,I.cells,encI,aB,encS,aD,-aw])
  replace h:=h.2 c;simp[E,a,d,f32,c,I.cells,encI,aB,encS,aD,-aw];exact p (true) _ _ _ h (by refine⟨?_,?_⟩<;>simp[E,a,d,f32,c,I.cells,encI,aB,encS,aD,-aw])
 replace h:=h.2 i;refine J.exit rfl ?_;refine zE fun k' V=>?_
 obtain⟨A,bi,h⟩:=aK h;simp[E,a,i,I.cells,encI,aB,encS,aD];refine zA (et cM 1 40) Bo (.cons (.v _ _ _) (.cons (.v _ _ _) (.cons (.v _ _ _) .nil))) (by simp[E,a,i,I.cells,encI,aB,encS,aD]) ?_;rintro _ rfl;rw[<- bi];simp[E,a,i,I.cells,encI,aB,encS,aD];apply V;exact J.bj (v:=bool A) func59 results59 (by simp[E,a,i,I.cells,encI,aB,encS,aD]) (hQ _ _ _ _ (.of (.v _)) ⟨A,h,rfl⟩)
theorem zU (x:Sys) (hp:kB x):aC prog 59 [.agg [.list false (x.states.map (I.cells false)),.list false (x.steps.map aT)]] (fun r=>r=bool (nz x)):=(tK x _ (yG x hp)).mono (by rintro _ ⟨_,rfl,rfl⟩;rfl)
theorem e62:a8 prog 62:=a8.of func62 (by kernel_rfl) rfl
theorem pL (a:List I) (Z:(List I)->Prop) (h:fH a Z):bG prog 62 [.list false (a.map (I.cells false))] (.s [.c,.s [.c,.c,.s [.c]],.s [.c],.c,.s [.c],.s [.c,.c]]) (fun r=>∃ y:List I,Z y/\r = .list true (y.map (I.cells true))):=by
 unfold fH at h;have M:Sep bw 0 [] []:=Sep.nil (by simp);refine bG.of func62 rfl ntmps62 (by simp) fun Q hQ=>?_
 refine J.cut (fun O H n=>O 0 = .list false (a.map (I.cells false))/\Sep H n [] []) (by refine⟨by simp[I.cells,encI,aB,encS,aD],M⟩) ?_;rintro O H U ⟨E,M⟩;refine zE fun _ V=>?_
 simp[E,I.cells,encI,aB,encS,aD];apply V;refine zE fun _ V=>?_
 obtain⟨bh,elen2,h⟩:=aK h;have f3:=fun H=>aI (H:=H) (fr:=false) (f:=(I.cells false)) q0 elen2
 obtain⟨hb4,h⟩:=h;obtain⟨l5,el5,h⟩:=aK h;simp[E,f3,hb4,el5,I.cells,encI,aB,encS,aD,-aL];apply V;refine J.cut (fun O H n=>∃ (v7:au),(O 0 = .list false (a.map (I.cells false))/\O 3=v7)/\Sep H n [oE [.c,.s [.c,.c,.s [.c]],.s [.c],.c,.s [.c],.s [.c,.c]] (I.cells true) v7 l5] []) (by refine⟨.arr (U,7) bh.toNat 0 bh.toNat,by simp[E,f3,hb4,el5,I.cells,encI,aB,encS,aD,-aL],(Sep.bx (z:=[int 0,.v (.slice none 0 0),.v (.slice none 0 0),int 0,.v (.slice none 0 0),.v (.slice none 0 0)]) (f:=(I.cells true)) (k:=bh.toNat) el5 M (fun H=>by show Row H [.c,.s [.c,.c,.s [.c]],.s [.c],.c,.s [.c],.s [.c,.c]] [int 0,.v (.slice none 0 0),.v (.slice none 0 0),int 0,.v (.slice none 0 0),.v (.slice none 0 0)] [int 0,.list true [],.list true [],int 0,.list true [],.list true []] [];simp[Row,Tr]))⟩) ?_;clear E;rintro O H n8 ⟨v7,E,M⟩;refine zS fun _ V=>?_
 simp[E,I.cells,encI,aB,encS,aD];apply V;apply J.block;refine J.aO h (fun (sJ:Int × (List I)) O H n=>match sJ with | (i16,g)=>∃ (i:au),(O 0 = .list false (a.map (I.cells false))/\O 3=i/\O 4=int i16)/\Sep H n [oE [.c,.s [.c,.c,.s [.c]],.s [.c],.c,.s [.c],.s [.c,.c]] (I.cells true) i g] []) (by refine⟨v7,by simp[E,I.cells,encI,aB,encS,aD],M⟩) ?_;clear E;rintro⟨i16,g⟩ O H n19 K h ⟨i,E,M⟩ N;refine zS fun _ V=>?_
 obtain⟨bi,R,h⟩:=aK h;have f23:=fun H=>aI (H:=H) (fr:=false) (f:=(I.cells false)) q0 R
 obtain⟨T,W,h⟩:=aK h;have f25:=aY (k:=.i64) W;simp[E,f23,f25,I.cells,encI,aB,encS,aD,-aw,-aL];apply V;refine J.ite (b:=T) (by simp[E,I.cells,encI,aB,encS,aD]) (fun e=>?_) (fun e=>?_)
 ·replace h:=h.1 e;apply zK;apply J.block;refine zF fun _ V=>?_
  obtain⟨X,h⟩:=h;obtain⟨B,Y,h⟩:=aK h;have f28:=fun H=>aP (H:=H) (fr:=false) (f:=(I.cells false)) (k:=.i64) q0 (fun _=>rfl) X Y
  obtain⟨ab,h⟩:=h;obtain⟨r30,ac,h⟩:=aK h;simp[E,f28,e,I.cells,encI,aB,encS,aD,-ar];refine zW (fi B ab) e11 (.cons (cN false B) .nil) M (by simp[E,f28,e,I.cells,encI,aB,encS,aD,-ar]) ?_;rintro v31 br n33 _ M rfl bs bv;rw[<- ac] at M;replace M:=Sep.unpack M;obtain⟨L43,hv,ad,M⟩:=M;subst hv;obtain⟨v37,af,am,v40,ao,ap,hv⟩:=a7 (by simpa using ad);subst hv;simp only[gp,List.cons_append,List.nil_append] at M;replace M:=Sep.scalar M;obtain⟨hv,M⟩:=M;subst hv;replace M:=Sep.oo M;replace M:=Sep.oo M;replace M:=Sep.scalar M;obtain⟨hv,M⟩:=M;subst hv;replace M:=Sep.oo M;replace M:=Sep.oo M;try simp only[List.append_eq,List.cons_append,List.nil_append,List.append_assoc] at M
  obtain⟨C,h⟩:=h;obtain⟨d,aX,h⟩:=aK h;obtain⟨D,bC,b0,a0,l,F,G,a1,a2,b1,b2,b3,j,b7⟩:=Sep.rowF (q:=i16.toNat) (f:=(I.cells true)) M C aX rfl;subst l;obtain⟨a3,o,p,L,t,u,l⟩:=a7 (by simpa using a2);subst l;replace j:Sep _ _ [(.c,a3,int d.roots),(.s [.c,.c,.s [.c]],o,.list true (d.nodes.map (az.cells true))),(.s [.c],p,.list true (d.sites.map av)),(.c,L,int d.edges),(.s [.c],t,.list true (d.outer.map bg)),(.s [.c,.c],u,.list true (d.inner.map aQ.cells))] a0:=j;obtain rfl:=Sep.cAt (K1:=[]) (K2:=[(.s [.c,.c,.s [.c]],o,.list true (d.nodes.map (az.cells true))),(.s [.c],p,.list true (d.sites.map av)),(.c,L,int d.edges),(.s [.c],t,.list true (d.outer.map bg)),(.s [.c,.c],u,.list true (d.inner.map aQ.cells))]) j;obtain rfl:=Sep.cAt (K1:=[(.c,int d.roots,int d.roots),(.s [.c,.c,.s [.c]],o,.list true (d.nodes.map (az.cells true))),(.s [.c],p,.list true (d.sites.map av))]) (K2:=[(.s [.c],t,.list true (d.outer.map bg)),(.s [.c,.c],u,.list true (d.inner.map aQ.cells))]) j;have f71:=cH (k:=.i64) (off:=0) (len:=g.length) iR F G rfl C;obtain⟨A,a4,h⟩:=aK h;simp[E,F,G,a1,f28,f71,e,I.cells,encI,aB,encS,aD,-ar,-cq];refine cL (q:=i16.toNat) (news:=(I.cells true) r30) [oN af r30.nodes,oI am r30.sites,oS ao r30.outer,oW ap r30.inner] [] M (by simp) (by simp;omega) (by simp) (by simp[-aM,bu,Sep.aM M.dr,Sep.aM M.dr.dr,Sep.aM M.dr.dr.dr,Sep.aM M.dr.dr.dr.dr]) (bb.v _ (bb.own (bb.own (bb.v _ (bb.own (bb.own bb.nil)))))) ?_;rintro a5 M b8;replace M:Sep a5 n33 [oE [.c,.s [.c,.c,.s [.c]],.s [.c],.c,.s [.c],.s [.c,.c]] (I.cells true) (.arr D g.length 0 g.length) A] []:=Sep.st a4 M;simp[E,f28,f71,e,I.cells,encI,aB,encS,aD,-ar];apply V;refine J.cut (fun O H n=>∃ (v76:au),(O 0 = .list false (a.map (I.cells false))/\O 3=v76/\O 4=int i16)/\Sep H n [oE [.c,.s [.c,.c,.s [.c]],.s [.c],.c,.s [.c],.s [.c,.c]] (I.cells true) v76 A] []) (by refine⟨.arr D g.length 0 g.length,by simp[E,f28,f71,e,I.cells,encI,aB,encS,aD,-ar],M⟩) ?_;clear E;rintro O H cc ⟨v76,E,M⟩;refine zI fun _ V=>?_
  obtain⟨a9,h⟩:=h;obtain⟨bd,be,h⟩:=aK h;have f80:=aU a9 be;simp[E,f80,I.cells,encI,aB,encS,aD,-aw];apply V;refine N (bd,A) _ _ _ h (by refine⟨v76,by simp[E,I.cells,encI,aB,encS,aD],M⟩)
 replace h:=h.2 e;refine J.exit rfl ?_;refine zE fun _ V=>?_
 simp[E,e,I.cells,encI,aB,encS,aD];apply V;exact J.bj (v:=i) func62 results62 (by simp[E,e,I.cells,encI,aB,encS,aD]) (hQ _ _ _ _ (Sep.sub (dK:=[]) M (by simp)) ⟨g,h,rfl⟩)
theorem sm (a:List I) (hp:fe a):bG prog 62 [.list false (a.map (I.cells false))] (.s [.c,.s [.c,.c,.s [.c]],.s [.c],.c,.s [.c],.s [.c,.c]]) (fun r=>r = .list true ((mn a).map (I.cells true))):=(pL a _ (sK a hp)).mono (by rintro _ ⟨_,rfl,rfl⟩;rfl)
theorem e115:a8 prog 115:=a8.of func115 (by kernel_rfl) rfl
theorem uX (a:Int × Int × Int) (Z:(Int × Int × Int)->Prop) (h:jy a Z):aC prog 115 [.agg [int a.1,int a.2.1,int a.2.2]] (fun r=>∃ y:Int × Int × Int,Z y/\r = .agg [int y.1,int y.2.1,int y.2.2]):=by
 unfold jy at h;refine aC.of func115 rfl ntmps115 (by simp) fun Q hQ=>?_
 refine J.cut (fun O H n=>O 0 = .agg [int a.1,int a.2.1,int a.2.2]) (by simp[]) ?_;rintro O H U E;refine zE fun _ V=>?_
 simp[E];apply V;refine J.cut (fun O H n=>(O 1=pA U 1/\O 2=pA (U+1) 2)/\H (U,1)=some ⟨3,[[int a.1,int a.2.1,int a.2.2]]⟩/\H (U+1,2)=some ⟨3,[[int 0,int 0,int 0]]⟩) (by refine⟨?_,?_,?_⟩<;>simp[E]) ?_;clear E;rintro O H n4 ⟨E,d,c⟩;refine zE fun _ V=>?_
 simp[E,d,c];apply V;refine J.cut (fun O H n=>(O 1=pA U 1/\O 2=pA (U+1) 2/\O 3=pA n4 3)/\H (U,1)=some ⟨3,[[int a.1,int a.2.1,int a.2.2]]⟩/\H (U+1,2)=some ⟨3,[[int 0,int 0,int 0]]⟩/\H (n4,3)=some ⟨3,[[int 0,int 0,int 0]]⟩) (by refine⟨?_,?_,?_,?_⟩<;>simp[E,d,c]) ?_;clear E d c;rintro O H n6 ⟨E,d,c,e⟩;refine zS fun _ V=>?_
 simp[E,d,c,e];apply V;apply J.block;apply J.loop;refine zS fun _ V=>?_
 have f7:=aY (k:=.i64) (show true=decide (0<(3:Int)) by decide);simp[E,d,c,e,f7,-aw];apply V;refine J.cond (b:=true) (by simp[E,d,c,e]) ?_;simp only[if_true,if_false,Bool.false_eq_true,↓reduceIte];apply zK;apply J.block;refine zF fun _ V=>?_
 simp[E,d,c,e];apply V;refine J.cut (fun O H n=>(O 1=pA U 1/\O 2=pA (U+1) 2/\O 3=pA n4 3/\O 4=int 0)/\H (U,1)=some ⟨3,[[int a.1,int a.2.1,int a.2.2]]⟩/\H (U+1,2)=some ⟨3,[[int 0,int 0,int 0]]⟩/\H (n4,3)=some ⟨3,[[int a.1,int 0,int 0]]⟩) (by refine⟨?_,?_,?_,?_⟩<;>simp[E,d,c,e]) ?_;clear E d c e;rintro O H n8 ⟨E,d,c,e⟩;refine zI fun _ V=>?_
 have f9:=aU (show bB ((0:Int)+1) from ⟨by decide,by decide⟩) (show (1:Int)=(0:Int)+1 by decide);simp[E,d,c,e,f9,-aw];apply V;apply J.inLoop;refine zS fun _ V=>?_
 have f10:=aY (k:=.i64) (show true=decide (1<(3:Int)) by decide);simp[E,d,c,e,f10,-aw];apply V;refine J.cond (b:=true) (by simp[E,d,c,e]) ?_;simp only[if_true,if_false,Bool.false_eq_true,↓reduceIte];apply zK;apply J.block;refine zF fun _ V=>?_
 simp[E,d,c,e];apply V;refine J.cut (fun O H n=>(O 1=pA U 1/\O 2=pA (U+1) 2/\O 3=pA n4 3/\O 4=int 1)/\H (U,1)=some ⟨3,[[int a.1,int a.2.1,int a.2.2]]⟩/\H (U+1,2)=some ⟨3,[[int 0,int 0,int 0]]⟩/\H (n4,3)=some ⟨3,[[int a.1,int a.2.1,int 0]]⟩) (by refine⟨?_,?_,?_,?_⟩<;>simp[E,d,c,e]) ?_;clear E d c e;rintro O H g ⟨E,d,c,e⟩;refine zI fun _ V=>?_
 have f12:=aU (show bB ((1:Int)+1) from ⟨by decide,by decide⟩) (show (2:Int)=(1:Int)+1 by decide);simp[E,d,c,e,f12,-aw];apply V;apply J.inLoop;refine zS fun _ V=>?_
 have f13:=aY (k:=.i64) (show true=decide (2<(3:Int)) by decide);simp[E,d,c,e,f13,-aw];apply V;refine J.cond (b:=true) (by simp[E,d,c,e]) ?_;simp only[if_true,if_false,Bool.false_eq_true,↓reduceIte];apply zK;apply J.block;refine zF fun _ V=>?_
 simp[E,d,c,e];apply V;refine J.cut (fun O H n=>(O 1=pA U 1/\O 2=pA (U+1) 2/\O 3=pA n4 3/\O 4=int 2)/\H (U,1)=some ⟨3,[[int a.1,int a.2.1,int a.2.2]]⟩/\H (U+1,2)=some ⟨3,[[int 0,int 0,int 0]]⟩/\H (n4,3)=some ⟨3,[[int a.1,int a.2.1,int a.2.2]]⟩) (by refine⟨?_,?_,?_,?_⟩<;>simp[E,d,c,e]) ?_;clear E d c e;rintro O H i ⟨E,d,c,e⟩;refine zI fun _ V=>?_
 have f15:=aU (show bB ((2:Int)+1) from ⟨by decide,by decide⟩) (show (3:Int)=(2:Int)+1 by decide);simp[E,d,c,e,f15,-aw];apply V;apply J.inLoop;refine zS fun _ V=>?_
 have f16:=aY (k:=.i64) (show false=decide (3<(3:Int)) by decide);simp[E,d,c,e,f16,-aw];apply V;refine J.cond (b:=false) (by simp[E,d,c,e]) ?_;simp only[if_true,if_false,Bool.false_eq_true,↓reduceIte];refine J.exit rfl ?_;refine zE fun _ V=>?_
 simp[E,d,c,e];apply V;refine J.cut (fun O H n=>O 2=pA (U+1) 2/\H (U+1,2)=some ⟨3,[[int a.1,int a.2.1,int a.2.2]]⟩) (by refine⟨?_,?_⟩<;>simp[E,d,c,e]) ?_;clear E d c e;rintro O H n17 ⟨E,c⟩;exact J.uC ay (v:=.agg [int a.1,int a.2.1,int a.2.2]) func115 results115 (by simp[E,c,iT]) (hQ _ _ _ _ (.of (.Gd (.cons (.v _) (.cons (.v _) (.cons (.v _) .nil))))) ⟨(a.1,a.2.1,a.2.2),h,rfl⟩)
theorem xN (a:Int × Int × Int)  : aC prog 115 [.agg [int a.1,int a.2.1,int a.2.2]] (fun r=>r = .agg [int ((mS a).1),int ((mS a).2.1),int ((mS a).2.2)]):=(uX a _ (yW a )).mono (by rintro _ ⟨_,rfl,rfl⟩;rfl)
theorem e63:a8 prog 63:=a8.of func63 (by kernel_rfl) rfl
theorem sn (a:List (Int × Int × Int)) (Z:(List (Int × Int × Int))->Prop) (h:ik a Z):bG prog 63 [.list false (a.map aT)] (.s [.c,.c,.c]) (fun r=>∃ y:List (Int × Int × Int),Z y/\r = .list true (y.map aT)):=by
 unfold ik at h;have M:Sep bw 0 [] []:=Sep.nil (by simp);refine bG.of func63 rfl ntmps63 (by simp) fun Q hQ=>?_
 refine J.cut (fun O H n=>O 0 = .list false (a.map aT)/\Sep H n [] []) (by refine⟨by simp ,M⟩) ?_;rintro O H U ⟨E,M⟩;refine zE fun _ V=>?_
 simp[E];apply V;refine zE fun _ V=>?_
 obtain⟨bh,elen2,h⟩:=aK h;have f3:=fun H=>aI (H:=H) (fr:=false) (f:=aT) fM elen2
 obtain⟨hb4,h⟩:=h;obtain⟨l5,el5,h⟩:=aK h;simp[E,f3,hb4,el5,-aL];apply V;refine J.cut (fun O H n=>∃ (v7:au),(O 0 = .list false (a.map aT)/\O 3=v7)/\Sep H n [oE [.c,.c,.c] aT v7 l5] []) (by refine⟨.arr (U,7) bh.toNat 0 bh.toNat,by simp[E,f3,hb4,el5,-aL],(Sep.bx (z:=[int 0,int 0,int 0]) (f:=aT) (k:=bh.toNat) el5 M (fun H=>by show Row H [.c,.c,.c] [int 0,int 0,int 0] [int 0,int 0,int 0] [];simp[Row,Tr]))⟩) ?_;clear E;rintro O H n8 ⟨v7,E,M⟩;refine zS fun _ V=>?_
 simp[E];apply V;apply J.block;refine J.aO h (fun (sJ:Int × (List (Int × Int × Int))) O H n=>match sJ with | (i16,d)=>∃ (i:au),(O 0 = .list false (a.map aT)/\O 3=i/\O 4=int i16)/\Sep H n [oE [.c,.c,.c] aT i d] []) (by refine⟨v7,by simp[E],M⟩) ?_;clear E;rintro⟨i16,d⟩ O H n19 K h ⟨i,E,M⟩ u;refine zS fun _ V=>?_
 obtain⟨ab,A,h⟩:=aK h;have f23:=fun H=>aI (H:=H) (fr:=false) (f:=aT) fM A
 obtain⟨B,C,h⟩:=aK h;have f25:=aY (k:=.i64) C;simp[E,f23,f25,-aw,-aL];apply V;refine J.ite (b:=B) (by simp[E]) (fun e=>?_) (fun e=>?_)
 ·replace h:=h.1 e;apply zK;apply J.block;refine zF fun _ V=>?_
  obtain⟨D,h⟩:=h;obtain⟨l,F,h⟩:=aK h;have f28:=fun H=>aP (H:=H) (fr:=false) (f:=aT) (k:=.i64) fM (fun _=>rfl) D F
  obtain⟨r29,G,h⟩:=aK h;simp[E,f28,e,-ar];refine zA (xN (l.1,l.2.1,l.2.2) ) e115 (.cons (aJ.agg (.cons (.v _ _ _) (.cons (.v _ _ _) (.cons (.v _ _ _) .nil)))) .nil) (by simp[E,f28,e,-ar]) ?_;rintro _ rfl;rw[<- G];obtain⟨o,h⟩:=h;obtain⟨p,hv,L,ac,ad⟩:=Sep.eA M (by simp) o;subst hv;obtain⟨af,N,h⟩:=aK h;have f36:=fun H (hm:H p=some ⟨3,d.map aT⟩)=>cH (H:=H) (k:=.i64) (off:=0) (len:=d.length) (g:=d.length) fM hm (by simp) rfl o
  have f37:=cu (q:=i16.toNat) o N rfl;obtain⟨t,R,h⟩:=aK h;simp[E,L,f28,f36,f37,e,-ar,-cq];refine cL (q:=i16.toNat) (news:=aT (r29.1,r29.2.1,r29.2.2)) [] [] M (by simp) (by simp;omega) (by simp) (by simp[-aM,bu]) (bb.v _ (bb.v _ (bb.v _ bb.nil))) ?_;rintro T M am;replace M:Sep T n19 [oE [.c,.c,.c] aT (.arr p d.length 0 d.length) t] []:=Sep.st R M;simp[E,f28,f36,f37,e,-ar];apply V;refine J.cut (fun O H n=>∃ (j:au),(O 0 = .list false (a.map aT)/\O 3=j/\O 4=int i16)/\Sep H n [oE [.c,.c,.c] aT j t] []) (by refine⟨.arr p d.length 0 d.length,by simp[E,f28,f36,f37,e,-ar],M⟩) ?_;clear E;rintro O H ao ⟨j,E,M⟩;refine zI fun _ V=>?_
  obtain⟨W,h⟩:=h;obtain⟨X,Y,h⟩:=aK h;have f46:=aU W Y;simp[E,f46,-aw];apply V;refine u (X,t) _ _ _ h (by refine⟨j,by simp[E],M⟩)
 replace h:=h.2 e;refine J.exit rfl ?_;refine zE fun _ V=>?_
 simp[E,e];apply V;exact J.bj (v:=i) func63 results63 (by simp[E,e]) (hQ _ _ _ _ (Sep.sub (dK:=[]) M (by simp)) ⟨d,h,rfl⟩)
theorem vo (a:List (Int × Int × Int)) (hp:gr a):bG prog 63 [.list false (a.map aT)] (.s [.c,.c,.c]) (fun r=>r = .list true ((rb a).map aT)):=(sn a _ (vM a hp)).mono (by rintro _ ⟨_,rfl,rfl⟩;rfl)
theorem e22:a8 prog 22:=a8.of func22 (by kernel_rfl) rfl
theorem sc (a:Sys) (Z:Sys->Prop) (h:ij a Z):bG prog 22 [.agg [.list false (a.states.map (I.cells false)),.list false (a.steps.map aT)]] (.a [.s [.c,.s [.c,.c,.s [.c]],.s [.c],.c,.s [.c],.s [.c,.c]],.s [.c,.c,.c]]) (fun r=>∃ y:Sys,Z y/\r = .agg [.list true (y.states.map (I.cells true)),.list true (y.steps.map aT)]):=by
 unfold ij at h;have M:Sep bw 0 [] []:=Sep.nil (by simp);refine bG.of func22 rfl ntmps22 (by simp) fun Q hQ=>?_
 refine J.cut (fun O H n=>O 0 = .agg [.list false (a.states.map (I.cells false)),.list false (a.steps.map aT)]/\Sep H n [] []) (by refine⟨by simp[I.cells,encI,aB,encS,aD],M⟩) ?_;rintro O H U ⟨E,M⟩;refine zE fun _ V=>?_
 simp[E,I.cells,encI,aB,encS,aD];apply V;refine J.cut (fun O H n=>((O 1=pA U 1/\O 2=pA (U+1) 2)/\H (U,1)=some ⟨2,[[.list false (a.states.map (I.cells false)),.list false (a.steps.map aT)]]⟩/\H (U+1,2)=some ⟨2,[[.v (.slice none 0 0),.v (.slice none 0 0)]]⟩)/\Sep H n [] [(U+1,2),(U,1)]) (by refine⟨by simp[E,I.cells,encI,aB,encS,aD],M.var.var⟩) ?_;clear E;rintro O H n4 ⟨⟨E,d,b⟩,M⟩;refine zE fun _ V=>?_
 simp[E,d,b,I.cells,encI,aB,encS,aD];apply V;refine J.cut (fun O H n=>((O 1=pA U 1/\O 2=pA (U+1) 2/\O 3=pA n4 3)/\H (U,1)=some ⟨2,[[.list false (a.states.map (I.cells false)),.list false (a.steps.map aT)]]⟩/\H (U+1,2)=some ⟨2,[[.v (.slice none 0 0),.v (.slice none 0 0)]]⟩/\H (n4,3)=some ⟨2,[[.v (.slice none 0 0),.v (.slice none 0 0)]]⟩)/\Sep H n [] [(n4,3),(U+1,2),(U,1)]) (by refine⟨by simp[E,d,b,I.cells,encI,aB,encS,aD],M.var⟩) ?_;clear E d b;rintro O H n6 ⟨⟨E,d,b,e⟩,M⟩;refine zE fun _ V=>?_
 obtain⟨hb7,h⟩:=h;obtain⟨r8,er8,h⟩:=aK h;simp[E,d,b,e,I.cells,encI,aB,encS,aD];refine zW (sm a.states hb7) e62 (.cons (aJ.bK false a.states) .nil) M (by simp[E,d,b,e,I.cells,encI,aB,encS,aD]) ?_;rintro v9 A B _ M rfl C o;rw[<- er8] at M;have d:=(o _ (by simp)).trans d;have b:=(o _ (by simp)).trans b;have e:=(o _ (by simp)).trans e;have f16:=Sep.oc M;simp[E,d,b,e,f16,I.cells,encI,aB,encS,aD,-aE,-aM,bT,bu];apply V;refine J.cut (fun O H n=>∃ (g:au),((O 1=pA U 1/\O 2=pA (U+1) 2/\O 3=pA n4 3)/\H (U,1)=some ⟨2,[[.list false (a.states.map (I.cells false)),.list false (a.steps.map aT)]]⟩/\H (U+1,2)=some ⟨2,[[.v (.slice none 0 0),.v (.slice none 0 0)]]⟩/\H (n4,3)=some ⟨2,[[g,.v (.slice none 0 0)]]⟩)/\Sep H n [oE [.c,.s [.c,.c,.s [.c]],.s [.c],.c,.s [.c],.s [.c,.c]] (I.cells true) g r8] [(n4,3),(U+1,2),(U,1)]) (by refine⟨v9,by simp[E,d,b,e,f16,I.cells,encI,aB,encS,aD,-aE,-aM,bT,bu],(Sep.bH (w:=(n4,3)) M (by simp))⟩) ?_;clear E d b e;rintro O H n18 ⟨g,⟨E,d,b,e⟩,M⟩;refine zE fun _ V=>?_
 obtain⟨t,h⟩:=h;obtain⟨p,u,h⟩:=aK h;simp[E,d,b,e,I.cells,encI,aB,encS,aD];refine zW (vo a.steps t) e63 (.cons (aJ.dE (fr:=false) (els:=a.steps.map aT) (ej _)) .nil) M (by simp[E,d,b,e,I.cells,encI,aB,encS,aD]) ?_;rintro v21 D n23 _ M rfl F q;rw[<- u] at M;have d:=(q _ (by simp)).trans d;have b:=(q _ (by simp)).trans b;have e:=(q _ (by simp)).trans e;have f28:=Sep.oc M;simp[E,d,b,e,f28,I.cells,encI,aB,encS,aD,-aE,-aM,bT,bu];apply V;refine J.cut (fun O H n=>∃ (i v30:au),((O 2=pA (U+1) 2/\O 3=pA n4 3)/\H (U+1,2)=some ⟨2,[[.v (.slice none 0 0),.v (.slice none 0 0)]]⟩/\H (n4,3)=some ⟨2,[[v30,i]]⟩)/\Sep H n [oE [.c,.c,.c] aT i p,oE [.c,.s [.c,.c,.s [.c]],.s [.c],.c,.s [.c],.s [.c,.c]] (I.cells true) v30 r8] [(n4,3),(U+1,2)]) (by refine⟨v21,g,by simp[E,d,b,e,f28,I.cells,encI,aB,encS,aD,-aE,-aM,bT,bu],(Sep.sub (Sep.bH (w:=(n4,3)) M (by simp)) (by simp +contextual))⟩) ?_;clear E d b e;rintro O H n31 ⟨i,v30,⟨E,b,e⟩,M⟩;refine zE fun _ V=>?_
 have f32:=Sep.oc M.f1;have f33:=Sep.oc M;simp[E,b,e,f32,f33,I.cells,encI,aB,encS,aD,-aE,-aM,bT,bu];apply V;refine J.cut (fun O H n=>∃ (j l:au),(O 2=pA (U+1) 2/\H (U+1,2)=some ⟨2,[[l,j]]⟩)/\Sep H n [oE [.c,.c,.c] aT j p,oE [.c,.s [.c,.c,.s [.c]],.s [.c],.c,.s [.c],.s [.c,.c]] (I.cells true) l r8] [(U+1,2)]) (by refine⟨i,v30,by simp[E,b,e,f32,f33,I.cells,encI,aB,encS,aD,-aE,-aM,bT,bu],(Sep.sub (Sep.bH (w:=(U+1,2)) M (by simp)) (by simp +contextual))⟩) ?_;clear E b e;rintro O H n36 ⟨j,l,⟨E,b⟩,M⟩;exact J.uC ay (v:=.agg [l,j]) func22 results22 (by simp[E,b,iT,I.cells,encI,aB,encS,aD]) (hQ _ _ _ _ (Sep.sub (dK:=[]) (Sep.pack (bb.own (bb.own bb.nil)) M.f1) (by simp)) ⟨(Sys.mk r8 p),h,rfl⟩)
theorem j4 (a:Sys) (hp:eu a):bG prog 22 [.agg [.list false (a.states.map (I.cells false)),.list false (a.steps.map aT)]] (.a [.s [.c,.s [.c,.c,.s [.c]],.s [.c],.c,.s [.c],.s [.c,.c]],.s [.c,.c,.c]]) (fun r=>r = .agg [.list true (((gV a).states).map (I.cells true)),.list true (((gV a).steps).map aT)]):=(sc a _ (vG a hp)).mono (by rintro _ ⟨_,rfl,rfl⟩;rfl)
theorem e57:a8 prog 57:=a8.of func57 (by kernel_rfl) rfl
theorem CA (a:List I) (left:Int) (Z:Int->Prop) (h:qb a left Z):aC prog 57 [.list false (a.map (I.cells false)),int left] (fun r=>∃ y:Int,Z y/\r=int y):=by
 unfold qb at h;refine aC.of func57 rfl ntmps57 (by simp) fun Q hQ=>?_
 refine J.cut (fun O H n=>(O 0 = .list false (a.map (I.cells false))/\O 1=int left)) (by simp[I.cells,encI,aB,encS,aD]) ?_;rintro O H U E;refine zE fun _ V=>?_
 simp[E,I.cells,encI,aB,encS,aD];apply V;refine zE fun _ V=>?_
 obtain⟨bh,elen2,h⟩:=aK h;have f3:=fun H=>aI (H:=H) (fr:=false) (f:=(I.cells false)) q0 elen2
 obtain⟨hb4,h⟩:=h;obtain⟨v5,ev5,h⟩:=aK h;have f6:=fu hb4 ev5;simp[E,f3,f6,I.cells,encI,aB,encS,aD,-aw,-aL];apply V;refine zS fun _ V=>?_
 obtain⟨c7,ec7,h⟩:=aK h;have f8:=aY (k:=.i64) ec7;simp[E,f8,I.cells,encI,aB,encS,aD,-aw];apply V;refine J.ite (b:=c7) (by simp[E,I.cells,encI,aB,encS,aD]) (fun dc7=>?_) (fun dc7=>?_)
 ·replace h:=h.1 dc7;refine zE fun _ V=>?_
  simp[E,dc7,I.cells,encI,aB,encS,aD];apply V;exact J.bj (v:=int (-1)) func57 results57 (by simp[E,dc7,I.cells,encI,aB,encS,aD]) (hQ _ _ _ _ (.of (.v _)) ⟨(-1),h,rfl⟩)
 replace h:=h.2 dc7;apply J.skip;refine zS fun _ V=>?_
 simp[E,dc7,I.cells,encI,aB,encS,aD];apply V;apply J.block;refine J.aO h (fun (sJ:Int × Int) O H n=>match sJ with | (iD,i13)=>(O 0 = .list false (a.map (I.cells false))/\O 1=int iD/\O 5=int i13)) (by simp[E,dc7,I.cells,encI,aB,encS,aD]) ?_;clear E;rintro⟨iD,i13⟩ O H F K h E j;refine zS fun _ V=>?_
 obtain⟨G,l,h⟩:=aK h;have f18:=fun H=>aI (H:=H) (fr:=false) (f:=(I.cells false)) q0 l
 obtain⟨o,p,h⟩:=aK h;have f20:=aY (k:=.i64) p;simp[E,f18,f20,I.cells,encI,aB,encS,aD,-aw,-aL];apply V;refine J.ite (b:=o) (by simp[E,I.cells,encI,aB,encS,aD]) (fun c=>?_) (fun c=>?_)
 ·replace h:=h.1 c;apply zK;apply J.block;refine zE fun _ V=>?_
  obtain⟨q,h⟩:=h;obtain⟨g,t,h⟩:=aK h;have f23:=fun H=>aP (H:=H) (fr:=false) (f:=(I.cells false)) (k:=.i64) q0 (fun _=>rfl) q t
  obtain⟨e,h⟩:=h;obtain⟨r25,u,h⟩:=aK h;simp[E,f23,c,I.cells,encI,aB,encS,aD,-ar];refine zA (nD g iD e.1.1 e.1.2 e.2) e8 (.cons (cN false g) (.cons (.v _ _ _) .nil)) (by simp[E,f23,c,I.cells,encI,aB,encS,aD,-ar]) ?_;rintro _ rfl;rw[<- u];simp[E,f23,c,I.cells,encI,aB,encS,aD,-ar];apply V;refine zE fun _ V=>?_
  obtain⟨A,B,h⟩:=aK h;have f27:=aY (k:=.i64) B;simp[E,f27,c,I.cells,encI,aB,encS,aD,-aw];apply V;refine J.ite (b:=A) (by simp[E,c,I.cells,encI,aB,encS,aD]) (fun d=>?_) (fun d=>?_)
  ·replace h:=h.1 d;refine zE fun _ V=>?_
   simp[E,c,d,I.cells,encI,aB,encS,aD];apply V;exact J.bj (v:=int (-1)) func57 results57 (by simp[E,c,d,I.cells,encI,aB,encS,aD]) (hQ _ _ _ _ (.of (.v _)) ⟨(-1),h,rfl⟩)
  replace h:=h.2 d;apply J.skip;refine zI fun _ V=>?_
  obtain⟨C,h⟩:=h;obtain⟨i,D,h⟩:=aK h;have f30:=aU C D;simp[E,f30,c,d,I.cells,encI,aB,encS,aD,-aw];apply V;refine J.cut (fun O H n=>(O 0 = .list false (a.map (I.cells false))/\O 1=int r25/\O 5=int i)) (by simp[E,f30,c,d,I.cells,encI,aB,encS,aD,-aw]) ?_;clear E;rintro O H n31 E;refine j (r25,i) _ _ _ h (by simp[E,I.cells,encI,aB,encS,aD])
 replace h:=h.2 c;refine J.exit rfl ?_;refine zE fun _ V=>?_
 simp[E,c,I.cells,encI,aB,encS,aD];apply V;exact J.bj (v:=int iD) func57 results57 (by simp[E,c,I.cells,encI,aB,encS,aD]) (hQ _ _ _ _ (.of (.v _)) ⟨iD,h,rfl⟩)
theorem Gj (a:List I) (left:Int) (hp:qV a left):aC prog 57 [.list false (a.map (I.cells false)),int left] (fun r=>r=int (rn a left)):=(CA a left _ (GL a left hp)).mono (by rintro _ ⟨_,rfl,rfl⟩;rfl)
theorem e58:a8 prog 58:=a8.of func58 (by kernel_rfl) rfl
theorem xW (a:List (Int × Int × Int)) (left:Int) (Z:Int->Prop) (h:nL a left Z):aC prog 58 [.list false (a.map aT),int left] (fun r=>∃ y:Int,Z y/\r=int y):=by
 unfold nL at h;refine aC.of func58 rfl ntmps58 (by simp) fun Q hQ=>?_
 refine J.cut (fun O H n=>(O 0 = .list false (a.map aT)/\O 1=int left)) (by simp) ?_;rintro O H U E;refine zE fun _ V=>?_
 simp[E];apply V;refine zE fun _ V=>?_
 obtain⟨bh,elen2,h⟩:=aK h;have f3:=fun H=>aI (H:=H) (fr:=false) (f:=aT) fM elen2
 obtain⟨hb4,h⟩:=h;obtain⟨v5,ev5,h⟩:=aK h;have f6:=fu hb4 ev5;simp[E,f3,f6,-aw,-aL];apply V;refine zS fun _ V=>?_
 obtain⟨c7,ec7,h⟩:=aK h;have f8:=aY (k:=.i64) ec7;simp[E,f8,-aw];apply V;refine J.ite (b:=c7) (by simp[E]) (fun dc7=>?_) (fun dc7=>?_)
 ·replace h:=h.1 dc7;refine zE fun _ V=>?_
  simp[E,dc7];apply V;exact J.bj (v:=int (-1)) func58 results58 (by simp[E,dc7]) (hQ _ _ _ _ (.of (.v _)) ⟨(-1),h,rfl⟩)
 replace h:=h.2 dc7;apply J.skip;refine zE fun _ V=>?_
 simp[E,dc7];apply V;exact J.bj (v:=int v5) func58 results58 (by simp[E,dc7]) (hQ _ _ _ _ (.of (.v _)) ⟨v5,h,rfl⟩)
theorem E4 (a:List (Int × Int × Int)) (left:Int) (hp:oQ a left):aC prog 58 [.list false (a.map aT),int left] (fun r=>r=int (pB a left)):=(xW a left _ (Fa a left hp)).mono (by rintro _ ⟨_,rfl,rfl⟩;rfl)
theorem e20:a8 prog 20:=a8.of func20 (by kernel_rfl) rfl
theorem EB (a:Sys) (left:Int) (Z:Int->Prop) (h:tW a left Z):aC prog 20 [.agg [.list false (a.states.map (I.cells false)),.list false (a.steps.map aT)],int left] (fun r=>∃ y:Int,Z y/\r=int y):=by
 unfold tW at h;refine aC.of func20 rfl ntmps20 (by simp) fun Q hQ=>?_
 refine J.cut (fun O H n=>(O 0 = .agg [.list false (a.states.map (I.cells false)),.list false (a.steps.map aT)]/\O 1=int left)) (by simp[I.cells,encI,aB,encS,aD]) ?_;rintro O H U E;refine zE fun _ V=>?_
 simp[E,I.cells,encI,aB,encS,aD];apply V;refine J.cut (fun O H n=>(O 1=int left/\O 2=pA U 2)/\H (U,2)=some ⟨2,[[.list false (a.states.map (I.cells false)),.list false (a.steps.map aT)]]⟩) (by refine⟨?_,?_⟩<;>simp[E,I.cells,encI,aB,encS,aD]) ?_;clear E;rintro O H n3 ⟨E,c⟩;refine zE fun _ V=>?_
 obtain⟨hb4,h⟩:=h;obtain⟨r5,er5,h⟩:=aK h;simp[E,c,I.cells,encI,aB,encS,aD];refine zA (Gj a.states left hb4) e57 (.cons (aJ.bK false a.states) (.cons (.v _ _ _) .nil)) (by simp[E,c,I.cells,encI,aB,encS,aD]) ?_;rintro _ rfl;rw[<- er5];simp[E,c,I.cells,encI,aB,encS,aD];apply V;refine zS fun _ V=>?_
 obtain⟨c6,ec6,h⟩:=aK h;have f7:=aY (k:=.i64) ec6;simp[E,c,f7,I.cells,encI,aB,encS,aD,-aw];apply V;refine J.ite (b:=c6) (by simp[E,c,I.cells,encI,aB,encS,aD]) (fun dc6=>?_) (fun dc6=>?_)
 ·replace h:=h.1 dc6;refine zE fun _ V=>?_
  simp[E,c,dc6,I.cells,encI,aB,encS,aD];apply V;exact J.bj (v:=int (-1)) func20 results20 (by simp[E,c,dc6,I.cells,encI,aB,encS,aD]) (hQ _ _ _ _ (.of (.v _)) ⟨(-1),h,rfl⟩)
 replace h:=h.2 dc6;apply J.skip;refine zE fun _ V=>?_
 obtain⟨hb8,h⟩:=h;obtain⟨r9,er9,h⟩:=aK h;simp[E,c,dc6,I.cells,encI,aB,encS,aD];refine zA (E4 a.steps r5 hb8) e58 (.cons (aJ.dE (fr:=false) (els:=a.steps.map aT) (ej _)) (.cons (.v _ _ _) .nil)) (by simp[E,c,dc6,I.cells,encI,aB,encS,aD]) ?_;rintro _ rfl;rw[<- er9];simp[E,c,dc6,I.cells,encI,aB,encS,aD];apply V;refine zS fun _ V=>?_
 obtain⟨e,g,h⟩:=aK h;have f11:=aY (k:=.i64) g;simp[E,c,f11,dc6,I.cells,encI,aB,encS,aD,-aw];apply V;refine J.ite (b:=e) (by simp[E,c,dc6,I.cells,encI,aB,encS,aD]) (fun d=>?_) (fun d=>?_)
 ·replace h:=h.1 d;refine zE fun _ V=>?_
  simp[E,c,dc6,d,I.cells,encI,aB,encS,aD];apply V;refine J.cut (fun O H n=>O 4=int (-1)) (by simp[E,c,dc6,d,I.cells,encI,aB,encS,aD]) ?_;clear E c;rintro O H i E;exact J.bj (v:=int (-1)) func20 results20 (by simp[E,I.cells,encI,aB,encS,aD]) (hQ _ _ _ _ (.of (.v _)) ⟨(-1),h,rfl⟩)
 replace h:=h.2 d;apply J.skip;refine zE fun _ V=>?_
 simp[E,c,dc6,d,I.cells,encI,aB,encS,aD];apply V;refine J.cut (fun O H n=>O 4=int r9) (by simp[E,c,dc6,d,I.cells,encI,aB,encS,aD]) ?_;clear E c;rintro O H j E;exact J.bj (v:=int r9) func20 results20 (by simp[E,I.cells,encI,aB,encS,aD]) (hQ _ _ _ _ (.of (.v _)) ⟨r9,h,rfl⟩)
theorem szY_ok (a:Sys) (left:Int) (hp:ui a left):aC prog 20 [.agg [.list false (a.states.map (I.cells false)),.list false (a.steps.map aT)],int left] (fun r=>r=int (FF a left)):=(EB a left _ (szY_vc a left hp)).mono (by rintro _ ⟨_,rfl,rfl⟩;rfl)
theorem e67:a8 prog 67:=a8.of func67 (by kernel_rfl) rfl
theorem BR (a:List I) (b:List I) (Z:Bool->Prop) (h:qc a b Z):aC prog 67 [.list false (a.map (I.cells false)),.list false (b.map (I.cells false))] (fun r=>∃ y:Bool,Z y/\r=bool y):=by
 unfold qc at h;refine aC.of func67 rfl ntmps67 (by simp) fun Q hQ=>?_
 refine J.cut (fun O H n=>(O 0 = .list false (a.map (I.cells false))/\O 1 = .list false (b.map (I.cells false)))) (by simp[I.cells,encI,aB,encS,aD]) ?_;rintro O H U E;refine zE fun _ V=>?_
 simp[E,I.cells,encI,aB,encS,aD];apply V;refine zS fun _ V=>?_
 obtain⟨bh,elen2,h⟩:=aK h;have f3:=fun H=>aI (H:=H) (fr:=false) (f:=(I.cells false)) iR elen2
 obtain⟨cM,elen4,h⟩:=aK h;have f5:=fun H=>aI (H:=H) (fr:=false) (f:=(I.cells false)) iR elen4
 obtain⟨c6,ec6,h⟩:=aK h;have f7:=cg (k:=.i64) ec6;simp[E,f3,f5,f7,I.cells,encI,aB,encS,aD,-aw,-aL];apply V;refine J.ite (b:=c6) (by simp[E,I.cells,encI,aB,encS,aD]) (fun dc6=>?_) (fun dc6=>?_)
 ·replace h:=h.1 dc6;refine zE fun _ V=>?_
  simp[E,dc6,I.cells,encI,aB,encS,aD];apply V;exact J.bj (v:=bool false) func67 results67 (by simp[E,dc6,I.cells,encI,aB,encS,aD]) (hQ _ _ _ _ (.of (.v _)) ⟨false,h,rfl⟩)
 replace h:=h.2 dc6;apply J.skip;refine zS fun _ V=>?_
 simp[E,dc6,I.cells,encI,aB,encS,aD];apply V;apply J.block;refine J.aO h (fun (sJ:Int) O H n=>match sJ with | i10=>(O 0 = .list false (a.map (I.cells false))/\O 1 = .list false (b.map (I.cells false))/\O 5=int i10)) (by simp[E,dc6,I.cells,encI,aB,encS,aD]) ?_;clear E;rintro i10 O H F K h E i;refine zS fun _ V=>?_
 obtain⟨G,j,h⟩:=aK h;have f15:=fun H=>aI (H:=H) (fr:=false) (f:=(I.cells false)) iR j
 obtain⟨l,o,h⟩:=aK h;have f17:=aY (k:=.i64) o;simp[E,f15,f17,I.cells,encI,aB,encS,aD,-aw,-aL];apply V;refine J.ite (b:=l) (by simp[E,I.cells,encI,aB,encS,aD]) (fun c=>?_) (fun c=>?_)
 ·replace h:=h.1 c;apply zK;apply J.block;refine J.cO ay aA bq (by decide) (by kernel_rfl) fun _ V=>?_
  obtain⟨p,h⟩:=h;obtain⟨e,q,h⟩:=aK h;have f20:=fun H=>aP (H:=H) (fr:=false) (f:=(I.cells false)) (k:=.i64) iR (fun _=>rfl) p q
  obtain⟨t,h⟩:=h;obtain⟨g,u,h⟩:=aK h;have f23:=fun H=>aP (H:=H) (fr:=false) (f:=(I.cells false)) (k:=.i64) iR (fun _=>rfl) t u
  obtain⟨A,h⟩:=h;obtain⟨r25,B,h⟩:=aK h;simp[E,f20,f23,c,I.cells,encI,aB,encS,aD,-ar];refine bf.bN ay aA (nM e g A) e14 (.cons (cN false e) (.cons (cN false g) .nil)) (by decide) rfl (by simp[E,f20,f23,c,I.cells,encI,aB,encS,aD,-ar]) ?_;rw[<- B];simp[E,f20,f23,c,I.cells,encI,aB,encS,aD,-ar];apply V;refine J.ite (b:=(!r25)) (by simp[E,c,I.cells,encI,aB,encS,aD]) (fun d=>?_) (fun d=>?_)
  ·have d:r25=false:=by simpa using d
   replace h:=h.2 d;refine zE fun _ V=>?_
   simp[E,c,d,I.cells,encI,aB,encS,aD];apply V;refine J.cut (fun O H n=>O 4=bool false) (by simp[E,c,d,I.cells,encI,aB,encS,aD]) ?_;clear E;rintro O H n26 E;exact J.bj (v:=bool false) func67 results67 (by simp[E,I.cells,encI,aB,encS,aD]) (hQ _ _ _ _ (.of (.v _)) ⟨false,h,rfl⟩)
  have d:r25=true:=by simpa using d
  replace h:=h.1 d;apply J.skip;refine zI fun _ V=>?_
  obtain⟨C,h⟩:=h;obtain⟨v28,D,h⟩:=aK h;have f29:=aU C D;simp[E,f29,c,d,I.cells,encI,aB,encS,aD,-aw];apply V;refine J.cut (fun O H n=>(O 0 = .list false (a.map (I.cells false))/\O 1 = .list false (b.map (I.cells false))/\O 5=int v28)) (by simp[E,f29,c,d,I.cells,encI,aB,encS,aD,-aw]) ?_;clear E;rintro O H n30 E;refine i (v28) _ _ _ h (by simp[E,I.cells,encI,aB,encS,aD])
 replace h:=h.2 c;refine J.exit rfl ?_;refine zE fun _ V=>?_
 simp[E,c,I.cells,encI,aB,encS,aD];apply V;exact J.bj (v:=bool true) func67 results67 (by simp[E,c,I.cells,encI,aB,encS,aD]) (hQ _ _ _ _ (.of (.v _)) ⟨true,h,rfl⟩)
theorem GM (a:List I) (b:List I) (hp:mJ a b):aC prog 67 [.list false (a.map (I.cells false)),.list false (b.map (I.cells false))] (fun r=>r=bool (AY a b)):=(BR a b _ (FV a b hp)).mono (by rintro _ ⟨_,rfl,rfl⟩;rfl)
theorem e120:a8 prog 120:=a8.of func120 (by kernel_rfl) rfl
theorem Cf (a:Int × Int × Int) (b:Int × Int × Int) (Z:Bool->Prop) (h:pT a b Z):aC prog 120 [.agg [int a.1,int a.2.1,int a.2.2],.agg [int b.1,int b.2.1,int b.2.2]] (fun r=>∃ y:Bool,Z y/\r=bool y):=by
 unfold pT at h;refine aC.of func120 rfl ntmps120 (by simp) fun Q hQ=>?_
 refine J.cut (fun O H n=>(O 0 = .agg [int a.1,int a.2.1,int a.2.2]/\O 1 = .agg [int b.1,int b.2.1,int b.2.2])) (by simp[]) ?_;rintro O H U E;refine zE fun _ V=>?_
 simp[E];apply V;refine J.cut (fun O H n=>(O 2=pA U 2/\O 3=pA (U+1) 3)/\H (U,2)=some ⟨3,[[int a.1,int a.2.1,int a.2.2]]⟩/\H (U+1,3)=some ⟨3,[[int b.1,int b.2.1,int b.2.2]]⟩) (by refine⟨?_,?_,?_⟩<;>simp[E]) ?_;clear E;rintro O H n4 ⟨E,c,d⟩;refine zS fun _ V=>?_
 simp[E,c,d];apply V;apply J.block;apply J.loop;refine zS fun _ V=>?_
 have f5:=aY (k:=.i64) (show true=decide (0<(3:Int)) by decide);simp[E,c,d,f5,-aw];apply V;refine J.cond (b:=true) (by simp[E,c,d]) ?_;simp only[if_true,if_false,Bool.false_eq_true,↓reduceIte];apply zK;apply J.block;refine J.cO ay aA bq (by decide) (by kernel_rfl) fun _ V=>?_
 obtain⟨c6,ec6,h⟩:=aK h;have f7:=cg (k:=.i64) ec6;simp[E,c,d,f7,-aw];apply V;refine J.ite (b:=c6) (by simp[E,c,d]) (fun dc6=>?_) (fun dc6=>?_)
 ·replace h:=h.1 dc6;refine zE fun _ V=>?_
  simp[E,c,d,dc6];apply V;exact J.bj (v:=bool false) func120 results120 (by simp[E,c,d,dc6]) (hQ _ _ _ _ (.of (.v _)) ⟨false,h,rfl⟩)
 replace h:=h.2 dc6;apply J.skip;refine zI fun _ V=>?_
 have f8:=aU (show bB ((0:Int)+1) from ⟨by decide,by decide⟩) (show (1:Int)=(0:Int)+1 by decide);simp[E,c,d,f8,dc6,-aw];apply V;apply J.inLoop;refine zS fun _ V=>?_
 have f9:=aY (k:=.i64) (show true=decide (1<(3:Int)) by decide);simp[E,c,d,f9,dc6,-aw];apply V;refine J.cut (fun O H n=>(O 2=pA U 2/\O 3=pA (U+1) 3/\O 5=int 1/\O 7=bool true)/\H (U,2)=some ⟨3,[[int a.1,int a.2.1,int a.2.2]]⟩/\H (U+1,3)=some ⟨3,[[int b.1,int b.2.1,int b.2.2]]⟩) (by refine⟨?_,?_,?_⟩<;>simp[E,c,d,f9,dc6,-aw]) ?_;clear E c d;rintro O H p ⟨E,c,d⟩;refine J.cond (b:=true) (by simp[E,c,d]) ?_;simp only[if_true,if_false,Bool.false_eq_true,↓reduceIte];apply zK;apply J.block;refine J.cO ay aA bq (by decide) (by kernel_rfl) fun _ V=>?_
 obtain⟨j,l,h⟩:=aK h;have f12:=cg (k:=.i64) l;simp[E,c,d,f12,-aw];apply V;refine J.ite (b:=j) (by simp[E,c,d]) (fun g=>?_) (fun g=>?_)
 ·replace h:=h.1 g;refine zE fun _ V=>?_
  simp[E,c,d,g];apply V;exact J.bj (v:=bool false) func120 results120 (by simp[E,c,d,g]) (hQ _ _ _ _ (.of (.v _)) ⟨false,h,rfl⟩)
 replace h:=h.2 g;apply J.skip;refine zI fun _ V=>?_
 have f13:=aU (show bB ((1:Int)+1) from ⟨by decide,by decide⟩) (show (2:Int)=(1:Int)+1 by decide);simp[E,c,d,f13,g,-aw];apply V;apply J.inLoop;refine zS fun _ V=>?_
 have f14:=aY (k:=.i64) (show true=decide (2<(3:Int)) by decide);simp[E,c,d,f14,g,-aw];apply V;refine J.cond (b:=true) (by simp[E,c,d,g]) ?_;simp only[if_true,if_false,Bool.false_eq_true,↓reduceIte];apply zK;apply J.block;refine J.cO ay aA bq (by decide) (by kernel_rfl) fun _ V=>?_
 obtain⟨i,o,h⟩:=aK h;have f16:=cg (k:=.i64) o;simp[E,c,d,f16,-aw];apply V;refine J.cut (fun O H n=>(O 2=pA U 2/\O 3=pA (U+1) 3/\O 5=int 2/\O 16=bool i)/\H (U,2)=some ⟨3,[[int a.1,int a.2.1,int a.2.2]]⟩/\H (U+1,3)=some ⟨3,[[int b.1,int b.2.1,int b.2.2]]⟩) (by refine⟨?_,?_,?_⟩<;>simp[E,c,d,f16,-aw]) ?_;clear E c d;rintro O H n17 ⟨E,c,d⟩;refine J.ite (b:=i) (by simp[E,c,d]) (fun e=>?_) (fun e=>?_)
 ·replace h:=h.1 e;refine zE fun _ V=>?_
  simp[E,c,d,e];apply V;exact J.bj (v:=bool false) func120 results120 (by simp[E,c,d,e]) (hQ _ _ _ _ (.of (.v _)) ⟨false,h,rfl⟩)
 replace h:=h.2 e;apply J.skip;refine zI fun _ V=>?_
 have f18:=aU (show bB ((2:Int)+1) from ⟨by decide,by decide⟩) (show (3:Int)=(2:Int)+1 by decide);simp[E,c,d,f18,e,-aw];apply V;apply J.inLoop;refine zS fun _ V=>?_
 have f19:=aY (k:=.i64) (show false=decide (3<(3:Int)) by decide);simp[E,c,d,f19,e,-aw];apply V;refine J.cond (b:=false) (by simp[E,c,d,e]) ?_;simp only[if_true,if_false,Bool.false_eq_true,↓reduceIte];refine J.exit rfl ?_;refine zE fun _ V=>?_
 simp[E,c,d,e];apply V;exact J.bj (v:=bool true) func120 results120 (by simp[E,c,d,e]) (hQ _ _ _ _ (.of (.v _)) ⟨true,h,rfl⟩)
theorem F2 (a:Int × Int × Int) (b:Int × Int × Int)  : aC prog 120 [.agg [int a.1,int a.2.1,int a.2.2],.agg [int b.1,int b.2.1,int b.2.2]] (fun r=>r=bool (FY a b)):=(Cf a b _ (GS a b )).mono (by rintro _ ⟨_,rfl,rfl⟩;rfl)
theorem e68:a8 prog 68:=a8.of func68 (by kernel_rfl) rfl
theorem yT (a:List (Int × Int × Int)) (b:List (Int × Int × Int)) (Z:Bool->Prop) (h:nv a b Z):aC prog 68 [.list false (a.map aT),.list false (b.map aT)] (fun r=>∃ y:Bool,Z y/\r=bool y):=by
 unfold nv at h;refine aC.of func68 rfl ntmps68 (by simp) fun Q hQ=>?_
 refine J.cut (fun O H n=>(O 0 = .list false (a.map aT)/\O 1 = .list false (b.map aT))) (by simp) ?_;rintro O H U E;refine zE fun _ V=>?_
 simp[E];apply V;refine zS fun _ V=>?_
 obtain⟨bh,elen2,h⟩:=aK h;have f3:=fun H=>aI (H:=H) (fr:=false) (f:=aT) fM elen2
 obtain⟨cM,elen4,h⟩:=aK h;have f5:=fun H=>aI (H:=H) (fr:=false) (f:=aT) fM elen4
 obtain⟨c6,ec6,h⟩:=aK h;have f7:=cg (k:=.i64) ec6;simp[E,f3,f5,f7,-aw,-aL];apply V;refine J.ite (b:=c6) (by simp[E]) (fun dc6=>?_) (fun dc6=>?_)
 ·replace h:=h.1 dc6;refine zE fun _ V=>?_
  simp[E,dc6];apply V;exact J.bj (v:=bool false) func68 results68 (by simp[E,dc6]) (hQ _ _ _ _ (.of (.v _)) ⟨false,h,rfl⟩)
 replace h:=h.2 dc6;apply J.skip;refine zS fun _ V=>?_
 simp[E,dc6];apply V;apply J.block;refine J.aO h (fun (sJ:Int) O H n=>match sJ with | i10=>(O 0 = .list false (a.map aT)/\O 1 = .list false (b.map aT)/\O 5=int i10)) (by simp[E,dc6]) ?_;clear E;rintro i10 O H F K h E j;refine zS fun _ V=>?_
 obtain⟨G,l,h⟩:=aK h;have f15:=fun H=>aI (H:=H) (fr:=false) (f:=aT) fM l
 obtain⟨o,p,h⟩:=aK h;have f17:=aY (k:=.i64) p;simp[E,f15,f17,-aw,-aL];apply V;refine J.ite (b:=o) (by simp[E]) (fun c=>?_) (fun c=>?_)
 ·replace h:=h.1 c;apply zK;apply J.block;refine J.cO ay aA bq (by decide) (by kernel_rfl) fun _ V=>?_
  obtain⟨q,h⟩:=h;obtain⟨e,t,h⟩:=aK h;have f20:=fun H=>aP (H:=H) (fr:=false) (f:=aT) (k:=.i64) fM (fun _=>rfl) q t
  obtain⟨u,h⟩:=h;obtain⟨g,A,h⟩:=aK h;have f23:=fun H=>aP (H:=H) (fr:=false) (f:=aT) (k:=.i64) fM (fun _=>rfl) u A
  obtain⟨r24,B,h⟩:=aK h;simp[E,f20,f23,c,-ar];refine bf.bN ay aA (F2 (e.1,e.2.1,e.2.2) (g.1,g.2.1,g.2.2) ) e120 (.cons (aJ.agg (.cons (.v _ _ _) (.cons (.v _ _ _) (.cons (.v _ _ _) .nil)))) (.cons (aJ.agg (.cons (.v _ _ _) (.cons (.v _ _ _) (.cons (.v _ _ _) .nil)))) .nil)) (by decide) rfl (by simp[E,f20,f23,c,-ar]) ?_;rw[<- B];simp[E,f20,f23,c,-ar];apply V;refine J.ite (b:=(!r24)) (by simp[E,c]) (fun d=>?_) (fun d=>?_)
  ·have d:r24=false:=by simpa using d
   replace h:=h.2 d;refine zE fun _ V=>?_
   simp[E,c,d];apply V;refine J.cut (fun O H n=>O 4=bool false) (by simp[E,c,d]) ?_;clear E;rintro O H n25 E;exact J.bj (v:=bool false) func68 results68 (by simp[E]) (hQ _ _ _ _ (.of (.v _)) ⟨false,h,rfl⟩)
  have d:r24=true:=by simpa using d
  replace h:=h.1 d;apply J.skip;refine zI fun _ V=>?_
  obtain⟨C,h⟩:=h;obtain⟨i,D,h⟩:=aK h;have f28:=aU C D;simp[E,f28,c,d,-aw];apply V;refine J.cut (fun O H n=>(O 0 = .list false (a.map aT)/\O 1 = .list false (b.map aT)/\O 5=int i)) (by simp[E,f28,c,d,-aw]) ?_;clear E;rintro O H n29 E;refine j (i) _ _ _ h (by simp[E])
 replace h:=h.2 c;refine J.exit rfl ?_;refine zE fun _ V=>?_
 simp[E,c];apply V;exact J.bj (v:=bool true) func68 results68 (by simp[E,c]) (hQ _ _ _ _ (.of (.v _)) ⟨true,h,rfl⟩)
theorem EN (a:List (Int × Int × Int)) (b:List (Int × Int × Int)) (hp:oO a b):aC prog 68 [.list false (a.map aT),.list false (b.map aT)] (fun r=>r=bool (sX a b)):=(yT a b _ (Fu a b hp)).mono (by rintro _ ⟨_,rfl,rfl⟩;rfl)
theorem e24:a8 prog 24:=a8.of func24 (by kernel_rfl) rfl
theorem EM (a:Sys) (b:Sys) (Z:Bool->Prop) (h:uY a b Z):aC prog 24 [.agg [.list false (a.states.map (I.cells false)),.list false (a.steps.map aT)],.agg [.list false (b.states.map (I.cells false)),.list false (b.steps.map aT)]] (fun r=>∃ y:Bool,Z y/\r=bool y):=by
 unfold uY at h;refine aC.of func24 rfl ntmps24 (by simp) fun Q hQ=>?_
 refine J.cut (fun O H n=>(O 0 = .agg [.list false (a.states.map (I.cells false)),.list false (a.steps.map aT)]/\O 1 = .agg [.list false (b.states.map (I.cells false)),.list false (b.steps.map aT)])) (by simp[I.cells,encI,aB,encS,aD]) ?_;rintro O H U E;refine zE fun _ V=>?_
 simp[E,I.cells,encI,aB,encS,aD];apply V;refine J.cut (fun O H n=>(O 2=pA U 2/\O 3=pA (U+1) 3)/\H (U,2)=some ⟨2,[[.list false (a.states.map (I.cells false)),.list false (a.steps.map aT)]]⟩/\H (U+1,3)=some ⟨2,[[.list false (b.states.map (I.cells false)),.list false (b.steps.map aT)]]⟩) (by refine⟨?_,?_,?_⟩<;>simp[E,I.cells,encI,aB,encS,aD]) ?_;clear E;rintro O H n4 ⟨E,c,d⟩;refine zS fun _ V=>?_
 obtain⟨hb5,h⟩:=h;obtain⟨r6,er6,h⟩:=aK h;simp[E,c,d,I.cells,encI,aB,encS,aD];refine zA (GM a.states b.states hb5) e67 (.cons (aJ.bK false a.states) (.cons (aJ.bK false b.states) .nil)) (by simp[E,c,d,I.cells,encI,aB,encS,aD]) ?_;rintro _ rfl;rw[<- er6];simp[E,c,d,I.cells,encI,aB,encS,aD];apply V;refine J.ite (b:=(!r6)) (by simp[E,c,d,I.cells,encI,aB,encS,aD]) (fun dr6=>?_) (fun dr6=>?_)
 ·have dr6:r6=false:=by simpa using dr6
  replace h:=h.2 dr6;refine zE fun _ V=>?_
  simp[E,c,d,dr6,I.cells,encI,aB,encS,aD];apply V;exact J.bj (v:=bool false) func24 results24 (by simp[E,c,d,dr6,I.cells,encI,aB,encS,aD]) (hQ _ _ _ _ (.of (.v _)) ⟨false,h,rfl⟩)
 have dr6:r6=true:=by simpa using dr6
 replace h:=h.1 dr6;apply J.skip;refine zS fun _ V=>?_
 obtain⟨hb7,h⟩:=h;obtain⟨r8,er8,h⟩:=aK h;simp[E,c,d,dr6,I.cells,encI,aB,encS,aD];refine zA (EN a.steps b.steps hb7) e68 (.cons (aJ.dE (fr:=false) (els:=a.steps.map aT) (ej _)) (.cons (aJ.dE (fr:=false) (els:=b.steps.map aT) (ej _)) .nil)) (by simp[E,c,d,dr6,I.cells,encI,aB,encS,aD]) ?_;rintro _ rfl;rw[<- er8];simp[E,c,d,dr6,I.cells,encI,aB,encS,aD];apply V;refine J.ite (b:=(!r8)) (by simp[E,c,d,dr6,I.cells,encI,aB,encS,aD]) (fun dr8=>?_) (fun dr8=>?_)
 ·have dr8:r8=false:=by simpa using dr8
  replace h:=h.2 dr8;refine zE fun _ V=>?_
  simp[E,c,d,dr6,dr8,I.cells,encI,aB,encS,aD];apply V;exact J.bj (v:=bool false) func24 results24 (by simp[E,c,d,dr6,dr8,I.cells,encI,aB,encS,aD]) (hQ _ _ _ _ (.of (.v _)) ⟨false,h,rfl⟩)
 have dr8:r8=true:=by simpa using dr8
 replace h:=h.1 dr8;apply J.skip;refine zE fun _ V=>?_
 simp[E,c,d,dr6,dr8,I.cells,encI,aB,encS,aD];apply V;exact J.bj (v:=bool true) func24 results24 (by simp[E,c,d,dr6,dr8,I.cells,encI,aB,encS,aD]) (hQ _ _ _ _ (.of (.v _)) ⟨true,h,rfl⟩)
theorem eqY_ok (a:Sys) (b:Sys) (hp:pS a b):aC prog 24 [.agg [.list false (a.states.map (I.cells false)),.list false (a.steps.map aT)],.agg [.list false (b.states.map (I.cells false)),.list false (b.steps.map aT)]] (fun r=>r=bool (eqY a b)):=(EM a b _ (eqY_vc a b hp)).mono (by rintro _ ⟨_,rfl,rfl⟩;rfl)
end Go.Ab.Vg
namespace Go.Ab.Vg
open Go.Proofs
set_option maxRecDepth 100000
attribute [local simp] bC
theorem e118:a8 prog 118:=a8.of func118 (by kernel_rfl) rfl
theorem sN {H:ax} {n:Nat} {cl:au} (t:Bool) (l:List (I)) (p:I->Bool) (hl:l.length<=1048576) (hcl:∀ x ∈ l,fP prog H n cl [.agg (bC false x)] (fun r=>r=bool (p x))) :
  cB prog 118 [.list t (l.map (I.cells false)),cl] H n (fun r=>r=int (mT l p)):=by
 refine cB.of func118 rfl ntmps118 (by simp) fun Q _ hQ=>?_
 refine zE fun _ V=>?_
 simp;apply V;refine zS fun _ V=>?_
 simp;apply V;refine J.block (J.bO l.length (fun k O H' n'=>O 0 = .list t (l.map (I.cells false))/\O 1=cl/\O 7=int l.length/\O 8=int k/\H'=H/\n'=n/\∀ i (h:i<l.length),i<k->p l[i]=false) ?_ ?_)
 ·simp
 ·rintro k O H' n' hk ⟨h0,h1,h7,h8,rfl,rfl,hno⟩ IH;refine zE fun _ V=>?_
  simp[h7,h8];apply V;apply J.seq;refine J.ite rfl (fun hc1=>?_) (fun hc1=>?_)
  ·have hc1:k<l.length:=by simpa using hc1
   apply zK;apply J.block;refine zE fun _ V=>?_
   simp[h8];apply V;refine zE fun _ V=>?_
   simp[h0,h1,hc1,I.cells,aB,encI,encS,aD];refine bz.wa ay (hcl l[k] (List.getElem_mem hc1)) (by decide) (by decide) (by simp[h1]) (by simp[I.cells,aB,encI,encS,aD]) ?_;rintro _ rfl;simp;apply V;refine J.ite rfl (fun hc2=>?_) (fun hc2=>?_)
   ·have hc2:p l[k]=true:=by simpa using hc2
    refine zE fun _ V=>?_
    simp;apply V;refine J.ret func118 (aR.one results118) (hQ _ _ _ _ (.p8 (.v _)) (Frame.refl _ _) ?_);simp[nu hc1 hc2 hno]
   ·have hc2:p l[k]=false:=by simpa using hc2
    apply J.skip;refine zI fun _ V=>?_
    simp[h8,bm (show k<4611686018427387904 by omega)];apply V;refine IH hc1 _ _ _ ⟨by simp[h0,I.cells,aB,encI,encS,aD],by simp[h1],by simp[h7],by simp,rfl,rfl,fun i h hi=>?_⟩;rcases Nat.lt_or_ge i k with hik | hik
    ·exact hno i h hik
    ·have:i=k:=by omega
     subst this;exact hc2
  ·have hc1:¬ k<l.length:=by simpa using hc1
   have hke:k=l.length:=by omega
   subst hke;refine J.exit rfl ?_;refine zE fun _ V=>?_
   simp;apply V;refine J.ret func118 (aR.one results118) (hQ _ _ _ _ (.p8 (.v _)) (Frame.refl _ _) ?_);simp[mz fun i h=>hno i h h]
end Go.Ab.Vg
