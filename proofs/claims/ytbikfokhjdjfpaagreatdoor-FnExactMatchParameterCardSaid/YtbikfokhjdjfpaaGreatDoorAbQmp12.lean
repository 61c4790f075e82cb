/- Merged texts (12 of 17) of the proof that ends in Mpy: Mcw Mnw Lmt. -/
import Derived.Test.YtbikfokhjdjfpaaGreatDoorAbQmp11
/- Walks by program for YtbikfokhjdjfpaaGreatDoorAbMc. -/
namespace Go.Ab.Vg
open Go.Proofs
set_option maxRecDepth 100000
set_option linter.unusedSimpArgs false
set_option linter.unusedVariables false
attribute [local simp] Control.cells aj.cells aA.cells al bO gp aL bC mC pA
theorem I5:Ent Tryz.prog 170:=Ent.of Tryz.func170 (by kernel_rfl) rfl
theorem wa (sig:List Control) (b:Big) (Z:Bool→Prop) (h:kC sig b Z):aq Tryz.prog 170 [.list false (sig.map Control.cells),.agg (bC false b)] (fun r=>∃ y:Bool,Z y∧r=bool y):=by
 unfold kC at h
 refine aq.of Tryz.func170 rfl Tryz.ntmps170 (by simp) fun Q hQ=>?_
 refine aa.cut (fun ρ H n=>(ρ 0 = .list false (sig.map Control.cells)∧ρ 1 = .agg (bC false b))) (by simp) ?_
 rintro ρ H n1 hh
 refine zE fun k' hk'=>?_
 simp[hh]
 apply hk'
 refine aa.cut (fun ρ H n=>(ρ 0 = .list false (sig.map Control.cells)∧ρ 3=pA n1 3)∧H (n1,3)=some ⟨6,[bC false b]⟩) (by refine⟨?_,?_⟩<;>simp[hh]) ?_
 clear hh
 rintro ρ H n3 ⟨hh,c⟩
 refine zE fun k' hk'=>?_
 obtain⟨J4,hJ5,hr6⟩:=h
 have fin8:∀ (sJ:Bool) (ρ:Env) (H:ak) (n:Nat),J4 sJ→(match sJ with | b7=>ρ 4=bool b7)→aa Tryz.prog 170 12 k' ρ H n Q:=by
  rintro b7 ρ H n9 h hh
  replace h:=hr6 _ h
  apply hk'
  exact aa.aV (v:=bool b7) Tryz.func170 Tryz.results170 (by simp[hh]) (hQ _ _ _ _ (.of (.v _)) ⟨b7,h,rfl⟩)
 replace h:=hJ5
 obtain⟨d,h⟩:=h
 obtain⟨e,g,h⟩:=atm h
 simp[hh,c]
 refine aG.aB ae (pt sig b d) e39 (.cons (iR false sig) (.cons (bg false b) .nil)) (by decide) (by decide) rfl (by simp[hh,c]) ?_
 rintro _ rfl
 rw[← g]
 rcases Bool.eq_false_or_eq_true e with a | a
 ·replace h:=h.1 a
  obtain⟨i,h⟩:=h
  obtain⟨j,l,h⟩:=atm h
  simp[hh,c,a]
  refine aG.aB ae (zI b i) Ie (.cons (bg false b) .nil) (by decide) (by decide) rfl (by simp[hh,c,a]) ?_
  rintro _ rfl
  rw[← l]
  simp[hh,c,a]
  exact fin8 (j) _ _ _ h (by simp[hh,c,a])
 replace h:=h.2 a
 simp[hh,c,a]
 exact fin8 (false) _ _ _ h (by simp[hh,c,a])
theorem z6 (sig:List Control) (b:Big) (hp:lV sig b):aq Tryz.prog 170 [.list false (sig.map Control.cells),.agg (bC false b)] (fun r=>r=bool (mU sig b)):=(wa sig b _ (yY sig b hp)).mono (by rintro _ ⟨_,rfl,rfl⟩;rfl)
theorem IY:Ent Tryz.prog 126:=Ent.of Tryz.func126 (by kernel_rfl) rfl
theorem yq (sig:List Control) (redex:Big) (agent:Big) (Z:Bool→Prop) (h:mP sig redex agent Z):aq Tryz.prog 126 [.list false (sig.map Control.cells),.agg (bC false redex),.agg (bC false agent)] (fun r=>∃ y:Bool,Z y∧r=bool y):=by
 unfold mP at h
 refine aq.of Tryz.func126 rfl Tryz.ntmps126 (by simp) fun Q hQ=>?_
 refine aa.cut (fun ρ H n=>(ρ 0 = .list false (sig.map Control.cells)∧ρ 1 = .agg (bC false redex)∧ρ 2 = .agg (bC false agent))) (by simp) ?_
 rintro ρ H n1 hh
 refine zE fun k' hk'=>?_
 simp[hh]
 apply hk'
 refine aa.cut (fun ρ H n=>(ρ 0 = .list false (sig.map Control.cells)∧ρ 4=pA n1 4∧ρ 5=pA (n1+1) 5)∧H (n1,4)=some ⟨6,[bC false redex]⟩∧H (n1+1,5)=some ⟨6,[bC false agent]⟩) (by refine⟨?_,?_,?_⟩<;>simp[hh]) ?_
 clear hh
 rintro ρ H n4 ⟨hh,b,c⟩
 refine zE fun k' hk'=>?_
 obtain⟨J5,hJ6,hr7⟩:=h
 have fin9:∀ (sJ:Bool) (ρ:Env) (H:ak) (n:Nat),J5 sJ→(match sJ with | b8=>ρ 6=bool b8)→aa Tryz.prog 126 15 k' ρ H n Q:=by
  rintro b8 ρ H o h hh
  replace h:=hr7 _ h
  apply hk'
  exact aa.aV (v:=bool b8) Tryz.func126 Tryz.results126 (by simp[hh]) (hQ _ _ _ _ (.of (.v _)) ⟨b8,h,rfl⟩)
 replace h:=hJ6
 obtain⟨d,h⟩:=h
 obtain⟨e,g,h⟩:=atm h
 simp[hh,b,c]
 refine aG.aB ae (z6 sig redex d) I5 (.cons (iR false sig) (.cons (bg false redex) .nil)) (by decide) (by decide) rfl (by simp[hh,b,c]) ?_
 rintro _ rfl
 rw[← g]
 rcases Bool.eq_false_or_eq_true e with a | a
 ·replace h:=h.1 a
  obtain⟨i,h⟩:=h
  obtain⟨j,l,h⟩:=atm h
  simp[hh,b,c,a]
  refine aG.aB ae (AB sig agent i) e36 (.cons (iR false sig) (.cons (bg false agent) .nil)) (by decide) (by decide) rfl (by simp[hh,b,c,a]) ?_
  rintro _ rfl
  rw[← l]
  simp[hh,b,c,a]
  exact fin9 (j) _ _ _ h (by simp[hh,b,c,a])
 replace h:=h.2 a
 simp[hh,b,c,a]
 exact fin9 (false) _ _ _ h (by simp[hh,b,c,a])
theorem Bu (sig:List Control) (redex:Big) (agent:Big) (hp:nM sig redex agent):aq Tryz.prog 126 [.list false (sig.map Control.cells),.agg (bC false redex),.agg (bC false agent)] (fun r=>r=bool (Aw sig redex agent)):=(yq sig redex agent _ (C5 sig redex agent hp)).mono (by rintro _ ⟨_,rfl,rfl⟩;rfl)
theorem I4:Ent Tryz.prog 203:=Ent.of Tryz.func203 (by kernel_rfl) rfl
theorem tB (redex:Big) (agent:Big) (nodes:List Int) (Z:Bool→Prop) (h:jg redex agent nodes Z):aq Tryz.prog 203 [.agg (bC false redex),.agg (bC false agent),.list false (nodes.map al)] (fun r=>∃ y:Bool,Z y∧r=bool y):=by
 unfold jg at h
 refine aq.of Tryz.func203 rfl Tryz.ntmps203 (by simp) fun Q hQ=>?_
 refine aa.cut (fun ρ H n=>(ρ 0 = .agg (bC false redex)∧ρ 1 = .agg (bC false agent)∧ρ 2 = .list false (nodes.map al))) (by simp) ?_
 rintro ρ H n1 hh
 refine zE fun k' hk'=>?_
 simp[hh]
 apply hk'
 refine aa.cut (fun ρ H n=>(ρ 2 = .list false (nodes.map al)∧ρ 3=pA n1 3∧ρ 4=pA (n1+1) 4)∧H (n1,3)=some ⟨6,[bC false redex]⟩∧H (n1+1,4)=some ⟨6,[bC false agent]⟩) (by refine⟨?_,?_,?_⟩<;>simp[hh]) ?_
 clear hh
 rintro ρ H n4 ⟨hh,c,d⟩
 refine aa.seq ?_
 refine zE fun k' hk'=>?_
 obtain⟨uI,elen5,h⟩:=atm h
 have f6:=fun H=>ax (H:=H) (fr:=false) (f:=al) aO elen5
 obtain⟨vC,elen7,h⟩:=atm h
 have f8:=fun H=>ax (H:=H) (fr:=false) (f:=(aj.cells false)) bj elen7
 obtain⟨c9,ec9,h⟩:=atm h
 have f10:=dz (k:=.i64) ec9
 simp[hh,c,d,f6,f8,f10,-ai,-aH]
 apply hk'
 refine aa.ite (b:=c9) (by simp[hh,c,d]) (fun dc9=>?_) (fun dc9=>?_)
 ·replace h:=h.1 dc9
  refine zE fun k' hk'=>?_
  simp[hh,c,d,dc9]
  apply hk'
  exact aa.aV (v:=bool false) Tryz.func203 Tryz.results203 (by simp[hh,c,d,dc9]) (hQ _ _ _ _ (.of (.v _)) ⟨false,h,rfl⟩)
 replace h:=h.2 dc9
 refine aa.skip ?_
 refine aa.seq ?_
 refine zE fun k' hk'=>?_
 simp[hh,c,d,dc9]
 apply hk'
 refine aa.block ?_
 refine aa.aw h (fun (sJ:Int) ρ H n=>match sJ with | i13=>(ρ 2 = .list false (nodes.map al)∧ρ 3=pA n1 3∧ρ 4=pA (n1+1) 4∧ρ 7=int i13)∧H (n1,3)=some ⟨6,[bC false redex]⟩∧H (n1+1,4)=some ⟨6,[bC false agent]⟩) (by refine⟨?_,?_,?_⟩<;>simp[hh,c,d,dc9]) ?_
 clear hh c d
 rintro i13 ρ H a0 K h ⟨hh,c,d⟩ u
 refine aa.seq ?_
 refine zE fun k' hk'=>?_
 obtain⟨a1,A,h⟩:=atm h
 have f18:=fun H=>ax (H:=H) (fr:=false) (f:=al) aO A
 obtain⟨B,C,h⟩:=atm h
 have f20:=aT (k:=.i64) C
 simp[hh,c,d,f18,f20,-ai,-aH]
 apply hk'
 refine aa.ite (b:=B) (by simp[hh,c,d]) (fun e=>?_) (fun e=>?_)
 ·replace h:=h.1 e
  refine aa.skip ?_
  refine aa.seq ?_
  refine aa.block ?_
  refine aa.eo ae aD bU (by decide) (by kernel_rfl) fun k' hk'=>?_
  obtain⟨D,E,F⟩:=h
  have o:∀ (sJ:Bool) (ρ:Env) (H:ak) (n:Nat),D sJ→(match sJ with | p=>(ρ 2 = .list false (nodes.map al)∧ρ 3=pA n1 3∧ρ 4=pA (n1+1) 4∧ρ 7=int i13∧ρ 54=bool p)∧H (n1,3)=some ⟨6,[bC false redex]⟩∧H (n1+1,4)=some ⟨6,[bC false agent]⟩)→aa Tryz.prog 203 55 k' ρ H n Q:=by
   rintro p ρ H n26 h ⟨hh,c,d⟩
   replace h:=F _ h
   apply hk'
   refine aa.ite (b:=p) (by simp[hh,c,d]) (fun i=>?_) (fun i=>?_)
   ·replace h:=h.1 i
    refine zE fun k' hk'=>?_
    simp[hh,c,d,i]
    apply hk'
    exact aa.aV (v:=bool false) Tryz.func203 Tryz.results203 (by simp[hh,c,d,i]) (hQ _ _ _ _ (.of (.v _)) ⟨false,h,rfl⟩)
   replace h:=h.2 i
   refine aa.skip ?_
   refine aa.inBlock ?_
   refine zF fun k' hk'=>?_
   obtain⟨G,h⟩:=h
   obtain⟨v28,I,h⟩:=atm h
   have f29:=aI G I
   simp[hh,c,d,f29,i,-ai]
   apply hk'
   refine u (v28) _ _ _ h (by refine⟨?_,?_,?_⟩<;>simp[hh,c,d,i])
  replace h:=E
  obtain⟨J,h⟩:=h
  obtain⟨q,l,h⟩:=atm h
  have f32:=fun H=>aE (H:=H) (fr:=false) (f:=al) (k:=.i64) aO (fun _=>rfl) J l
  obtain⟨L,h⟩:=h
  obtain⟨M,N,h⟩:=atm h
  simp[hh,c,d,f32,e,-ah]
  refine bn.aB ae aD (E1 agent q L) e37 (.cons (bg false agent) (.cons (.v _ _ _) .nil)) (by decide) rfl (by simp[hh,c,d,f32,e,-ah]) ?_
  rw[← N]
  rcases Bool.eq_false_or_eq_true M with g | g
  ·replace h:=h.1 g
   obtain⟨O,h⟩:=h
   obtain⟨t,R,h⟩:=atm h
   have f37:=fun H=>AR (H:=H) (fr:=false) (f:=al) (lo:=none) (hi:=some (int i13)) (a:=0) (b:=i13) (by simp[ch]) (by simp[ch]) aO (fun _=>rfl) O R
   obtain⟨T,h⟩:=h
   obtain⟨a2,U,h⟩:=atm h
   have V:=l.trans U.symm
   subst V
   have f41:=fun H=>aE (H:=H) (fr:=false) (f:=al) (k:=.i64) aO (fun _=>rfl) T l
   obtain⟨W,h⟩:=h
   obtain⟨X,Y,h⟩:=atm h
   simp[hh,c,d,f32,f37,f41,e,g,-ah,-dB]
   refine bn.aB ae aD (jW t q W) Dz (.cons (cY false t) (.cons (.v _ _ _) .nil)) (by decide) rfl (by simp[hh,c,d,f32,f37,f41,e,g,-ah,-dB]) ?_
   rw[← Y]
   rcases Bool.eq_false_or_eq_true X with j | j
   ·replace h:=h.1 j
    simp[hh,c,d,f32,f37,f41,e,g,j,-ah,-dB]
    exact o (true) _ _ _ h (by refine⟨?_,?_,?_⟩<;>simp[hh,c,d,f32,f37,f41,e,g,j,-ah,-dB])
   replace h:=h.2 j
   obtain⟨ab,h⟩:=h
   obtain⟨a3,ac,h⟩:=atm h
   have ad:=l.trans ac.symm
   subst ad
   have f47:=fun H=>aE (H:=H) (fr:=false) (f:=al) (k:=.i64) aO (fun _=>rfl) ab l
   obtain⟨af,h⟩:=h
   obtain⟨a4,am,h⟩:=atm h
   have f50:=fun H=>aE (H:=H) (fr:=false) (f:=(aj.cells false)) (k:=.i64) bj (fun _=>rfl) af am
   obtain⟨an,h⟩:=h
   obtain⟨a5,ao,h⟩:=atm h
   have f53:=fun H=>aE (H:=H) (fr:=false) (f:=(aj.cells false)) (k:=.i64) bj (fun _=>rfl) an ao
   obtain⟨ap,aM,h⟩:=atm h
   have f55:=dz (k:=.i64) aM
   simp[hh,c,d,f32,f37,f41,f47,f50,f53,f55,e,g,j,-ah,-ai,-dB]
   exact o (ap) _ _ _ h (by refine⟨?_,?_,?_⟩<;>simp[hh,c,d,f32,f37,f41,f47,f50,f53,f55,e,g,j,-ah,-ai,-dB])
  replace h:=h.2 g
  simp[hh,c,d,f32,e,g,-ah]
  exact o (true) _ _ _ h (by refine⟨?_,?_,?_⟩<;>simp[hh,c,d,f32,e,g,-ah])
 replace h:=h.2 e
 refine aa.exit rfl ?_
 refine zE fun k' hk'=>?_
 simp[hh,c,d,e]
 apply hk'
 exact aa.aV (v:=bool true) Tryz.func203 Tryz.results203 (by simp[hh,c,d,e]) (hQ _ _ _ _ (.of (.v _)) ⟨true,h,rfl⟩)
theorem wv (redex:Big) (agent:Big) (nodes:List Int) (hp:ks redex agent nodes):aq Tryz.prog 203 [.agg (bC false redex),.agg (bC false agent),.list false (nodes.map al)] (fun r=>r=bool (fX redex agent nodes)):=(tB redex agent nodes _ (xP redex agent nodes hp)).mono (by rintro _ ⟨_,rfl,rfl⟩;rfl)
theorem IE:Ent Tryz.prog 205:=Ent.of Tryz.func205 (by kernel_rfl) rfl
theorem rz (redex:Big) (agent:Big) (m:Match) (Z:Bool→Prop) (h:gY redex agent m Z):aq Tryz.prog 205 [.agg (bC false redex),.agg (bC false agent),.agg (mC false m)] (fun r=>∃ y:Bool,Z y∧r=bool y):=by
 unfold gY at h
 refine aq.of Tryz.func205 rfl Tryz.ntmps205 (by simp) fun Q hQ=>?_
 refine aa.cut (fun ρ H n=>(ρ 0 = .agg (bC false redex)∧ρ 1 = .agg (bC false agent)∧ρ 2 = .agg (mC false m))) (by simp) ?_
 rintro ρ H n1 hh
 refine zE fun k' hk'=>?_
 simp[hh]
 apply hk'
 refine aa.cut (fun ρ H n=>(ρ 3=pA n1 3∧ρ 4=pA (n1+1) 4∧ρ 5=pA (n1+2) 5)∧H (n1,3)=some ⟨6,[bC false redex]⟩∧H (n1+1,4)=some ⟨6,[bC false agent]⟩∧H (n1+2,5)=some ⟨2,[mC false m]⟩) (by refine⟨?_,?_,?_,?_⟩<;>simp[hh]) ?_
 clear hh
 rintro ρ H n5 ⟨hh,a,c,d⟩
 refine aa.seq ?_
 refine zE fun k' hk'=>?_
 simp[hh,a,c,d]
 apply hk'
 refine aa.block ?_
 refine aa.aw h (fun (sJ:Int) ρ H n=>match sJ with | i8=>(ρ 3=pA n1 3∧ρ 4=pA (n1+1) 4∧ρ 5=pA (n1+2) 5∧ρ 7=int i8)∧H (n1,3)=some ⟨6,[bC false redex]⟩∧H (n1+1,4)=some ⟨6,[bC false agent]⟩∧H (n1+2,5)=some ⟨2,[mC false m]⟩) (by refine⟨?_,?_,?_,?_⟩<;>simp[hh,a,c,d]) ?_
 clear hh a c d
 rintro i8 ρ H n9 K h ⟨hh,a,c,d⟩ l
 refine aa.seq ?_
 refine zE fun k' hk'=>?_
 obtain⟨dq,t,h⟩:=atm h
 have f13:=fun H=>ax (H:=H) (fr:=false) (f:=al) aO t
 obtain⟨u,A,h⟩:=atm h
 have f15:=aT (k:=.i64) A
 simp[hh,a,c,d,f13,f15,-ai,-aH]
 apply hk'
 refine aa.ite (b:=u) (by simp[hh,a,c,d]) (fun e=>?_) (fun e=>?_)
 ·replace h:=h.1 e
  refine aa.skip ?_
  refine aa.seq ?_
  refine aa.block ?_
  refine zE fun k' hk'=>?_
  simp[hh,a,c,d,e]
  apply hk'
  refine aa.seq ?_
  refine zE fun k' hk'=>?_
  obtain⟨B,h⟩:=h
  obtain⟨C,D,h⟩:=atm h
  have f18:=fun H=>aE (H:=H) (fr:=false) (f:=(aj.cells false)) (k:=.i64) bj (fun _=>rfl) B D
  simp[hh,a,c,d,f18,e,-ah]
  apply hk'
  refine zE fun k' hk'=>?_
  obtain⟨o,E,h⟩:=atm h
  have f20:=jz (k:=.i64) E
  simp[hh,a,c,d,f20,e,-ai]
  apply hk'
  refine aa.cut (fun ρ H n=>(ρ 3=pA n1 3∧ρ 4=pA (n1+1) 4∧ρ 5=pA (n1+2) 5∧ρ 7=int i8∧ρ 9=int C.parent∧ρ 24=bool o)∧H (n1,3)=some ⟨6,[bC false redex]⟩∧H (n1+1,4)=some ⟨6,[bC false agent]⟩∧H (n1+2,5)=some ⟨2,[mC false m]⟩) (by refine⟨?_,?_,?_,?_⟩<;>simp[hh,a,c,d,f20,e,-ai]) ?_
  clear hh a c d
  rintro ρ H n21 ⟨hh,a,c,d⟩
  refine aa.ite (b:=o) (by simp[hh,a,c,d]) (fun g=>?_) (fun g=>?_)
  ·replace h:=h.1 g
   refine zF fun k' hk'=>?_
   obtain⟨F,h⟩:=h
   obtain⟨ao,G,h⟩:=atm h
   have f24:=fun H=>aE (H:=H) (fr:=false) (f:=al) (k:=.i64) aO (fun _=>rfl) F G
   simp[hh,a,c,d,f24,g,-ah]
   apply hk'
   refine aa.eo ae aD bU (by decide) (by kernel_rfl) fun k' hk'=>?_
   obtain⟨I,h⟩:=h
   obtain⟨ap,J,h⟩:=atm h
   have f27:=fun H=>aE (H:=H) (fr:=false) (f:=al) (k:=.i64) aO (fun _=>rfl) I J
   obtain⟨L,h⟩:=h
   obtain⟨aM,M,h⟩:=atm h
   have f30:=fun H=>aE (H:=H) (fr:=false) (f:=(aj.cells false)) (k:=.i64) bj (fun _=>rfl) L M
   obtain⟨p,N,h⟩:=atm h
   have f32:=dz (k:=.i64) N
   simp[hh,a,c,d,f27,f30,f32,g,-ah,-ai]
   apply hk'
   refine aa.cut (fun ρ H n=>(ρ 3=pA n1 3∧ρ 4=pA (n1+1) 4∧ρ 5=pA (n1+2) 5∧ρ 7=int i8∧ρ 47=bool p)∧H (n1,3)=some ⟨6,[bC false redex]⟩∧H (n1+1,4)=some ⟨6,[bC false agent]⟩∧H (n1+2,5)=some ⟨2,[mC false m]⟩) (by refine⟨?_,?_,?_,?_⟩<;>simp[hh,a,c,d,f27,f30,f32,g,-ah,-ai]) ?_
   clear hh a c d
   rintro ρ H n33 ⟨hh,a,c,d⟩
   refine aa.ite (b:=p) (by simp[hh,a,c,d]) (fun i=>?_) (fun i=>?_)
   ·replace h:=h.1 i
    refine zE fun k' hk'=>?_
    simp[hh,a,c,d,i]
    apply hk'
    exact aa.aV (v:=bool false) Tryz.func205 Tryz.results205 (by simp[hh,a,c,d,i]) (hQ _ _ _ _ (.of (.v _)) ⟨false,h,rfl⟩)
   replace h:=h.2 i
   refine aa.skip ?_
   refine aa.inBlock ?_
   refine zF fun k' hk'=>?_
   obtain⟨O,h⟩:=h
   obtain⟨R,T,h⟩:=atm h
   have f36:=aI O T
   simp[hh,a,c,d,f36,i,-ai]
   apply hk'
   refine l (R) _ _ _ h (by refine⟨?_,?_,?_,?_⟩<;>simp[hh,a,c,d,i])
  replace h:=h.2 g
  refine zF fun k' hk'=>?_
  obtain⟨U,h⟩:=h
  obtain⟨a0,V,h⟩:=atm h
  have f39:=lP U V
  obtain⟨W,h⟩:=h
  obtain⟨a1,X,h⟩:=atm h
  have f42:=fun H=>aE (H:=H) (fr:=false) (f:=al) (k:=.i64) aO (fun _=>rfl) W X
  simp[hh,a,c,d,f39,f42,g,-ah,-ai]
  apply hk'
  refine aa.eo ae aD bU (by decide) (by kernel_rfl) fun k' hk'=>?_
  obtain⟨Y,h⟩:=h
  obtain⟨a2,ab,h⟩:=atm h
  have f45:=fun H=>aE (H:=H) (fr:=false) (f:=al) (k:=.i64) aO (fun _=>rfl) Y ab
  obtain⟨ac,h⟩:=h
  obtain⟨a3,ad,h⟩:=atm h
  have f48:=fun H=>aE (H:=H) (fr:=false) (f:=(aj.cells false)) (k:=.i64) bj (fun _=>rfl) ac ad
  obtain⟨q,af,h⟩:=atm h
  have f50:=dz (k:=.i64) af
  simp[hh,a,c,d,f45,f48,f50,g,-ah,-ai]
  apply hk'
  refine aa.cut (fun ρ H n=>(ρ 3=pA n1 3∧ρ 4=pA (n1+1) 4∧ρ 5=pA (n1+2) 5∧ρ 7=int i8∧ρ 47=bool q)∧H (n1,3)=some ⟨6,[bC false redex]⟩∧H (n1+1,4)=some ⟨6,[bC false agent]⟩∧H (n1+2,5)=some ⟨2,[mC false m]⟩) (by refine⟨?_,?_,?_,?_⟩<;>simp[hh,a,c,d,f45,f48,f50,g,-ah,-ai]) ?_
  clear hh a c d
  rintro ρ H a4 ⟨hh,a,c,d⟩
  refine aa.ite (b:=q) (by simp[hh,a,c,d]) (fun j=>?_) (fun j=>?_)
  ·replace h:=h.1 j
   refine zE fun k' hk'=>?_
   simp[hh,a,c,d,j]
   apply hk'
   exact aa.aV (v:=bool false) Tryz.func205 Tryz.results205 (by simp[hh,a,c,d,j]) (hQ _ _ _ _ (.of (.v _)) ⟨false,h,rfl⟩)
  replace h:=h.2 j
  refine aa.skip ?_
  refine aa.inBlock ?_
  refine zF fun k' hk'=>?_
  obtain⟨am,h⟩:=h
  obtain⟨v53,an,h⟩:=atm h
  have f54:=aI am an
  simp[hh,a,c,d,f54,j,-ai]
  apply hk'
  refine l (v53) _ _ _ h (by refine⟨?_,?_,?_,?_⟩<;>simp[hh,a,c,d,j])
 replace h:=h.2 e
 refine aa.exit rfl ?_
 refine zE fun k' hk'=>?_
 simp[hh,a,c,d,e]
 apply hk'
 exact aa.aV (v:=bool true) Tryz.func205 Tryz.results205 (by simp[hh,a,c,d,e]) (hQ _ _ _ _ (.of (.v _)) ⟨true,h,rfl⟩)
theorem vw (redex:Big) (agent:Big) (m:Match) (hp:fP redex agent m):aq Tryz.prog 205 [.agg (bC false redex),.agg (bC false agent),.agg (mC false m)] (fun r=>r=bool (eW redex agent m)):=(rz redex agent m _ (uM redex agent m hp)).mono (by rintro _ ⟨_,rfl,rfl⟩;rfl)
theorem Il:Ent Tryz.prog 206:=Ent.of Tryz.func206 (by kernel_rfl) rfl
theorem wx (redex:Big) (agent:Big) (m:Match) (Z:Bool→Prop) (h:mH redex agent m Z):aq Tryz.prog 206 [.agg (bC false redex),.agg (bC false agent),.agg (mC false m)] (fun r=>∃ y:Bool,Z y∧r=bool y):=by
 unfold mH at h
 refine aq.of Tryz.func206 rfl Tryz.ntmps206 (by simp) fun Q hQ=>?_
 refine aa.cut (fun ρ H n=>(ρ 0 = .agg (bC false redex)∧ρ 1 = .agg (bC false agent)∧ρ 2 = .agg (mC false m))) (by simp) ?_
 rintro ρ H n1 hh
 refine zE fun k' hk'=>?_
 simp[hh]
 apply hk'
 refine aa.cut (fun ρ H n=>(ρ 3=pA n1 3∧ρ 4=pA (n1+1) 4∧ρ 5=pA (n1+2) 5)∧H (n1,3)=some ⟨6,[bC false redex]⟩∧H (n1+1,4)=some ⟨6,[bC false agent]⟩∧H (n1+2,5)=some ⟨2,[mC false m]⟩) (by refine⟨?_,?_,?_,?_⟩<;>simp[hh]) ?_
 clear hh
 rintro ρ H n5 ⟨hh,a,c,d⟩
 refine aa.seq ?_
 refine zE fun k' hk'=>?_
 simp[hh,a,c,d]
 apply hk'
 refine aa.block ?_
 refine aa.aw h (fun (sJ:Int) ρ H n=>match sJ with | i8=>(ρ 3=pA n1 3∧ρ 4=pA (n1+1) 4∧ρ 5=pA (n1+2) 5∧ρ 7=int i8)∧H (n1,3)=some ⟨6,[bC false redex]⟩∧H (n1+1,4)=some ⟨6,[bC false agent]⟩∧H (n1+2,5)=some ⟨2,[mC false m]⟩) (by refine⟨?_,?_,?_,?_⟩<;>simp[hh,a,c,d]) ?_
 clear hh a c d
 rintro i8 ρ H n9 K h ⟨hh,a,c,d⟩ t
 refine aa.seq ?_
 refine zE fun k' hk'=>?_
 obtain⟨dq,u,h⟩:=atm h
 have f13:=fun H=>ax (H:=H) (fr:=false) (f:=al) aO u
 obtain⟨A,B,h⟩:=atm h
 have f15:=aT (k:=.i64) B
 simp[hh,a,c,d,f13,f15,-ai,-aH]
 apply hk'
 refine aa.ite (b:=A) (by simp[hh,a,c,d]) (fun i=>?_) (fun i=>?_)
 ·replace h:=h.1 i
  refine aa.skip ?_
  refine aa.seq ?_
  refine aa.block ?_
  refine aa.eo ae aD bU (by decide) (by kernel_rfl) fun k' hk'=>?_
  obtain⟨C,h⟩:=h
  obtain⟨D,E,h⟩:=atm h
  have f18:=fun H=>aE (H:=H) (fr:=false) (f:=al) (k:=.i64) aO (fun _=>rfl) C E
  obtain⟨F,h⟩:=h
  obtain⟨p,G,h⟩:=atm h
  simp[hh,a,c,d,f18,i,-ah]
  refine bn.aB ae aD ((tW agent D F).pure) GN (.cons (bg false agent) (.cons (.v _ _ _) .nil)) (by decide) rfl (by simp[hh,a,c,d,f18,i,-ah]) ?_
  rw[← G]
  simp[hh,a,c,d,f18,i,-ah]
  apply hk'
  refine zE fun k' hk'=>?_
  simp[hh,a,c,d,i]
  apply hk'
  refine aa.block ?_
  refine aa.aw h (fun (sJ:Int) ρ H n=>match sJ with | k23=>(ρ 3=pA n1 3∧ρ 4=pA (n1+1) 4∧ρ 5=pA (n1+2) 5∧ρ 7=int i8∧ρ 8 = .list true (p.map al)∧ρ 9=int k23)∧H (n1,3)=some ⟨6,[bC false redex]⟩∧H (n1+1,4)=some ⟨6,[bC false agent]⟩∧H (n1+2,5)=some ⟨2,[mC false m]⟩) (by refine⟨?_,?_,?_,?_⟩<;>simp[hh,a,c,d,i]) ?_
  clear hh a c d
  rintro k23 ρ H n24 K h ⟨hh,a,c,d⟩ I
  refine aa.seq ?_
  refine zE fun k' hk'=>?_
  obtain⟨J,L,M⟩:=h
  have q:∀ (sJ:Bool) (ρ:Env) (H:ak) (n:Nat),J sJ→(match sJ with | l=>(ρ 3=pA n1 3∧ρ 4=pA (n1+1) 4∧ρ 5=pA (n1+2) 5∧ρ 7=int i8∧ρ 8 = .list true (p.map al)∧ρ 9=int k23∧ρ 34=bool l)∧H (n1,3)=some ⟨6,[bC false redex]⟩∧H (n1+1,4)=some ⟨6,[bC false agent]⟩∧H (n1+2,5)=some ⟨2,[mC false m]⟩)→aa Tryz.prog 206 45 k' ρ H n Q:=by
   rintro l ρ H n32 h ⟨hh,a,c,d⟩
   replace h:=M _ h
   apply hk'
   refine aa.ite (b:=l) (by simp[hh,a,c,d]) (fun e=>?_) (fun e=>?_)
   ·replace h:=h.1 e
    refine aa.skip ?_
    refine aa.seq ?_
    refine aa.block ?_
    refine aa.eo ae aD bU (by decide) (by kernel_rfl) fun k' hk'=>?_
    obtain⟨N,h⟩:=h
    obtain⟨O,R,h⟩:=atm h
    have f35:=fun H=>aE (H:=H) (fr:=true) (f:=al) (k:=.i64) aO (fun _=>rfl) N R
    obtain⟨T,h⟩:=h
    obtain⟨o,U,h⟩:=atm h
    simp[hh,a,c,d,f35,e,-ah]
    refine bn.aB ae aD (jW m.nodes O T) Dz (.cons (cY false m.nodes) (.cons (.v _ _ _) .nil)) (by decide) rfl (by simp[hh,a,c,d,f35,e,-ah]) ?_
    rw[← U]
    simp[hh,a,c,d,f35,e,-ah]
    apply hk'
    refine aa.ite (b:=(!o)) (by simp[hh,a,c,d,e]) (fun g=>?_) (fun g=>?_)
    ·have g:o=false:=by simpa using g
     replace h:=h.2 g
     refine zE fun k' hk'=>?_
     simp[hh,a,c,d,e,g]
     apply hk'
     exact aa.aV (v:=bool false) Tryz.func206 Tryz.results206 (by simp[hh,a,c,d,e,g]) (hQ _ _ _ _ (.of (.v _)) ⟨false,h,rfl⟩)
    have g:o=true:=by simpa using g
    replace h:=h.1 g
    refine aa.skip ?_
    refine aa.inBlock ?_
    refine zF fun k' hk'=>?_
    obtain⟨V,h⟩:=h
    obtain⟨W,X,h⟩:=atm h
    have f40:=aI V X
    simp[hh,a,c,d,f40,e,g,-ai]
    apply hk'
    refine I (W) _ _ _ h (by refine⟨?_,?_,?_,?_⟩<;>simp[hh,a,c,d,e,g])
   replace h:=h.2 e
   refine aa.exit rfl ?_
   refine aa.inBlock ?_
   refine zF fun k' hk'=>?_
   obtain⟨Y,h⟩:=h
   obtain⟨ab,ac,h⟩:=atm h
   have f43:=aI Y ac
   simp[hh,a,c,d,f43,e,-ai]
   apply hk'
   refine t (ab) _ _ _ h (by refine⟨?_,?_,?_,?_⟩<;>simp[hh,a,c,d,e])
  replace h:=L
  obtain⟨a1,ad,h⟩:=atm h
  have f45:=fun H=>ax (H:=H) (fr:=true) (f:=al) aO ad
  obtain⟨af,am,h⟩:=atm h
  have f47:=aT (k:=.i64) am
  rcases Bool.eq_false_or_eq_true af with j | j
  ·replace h:=h.1 j
   obtain⟨an,h⟩:=h
   obtain⟨a2,ao,h⟩:=atm h
   simp[hh,a,c,d,f45,f47,j,-ai,-aH]
   refine aG.aB ae ((ld redex i8 an).pure) Fx (.cons (bg false redex) (.cons (.v _ _ _) .nil)) (by decide) (by decide) rfl (by simp[hh,a,c,d,f45,f47,j,-ai,-aH]) ?_
   rintro _ rfl
   rw[← ao]
   obtain⟨a3,ap,h⟩:=atm h
   have f51:=fun H=>ax (H:=H) (fr:=true) (f:=al) aO ap
   obtain⟨aM,a0,h⟩:=atm h
   have f53:=cJ (k:=.i64) a0
   simp[hh,a,c,d,f45,f47,f51,f53,j,-ai,-aH]
   exact q (aM) _ _ _ h (by refine⟨?_,?_,?_,?_⟩<;>simp[hh,a,c,d,f45,f47,f51,f53,j,-ai,-aH])
  replace h:=h.2 j
  simp[hh,a,c,d,f45,f47,j,-ai,-aH]
  exact q (false) _ _ _ h (by refine⟨?_,?_,?_,?_⟩<;>simp[hh,a,c,d,f45,f47,j,-ai,-aH])
 replace h:=h.2 i
 refine aa.exit rfl ?_
 refine zE fun k' hk'=>?_
 simp[hh,a,c,d,i]
 apply hk'
 exact aa.aV (v:=bool true) Tryz.func206 Tryz.results206 (by simp[hh,a,c,d,i]) (hQ _ _ _ _ (.of (.v _)) ⟨true,h,rfl⟩)
theorem Cy (redex:Big) (agent:Big) (m:Match) (hp:nT redex agent m):aq Tryz.prog 206 [.agg (bC false redex),.agg (bC false agent),.agg (mC false m)] (fun r=>r=bool (kV redex agent m)):=(wx redex agent m _ (Ch redex agent m hp)).mono (by rintro _ ⟨_,rfl,rfl⟩;rfl)
theorem Jr:Ent Tryz.prog 244:=Ent.of Tryz.func244 (by kernel_rfl) rfl
theorem uG (b:Big) (x:Int) (Z:Bool→Prop) (h:kh b x Z):aq Tryz.prog 244 [.agg (bC false b),int x] (fun r=>∃ y:Bool,Z y∧r=bool y):=by
 unfold kh at h
 refine aq.of Tryz.func244 rfl Tryz.ntmps244 (by simp) fun Q hQ=>?_
 refine aa.cut (fun ρ H n=>(ρ 0 = .agg (bC false b)∧ρ 1=int x)) (by simp) ?_
 rintro ρ H n1 hh
 refine zE fun k' hk'=>?_
 simp[hh]
 apply hk'
 refine aa.cut (fun ρ H n=>(ρ 1=int x∧ρ 2=pA n1 2)∧H (n1,2)=some ⟨6,[bC false b]⟩) (by refine⟨?_,?_⟩<;>simp[hh]) ?_
 clear hh
 rintro ρ H n3 ⟨hh,a⟩
 refine zE fun k' hk'=>?_
 obtain⟨hb4,h⟩:=h
 obtain⟨v5,ev5,h⟩:=atm h
 have f6:=zL hb4 ev5
 obtain⟨vC,elen7,h⟩:=atm h
 have f8:=fun H=>ax (H:=H) (fr:=false) (f:=(aj.cells false)) bj elen7
 obtain⟨hb9,h⟩:=h
 obtain⟨v10,d,h⟩:=atm h
 have f11:=lP hb9 d
 obtain⟨c,e,h⟩:=atm h
 simp[hh,a,f6,f8,f11,-ai,-aH,-unF,eH]
 refine aG.aB ae (eZ x v5 v10) e93 (.cons (.v _ _ _) (.cons (.v _ _ _) (.cons (.v _ _ _) .nil))) (by decide) (by decide) rfl (by simp[hh,a,f6,f8,f11,-ai,-aH,-unF,eH]) ?_
 rintro _ rfl
 rw[← e]
 simp[hh,a,f6,f8,f11,-ai,-aH,-unF,eH]
 apply hk'
 exact aa.aV (v:=bool c) Tryz.func244 Tryz.results244 (by simp[hh,a]) (hQ _ _ _ _ (.of (.v _)) ⟨c,h,rfl⟩)
theorem zz (b:Big) (x:Int) (hp:lN b x):aq Tryz.prog 244 [.agg (bC false b),int x] (fun r=>r=bool (oo b x)):=(uG b x _ (Au b x hp)).mono (by rintro _ ⟨_,rfl,rfl⟩;rfl)
theorem Jf:Ent Tryz.prog 204:=Ent.of Tryz.func204 (by kernel_rfl) rfl
theorem te (redex:Big) (agent:Big) (m:Match) (Z:Bool→Prop) (h:iT redex agent m Z):aq Tryz.prog 204 [.agg (bC false redex),.agg (bC false agent),.agg (mC false m)] (fun r=>∃ y:Bool,Z y∧r=bool y):=by
 unfold iT at h
 refine aq.of Tryz.func204 rfl Tryz.ntmps204 (by simp) fun Q hQ=>?_
 refine aa.cut (fun ρ H n=>(ρ 0 = .agg (bC false redex)∧ρ 1 = .agg (bC false agent)∧ρ 2 = .agg (mC false m))) (by simp) ?_
 rintro ρ H n1 hh
 refine zE fun k' hk'=>?_
 simp[hh]
 apply hk'
 refine aa.cut (fun ρ H n=>(ρ 3=pA n1 3∧ρ 4=pA (n1+1) 4∧ρ 5=pA (n1+2) 5)∧H (n1,3)=some ⟨6,[bC false redex]⟩∧H (n1+1,4)=some ⟨6,[bC false agent]⟩∧H (n1+2,5)=some ⟨2,[mC false m]⟩) (by refine⟨?_,?_,?_,?_⟩<;>simp[hh]) ?_
 clear hh
 rintro ρ H n5 ⟨hh,a,c,d⟩
 refine aa.seq ?_
 refine zE fun k' hk'=>?_
 simp[hh,a,c,d]
 apply hk'
 refine aa.block ?_
 refine aa.aw h (fun (sJ:Int) ρ H n=>match sJ with | r8=>(ρ 3=pA n1 3∧ρ 4=pA (n1+1) 4∧ρ 5=pA (n1+2) 5∧ρ 7=int r8)∧H (n1,3)=some ⟨6,[bC false redex]⟩∧H (n1+1,4)=some ⟨6,[bC false agent]⟩∧H (n1+2,5)=some ⟨2,[mC false m]⟩) (by refine⟨?_,?_,?_,?_⟩<;>simp[hh,a,c,d]) ?_
 clear hh a c d
 rintro r8 ρ H n9 K h ⟨hh,a,c,d⟩ t
 refine aa.seq ?_
 refine zE fun k' hk'=>?_
 obtain⟨dq,u,h⟩:=atm h
 have f13:=fun H=>ax (H:=H) (fr:=false) (f:=al) aO u
 obtain⟨A,B,h⟩:=atm h
 have f15:=aT (k:=.i64) B
 simp[hh,a,c,d,f13,f15,-ai,-aH]
 apply hk'
 refine aa.ite (b:=A) (by simp[hh,a,c,d]) (fun e=>?_) (fun e=>?_)
 ·replace h:=h.1 e
  refine aa.skip ?_
  refine aa.seq ?_
  refine aa.block ?_
  refine aa.eo ae aD bU (by decide) (by kernel_rfl) fun k' hk'=>?_
  obtain⟨C,D,E⟩:=h
  have o:∀ (sJ:Bool) (ρ:Env) (H:ak) (n:Nat),C sJ→(match sJ with | j=>(ρ 3=pA n1 3∧ρ 4=pA (n1+1) 4∧ρ 5=pA (n1+2) 5∧ρ 7=int r8∧ρ 32=bool j)∧H (n1,3)=some ⟨6,[bC false redex]⟩∧H (n1+1,4)=some ⟨6,[bC false agent]⟩∧H (n1+2,5)=some ⟨2,[mC false m]⟩)→aa Tryz.prog 204 39 k' ρ H n Q:=by
   rintro j ρ H n21 h ⟨hh,a,c,d⟩
   replace h:=E _ h
   apply hk'
   refine aa.ite (b:=j) (by simp[hh,a,c,d]) (fun i=>?_) (fun i=>?_)
   ·replace h:=h.1 i
    refine zE fun k' hk'=>?_
    simp[hh,a,c,d,i]
    apply hk'
    exact aa.aV (v:=bool false) Tryz.func204 Tryz.results204 (by simp[hh,a,c,d,i]) (hQ _ _ _ _ (.of (.v _)) ⟨false,h,rfl⟩)
   replace h:=h.2 i
   refine aa.skip ?_
   refine aa.inBlock ?_
   refine zF fun k' hk'=>?_
   obtain⟨F,h⟩:=h
   obtain⟨G,I,h⟩:=atm h
   have f24:=aI F I
   simp[hh,a,c,d,f24,i,-ai]
   apply hk'
   refine t (G) _ _ _ h (by refine⟨?_,?_,?_,?_⟩<;>simp[hh,a,c,d,i])
  replace h:=D
  obtain⟨J,h⟩:=h
  obtain⟨p,l,h⟩:=atm h
  have f27:=fun H=>aE (H:=H) (fr:=false) (f:=al) (k:=.i64) aO (fun _=>rfl) J l
  obtain⟨L,h⟩:=h
  obtain⟨M,N,h⟩:=atm h
  simp[hh,a,c,d,f27,e,-ah]
  refine bn.aB ae aD (zz agent p L) Jr (.cons (bg false agent) (.cons (.v _ _ _) .nil)) (by decide) rfl (by simp[hh,a,c,d,f27,e,-ah]) ?_
  rw[← N]
  rcases Bool.eq_false_or_eq_true M with g | g
  ·replace h:=h.1 g
   obtain⟨O,h⟩:=h
   obtain⟨ab,R,h⟩:=atm h
   have T:=l.trans R.symm
   subst T
   have f33:=fun H=>aE (H:=H) (fr:=false) (f:=al) (k:=.i64) aO (fun _=>rfl) O l
   obtain⟨U,h⟩:=h
   obtain⟨V,W,h⟩:=atm h
   simp[hh,a,c,d,f27,f33,e,g,-ah]
   refine bn.aB ae aD (qj agent m p U) GK (.cons (bg false agent) (.cons (eY false m) (.cons (.v _ _ _) .nil))) (by decide) rfl (by simp[hh,a,c,d,f27,f33,e,g,-ah]) ?_
   rw[← W]
   simp[hh,a,c,d,f27,f33,e,g,-ah]
   exact o (V) _ _ _ h (by refine⟨?_,?_,?_,?_⟩<;>simp[hh,a,c,d,f27,f33,e,g,-ah])
  replace h:=h.2 g
  simp[hh,a,c,d,f27,e,g,-ah]
  exact o (true) _ _ _ h (by refine⟨?_,?_,?_,?_⟩<;>simp[hh,a,c,d,f27,e,g,-ah])
 replace h:=h.2 e
 refine aa.exit rfl ?_
 refine zE fun k' hk'=>?_
 obtain⟨ac,X,h⟩:=atm h
 have f37:=fun H=>ax (H:=H) (fr:=false) (f:=al) aO X
 obtain⟨q,Y,h⟩:=atm h
 have f39:=cJ (k:=.i64) Y
 simp[hh,a,c,d,f37,f39,e,-ai,-aH]
 apply hk'
 exact aa.aV (v:=bool q) Tryz.func204 Tryz.results204 (by simp[hh,a,c,d,e]) (hQ _ _ _ _ (.of (.v _)) ⟨q,h,rfl⟩)
theorem xg (redex:Big) (agent:Big) (m:Match) (hp:lg redex agent m):aq Tryz.prog 204 [.agg (bC false redex),.agg (bC false agent),.agg (mC false m)] (fun r=>r=bool (fi redex agent m)):=(te redex agent m _ (xz redex agent m hp)).mono (by rintro _ ⟨_,rfl,rfl⟩;rfl)
theorem Jv:Ent Tryz.prog 194:=Ent.of Tryz.func194 (by kernel_rfl) rfl
theorem vG (redex:Big) (agent:Big) (m:Match) (link:Int) (Z:(Int × Bool)→Prop) (h:kT redex agent m link Z):aq Tryz.prog 194 [.agg (bC false redex),.agg (bC false agent),.agg (mC false m),int link] (fun r=>∃ y:Int × Bool,Z y∧r = .tup [int y.1,bool y.2]):=by
 unfold kT at h
 refine aq.of Tryz.func194 rfl Tryz.ntmps194 (by simp) fun Q hQ=>?_
 refine aa.cut (fun ρ H n=>(ρ 0 = .agg (bC false redex)∧ρ 1 = .agg (bC false agent)∧ρ 2 = .agg (mC false m)∧ρ 3=int link)) (by simp) ?_
 rintro ρ H n1 hh
 refine zE fun k' hk'=>?_
 simp[hh]
 apply hk'
 refine aa.cut (fun ρ H n=>(ρ 3=int link∧ρ 4=pA n1 4∧ρ 5=pA (n1+1) 5∧ρ 6=pA (n1+2) 6)∧H (n1,4)=some ⟨6,[bC false redex]⟩∧H (n1+1,5)=some ⟨6,[bC false agent]⟩∧H (n1+2,6)=some ⟨2,[mC false m]⟩) (by refine⟨?_,?_,?_,?_⟩<;>simp[hh]) ?_
 clear hh
 rintro ρ H n5 ⟨hh,a,c,d⟩
 refine zE fun k' hk'=>?_
 obtain⟨hb6,h⟩:=h
 obtain⟨r7,er7,h⟩:=atm h
 simp[hh,a,c,d]
 refine aG.aB ae ((kP redex link hb6).pure) Fv (.cons (bg false redex) (.cons (.v _ _ _) .nil)) (by decide) (by decide) rfl (by simp[hh,a,c,d]) ?_
 rintro _ rfl
 rw[← er7]
 simp[hh,a,c,d]
 apply hk'
 refine aa.eo ae aD bU (by decide) (by kernel_rfl) fun k' hk'=>?_
 obtain⟨hb8,h⟩:=h
 obtain⟨x9,ex9,h⟩:=atm h
 have f10:=fun H=>aE (H:=H) (fr:=true) (f:=bO) (k:=.i64) gC (fun _=>rfl) hb8 ex9
 have f11:=fun H=>wW (H:=H) (k:=.i64) (i:=0) (fr:=true) (cs:=[int x9.1,int x9.2]) uh (by decide)
 obtain⟨B,h⟩:=h
 obtain⟨bs,C,h⟩:=atm h
 have f14:=fun H=>aE (H:=H) (fr:=false) (f:=al) (k:=.i64) aO (fun _=>rfl) B C
 obtain⟨D,h⟩:=h
 obtain⟨bv,E,h⟩:=atm h
 have f17:=fun H=>aE (H:=H) (fr:=false) (f:=(aj.cells false)) (k:=.i64) bj (fun _=>rfl) D E
 obtain⟨F,h⟩:=h
 obtain⟨b0,G,h⟩:=atm h
 have I:=ex9.trans G.symm
 subst I
 have f21:=fun H=>aE (H:=H) (fr:=true) (f:=bO) (k:=.i64) gC (fun _=>rfl) F ex9
 have f22:=fun H=>wW (H:=H) (k:=.i64) (i:=1) (fr:=true) (cs:=[int x9.1,int x9.2]) uh (by decide)
 obtain⟨J,h⟩:=h
 obtain⟨j,L,h⟩:=atm h
 have f25:=fun H=>aE (H:=H) (fr:=false) (f:=al) (k:=.i64) aO (fun _=>rfl) J L
 simp[hh,a,c,d,f10,f11,f14,f17,f21,f22,f25,-ah]
 apply hk'
 refine aa.cut (fun ρ H n=>(ρ 3=int link∧ρ 4=pA n1 4∧ρ 5=pA (n1+1) 5∧ρ 6=pA (n1+2) 6∧ρ 10 = .list true (r7.map bO)∧ρ 11=int j)∧H (n1,4)=some ⟨6,[bC false redex]⟩∧H (n1+1,5)=some ⟨6,[bC false agent]⟩∧H (n1+2,6)=some ⟨2,[mC false m]⟩) (by refine⟨?_,?_,?_,?_⟩<;>simp[hh,a,c,d,f10,f11,f14,f17,f21,f22,f25,-ah]) ?_
 clear hh a c d
 rintro ρ H n26 ⟨hh,a,c,d⟩
 refine aa.seq ?_
 refine zE fun k' hk'=>?_
 simp[hh,a,c,d]
 apply hk'
 refine aa.block ?_
 refine aa.aw h (fun (sJ:Int) ρ H n=>match sJ with | i29=>(ρ 3=int link∧ρ 4=pA n1 4∧ρ 5=pA (n1+1) 5∧ρ 6=pA (n1+2) 6∧ρ 10 = .list true (r7.map bO)∧ρ 11=int j∧ρ 12=int i29)∧H (n1,4)=some ⟨6,[bC false redex]⟩∧H (n1+1,5)=some ⟨6,[bC false agent]⟩∧H (n1+2,6)=some ⟨2,[mC false m]⟩) (by refine⟨?_,?_,?_,?_⟩<;>simp[hh,a,c,d]) ?_
 clear hh a c d
 rintro i29 ρ H n30 K h ⟨hh,a,c,d⟩ M
 refine aa.seq ?_
 refine zE fun k' hk'=>?_
 obtain⟨b1,N,h⟩:=atm h
 have f34:=fun H=>ax (H:=H) (fr:=true) (f:=bO) gC N
 obtain⟨O,R,h⟩:=atm h
 have f36:=aT (k:=.i64) R
 simp[hh,a,c,d,f34,f36,-ai,-aH]
 apply hk'
 refine aa.ite (b:=O) (by simp[hh,a,c,d]) (fun e=>?_) (fun e=>?_)
 ·replace h:=h.1 e
  refine aa.skip ?_
  refine aa.seq ?_
  refine aa.block ?_
  refine aa.eo ae aD bU (by decide) (by kernel_rfl) fun k' hk'=>?_
  obtain⟨T,h⟩:=h
  obtain⟨p,t,h⟩:=atm h
  have f39:=fun H=>aE (H:=H) (fr:=true) (f:=bO) (k:=.i64) gC (fun _=>rfl) T t
  have f40:=fun H=>wW (H:=H) (k:=.i64) (i:=0) (fr:=true) (cs:=[int p.1,int p.2]) uh (by decide)
  obtain⟨U,h⟩:=h
  obtain⟨b2,V,h⟩:=atm h
  have f43:=fun H=>aE (H:=H) (fr:=false) (f:=al) (k:=.i64) aO (fun _=>rfl) U V
  obtain⟨W,h⟩:=h
  obtain⟨b3,X,h⟩:=atm h
  have f46:=fun H=>aE (H:=H) (fr:=false) (f:=(aj.cells false)) (k:=.i64) bj (fun _=>rfl) W X
  obtain⟨Y,h⟩:=h
  obtain⟨b5,ab,h⟩:=atm h
  have ac:=t.trans ab.symm
  subst ac
  have f50:=fun H=>aE (H:=H) (fr:=true) (f:=bO) (k:=.i64) gC (fun _=>rfl) Y t
  have f51:=fun H=>wW (H:=H) (k:=.i64) (i:=1) (fr:=true) (cs:=[int p.1,int p.2]) uh (by decide)
  obtain⟨ad,h⟩:=h
  obtain⟨b7,af,h⟩:=atm h
  have f54:=fun H=>aE (H:=H) (fr:=false) (f:=al) (k:=.i64) aO (fun _=>rfl) ad af
  obtain⟨u,am,h⟩:=atm h
  have f56:=dz (k:=.i64) am
  simp[hh,a,c,d,f39,f40,f43,f46,f50,f51,f54,f56,e,-ah,-ai]
  apply hk'
  refine aa.cut (fun ρ H n=>(ρ 3=int link∧ρ 4=pA n1 4∧ρ 5=pA (n1+1) 5∧ρ 6=pA (n1+2) 6∧ρ 10 = .list true (r7.map bO)∧ρ 11=int j∧ρ 12=int i29∧ρ 63=bool u)∧H (n1,4)=some ⟨6,[bC false redex]⟩∧H (n1+1,5)=some ⟨6,[bC false agent]⟩∧H (n1+2,6)=some ⟨2,[mC false m]⟩) (by refine⟨?_,?_,?_,?_⟩<;>simp[hh,a,c,d,f39,f40,f43,f46,f50,f51,f54,f56,e,-ah,-ai]) ?_
  clear hh a c d
  rintro ρ H b8 ⟨hh,a,c,d⟩
  refine aa.ite (b:=u) (by simp[hh,a,c,d]) (fun o=>?_) (fun o=>?_)
  ·replace h:=h.1 o
   refine zE fun k' hk'=>?_
   simp[hh,a,c,d,o]
   apply hk'
   exact aa.ta (v:=int j) (w:=bool false) Tryz.func194 Tryz.results194 (by simp[hh,a,c,d,o]) (by simp[hh,a,c,d,o]) (hQ _ _ _ _ (.of (.wo (.cons (.v _) (.cons (.v _) .nil)))) ⟨(j,false),h,rfl⟩)
  replace h:=h.2 o
  refine aa.skip ?_
  refine aa.inBlock ?_
  refine zF fun k' hk'=>?_
  obtain⟨an,h⟩:=h
  obtain⟨v59,ao,h⟩:=atm h
  have f60:=aI an ao
  simp[hh,a,c,d,f60,o,-ai]
  apply hk'
  refine M (v59) _ _ _ h (by refine⟨?_,?_,?_,?_⟩<;>simp[hh,a,c,d,o])
 replace h:=h.2 e
 refine aa.exit rfl ?_
 refine aa.seq ?_
 refine zE fun k' hk'=>?_
 obtain⟨ap,aM,h⟩:=atm h
 have f62:=aT (k:=.i64) aM
 simp[hh,a,c,d,f62,e,-ai]
 apply hk'
 refine aa.ite (b:=ap) (by simp[hh,a,c,d,e]) (fun g=>?_) (fun g=>?_)
 ·replace h:=h.1 g
  refine zE fun k' hk'=>?_
  obtain⟨a0,a1,a2⟩:=h
  have A:∀ (sJ:Bool) (ρ:Env) (H:ak) (n:Nat),a0 sJ→(match sJ with | q=>(ρ 8=int j∧ρ 9=bool q))→aa Tryz.prog 194 84 k' ρ H n Q:=by
   rintro q ρ H b9 h hh
   replace h:=a2 _ h
   apply hk'
   exact aa.ta (v:=int j) (w:=bool q) Tryz.func194 Tryz.results194 (by simp[hh]) (by simp[hh]) (hQ _ _ _ _ (.of (.wo (.cons (.v _) (.cons (.v _) .nil)))) ⟨(j,q),h,rfl⟩)
  replace h:=a1
  obtain⟨a3,a4,h⟩:=atm h
  have f70:=aT (k:=.i64) a4
  rcases Bool.eq_false_or_eq_true a3 with l | l
  ·replace h:=h.1 l
   obtain⟨a5,h⟩:=h
   obtain⟨cc,a9,h⟩:=atm h
   simp[hh,a,c,d,f70,e,g,l,-ai]
   refine aG.aB ae ((kP agent j a5).pure) Fv (.cons (bg false agent) (.cons (.v _ _ _) .nil)) (by decide) (by decide) rfl (by simp[hh,a,c,d,f70,e,g,l,-ai]) ?_
   rintro _ rfl
   rw[← a9]
   obtain⟨ce,bd,h⟩:=atm h
   have f74:=fun H=>ax (H:=H) (fr:=true) (f:=bO) gC bd
   obtain⟨ci,be,h⟩:=atm h
   have f76:=fun H=>ax (H:=H) (fr:=true) (f:=bO) gC be
   obtain⟨bi,bk,h⟩:=atm h
   have f78:=cJ (k:=.i64) bk
   simp[hh,a,c,d,f70,f74,f76,f78,e,g,l,-ai,-aH]
   exact A (bi) _ _ _ h (by simp[hh,a,c,d,f70,f74,f76,f78,e,g,l,-ai,-aH])
  replace h:=h.2 l
  simp[hh,a,c,d,f70,e,g,l,-ai]
  exact A (false) _ _ _ h (by simp[hh,a,c,d,f70,e,g,l,-ai])
 replace h:=h.2 g
 refine aa.skip ?_
 refine zE fun k' hk'=>?_
 simp[hh,a,c,d,e,g]
 apply hk'
 exact aa.ta (v:=int j) (w:=bool true) Tryz.func194 Tryz.results194 (by simp[hh,a,c,d,e,g]) (by simp[hh,a,c,d,e,g]) (hQ _ _ _ _ (.of (.wo (.cons (.v _) (.cons (.v _) .nil)))) ⟨(j,true),h,rfl⟩)
theorem zQ (redex:Big) (agent:Big) (m:Match) (link:Int) (hp:l8 redex agent m link):aq Tryz.prog 194 [.agg (bC false redex),.agg (bC false agent),.agg (mC false m),int link] (fun r=>r = .tup [int ((gM redex agent m link).1),bool ((gM redex agent m link).2)]):=(vG redex agent m link _ (zf redex agent m link hp)).mono (by rintro _ ⟨_,rfl,rfl⟩;rfl)
theorem It:Ent Tryz.prog 133:=Ent.of Tryz.func133 (by kernel_rfl) rfl
theorem u3 (redex:Big) (agent:Big) (m:Match) (Z:((List Int) × Bool)→Prop) (h:kG redex agent m Z):a7 Tryz.prog 133 [.agg (bC false redex),.agg (bC false agent),.agg (mC false m)] (.t [.s [.c],.c]) (fun r=>∃ y:(List Int) × Bool,Z y∧r = .tup [.list true (y.1.map al),bool y.2]):=by
 unfold kG at h
 have sp:Sep bc 0 [] []:=Sep.nil (by simp)
 refine a7.of Tryz.func133 rfl Tryz.ntmps133 (by simp) fun Q hQ=>?_
 refine aa.cut (fun ρ H n=>(ρ 0 = .agg (bC false redex)∧ρ 1 = .agg (bC false agent)∧ρ 2 = .agg (mC false m))∧Sep H n [] []) (by refine⟨by simp ,sp⟩) ?_
 rintro ρ H n1 ⟨hh,sp⟩
 refine zE fun k' hk'=>?_
 simp[hh]
 apply hk'
 refine aa.cut (fun ρ H n=>((ρ 3=pA n1 3∧ρ 4=pA (n1+1) 4∧ρ 5=pA (n1+2) 5)∧H (n1,3)=some ⟨6,[bC false redex]⟩∧H (n1+1,4)=some ⟨6,[bC false agent]⟩∧H (n1+2,5)=some ⟨2,[mC false m]⟩)∧Sep H n [] [(n1+2,5),(n1+1,4),(n1,3)]) (by refine⟨by simp[hh],sp.var.var.var⟩) ?_
 clear hh
 rintro ρ H n5 ⟨⟨hh,a,d,e⟩,sp⟩
 refine zE fun k' hk'=>?_
 simp[hh,a,d,e]
 apply hk'
 refine aa.cut (fun ρ H n=>∃ (v7:ag),((ρ 3=pA n1 3∧ρ 4=pA (n1+1) 4∧ρ 5=pA (n1+2) 5∧ρ 8=v7)∧H (n1,3)=some ⟨6,[bC false redex]⟩∧H (n1+1,4)=some ⟨6,[bC false agent]⟩∧H (n1+2,5)=some ⟨2,[mC false m]⟩)∧Sep H n [oI v7 ([]:List Int)] [(n1+2,5),(n1+1,4),(n1,3)]) (by refine⟨.arr (n5,12) 0 0 0,by simp[hh,a,d,e],(Sep.addEmpty (l:=[.c]) sp)⟩) ?_
 clear hh a d e
 rintro ρ H n8 ⟨v7,⟨hh,a,d,e⟩,sp⟩
 refine aa.seq ?_
 refine zE fun k' hk'=>?_
 simp[hh,a,d,e]
 apply hk'
 refine aa.block ?_
 refine aa.aw h (fun (sJ:Int × (List Int)) ρ H n=>match sJ with | (link16,o)=>∃ (j:ag),((ρ 3=pA n1 3∧ρ 4=pA (n1+1) 4∧ρ 5=pA (n1+2) 5∧ρ 8=j∧ρ 9=int link16)∧H (n1,3)=some ⟨6,[bC false redex]⟩∧H (n1+1,4)=some ⟨6,[bC false agent]⟩∧H (n1+2,5)=some ⟨2,[mC false m]⟩)∧Sep H n [oI j o] [(n1+2,5),(n1+1,4),(n1,3)]) (by refine⟨v7,by simp[hh,a,d,e],sp⟩) ?_
 clear hh a d e
 rintro⟨link16,o⟩ ρ H n19 K h ⟨j,⟨hh,a,d,e⟩,sp⟩ C
 refine aa.seq ?_
 refine zE fun k' hk'=>?_
 obtain⟨W,D,h⟩:=atm h
 have f23:=fun H=>ax (H:=H) (fr:=false) (f:=aL) cy D
 obtain⟨E,h⟩:=h
 obtain⟨X,F,h⟩:=atm h
 have f26:=aI E F
 obtain⟨G,I,h⟩:=atm h
 have f28:=aT (k:=.i64) I
 simp[hh,a,d,e,f23,f26,f28,-ai,-aH]
 apply hk'
 refine aa.ite (b:=G) (by simp[hh,a,d,e]) (fun g=>?_) (fun g=>?_)
 ·replace h:=h.1 g
  refine aa.skip ?_
  refine aa.seq ?_
  refine aa.block ?_
  refine zE fun k' hk'=>?_
  obtain⟨J,h⟩:=h
  obtain⟨i,L,h⟩:=atm h
  simp[hh,a,d,e,g]
  refine aG.aB ae (zQ redex agent m link16 J) Jv (.cons (bg false redex) (.cons (bg false agent) (.cons (eY false m) (.cons (.v _ _ _) .nil)))) (by decide) (by decide) rfl (by simp[hh,a,d,e,g]) ?_
  rintro _ rfl
  rw[← L]
  simp[hh,a,d,e,g]
  apply hk'
  refine aa.cut (fun ρ H n=>∃ (v31:ag),((ρ 3=pA n1 3∧ρ 4=pA (n1+1) 4∧ρ 5=pA (n1+2) 5∧ρ 8=v31∧ρ 9=int link16∧ρ 10=int i.1∧ρ 11=bool i.2)∧H (n1,3)=some ⟨6,[bC false redex]⟩∧H (n1+1,4)=some ⟨6,[bC false agent]⟩∧H (n1+2,5)=some ⟨2,[mC false m]⟩)∧Sep H n [oI v31 o] [(n1+2,5),(n1+1,4),(n1,3)]) (by refine⟨j,by simp[hh,a,d,e,g],sp⟩) ?_
  clear hh a d e
  rintro ρ H n32 ⟨v31,⟨hh,a,d,e⟩,sp⟩
  refine aa.seq ?_
  refine zE fun k' hk'=>?_
  simp[hh,a,d,e]
  apply hk'
  refine aa.ite (b:=(!i.2)) (by simp[hh,a,d,e]) (fun dr30_2=>?_) (fun dr30_2=>?_)
  ·have dr30_2:i.2=false:=by simpa using dr30_2
   replace h:=h.2 dr30_2
   refine zE fun k' hk'=>?_
   simp[hh,a,d,e,dr30_2]
   apply hk'
   refine aa.cut (fun ρ H n=>∃ (p:ag),(ρ 6=p∧ρ 7=bool false)∧Sep H n [oI p ([]:List Int)] []) (by refine⟨.arr (n32,33) 0 0 0,by simp[hh,a,d,e,dr30_2],(Sep.sub (Sep.dr (Sep.f1 (Sep.addEmpty (l:=[.c]) sp))) (by simp +contextual))⟩) ?_
   clear hh a d e
   rintro ρ H n35 ⟨p,hh,sp⟩
   exact aa.ta (v:=p) (w:=bool false) Tryz.func133 Tryz.results133 (by simp[hh]) (by simp[hh]) (hQ _ _ _ _ (Sep.sub (ids':=[]) (Sep.fy (az.own (az.v _ az.nil)) sp) (by simp)) ⟨(([]:List Int),false),h,rfl⟩)
  have dr30_2:i.2=true:=by simpa using dr30_2
  replace h:=h.1 dr30_2
  refine aa.skip ?_
  refine zF fun k' hk'=>?_
  obtain⟨M,h⟩:=h
  obtain⟨u,N,h⟩:=atm h
  simp[hh,a,d,e,dr30_2,-ba]
  refine a8 [] [] [[int i.1]] [al i.1] sp aO (by simp) (by simp) (by simp) (by simp[-ay,o1x]) (bz (az.v _ az.nil)) (by simp) (by simpa using M) ?_
  rintro B O R sp A Y
  replace sp:Sep O R [oI B u] [(n1+2,5),(n1+1,4),(n1,3)]:=Sep.ap N sp
  have a:=(A _ (by simp)).trans a
  have d:=(A _ (by simp)).trans d
  have e:=(A _ (by simp)).trans e
  simp[hh,a,d,e,dr30_2]
  apply hk'
  refine aa.cut (fun ρ H n=>∃ (q:ag),((ρ 3=pA n1 3∧ρ 4=pA (n1+1) 4∧ρ 5=pA (n1+2) 5∧ρ 8=q∧ρ 9=int link16)∧H (n1,3)=some ⟨6,[bC false redex]⟩∧H (n1+1,4)=some ⟨6,[bC false agent]⟩∧H (n1+2,5)=some ⟨2,[mC false m]⟩)∧Sep H n [oI q u] [(n1+2,5),(n1+1,4),(n1,3)]) (by refine⟨B,by simp[hh,a,d,e,dr30_2],sp⟩) ?_
  clear hh a d e
  rintro ρ H ab ⟨q,⟨hh,a,d,e⟩,sp⟩
  refine aa.inBlock ?_
  refine zF fun k' hk'=>?_
  obtain⟨T,h⟩:=h
  obtain⟨U,V,h⟩:=atm h
  have f49:=aI T V
  simp[hh,a,d,e,f49,-ai]
  apply hk'
  refine C (U,u) _ _ _ h (by refine⟨q,by simp[hh,a,d,e],sp⟩)
 replace h:=h.2 g
 refine aa.exit rfl ?_
 refine zE fun k' hk'=>?_
 simp[hh,a,d,e,g]
 apply hk'
 exact aa.ta (v:=j) (w:=bool true) Tryz.func133 Tryz.results133 (by simp[hh,a,d,e,g]) (by simp[hh,a,d,e,g]) (hQ _ _ _ _ (Sep.sub (ids':=[]) (Sep.fy (az.own (az.v _ az.nil)) sp) (by simp)) ⟨(o,true),h,rfl⟩)
theorem zP (redex:Big) (agent:Big) (m:Match) (hp:lZ redex agent m):a7 Tryz.prog 133 [.agg (bC false redex),.agg (bC false agent),.agg (mC false m)] (.t [.s [.c],.c]) (fun r=>r = .tup [.list true (((iX redex agent m).1).map al),bool ((iX redex agent m).2)]):=(u3 redex agent m _ (yu redex agent m hp)).mono (by rintro _ ⟨_,rfl,rfl⟩;rfl)
theorem Ji:Ent Tryz.prog 162:=Ent.of Tryz.func162 (by kernel_rfl) rfl
theorem uR (redex:Big) (agent:Big) (m:Match) (Z:Bool→Prop) (h:kk redex agent m Z):aq Tryz.prog 162 [.agg (bC false redex),.agg (bC false agent),.agg (mC false m)] (fun r=>∃ y:Bool,Z y∧r=bool y):=by
 unfold kk at h
 refine aq.of Tryz.func162 rfl Tryz.ntmps162 (by simp) fun Q hQ=>?_
 refine aa.cut (fun ρ H n=>(ρ 0 = .agg (bC false redex)∧ρ 1 = .agg (bC false agent)∧ρ 2 = .agg (mC false m))) (by simp) ?_
 rintro ρ H n1 hh
 refine zE fun k' hk'=>?_
 simp[hh]
 apply hk'
 refine aa.cut (fun ρ H n=>(ρ 3=pA n1 3∧ρ 4=pA (n1+1) 4∧ρ 5=pA (n1+2) 5)∧H (n1,3)=some ⟨6,[bC false redex]⟩∧H (n1+1,4)=some ⟨6,[bC false agent]⟩∧H (n1+2,5)=some ⟨2,[mC false m]⟩) (by refine⟨?_,?_,?_,?_⟩<;>simp[hh]) ?_
 clear hh
 rintro ρ H n5 ⟨hh,a,c,d⟩
 refine aa.seq ?_
 refine zE fun k' hk'=>?_
 obtain⟨J6,hJ7,hr8⟩:=h
 have j:∀ (sJ:Bool) (ρ:Env) (H:ak) (n:Nat),J6 sJ→(match sJ with | b9=>(ρ 3=pA n1 3∧ρ 4=pA (n1+1) 4∧ρ 5=pA (n1+2) 5∧ρ 35=bool b9)∧H (n1,3)=some ⟨6,[bC false redex]⟩∧H (n1+1,4)=some ⟨6,[bC false agent]⟩∧H (n1+2,5)=some ⟨2,[mC false m]⟩)→aa Tryz.prog 162 44 k' ρ H n Q:=by
  rintro b9 ρ H K h ⟨hh,a,c,d⟩
  replace h:=hr8 _ h
  apply hk'
  refine aa.ite (b:=b9) (by simp[hh,a,c,d]) (fun db9=>?_) (fun db9=>?_)
  ·replace h:=h.1 db9
   refine zE fun k' hk'=>?_
   simp[hh,a,c,d,db9]
   apply hk'
   exact aa.aV (v:=bool false) Tryz.func162 Tryz.results162 (by simp[hh,a,c,d,db9]) (hQ _ _ _ _ (.of (.v _)) ⟨false,h,rfl⟩)
  replace h:=h.2 db9
  refine aa.skip ?_
  refine zE fun k' hk'=>?_
  obtain⟨o,h⟩:=h
  obtain⟨l,p,h⟩:=atm h
  simp[hh,a,c,d,db9]
  refine aG.aB ae ((zP redex agent m o).pure) It (.cons (bg false redex) (.cons (bg false agent) (.cons (eY false m) .nil))) (by decide) (by decide) rfl (by simp[hh,a,c,d,db9]) ?_
  rintro _ rfl
  rw[← p]
  simp[hh,a,c,d,db9]
  apply hk'
  refine zE fun k' hk'=>?_
  simp[hh,a,c,d,db9]
  apply hk'
  exact aa.aV (v:=bool l.2) Tryz.func162 Tryz.results162 (by simp[hh,a,c,d,db9]) (hQ _ _ _ _ (.of (.v _)) ⟨l.2,h,rfl⟩)
 replace h:=hJ7
 obtain⟨q,h⟩:=h
 obtain⟨t,u,h⟩:=atm h
 simp[hh,a,c,d]
 refine aG.aB ae (wv redex agent m.nodes q) I4 (.cons (bg false redex) (.cons (bg false agent) (.cons (cY false m.nodes) .nil))) (by decide) (by decide) rfl (by simp[hh,a,c,d]) ?_
 rintro _ rfl
 rw[← u]
 rcases Bool.eq_false_or_eq_true t with e | e
 ·replace h:=h.1 e
  obtain⟨A,h⟩:=h
  obtain⟨B,C,h⟩:=atm h
  simp[hh,a,c,d,e]
  refine aG.aB ae (xg redex agent m A) Jf (.cons (bg false redex) (.cons (bg false agent) (.cons (eY false m) .nil))) (by decide) (by decide) rfl (by simp[hh,a,c,d,e]) ?_
  rintro _ rfl
  rw[← C]
  rcases Bool.eq_false_or_eq_true B with g | g
  ·replace h:=h.1 g
   obtain⟨D,h⟩:=h
   obtain⟨E,F,h⟩:=atm h
   simp[hh,a,c,d,e,g]
   refine aG.aB ae (vw redex agent m D) IE (.cons (bg false redex) (.cons (bg false agent) (.cons (eY false m) .nil))) (by decide) (by decide) rfl (by simp[hh,a,c,d,e,g]) ?_
   rintro _ rfl
   rw[← F]
   rcases Bool.eq_false_or_eq_true E with i | i
   ·replace h:=h.1 i
    obtain⟨G,h⟩:=h
    obtain⟨I,J,h⟩:=atm h
    simp[hh,a,c,d,e,g,i]
    refine aG.aB ae (Cy redex agent m G) Il (.cons (bg false redex) (.cons (bg false agent) (.cons (eY false m) .nil))) (by decide) (by decide) rfl (by simp[hh,a,c,d,e,g,i]) ?_
    rintro _ rfl
    rw[← J]
    simp[hh,a,c,d,e,g,i]
    exact j ((!I)) _ _ _ h (by refine⟨?_,?_,?_,?_⟩<;>simp[hh,a,c,d,e,g,i])
   replace h:=h.2 i
   simp[hh,a,c,d,e,g,i]
   exact j (true) _ _ _ h (by refine⟨?_,?_,?_,?_⟩<;>simp[hh,a,c,d,e,g,i])
  replace h:=h.2 g
  simp[hh,a,c,d,e,g]
  exact j (true) _ _ _ h (by refine⟨?_,?_,?_,?_⟩<;>simp[hh,a,c,d,e,g])
 replace h:=h.2 e
 simp[hh,a,c,d,e]
 exact j (true) _ _ _ h (by refine⟨?_,?_,?_,?_⟩<;>simp[hh,a,c,d,e])
theorem yw (redex:Big) (agent:Big) (m:Match) (hp:lH redex agent m):aq Tryz.prog 162 [.agg (bC false redex),.agg (bC false agent),.agg (mC false m)] (fun r=>r=bool (uL redex agent m)):=(uR redex agent m _ (AD redex agent m hp)).mono (by rintro _ ⟨_,rfl,rfl⟩;rfl)
theorem ID:Ent Tryz.prog 115:=Ent.of Tryz.func115 (by kernel_rfl) rfl
theorem vh (sig:List Control) (redex:Big) (agent:Big) (m:Match) (Z:Bool→Prop) (h:kN sig redex agent m Z):aq Tryz.prog 115 [.list false (sig.map Control.cells),.agg (bC false redex),.agg (bC false agent),.agg (mC false m)] (fun r=>∃ y:Bool,Z y∧r=bool y):=by
 unfold kN at h
 refine aq.of Tryz.func115 rfl Tryz.ntmps115 (by simp) fun Q hQ=>?_
 refine aa.cut (fun ρ H n=>(ρ 0 = .list false (sig.map Control.cells)∧ρ 1 = .agg (bC false redex)∧ρ 2 = .agg (bC false agent)∧ρ 3 = .agg (mC false m))) (by simp) ?_
 rintro ρ H n1 hh
 refine zE fun k' hk'=>?_
 simp[hh]
 apply hk'
 refine aa.cut (fun ρ H n=>(ρ 0 = .list false (sig.map Control.cells)∧ρ 5=pA n1 5∧ρ 6=pA (n1+1) 6∧ρ 7=pA (n1+2) 7)∧H (n1,5)=some ⟨6,[bC false redex]⟩∧H (n1+1,6)=some ⟨6,[bC false agent]⟩∧H (n1+2,7)=some ⟨2,[mC false m]⟩) (by refine⟨?_,?_,?_,?_⟩<;>simp[hh]) ?_
 clear hh
 rintro ρ H n5 ⟨hh,b,c,d⟩
 refine zE fun k' hk'=>?_
 obtain⟨J6,hJ7,hr8⟩:=h
 have e:∀ (sJ:Bool) (ρ:Env) (H:ak) (n:Nat),J6 sJ→(match sJ with | b9=>ρ 8=bool b9)→aa Tryz.prog 115 19 k' ρ H n Q:=by
  rintro b9 ρ H q h hh
  replace h:=hr8 _ h
  apply hk'
  exact aa.aV (v:=bool b9) Tryz.func115 Tryz.results115 (by simp[hh]) (hQ _ _ _ _ (.of (.v _)) ⟨b9,h,rfl⟩)
 replace h:=hJ7
 obtain⟨g,h⟩:=h
 obtain⟨i,j,h⟩:=atm h
 simp[hh,b,c,d]
 refine aG.aB ae (Bu sig redex agent g) IY (.cons (iR false sig) (.cons (bg false redex) (.cons (bg false agent) .nil))) (by decide) (by decide) rfl (by simp[hh,b,c,d]) ?_
 rintro _ rfl
 rw[← j]
 rcases Bool.eq_false_or_eq_true i with a | a
 ·replace h:=h.1 a
  obtain⟨l,h⟩:=h
  obtain⟨o,p,h⟩:=atm h
  simp[hh,b,c,d,a]
  refine aG.aB ae (yw redex agent m l) Ji (.cons (bg false redex) (.cons (bg false agent) (.cons (eY false m) .nil))) (by decide) (by decide) rfl (by simp[hh,b,c,d,a]) ?_
  rintro _ rfl
  rw[← p]
  simp[hh,b,c,d,a]
  exact e (o) _ _ _ h (by simp[hh,b,c,d,a])
 replace h:=h.2 a
 simp[hh,b,c,d,a]
 exact e (false) _ _ _ h (by simp[hh,b,c,d,a])
theorem yW (sig:List Control) (redex:Big) (agent:Big) (m:Match) (hp:lI sig redex agent m):aq Tryz.prog 115 [.list false (sig.map Control.cells),.agg (bC false redex),.agg (bC false agent),.agg (mC false m)] (fun r=>r=bool (m7 sig redex agent m)):=(vh sig redex agent m _ (y8 sig redex agent m hp)).mono (by rintro _ ⟨_,rfl,rfl⟩;rfl)
end Go.Ab.Vg
/- Walks by program for YtbikfokhjdjfpaaGreatDoorAbMn. -/
namespace Go.Ab.Vg
open Go.Proofs
set_option maxRecDepth 100000
set_option linter.unusedSimpArgs false
set_option linter.unusedVariables false
attribute [local simp] Control.cells aj.cells aA.cells Match.cells al gp aL bC mC pA
theorem e81:Ent Tryz.prog 81:=Ent.of Tryz.func81 (by kernel_rfl) rfl
theorem w5 (s:List Int) (Z:(List Int)→Prop) (h:mF s Z):a7 Tryz.prog 81 [.list false (s.map al)] (.s [.c]) (fun r=>∃ y:List Int,Z y∧r = .list true (y.map al)):=by
 unfold mF at h
 have sp:Sep bc 0 [] []:=Sep.nil (by simp)
 refine a7.of Tryz.func81 rfl Tryz.ntmps81 (by simp) fun Q hQ=>?_
 refine aa.cut (fun ρ H n=>ρ 0 = .list false (s.map al)∧Sep H n [] []) (by refine⟨by simp ,sp⟩) ?_
 rintro ρ H n1 ⟨hh,sp⟩
 refine zE fun k' hk'=>?_
 simp[hh]
 apply hk'
 refine aa.seq ?_
 refine zE fun k' hk'=>?_
 simp[hh]
 refine aG.isNil (fr:=false) (els:=s.map al) ae (by decide) (by decide) aO (by simp[hh]) (by simp[hh]) ?_
 rintro c2 hc3
 replace h:=h c2 (fun hq=>by simpa using hc3 hq)
 simp[hh]
 apply hk'
 refine aa.ite (b:=c2) (by simp[hh]) (fun dc2=>?_) (fun dc2=>?_)
 ·replace h:=h.1 dc2
  refine zE fun k' hk'=>?_
  simp[hh,dc2]
  apply hk'
  exact aa.aV (v:=.v (.slice none 0 0)) Tryz.func81 Tryz.results81 (by simp[hh,dc2]) (hQ _ _ _ _ (Sep.sub (ids':=[]) (Sep.cu sp) (by simp)) ⟨[],h,rfl⟩)
 replace h:=h.2 dc2
 refine aa.skip ?_
 refine zE fun k' hk'=>?_
 obtain⟨hb6,h⟩:=h
 obtain⟨l7,el7,h⟩:=atm h
 simp[hh,dc2,-ba]
 refine gU (s.map al) (Sep.addEmpty (l:=[.c]) sp) (by simp) aO (by simp) (by simp) (by simp[dE]) (by simp[-ay,o1x]) (by simpa using hb6) ?_
 rintro v8 H9 d sp e g
 replace sp:Sep H9 d [oI v8 l7] []:=by refine Sep.ap el7 ?_;exact sp
 simp[hh,dc2]
 apply hk'
 refine aa.cut (fun ρ H n=>∃ (a:ag),ρ 2=a∧Sep H n [oI a l7] []) (by refine⟨v8,by simp[hh,dc2],sp⟩) ?_
 clear hh
 rintro ρ H n15 ⟨a,hh,sp⟩
 exact aa.aV (v:=a) Tryz.func81 Tryz.results81 (by simp[hh]) (hQ _ _ _ _ (Sep.sub (ids':=[]) sp (by simp)) ⟨l7,h,rfl⟩)
theorem py (s:List Int) (hp:kU s):a7 Tryz.prog 81 [.list false (s.map al)] (.s [.c]) (fun r=>r = .list true ((sH s).map al)):=(w5 s _ (C7 s hp)).mono (by rintro _ ⟨_,rfl,rfl⟩;rfl)
end Go.Ab.Vg
/- What walks by program lean on: the text of a mark, and nested slices handed over. -/
namespace Go.Ab.Vg
open Go.Proofs
theorem ik (k:Int) (h:cB k):aq Tryz.prog 62 [int k] (fun r=>r=str (cA k)):=by
 have:=xC k.toNat (by omega)
 rwa [Int.toNat_of_nonneg h.1] at this
end Go.Ab.Vg
