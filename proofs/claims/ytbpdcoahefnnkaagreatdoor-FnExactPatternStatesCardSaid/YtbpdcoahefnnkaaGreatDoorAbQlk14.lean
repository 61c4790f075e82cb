/- Merged texts (14 of 16) of the proof that ends in Lky: Mxw Myw. -/
import Derived.Test.YtbpdcoahefnnkaaGreatDoorAbQlk13
/- Walks by program for YtbpdcoahefnnkaaGreatDoorAbMx. -/
namespace Go.Ab.Vg
open Go.Proofs
set_option maxRecDepth 100000
set_option linter.unusedSimpArgs false
set_option linter.unusedVariables false
attribute [local simp] GNode.cells Wire.cells intC intC3 sliceC strC pA
theorem e212:Ent Tryz.prog 212:=Ent.of Tryz.func212 (by kernel_rfl) rfl
theorem isNaN_walk (x:Int) (Z:Bool→Prop) (h:isNaN_wp x Z):PureC Tryz.prog 212 [int x] (fun r=>∃ y:Bool,Z y∧r=bool y):=by
 unfold isNaN_wp at h
 refine PureC.of Tryz.func212 rfl Tryz.ntmps212 (by simp) fun Q hQ=>?_
 refine Runs.cut (fun ρ H n=>ρ 0=int x) (by simp[]) ?_
 rintro ρ H n1 hh
 refine zE fun k' hk'=>?_
 simp[hh]
 apply hk'
 refine zE fun k' hk'=>?_
 obtain⟨c2,ec2,h⟩:=atm h
 have f3:=ib_neq (k:=.i64) ec2
 simp[hh,f3,-intBin]
 apply hk'
 exact Runs.ret1 (v:=bool c2) Tryz.func212 Tryz.results212 (by simp[hh]) (hQ _ _ _ _ (.of (.v _)) ⟨c2,h,rfl⟩)
theorem isNaN_ok (x:Int)  : PureC Tryz.prog 212 [int x] (fun r=>r=bool (isNaN x)):=(isNaN_walk x _ (isNaN_vc x )).mono (by rintro _ ⟨_,rfl,rfl⟩;rfl)
theorem e199:Ent Tryz.prog 199:=Ent.of Tryz.func199 (by kernel_rfl) rfl
theorem cmpI_walk (x:Int) (y:Int) (Z:Int→Prop) (h:cmpI_wp x y Z):PureC Tryz.prog 199 [int x,int y] (fun r=>∃ y:Int,Z y∧r=int y):=by
 unfold cmpI_wp at h
 refine PureC.of Tryz.func199 rfl Tryz.ntmps199 (by simp) fun Q hQ=>?_
 refine Runs.cut (fun ρ H n=>(ρ 0=int x∧ρ 1=int y)) (by simp[]) ?_
 rintro ρ H n1 hh
 refine zE fun k' hk'=>?_
 simp[hh]
 apply hk'
 refine zE fun k' hk'=>?_
 obtain⟨r2,er2,h⟩:=atm h
 simp[hh]
 refine RunK.callA Ty_ok (isNaN_ok x ) e212 (.cons (.v _ _ _) .nil) (by decide) (by decide) rfl (by simp[hh]) ?_
 rintro _ rfl
 rw[← er2]
 simp[hh]
 apply hk'
 refine zE fun k' hk'=>?_
 obtain⟨r3,er3,h⟩:=atm h
 simp[hh]
 refine RunK.callA Ty_ok (isNaN_ok y ) e212 (.cons (.v _ _ _) .nil) (by decide) (by decide) rfl (by simp[hh]) ?_
 rintro _ rfl
 rw[← er3]
 simp[hh]
 apply hk'
 refine Runs.seq ?_
 refine zE fun k' hk'=>?_
 simp[hh]
 apply hk'
 refine Runs.ite (b:=r2) (by simp[hh]) (fun dr2=>?_) (fun dr2=>?_)
 ·replace h:=h.1 dr2
  refine Runs.seq ?_
  refine zE fun k' hk'=>?_
  simp[hh,dr2]
  apply hk'
  refine Runs.ite (b:=r3) (by simp[hh,dr2]) (fun dr3=>?_) (fun dr3=>?_)
  ·replace h:=h.1 dr3
   refine zE fun k' hk'=>?_
   simp[hh,dr2,dr3]
   apply hk'
   exact Runs.ret1 (v:=int 0) Tryz.func199 Tryz.results199 (by simp[hh,dr2,dr3]) (hQ _ _ _ _ (.of (.v _)) ⟨0,h,rfl⟩)
  replace h:=h.2 dr3
  refine Runs.skip ?_
  refine zE fun k' hk'=>?_
  simp[hh,dr2,dr3]
  apply hk'
  exact Runs.ret1 (v:=int (-1)) Tryz.func199 Tryz.results199 (by simp[hh,dr2,dr3]) (hQ _ _ _ _ (.of (.v _)) ⟨(-1),h,rfl⟩)
 replace h:=h.2 dr2
 refine Runs.skip ?_
 refine Runs.seq ?_
 refine zE fun k' hk'=>?_
 simp[hh,dr2]
 apply hk'
 refine Runs.ite (b:=r3) (by simp[hh,dr2]) (fun dr3=>?_) (fun dr3=>?_)
 ·replace h:=h.1 dr3
  refine zE fun k' hk'=>?_
  simp[hh,dr2,dr3]
  apply hk'
  exact Runs.ret1 (v:=int 1) Tryz.func199 Tryz.results199 (by simp[hh,dr2,dr3]) (hQ _ _ _ _ (.of (.v _)) ⟨1,h,rfl⟩)
 replace h:=h.2 dr3
 refine Runs.skip ?_
 refine Runs.seq ?_
 refine zE fun k' hk'=>?_
 obtain⟨c4,ec4,h⟩:=atm h
 have f5:=ib_lss (k:=.i64) ec4
 simp[hh,f5,dr2,dr3,-intBin]
 apply hk'
 refine Runs.ite (b:=c4) (by simp[hh,dr2,dr3]) (fun dc4=>?_) (fun dc4=>?_)
 ·replace h:=h.1 dc4
  refine zE fun k' hk'=>?_
  simp[hh,dr2,dr3,dc4]
  apply hk'
  exact Runs.ret1 (v:=int (-1)) Tryz.func199 Tryz.results199 (by simp[hh,dr2,dr3,dc4]) (hQ _ _ _ _ (.of (.v _)) ⟨(-1),h,rfl⟩)
 replace h:=h.2 dc4
 refine Runs.skip ?_
 refine Runs.seq ?_
 refine zE fun k' hk'=>?_
 obtain⟨c6,ec6,h⟩:=atm h
 have f7:=ib_gtr (k:=.i64) ec6
 simp[hh,f7,dr2,dr3,dc4,-intBin]
 apply hk'
 refine Runs.cut (fun ρ H n=>ρ 19=bool c6) (by simp[hh,f7,dr2,dr3,dc4,-intBin]) ?_
 clear hh
 rintro ρ H n8 hh
 refine Runs.ite (b:=c6) (by simp[hh]) (fun dc6=>?_) (fun dc6=>?_)
 ·replace h:=h.1 dc6
  refine zE fun k' hk'=>?_
  simp[hh,dc6]
  apply hk'
  exact Runs.ret1 (v:=int 1) Tryz.func199 Tryz.results199 (by simp[hh,dc6]) (hQ _ _ _ _ (.of (.v _)) ⟨1,h,rfl⟩)
 replace h:=h.2 dc6
 refine Runs.skip ?_
 refine zE fun k' hk'=>?_
 simp[hh,dc6]
 apply hk'
 exact Runs.ret1 (v:=int 0) Tryz.func199 Tryz.results199 (by simp[hh,dc6]) (hQ _ _ _ _ (.of (.v _)) ⟨0,h,rfl⟩)
theorem cmpI_ok (x:Int) (y:Int)  : PureC Tryz.prog 199 [int x,int y] (fun r=>r=int (cmpI x y)):=(cmpI_walk x y _ (cmpI_vc x y )).mono (by rintro _ ⟨_,rfl,rfl⟩;rfl)
theorem e184:Ent Tryz.prog 184:=Ent.of Tryz.func184 (by kernel_rfl) rfl
theorem cmpL_walk (s1:List Int) (s2:List Int) (Z:Int→Prop) (h:cmpL_wp s1 s2 Z):PureC Tryz.prog 184 [.list false (s1.map intC),.list false (s2.map intC)] (fun r=>∃ y:Int,Z y∧r=int y):=by
 unfold cmpL_wp at h
 refine PureC.of Tryz.func184 rfl Tryz.ntmps184 (by simp) fun Q hQ=>?_
 refine Runs.cut (fun ρ H n=>(ρ 0 = .list false (s1.map intC)∧ρ 1 = .list false (s2.map intC))) (by simp) ?_
 rintro ρ H n1 hh
 refine zE fun k' hk'=>?_
 simp[hh]
 apply hk'
 refine Runs.seq ?_
 refine zE fun k' hk'=>?_
 obtain⟨len2,elen2,h⟩:=atm h
 have f3:=fun H=>len_list (H:=H) (fr:=false) (f:=intC) kd_24 elen2
 simp[hh,f3,-lenF]
 apply hk'
 refine Runs.block ?_
 refine Runs.loopW h (fun (sJ:Int) ρ H n=>match sJ with | v6=>(ρ 0 = .list false (s1.map intC)∧ρ 1 = .list false (s2.map intC)∧ρ 9 = .list false (s1.map intC)∧ρ 10=int len2∧ρ 11=int v6)) (by simp[hh]) ?_
 clear hh
 rintro v6 ρ H n7 K h hh IH8
 refine zE fun k' hk'=>?_
 obtain⟨c10,ec10,h⟩:=atm h
 have f11:=ib_lss (k:=.i64) ec10
 simp[hh,f11,-intBin]
 apply hk'
 refine Runs.seq ?_
 refine Runs.ite (b:=c10) (by simp[hh]) (fun dc10=>?_) (fun dc10=>?_)
 ·replace h:=h.1 dc10
  refine Runs.skip ?_
  refine Runs.seq ?_
  refine Runs.block ?_
  refine zE fun k' hk'=>?_
  obtain⟨hb12,h⟩:=h
  obtain⟨x13,ex13,h⟩:=atm h
  have f14:=fun H=>ix_list (H:=H) (fr:=false) (f:=intC) (k:=.i64) kd_24 (fun _=>rfl) hb12 ex13
  simp[hh,f14,dc10,-indexAddrF]
  apply hk'
  refine Runs.seq ?_
  refine zE fun k' hk'=>?_
  obtain⟨len15,elen15,h⟩:=atm h
  have f16:=fun H=>len_list (H:=H) (fr:=false) (f:=intC) kd_24 elen15
  obtain⟨c17,ec17,h⟩:=atm h
  have f18:=ib_geq (k:=.i64) ec17
  simp[hh,f16,f18,dc10,-intBin,-lenF]
  apply hk'
  refine Runs.ite (b:=c17) (by simp[hh,dc10]) (fun dc17=>?_) (fun dc17=>?_)
  ·replace h:=h.1 dc17
   refine zE fun k' hk'=>?_
   simp[hh,dc10,dc17]
   apply hk'
   exact Runs.ret1 (v:=int 1) Tryz.func184 Tryz.results184 (by simp[hh,dc10,dc17]) (hQ _ _ _ _ (.of (.v _)) ⟨1,h,rfl⟩)
  replace h:=h.2 dc17
  refine Runs.skip ?_
  refine zE fun k' hk'=>?_
  obtain⟨hb19,h⟩:=h
  obtain⟨x20,ex20,h⟩:=atm h
  have f21:=fun H=>ix_list (H:=H) (fr:=false) (f:=intC) (k:=.i64) kd_24 (fun _=>rfl) hb19 ex20
  simp[hh,f21,dc10,dc17,-indexAddrF]
  apply hk'
  refine Runs.cut (fun ρ H n=>(ρ 0 = .list false (s1.map intC)∧ρ 1 = .list false (s2.map intC)∧ρ 6=int x13∧ρ 7=int x20∧ρ 9 = .list false (s1.map intC)∧ρ 10=int len2∧ρ 11=int v6)) (by simp[hh,f21,dc10,dc17,-indexAddrF]) ?_
  clear hh
  rintro ρ H n22 hh
  refine zE fun k' hk'=>?_
  obtain⟨r23,er23,h⟩:=atm h
  simp[hh]
  refine RunK.callA Ty_ok (cmpI_ok x13 x20 ) e199 (.cons (.v _ _ _) (.cons (.v _ _ _) .nil)) (by decide) (by decide) rfl (by simp[hh]) ?_
  rintro _ rfl
  rw[← er23]
  simp[hh]
  apply hk'
  refine zE fun k' hk'=>?_
  obtain⟨c24,ec24,h⟩:=atm h
  have f25:=ib_neq (k:=.i64) ec24
  simp[hh,f25,-intBin]
  apply hk'
  refine Runs.ite (b:=c24) (by simp[hh]) (fun dc24=>?_) (fun dc24=>?_)
  ·replace h:=h.1 dc24
   refine zE fun k' hk'=>?_
   simp[hh,dc24]
   apply hk'
   exact Runs.ret1 (v:=int r23) Tryz.func184 Tryz.results184 (by simp[hh,dc24]) (hQ _ _ _ _ (.of (.v _)) ⟨r23,h,rfl⟩)
  replace h:=h.2 dc24
  refine Runs.skip ?_
  refine Runs.inBlock ?_
  refine zF fun k' hk'=>?_
  obtain⟨hb26,h⟩:=h
  obtain⟨v27,ev27,h⟩:=atm h
  have f28:=ib_add hb26 ev27
  simp[hh,f28,dc24,-intBin]
  apply hk'
  refine IH8 (v27) _ _ _ h (by simp[hh,dc24])
 replace h:=h.2 dc10
 refine Runs.exit rfl ?_
 refine Runs.seq ?_
 refine zE fun k' hk'=>?_
 obtain⟨len29,elen29,h⟩:=atm h
 have f30:=fun H=>len_list (H:=H) (fr:=false) (f:=intC) kd_24 elen29
 obtain⟨len31,elen31,h⟩:=atm h
 have f32:=fun H=>len_list (H:=H) (fr:=false) (f:=intC) kd_24 elen31
 obtain⟨c33,ec33,h⟩:=atm h
 have f34:=ib_lss (k:=.i64) ec33
 simp[hh,f30,f32,f34,dc10,-intBin,-lenF]
 apply hk'
 refine Runs.ite (b:=c33) (by simp[hh,dc10]) (fun dc33=>?_) (fun dc33=>?_)
 ·replace h:=h.1 dc33
  refine zE fun k' hk'=>?_
  simp[hh,dc10,dc33]
  apply hk'
  exact Runs.ret1 (v:=int (-1)) Tryz.func184 Tryz.results184 (by simp[hh,dc10,dc33]) (hQ _ _ _ _ (.of (.v _)) ⟨(-1),h,rfl⟩)
 replace h:=h.2 dc33
 refine Runs.skip ?_
 refine zE fun k' hk'=>?_
 simp[hh,dc10,dc33]
 apply hk'
 exact Runs.ret1 (v:=int 0) Tryz.func184 Tryz.results184 (by simp[hh,dc10,dc33]) (hQ _ _ _ _ (.of (.v _)) ⟨0,h,rfl⟩)
theorem cmpL_ok (s1:List Int) (s2:List Int) (hp:cmpL_pre s1 s2):PureC Tryz.prog 184 [.list false (s1.map intC),.list false (s2.map intC)] (fun r=>r=int (cmpL s1 s2)):=(cmpL_walk s1 s2 _ (cmpL_vc s1 s2 hp)).mono (by rintro _ ⟨_,rfl,rfl⟩;rfl)
theorem e164:Ent Tryz.prog 164:=Ent.of Tryz.func164 (by kernel_rfl) rfl
theorem cmp3_walk (a:Int × Int × Int) (b:Int × Int × Int) (Z:Int→Prop) (h:cmp3_wp a b Z):PureC Tryz.prog 164 [.agg [int a.1,int a.2.1,int a.2.2],.agg [int b.1,int b.2.1,int b.2.2]] (fun r=>∃ y:Int,Z y∧r=int y):=by
 unfold cmp3_wp at h
 refine PureC.of Tryz.func164 rfl Tryz.ntmps164 (by simp) fun Q hQ=>?_
 refine Runs.cut (fun ρ H n=>(ρ 0 = .agg [int a.1,int a.2.1,int a.2.2]∧ρ 1 = .agg [int b.1,int b.2.1,int b.2.2])) (by simp[]) ?_
 rintro ρ H n1 hh
 refine Runs.seqK Ty_ok (by decide) fun k' hk'=>?_
 refine RunK.boxK [int a.1,int a.2.1,int a.2.2] (by decide) (by simp[hh]) ?_
 refine RunK.boxK [int b.1,int b.2.1,int b.2.2] (by decide) (by simp[hh]) ?_
 refine RunK.ofE Ty_ok (by decide) (by decide) ?_
 simp[hh]
 apply hk'
 refine Runs.seqD Ty_ok kindOp_ok draws (by decide) (by kernel_rfl) fun k' hk'=>?_
 simp[hh]
 refine RunDK.sliceI (fr:=true) (cs:=[int a.1,int a.2.1,int a.2.2]) Ty_ok kd_145 (by simp) (by simp[hh]) rfl (by decide) ?_
 simp[hh]
 refine RunDK.sliceI (fr:=true) (cs:=[int b.1,int b.2.1,int b.2.2]) Ty_ok kd_145 (by simp) (by simp[hh]) rfl (by decide) ?_
 obtain⟨hb2,h⟩:=h
 obtain⟨r3,er3,h⟩:=atm h
 simp[hh]
 refine RunDK.callA Ty_ok kindOp_ok (cmpL_ok [a.1,a.2.1,a.2.2] [b.1,b.2.1,b.2.2] hb2) e184 (.cons (ArgOk.listF (fr:=true) (els:=[a.1,a.2.1,a.2.2].map intC) (by simp)) (.cons (ArgOk.listF (fr:=true) (els:=[b.1,b.2.1,b.2.2].map intC) (by simp)) .nil)) (by decide) rfl (by simp[hh]) ?_
 rw[← er3]
 simp[hh]
 apply hk'
 exact Runs.ret1 (v:=int r3) Tryz.func164 Tryz.results164 (by simp[hh]) (hQ _ _ _ _ (.of (.v _)) ⟨r3,h,rfl⟩)
theorem cmp3_ok (a:Int × Int × Int) (b:Int × Int × Int)  : PureC Tryz.prog 164 [.agg [int a.1,int a.2.1,int a.2.2],.agg [int b.1,int b.2.1,int b.2.2]] (fun r=>r=int (cmp3 a b)):=(cmp3_walk a b _ (cmp3_vc a b )).mono (by rintro _ ⟨_,rfl,rfl⟩;rfl)
theorem e116:Ent Tryz.prog 116:=Ent.of Tryz.func116 (by kernel_rfl) rfl
theorem areSteps_walk (l:List (Int × Int × Int)) (states:Int) (middle:Int) (Z:Bool→Prop) (h:areSteps_wp l states middle Z):PureC Tryz.prog 116 [.list false (l.map intC3),int states,int middle] (fun r=>∃ y:Bool,Z y∧r=bool y):=by
 unfold areSteps_wp at h
 refine PureC.of Tryz.func116 rfl Tryz.ntmps116 (by simp) fun Q hQ=>?_
 refine Runs.cut (fun ρ H n=>(ρ 0 = .list false (l.map intC3)∧ρ 1=int states∧ρ 2=int middle)) (by simp) ?_
 rintro ρ H n1 hh
 refine zE fun k' hk'=>?_
 simp[hh]
 apply hk'
 refine Runs.seq ?_
 refine zE fun k' hk'=>?_
 obtain⟨len2,elen2,h⟩:=atm h
 have f3:=fun H=>len_list (H:=H) (fr:=false) (f:=intC3) kd_64 elen2
 simp[hh,f3,-lenF]
 apply hk'
 refine Runs.block ?_
 refine Runs.loopW h (fun (sJ:Int) ρ H n=>match sJ with | v6=>(ρ 0 = .list false (l.map intC3)∧ρ 1=int states∧ρ 2=int middle∧ρ 9 = .list false (l.map intC3)∧ρ 10=int len2∧ρ 11=int v6)) (by simp[hh]) ?_
 clear hh
 rintro v6 ρ H n7 K h hh IH8
 refine zE fun k' hk'=>?_
 obtain⟨c10,ec10,h⟩:=atm h
 have f11:=ib_lss (k:=.i64) ec10
 simp[hh,f11,-intBin]
 apply hk'
 refine Runs.seq ?_
 refine Runs.ite (b:=c10) (by simp[hh]) (fun dc10=>?_) (fun dc10=>?_)
 ·replace h:=h.1 dc10
  refine Runs.skip ?_
  refine Runs.seq ?_
  refine Runs.block ?_
  refine zE fun k' hk'=>?_
  obtain⟨hb12,h⟩:=h
  obtain⟨x13,ex13,h⟩:=atm h
  have f14:=fun H=>ix_list (H:=H) (fr:=false) (f:=intC3) (k:=.i64) kd_64 (fun _=>rfl) hb12 ex13
  simp[hh,f14,dc10,-indexAddrF]
  apply hk'
  refine Runs.cut (fun ρ H n=>(ρ 0 = .list false (l.map intC3)∧ρ 1=int states∧ρ 2=int middle∧ρ 7=int v6∧ρ 8=pA n7 8∧ρ 9 = .list false (l.map intC3)∧ρ 10=int len2∧ρ 11=int v6)∧H (n7,8)=some ⟨3,[[int x13.1,int x13.2.1,int x13.2.2]]⟩) (by refine⟨?_,?_⟩<;>simp[hh,f14,dc10,-indexAddrF]) ?_
  clear hh
  rintro ρ H n16 ⟨hh,m8_14⟩
  refine Runs.seqD Ty_ok kindOp_ok draws (by decide) (by kernel_rfl) fun k' hk'=>?_
  obtain⟨J17,hJ18,hr19⟩:=h
  have fin21:∀ (sJ:Bool) (ρ:Env) (H:Heap) (n:Nat),J17 sJ→(match sJ with | b20=>(ρ 0 = .list false (l.map intC3)∧ρ 1=int states∧ρ 2=int middle∧ρ 9 = .list false (l.map intC3)∧ρ 10=int len2∧ρ 11=int v6∧ρ 51=bool b20))→Runs Tryz.prog 116 53 k' ρ H n Q:=by
   rintro b20 ρ H n22 h hh
   replace h:=hr19 _ h
   apply hk'
   refine Runs.ite (b:=b20) (by simp[hh]) (fun db20=>?_) (fun db20=>?_)
   ·replace h:=h.1 db20
    refine zE fun k' hk'=>?_
    simp[hh,db20]
    apply hk'
    exact Runs.ret1 (v:=bool false) Tryz.func116 Tryz.results116 (by simp[hh,db20]) (hQ _ _ _ _ (.of (.v _)) ⟨false,h,rfl⟩)
   replace h:=h.2 db20
   refine Runs.skip ?_
   refine Runs.inBlock ?_
   refine zF fun k' hk'=>?_
   obtain⟨hb23,h⟩:=h
   obtain⟨v24,ev24,h⟩:=atm h
   have f25:=ib_add hb23 ev24
   simp[hh,f25,db20,-intBin]
   apply hk'
   refine IH8 (v24) _ _ _ h (by simp[hh,db20])
  replace h:=hJ18
  obtain⟨hb26,h⟩:=h
  obtain⟨v27,ev27,h⟩:=atm h
  have f28:=ib_sub hb26 ev27
  obtain⟨r29,er29,h⟩:=atm h
  simp[hh,m8_14,f28,-intBin]
  refine RunDK.callA Ty_ok kindOp_ok (within_ok x13.1 0 v27 ) e101 (.cons (.v _ _ _) (.cons (.v _ _ _) (.cons (.v _ _ _) .nil))) (by decide) rfl (by simp[hh,m8_14,f28,-intBin]) ?_
  rw[← er29]
  rcases Bool.eq_false_or_eq_true r29 with dr29 | dr29
  ·replace h:=h.1 dr29
   obtain⟨hb30,h⟩:=h
   obtain⟨v31,ev31,h⟩:=atm h
   have f32:=ib_sub hb30 ev31
   obtain⟨r33,er33,h⟩:=atm h
   simp[hh,m8_14,f28,f32,dr29,-intBin]
   refine RunDK.callA Ty_ok kindOp_ok (within_ok x13.2.1 0 v31 ) e101 (.cons (.v _ _ _) (.cons (.v _ _ _) (.cons (.v _ _ _) .nil))) (by decide) rfl (by simp[hh,m8_14,f28,f32,dr29,-intBin]) ?_
   rw[← er33]
   rcases Bool.eq_false_or_eq_true r33 with dr33 | dr33
   ·replace h:=h.1 dr33
    obtain⟨hb34,h⟩:=h
    obtain⟨v35,ev35,h⟩:=atm h
    have hq36:=ev27.trans ev35.symm
    subst hq36
    have f37:=ib_sub hb34 ev27
    obtain⟨r38,er38,h⟩:=atm h
    simp[hh,m8_14,f28,f32,f37,dr29,dr33,-intBin]
    refine RunDK.callA Ty_ok kindOp_ok (within_ok x13.2.2 0 v27 ) e101 (.cons (.v _ _ _) (.cons (.v _ _ _) (.cons (.v _ _ _) .nil))) (by decide) rfl (by simp[hh,m8_14,f28,f32,f37,dr29,dr33,-intBin]) ?_
    rw[← er38]
    rcases Bool.eq_false_or_eq_true r38 with dr38 | dr38
    ·replace h:=h.1 dr38
     obtain⟨c39,ec39,h⟩:=atm h
     have f40:=ib_gtr (k:=.i64) ec39
     rcases Bool.eq_false_or_eq_true c39 with dc39 | dc39
     ·replace h:=h.1 dc39
      obtain⟨hb41,h⟩:=h
      obtain⟨v42,ev42,h⟩:=atm h
      have f43:=ib_sub hb41 ev42
      obtain⟨hb44,h⟩:=h
      obtain⟨x45,ex45,h⟩:=atm h
      have f46:=fun H=>ix_list (H:=H) (fr:=false) (f:=intC3) (k:=.i64) kd_64 (fun _=>rfl) hb44 ex45
      obtain⟨r47,er47,h⟩:=atm h
      simp[hh,m8_14,f28,f32,f37,f40,f43,f46,dr29,dr33,dr38,dc39,-indexAddrF,-intBin]
      refine RunDK.callA Ty_ok kindOp_ok (cmp3_ok (x45.1,x45.2.1,x45.2.2) (x13.1,x13.2.1,x13.2.2) ) e164 (.cons (ArgOk.agg (.cons (.v _ _ _) (.cons (.v _ _ _) (.cons (.v _ _ _) .nil)))) (.cons (ArgOk.agg (.cons (.v _ _ _) (.cons (.v _ _ _) (.cons (.v _ _ _) .nil)))) .nil)) (by decide) rfl (by simp[hh,m8_14,f28,f32,f37,f40,f43,f46,dr29,dr33,dr38,dc39,-indexAddrF,-intBin]) ?_
      rw[← er47]
      obtain⟨c48,ec48,h⟩:=atm h
      have f49:=ib_geq (k:=.i64) ec48
      simp[hh,m8_14,f28,f32,f37,f40,f43,f46,f49,dr29,dr33,dr38,dc39,-indexAddrF,-intBin]
      exact fin21 (c48) _ _ _ h (by simp[hh,m8_14,f28,f32,f37,f40,f43,f46,f49,dr29,dr33,dr38,dc39,-indexAddrF,-intBin])
     replace h:=h.2 dc39
     simp[hh,m8_14,f28,f32,f37,f40,dr29,dr33,dr38,dc39,-intBin]
     exact fin21 (false) _ _ _ h (by simp[hh,m8_14,f28,f32,f37,f40,dr29,dr33,dr38,dc39,-intBin])
    replace h:=h.2 dr38
    simp[hh,m8_14,f28,f32,f37,dr29,dr33,dr38,-intBin]
    exact fin21 (true) _ _ _ h (by simp[hh,m8_14,f28,f32,f37,dr29,dr33,dr38,-intBin])
   replace h:=h.2 dr33
   simp[hh,m8_14,f28,f32,dr29,dr33,-intBin]
   exact fin21 (true) _ _ _ h (by simp[hh,m8_14,f28,f32,dr29,dr33,-intBin])
  replace h:=h.2 dr29
  simp[hh,m8_14,f28,dr29,-intBin]
  exact fin21 (true) _ _ _ h (by simp[hh,m8_14,f28,dr29,-intBin])
 replace h:=h.2 dc10
 refine Runs.exit rfl ?_
 refine zE fun k' hk'=>?_
 simp[hh,dc10]
 apply hk'
 exact Runs.ret1 (v:=bool true) Tryz.func116 Tryz.results116 (by simp[hh,dc10]) (hQ _ _ _ _ (.of (.v _)) ⟨true,h,rfl⟩)
theorem areSteps_ok (l:List (Int × Int × Int)) (states:Int) (middle:Int) (hp:areSteps_pre l states middle):PureC Tryz.prog 116 [.list false (l.map intC3),int states,int middle] (fun r=>r=bool (areSteps l states middle)):=(areSteps_walk l states middle _ (areSteps_vc l states middle hp)).mono (by rintro _ ⟨_,rfl,rfl⟩;rfl)
theorem e69:Ent Tryz.prog 69:=Ent.of Tryz.func69 (by kernel_rfl) rfl
theorem isSystem_walk (x:Sys) (Z:Bool→Prop) (h:isSystem_wp x Z):PureC Tryz.prog 69 [.agg [.list false (x.states.map (Big.cells false)),.list false (x.steps.map intC3)]] (fun r=>∃ y:Bool,Z y∧r=bool y):=by
 unfold isSystem_wp at h
 refine PureC.of Tryz.func69 rfl Tryz.ntmps69 (by simp) fun Q hQ=>?_
 refine Runs.cut (fun ρ H n=>ρ 0 = .agg [.list false (x.states.map (Big.cells false)),.list false (x.steps.map intC3)]) (by simp[Big.cells,encI,encN,encS,encW]) ?_
 rintro ρ H n1 hh
 refine zE fun k' hk'=>?_
 simp[hh,Big.cells,encI,encN,encS,encW]
 apply hk'
 refine Runs.cut (fun ρ H n=>ρ 1=pA n1 1∧H (n1,1)=some ⟨2,[[.list false (x.states.map (Big.cells false)),.list false (x.steps.map intC3)]]⟩) (by refine⟨?_,?_⟩<;>simp[hh,Big.cells,encI,encN,encS,encW]) ?_
 clear hh
 rintro ρ H n3 ⟨hh,m1_1⟩
 refine zE fun k' hk'=>?_
 obtain⟨J4,hJ5,hr6⟩:=h
 have fin8:∀ (sJ:Bool) (ρ:Env) (H:Heap) (n:Nat),J4 sJ→(match sJ with | b7=>ρ 2=bool b7)→Runs Tryz.prog 69 15 k' ρ H n Q:=by
  rintro b7 ρ H n9 h hh
  replace h:=hr6 _ h
  apply hk'
  exact Runs.ret1 (v:=bool b7) Tryz.func69 Tryz.results69 (by simp[hh,Big.cells,encI,encN,encS,encW]) (hQ _ _ _ _ (.of (.v _)) ⟨b7,h,rfl⟩)
 replace h:=hJ5
 obtain⟨len10,elen10,h⟩:=atm h
 have f11:=fun H=>len_list (H:=H) (fr:=false) (f:=(Big.cells false)) kd_70 elen10
 obtain⟨r12,er12,h⟩:=atm h
 simp[hh,m1_1,f11,Big.cells,encI,encN,encS,encW,-lenF]
 refine RunK.callA Ty_ok (within_ok len10 1 40 ) e101 (.cons (.v _ _ _) (.cons (.v _ _ _) (.cons (.v _ _ _) .nil))) (by decide) (by decide) rfl (by simp[hh,m1_1,f11,Big.cells,encI,encN,encS,encW,-lenF]) ?_
 rintro _ rfl
 rw[← er12]
 rcases Bool.eq_false_or_eq_true r12 with dr12 | dr12
 ·replace h:=h.1 dr12
  obtain⟨len13,elen13,h⟩:=atm h
  have hq14:=elen10.trans elen13.symm
  subst hq14
  have f15:=fun H=>len_list (H:=H) (fr:=false) (f:=(Big.cells false)) kd_70 elen10
  obtain⟨hb16,h⟩:=h
  obtain⟨r17,er17,h⟩:=atm h
  simp[hh,m1_1,f11,f15,dr12,Big.cells,encI,encN,encS,encW,-lenF]
  refine RunK.callA Ty_ok (areSteps_ok x.steps len10 6 hb16) e116 (.cons (ArgOk.listF (fr:=false) (els:=x.steps.map intC3) (flatI3 _)) (.cons (.v _ _ _) (.cons (.v _ _ _) .nil))) (by decide) (by decide) rfl (by simp[hh,m1_1,f11,f15,dr12,Big.cells,encI,encN,encS,encW,-lenF]) ?_
  rintro _ rfl
  rw[← er17]
  simp[hh,m1_1,f11,f15,dr12,Big.cells,encI,encN,encS,encW,-lenF]
  exact fin8 (r17) _ _ _ h (by simp[hh,m1_1,f11,f15,dr12,Big.cells,encI,encN,encS,encW,-lenF])
 replace h:=h.2 dr12
 simp[hh,m1_1,f11,dr12,Big.cells,encI,encN,encS,encW,-lenF]
 exact fin8 (false) _ _ _ h (by simp[hh,m1_1,f11,dr12,Big.cells,encI,encN,encS,encW,-lenF])
theorem isSystem_ok (x:Sys) (hp:isSystem_pre x):PureC Tryz.prog 69 [.agg [.list false (x.states.map (Big.cells false)),.list false (x.steps.map intC3)]] (fun r=>r=bool (isSystem x)):=(isSystem_walk x _ (isSystem_vc x hp)).mono (by rintro _ ⟨_,rfl,rfl⟩;rfl)
theorem e110:Ent Tryz.prog 110:=Ent.of Tryz.func110 (by kernel_rfl) rfl
theorem l10Before_walk (a:Int × Int × Int) (b:Int × Int × Int) (Z:Bool→Prop) (h:l10Before_wp a b Z):PureC Tryz.prog 110 [.agg [int a.1,int a.2.1,int a.2.2],.agg [int b.1,int b.2.1,int b.2.2]] (fun r=>∃ y:Bool,Z y∧r=bool y):=by
 unfold l10Before_wp at h
 refine PureC.of Tryz.func110 rfl Tryz.ntmps110 (by simp) fun Q hQ=>?_
 refine Runs.cut (fun ρ H n=>(ρ 0 = .agg [int a.1,int a.2.1,int a.2.2]∧ρ 1 = .agg [int b.1,int b.2.1,int b.2.2])) (by simp[]) ?_
 rintro ρ H n1 hh
 refine zE fun k' hk'=>?_
 simp[hh]
 apply hk'
 refine Runs.cut (fun ρ H n=>(ρ 2=pA n1 2∧ρ 3=pA (n1+1) 3)∧H (n1,2)=some ⟨3,[[int a.1,int a.2.1,int a.2.2]]⟩∧H (n1+1,3)=some ⟨3,[[int b.1,int b.2.1,int b.2.2]]⟩) (by refine⟨?_,?_,?_⟩<;>simp[hh]) ?_
 clear hh
 rintro ρ H n4 ⟨hh,m2_1,m3_2⟩
 refine Runs.seq ?_
 refine zE fun k' hk'=>?_
 simp[hh,m2_1,m3_2]
 apply hk'
 refine Runs.block ?_
 refine Runs.loop ?_
 refine Runs.seq ?_
 refine zE fun k' hk'=>?_
 have f5:=ib_lss (k:=.i64) (show true=decide (0<(3:Int)) by decide)
 simp[hh,m2_1,m3_2,f5,-intBin]
 apply hk'
 refine Runs.cond (b:=true) (by simp[hh,m2_1,m3_2]) ?_
 simp only[if_true,if_false,Bool.false_eq_true,↓reduceIte]
 refine Runs.skip ?_
 refine Runs.seq ?_
 refine Runs.block ?_
 refine Runs.seqD Ty_ok kindOp_ok draws (by decide) (by kernel_rfl) fun k' hk'=>?_
 obtain⟨c6,ec6,h⟩:=atm h
 have f7:=ib_neq (k:=.i64) ec6
 simp[hh,m2_1,m3_2,f7,-intBin]
 apply hk'
 refine Runs.ite (b:=c6) (by simp[hh,m2_1,m3_2]) (fun dc6=>?_) (fun dc6=>?_)
 ·replace h:=h.1 dc6
  refine Runs.seqD Ty_ok kindOp_ok draws (by decide) (by kernel_rfl) fun k' hk'=>?_
  obtain⟨c8,ec8,h⟩:=atm h
  have f9:=ib_lss (k:=.i64) ec8
  simp[hh,m2_1,m3_2,f9,dc6,-intBin]
  apply hk'
  refine Runs.cut (fun ρ H n=>ρ 4=bool c8) (by simp[hh,m2_1,m3_2,f9,dc6,-intBin]) ?_
  clear hh m2_1 m3_2
  rintro ρ H n10 hh
  exact Runs.ret1 (v:=bool c8) Tryz.func110 Tryz.results110 (by simp[hh]) (hQ _ _ _ _ (.of (.v _)) ⟨c8,h,rfl⟩)
 replace h:=h.2 dc6
 refine Runs.skip ?_
 refine Runs.inBlock ?_
 refine zF fun k' hk'=>?_
 have f11:=ib_add (show I64 ((0:Int)+1) from ⟨by decide,by decide⟩) (show (1:Int)=(0:Int)+1 by decide)
 simp[hh,m2_1,m3_2,f11,dc6,-intBin]
 apply hk'
 refine Runs.inLoop ?_
 refine Runs.seq ?_
 refine zE fun k' hk'=>?_
 have f12:=ib_lss (k:=.i64) (show true=decide (1<(3:Int)) by decide)
 simp[hh,m2_1,m3_2,f12,dc6,-intBin]
 apply hk'
 refine Runs.cut (fun ρ H n=>(ρ 2=pA n1 2∧ρ 3=pA (n1+1) 3∧ρ 5=int 1∧ρ 7=bool true)∧H (n1,2)=some ⟨3,[[int a.1,int a.2.1,int a.2.2]]⟩∧H (n1+1,3)=some ⟨3,[[int b.1,int b.2.1,int b.2.2]]⟩) (by refine⟨?_,?_,?_⟩<;>simp[hh,m2_1,m3_2,f12,dc6,-intBin]) ?_
 clear hh m2_1 m3_2
 rintro ρ H n13 ⟨hh,m2_1,m3_2⟩
 refine Runs.cond (b:=true) (by simp[hh,m2_1,m3_2]) ?_
 simp only[if_true,if_false,Bool.false_eq_true,↓reduceIte]
 refine Runs.skip ?_
 refine Runs.seq ?_
 refine Runs.block ?_
 refine Runs.seqD Ty_ok kindOp_ok draws (by decide) (by kernel_rfl) fun k' hk'=>?_
 obtain⟨c14,ec14,h⟩:=atm h
 have f15:=ib_neq (k:=.i64) ec14
 simp[hh,m2_1,m3_2,f15,-intBin]
 apply hk'
 refine Runs.ite (b:=c14) (by simp[hh,m2_1,m3_2]) (fun dc14=>?_) (fun dc14=>?_)
 ·replace h:=h.1 dc14
  refine Runs.seqD Ty_ok kindOp_ok draws (by decide) (by kernel_rfl) fun k' hk'=>?_
  obtain⟨c16,ec16,h⟩:=atm h
  have f17:=ib_lss (k:=.i64) ec16
  simp[hh,m2_1,m3_2,f17,dc14,-intBin]
  apply hk'
  refine Runs.cut (fun ρ H n=>ρ 4=bool c16) (by simp[hh,m2_1,m3_2,f17,dc14,-intBin]) ?_
  clear hh m2_1 m3_2
  rintro ρ H n18 hh
  exact Runs.ret1 (v:=bool c16) Tryz.func110 Tryz.results110 (by simp[hh]) (hQ _ _ _ _ (.of (.v _)) ⟨c16,h,rfl⟩)
 replace h:=h.2 dc14
 refine Runs.skip ?_
 refine Runs.inBlock ?_
 refine zF fun k' hk'=>?_
 have f19:=ib_add (show I64 ((1:Int)+1) from ⟨by decide,by decide⟩) (show (2:Int)=(1:Int)+1 by decide)
 simp[hh,m2_1,m3_2,f19,dc14,-intBin]
 apply hk'
 refine Runs.inLoop ?_
 refine Runs.seq ?_
 refine zE fun k' hk'=>?_
 have f20:=ib_lss (k:=.i64) (show true=decide (2<(3:Int)) by decide)
 simp[hh,m2_1,m3_2,f20,dc14,-intBin]
 apply hk'
 refine Runs.cond (b:=true) (by simp[hh,m2_1,m3_2,dc14]) ?_
 simp only[if_true,if_false,Bool.false_eq_true,↓reduceIte]
 refine Runs.skip ?_
 refine Runs.seq ?_
 refine Runs.block ?_
 refine Runs.seqD Ty_ok kindOp_ok draws (by decide) (by kernel_rfl) fun k' hk'=>?_
 obtain⟨c21,ec21,h⟩:=atm h
 have f22:=ib_neq (k:=.i64) ec21
 simp[hh,m2_1,m3_2,f22,-intBin]
 apply hk'
 refine Runs.cut (fun ρ H n=>(ρ 2=pA n1 2∧ρ 3=pA (n1+1) 3∧ρ 5=int 2∧ρ 16=bool c21)∧H (n1,2)=some ⟨3,[[int a.1,int a.2.1,int a.2.2]]⟩∧H (n1+1,3)=some ⟨3,[[int b.1,int b.2.1,int b.2.2]]⟩) (by refine⟨?_,?_,?_⟩<;>simp[hh,m2_1,m3_2,f22,-intBin]) ?_
 clear hh m2_1 m3_2
 rintro ρ H n23 ⟨hh,m2_1,m3_2⟩
 refine Runs.ite (b:=c21) (by simp[hh,m2_1,m3_2]) (fun dc21=>?_) (fun dc21=>?_)
 ·replace h:=h.1 dc21
  refine Runs.seqD Ty_ok kindOp_ok draws (by decide) (by kernel_rfl) fun k' hk'=>?_
  obtain⟨c24,ec24,h⟩:=atm h
  have f25:=ib_lss (k:=.i64) ec24
  simp[hh,m2_1,m3_2,f25,dc21,-intBin]
  apply hk'
  exact Runs.ret1 (v:=bool c24) Tryz.func110 Tryz.results110 (by simp[hh,m2_1,m3_2,dc21]) (hQ _ _ _ _ (.of (.v _)) ⟨c24,h,rfl⟩)
 replace h:=h.2 dc21
 refine Runs.skip ?_
 refine Runs.inBlock ?_
 refine zF fun k' hk'=>?_
 have f26:=ib_add (show I64 ((2:Int)+1) from ⟨by decide,by decide⟩) (show (3:Int)=(2:Int)+1 by decide)
 simp[hh,m2_1,m3_2,f26,dc21,-intBin]
 apply hk'
 refine Runs.inLoop ?_
 refine Runs.seq ?_
 refine zE fun k' hk'=>?_
 have f27:=ib_lss (k:=.i64) (show false=decide (3<(3:Int)) by decide)
 simp[hh,m2_1,m3_2,f27,dc21,-intBin]
 apply hk'
 refine Runs.cond (b:=false) (by simp[hh,m2_1,m3_2,dc21]) ?_
 simp only[if_true,if_false,Bool.false_eq_true,↓reduceIte]
 refine Runs.exit rfl ?_
 refine zE fun k' hk'=>?_
 simp[hh,m2_1,m3_2,dc21]
 apply hk'
 exact Runs.ret1 (v:=bool false) Tryz.func110 Tryz.results110 (by simp[hh,m2_1,m3_2,dc21]) (hQ _ _ _ _ (.of (.v _)) ⟨false,h,rfl⟩)
theorem l10Before_ok (a:Int × Int × Int) (b:Int × Int × Int)  : PureC Tryz.prog 110 [.agg [int a.1,int a.2.1,int a.2.2],.agg [int b.1,int b.2.1,int b.2.2]] (fun r=>r=bool (l10Before a b)):=(l10Before_walk a b _ (l10Before_vc a b )).mono (by rintro _ ⟨_,rfl,rfl⟩;rfl)
theorem e63:Ent Tryz.prog 63:=Ent.of Tryz.func63 (by kernel_rfl) rfl
theorem l10Good_walk (x:Sys) (Z:Bool→Prop) (h:l10Good_wp x Z):PureC Tryz.prog 63 [.agg [.list false (x.states.map (Big.cells false)),.list false (x.steps.map intC3)]] (fun r=>∃ y:Bool,Z y∧r=bool y):=by
 unfold l10Good_wp at h
 refine PureC.of Tryz.func63 rfl Tryz.ntmps63 (by simp) fun Q hQ=>?_
 refine Runs.cut (fun ρ H n=>ρ 0 = .agg [.list false (x.states.map (Big.cells false)),.list false (x.steps.map intC3)]) (by simp[Big.cells,encI,encN,encS,encW]) ?_
 rintro ρ H n1 hh
 refine zE fun k' hk'=>?_
 simp[hh,Big.cells,encI,encN,encS,encW]
 apply hk'
 refine Runs.cut (fun ρ H n=>ρ 1=pA n1 1∧H (n1,1)=some ⟨2,[[.list false (x.states.map (Big.cells false)),.list false (x.steps.map intC3)]]⟩) (by refine⟨?_,?_⟩<;>simp[hh,Big.cells,encI,encN,encS,encW]) ?_
 clear hh
 rintro ρ H n3 ⟨hh,m1_1⟩
 refine zE fun k' hk'=>?_
 obtain⟨len4,elen4,h⟩:=atm h
 have f5:=fun H=>len_list (H:=H) (fr:=false) (f:=(Big.cells false)) kd_70 elen4
 simp[hh,m1_1,f5,Big.cells,encI,encN,encS,encW,-lenF]
 apply hk'
 refine Runs.seq ?_
 refine zE fun k' hk'=>?_
 simp[hh,m1_1,Big.cells,encI,encN,encS,encW]
 apply hk'
 refine Runs.block ?_
 refine Runs.loopW h (fun (sJ:Int) ρ H n=>match sJ with | i8=>(ρ 1=pA n1 1∧ρ 3=int len4∧ρ 4=int i8)∧H (n1,1)=some ⟨2,[[.list false (x.states.map (Big.cells false)),.list false (x.steps.map intC3)]]⟩) (by refine⟨?_,?_⟩<;>simp[hh,m1_1,Big.cells,encI,encN,encS,encW]) ?_
 clear hh m1_1
 rintro i8 ρ H n9 K h ⟨hh,m1_1⟩ IH10
 refine Runs.seq ?_
 refine zE fun k' hk'=>?_
 obtain⟨len12,elen12,h⟩:=atm h
 have f13:=fun H=>len_list (H:=H) (fr:=false) (f:=intC3) kd_64 elen12
 obtain⟨c14,ec14,h⟩:=atm h
 have f15:=ib_lss (k:=.i64) ec14
 simp[hh,m1_1,f13,f15,Big.cells,encI,encN,encS,encW,-intBin,-lenF]
 apply hk'
 refine Runs.ite (b:=c14) (by simp[hh,m1_1,Big.cells,encI,encN,encS,encW]) (fun dc14=>?_) (fun dc14=>?_)
 ·replace h:=h.1 dc14
  refine Runs.skip ?_
  refine Runs.seq ?_
  refine Runs.block ?_
  refine zE fun k' hk'=>?_
  obtain⟨hb16,h⟩:=h
  obtain⟨x17,ex17,h⟩:=atm h
  have f18:=fun H=>ix_list (H:=H) (fr:=false) (f:=intC3) (k:=.i64) kd_64 (fun _=>rfl) hb16 ex17
  simp[hh,m1_1,f18,dc14,Big.cells,encI,encN,encS,encW,-indexAddrF]
  apply hk'
  refine Runs.cut (fun ρ H n=>(ρ 1=pA n1 1∧ρ 3=int len4∧ρ 4=int i8∧ρ 5=pA n9 5)∧H (n1,1)=some ⟨2,[[.list false (x.states.map (Big.cells false)),.list false (x.steps.map intC3)]]⟩∧H (n9,5)=some ⟨3,[[int x17.1,int x17.2.1,int x17.2.2]]⟩) (by refine⟨?_,?_,?_⟩<;>simp[hh,m1_1,f18,dc14,Big.cells,encI,encN,encS,encW,-indexAddrF]) ?_
  clear hh m1_1
  rintro ρ H n20 ⟨hh,m1_1,m5_18⟩
  refine Runs.seqD Ty_ok kindOp_ok draws (by decide) (by kernel_rfl) fun k' hk'=>?_
  obtain⟨J21,hJ22,hr23⟩:=h
  have fin25:∀ (sJ:Bool) (ρ:Env) (H:Heap) (n:Nat),J21 sJ→(match sJ with | b24=>(ρ 1=pA n1 1∧ρ 3=int len4∧ρ 4=int i8∧ρ 55=bool b24)∧H (n1,1)=some ⟨2,[[.list false (x.states.map (Big.cells false)),.list false (x.steps.map intC3)]]⟩)→Runs Tryz.prog 63 58 k' ρ H n Q:=by
   rintro b24 ρ H n26 h ⟨hh,m1_1⟩
   replace h:=hr23 _ h
   apply hk'
   refine Runs.ite (b:=b24) (by simp[hh,m1_1,Big.cells,encI,encN,encS,encW]) (fun db24=>?_) (fun db24=>?_)
   ·replace h:=h.1 db24
    refine zE fun k' hk'=>?_
    simp[hh,m1_1,db24,Big.cells,encI,encN,encS,encW]
    apply hk'
    exact Runs.ret1 (v:=bool false) Tryz.func63 Tryz.results63 (by simp[hh,m1_1,db24,Big.cells,encI,encN,encS,encW]) (hQ _ _ _ _ (.of (.v _)) ⟨false,h,rfl⟩)
   replace h:=h.2 db24
   refine Runs.skip ?_
   refine Runs.inBlock ?_
   refine zF fun k' hk'=>?_
   obtain⟨hb27,h⟩:=h
   obtain⟨v28,ev28,h⟩:=atm h
   have f29:=ib_add hb27 ev28
   simp[hh,m1_1,f29,db24,Big.cells,encI,encN,encS,encW,-intBin]
   apply hk'
   refine IH10 (v28) _ _ _ h (by refine⟨?_,?_⟩<;>simp[hh,m1_1,db24,Big.cells,encI,encN,encS,encW])
  replace h:=hJ22
  obtain⟨hb30,h⟩:=h
  obtain⟨v31,ev31,h⟩:=atm h
  have f32:=ib_sub hb30 ev31
  obtain⟨r33,er33,h⟩:=atm h
  simp[hh,m1_1,m5_18,f32,Big.cells,encI,encN,encS,encW,-intBin]
  refine RunDK.callA Ty_ok kindOp_ok (l1In_ok x17.1 0 v31) e88 (.cons (.v _ _ _) (.cons (.v _ _ _) (.cons (.v _ _ _) .nil))) (by decide) rfl (by simp[hh,m1_1,m5_18,f32,Big.cells,encI,encN,encS,encW,-intBin]) ?_
  rw[← er33]
  rcases Bool.eq_false_or_eq_true r33 with dr33 | dr33
  ·replace h:=h.1 dr33
   obtain⟨r34,er34,h⟩:=atm h
   simp[hh,m1_1,m5_18,f32,dr33,Big.cells,encI,encN,encS,encW,-intBin]
   refine RunDK.callA Ty_ok kindOp_ok (l1In_ok x17.2.1 0 5) e88 (.cons (.v _ _ _) (.cons (.v _ _ _) (.cons (.v _ _ _) .nil))) (by decide) rfl (by simp[hh,m1_1,m5_18,f32,dr33,Big.cells,encI,encN,encS,encW,-intBin]) ?_
   rw[← er34]
   rcases Bool.eq_false_or_eq_true r34 with dr34 | dr34
   ·replace h:=h.1 dr34
    obtain⟨hb35,h⟩:=h
    obtain⟨v36,ev36,h⟩:=atm h
    have hq37:=ev31.trans ev36.symm
    subst hq37
    have f38:=ib_sub hb35 ev31
    obtain⟨r39,er39,h⟩:=atm h
    simp[hh,m1_1,m5_18,f32,f38,dr33,dr34,Big.cells,encI,encN,encS,encW,-intBin]
    refine RunDK.callA Ty_ok kindOp_ok (l1In_ok x17.2.2 0 v31) e88 (.cons (.v _ _ _) (.cons (.v _ _ _) (.cons (.v _ _ _) .nil))) (by decide) rfl (by simp[hh,m1_1,m5_18,f32,f38,dr33,dr34,Big.cells,encI,encN,encS,encW,-intBin]) ?_
    rw[← er39]
    rcases Bool.eq_false_or_eq_true r39 with dr39 | dr39
    ·replace h:=h.1 dr39
     obtain⟨c40,ec40,h⟩:=atm h
     have f41:=ib_gtr (k:=.i64) ec40
     rcases Bool.eq_false_or_eq_true c40 with dc40 | dc40
     ·replace h:=h.1 dc40
      obtain⟨hb42,h⟩:=h
      obtain⟨v43,ev43,h⟩:=atm h
      have f44:=ib_sub hb42 ev43
      obtain⟨hb45,h⟩:=h
      obtain⟨x46,ex46,h⟩:=atm h
      have f47:=fun H=>ix_list (H:=H) (fr:=false) (f:=intC3) (k:=.i64) kd_64 (fun _=>rfl) hb45 ex46
      obtain⟨r48,er48,h⟩:=atm h
      simp[hh,m1_1,m5_18,f32,f38,f41,f44,f47,dr33,dr34,dr39,dc40,Big.cells,encI,encN,encS,encW,-indexAddrF,-intBin]
      refine RunDK.callA Ty_ok kindOp_ok (l10Before_ok (x46.1,x46.2.1,x46.2.2) (x17.1,x17.2.1,x17.2.2) ) e110 (.cons (ArgOk.agg (.cons (.v _ _ _) (.cons (.v _ _ _) (.cons (.v _ _ _) .nil)))) (.cons (ArgOk.agg (.cons (.v _ _ _) (.cons (.v _ _ _) (.cons (.v _ _ _) .nil)))) .nil)) (by decide) rfl (by simp[hh,m1_1,m5_18,f32,f38,f41,f44,f47,dr33,dr34,dr39,dc40,Big.cells,encI,encN,encS,encW,-indexAddrF,-intBin]) ?_
      rw[← er48]
      simp[hh,m1_1,m5_18,f32,f38,f41,f44,f47,dr33,dr34,dr39,dc40,Big.cells,encI,encN,encS,encW,-indexAddrF,-intBin]
      exact fin25 ((!r48)) _ _ _ h (by refine⟨?_,?_⟩<;>simp[hh,m1_1,m5_18,f32,f38,f41,f44,f47,dr33,dr34,dr39,dc40,Big.cells,encI,encN,encS,encW,-indexAddrF,-intBin])
     replace h:=h.2 dc40
     simp[hh,m1_1,m5_18,f32,f38,f41,dr33,dr34,dr39,dc40,Big.cells,encI,encN,encS,encW,-intBin]
     exact fin25 (false) _ _ _ h (by refine⟨?_,?_⟩<;>simp[hh,m1_1,m5_18,f32,f38,f41,dr33,dr34,dr39,dc40,Big.cells,encI,encN,encS,encW,-intBin])
    replace h:=h.2 dr39
    simp[hh,m1_1,m5_18,f32,f38,dr33,dr34,dr39,Big.cells,encI,encN,encS,encW,-intBin]
    exact fin25 (true) _ _ _ h (by refine⟨?_,?_⟩<;>simp[hh,m1_1,m5_18,f32,f38,dr33,dr34,dr39,Big.cells,encI,encN,encS,encW,-intBin])
   replace h:=h.2 dr34
   simp[hh,m1_1,m5_18,f32,dr33,dr34,Big.cells,encI,encN,encS,encW,-intBin]
   exact fin25 (true) _ _ _ h (by refine⟨?_,?_⟩<;>simp[hh,m1_1,m5_18,f32,dr33,dr34,Big.cells,encI,encN,encS,encW,-intBin])
  replace h:=h.2 dr33
  simp[hh,m1_1,m5_18,f32,dr33,Big.cells,encI,encN,encS,encW,-intBin]
  exact fin25 (true) _ _ _ h (by refine⟨?_,?_⟩<;>simp[hh,m1_1,m5_18,f32,dr33,Big.cells,encI,encN,encS,encW,-intBin])
 replace h:=h.2 dc14
 refine Runs.exit rfl ?_
 refine zE fun k' hk'=>?_
 obtain⟨r49,er49,h⟩:=atm h
 simp[hh,m1_1,dc14,Big.cells,encI,encN,encS,encW]
 refine RunK.callA Ty_ok (l1In_ok len4 1 40) e88 (.cons (.v _ _ _) (.cons (.v _ _ _) (.cons (.v _ _ _) .nil))) (by decide) (by decide) rfl (by simp[hh,m1_1,dc14,Big.cells,encI,encN,encS,encW]) ?_
 rintro _ rfl
 rw[← er49]
 simp[hh,m1_1,dc14,Big.cells,encI,encN,encS,encW]
 apply hk'
 exact Runs.ret1 (v:=bool r49) Tryz.func63 Tryz.results63 (by simp[hh,m1_1,dc14,Big.cells,encI,encN,encS,encW]) (hQ _ _ _ _ (.of (.v _)) ⟨r49,h,rfl⟩)
theorem l10Good_ok (x:Sys) (hp:l10Good_pre x):PureC Tryz.prog 63 [.agg [.list false (x.states.map (Big.cells false)),.list false (x.steps.map intC3)]] (fun r=>r=bool (l10Good x)):=(l10Good_walk x _ (l10Good_vc x hp)).mono (by rintro _ ⟨_,rfl,rfl⟩;rfl)
theorem e67:Ent Tryz.prog 67:=Ent.of Tryz.func67 (by kernel_rfl) rfl
theorem toBigraphS_walk (a:List Big) (Z:(List Big)→Prop) (h:toBigraphS_wp a Z):OwnS Tryz.prog 67 [.list false (a.map (Big.cells false))] (.s [.c,.s [.c,.c,.s [.c]],.s [.c],.c,.s [.c],.s [.c,.c]]) (fun r=>∃ y:List Big,Z y∧r = .list true (y.map (Big.cells true))):=by
 unfold toBigraphS_wp at h
 have sp:Sep noHeap 0 [] []:=Sep.nil (by simp)
 refine OwnS.of Tryz.func67 rfl Tryz.ntmps67 (by simp) fun Q hQ=>?_
 refine Runs.cut (fun ρ H n=>ρ 0 = .list false (a.map (Big.cells false))∧Sep H n [] []) (by refine⟨?_,sp⟩<;>simp[Big.cells,encI,encN,encS,encW]) ?_
 rintro ρ H n1 ⟨hh,sp⟩
 refine zE fun k' hk'=>?_
 simp[hh,Big.cells,encI,encN,encS,encW]
 apply hk'
 refine zE fun k' hk'=>?_
 obtain⟨len2,elen2,h⟩:=atm h
 have f3:=fun H=>len_list (H:=H) (fr:=false) (f:=(Big.cells false)) kd_63 elen2
 obtain⟨hb4,h⟩:=h
 obtain⟨l5,el5,h⟩:=atm h
 simp[hh,f3,hb4,el5,Big.cells,encI,encN,encS,encW,-lenF]
 apply hk'
 refine Runs.cut (fun ρ H n=>∃ (v7:AVal),(ρ 0 = .list false (a.map (Big.cells false))∧ρ 3=v7)∧Sep H n [oE [.c,.s [.c,.c,.s [.c]],.s [.c],.c,.s [.c],.s [.c,.c]] (Big.cells true) v7 l5] []) (by refine⟨.arr (n1,7) len2.toNat 0 len2.toNat,?_,(by rw[el5];exact Sep.addRep (z:=[int 0,.v (.slice none 0 0),.v (.slice none 0 0),int 0,.v (.slice none 0 0),.v (.slice none 0 0)]) (f:=(Big.cells true)) (k:=len2.toNat) sp (fun H=>by show Row H [.c,.s [.c,.c,.s [.c]],.s [.c],.c,.s [.c],.s [.c,.c]] [int 0,.v (.slice none 0 0),.v (.slice none 0 0),int 0,.v (.slice none 0 0),.v (.slice none 0 0)] [int 0,.list true [],.list true [],int 0,.list true [],.list true []] [];simp[Row,Tr]))⟩<;>simp[hh,f3,hb4,el5,Big.cells,encI,encN,encS,encW,-lenF]) ?_
 clear hh
 rintro ρ H n8 ⟨v7,hh,sp⟩
 refine Runs.seq ?_
 refine zE fun k' hk'=>?_
 simp[hh,Big.cells,encI,encN,encS,encW]
 apply hk'
 refine Runs.block ?_
 refine Runs.loopW h (fun (sJ:Int × (List Big)) ρ H n=>match sJ with | (i16,l17)=>∃ (v18:AVal),(ρ 0 = .list false (a.map (Big.cells false))∧ρ 3=v18∧ρ 4=int i16)∧Sep H n [oE [.c,.s [.c,.c,.s [.c]],.s [.c],.c,.s [.c],.s [.c,.c]] (Big.cells true) v18 l17] []) (by refine⟨v7,?_,sp⟩<;>simp[hh,Big.cells,encI,encN,encS,encW]) ?_
 clear hh
 rintro⟨i16,l17⟩ ρ H n19 K h ⟨v18,hh,sp⟩ IH20
 refine Runs.seq ?_
 refine zE fun k' hk'=>?_
 obtain⟨len22,elen22,h⟩:=atm h
 have f23:=fun H=>len_list (H:=H) (fr:=false) (f:=(Big.cells false)) kd_63 elen22
 obtain⟨c24,ec24,h⟩:=atm h
 have f25:=ib_lss (k:=.i64) ec24
 simp[hh,f23,f25,Big.cells,encI,encN,encS,encW,-intBin,-lenF]
 apply hk'
 refine Runs.ite (b:=c24) (by simp[hh,Big.cells,encI,encN,encS,encW]) (fun dc24=>?_) (fun dc24=>?_)
 ·replace h:=h.1 dc24
  refine Runs.skip ?_
  refine Runs.seq ?_
  refine Runs.block ?_
  refine zF fun k' hk'=>?_
  obtain⟨hb26,h⟩:=h
  obtain⟨x27,ex27,h⟩:=atm h
  have f28:=fun H=>ix_list (H:=H) (fr:=false) (f:=(Big.cells false)) (k:=.i64) kd_63 (fun _=>rfl) hb26 ex27
  obtain⟨hb29,h⟩:=h
  obtain⟨r30,er30,h⟩:=atm h
  simp[hh,f28,dc24,Big.cells,encI,encN,encS,encW,-indexAddrF]
  refine RunK.callW Ty_ok (toBigraph_ok x27 hb29) e15 (.cons (argB false x27) .nil) sp (by decide) (by decide) rfl (by simp[hh,f28,dc24,Big.cells,encI,encN,encS,encW,-indexAddrF]) ?_
  rintro v31 H32 n33 _ sp rfl hle35 hfr34
  rw[← er30] at sp
  replace sp:=Sep.unpack sp
  obtain⟨L43,hv,hl44,sp⟩:=sp
  subst hv
  obtain⟨v37,v38,v39,v40,v41,v42,hv⟩:=len6 (by simpa using hl44)
  subst hv
  simp only[zip3,List.cons_append,List.nil_append] at sp
  replace sp:=Sep.scalar sp
  obtain⟨hv,sp⟩:=sp
  subst hv
  replace sp:=Sep.rot sp
  try simp only[List.cons_append,List.nil_append,List.append_assoc] at sp
  replace sp:=Sep.rot sp
  try simp only[List.cons_append,List.nil_append,List.append_assoc] at sp
  replace sp:=Sep.scalar sp
  obtain⟨hv,sp⟩:=sp
  subst hv
  replace sp:=Sep.rot sp
  try simp only[List.cons_append,List.nil_append,List.append_assoc] at sp
  replace sp:=Sep.rot sp
  try simp only[List.cons_append,List.nil_append,List.append_assoc] at sp
  replace sp:Sep H32 n33 [oE [.c,.s [.c,.c,.s [.c]],.s [.c],.c,.s [.c],.s [.c,.c]] (Big.cells true) v18 l17,oN v38 r30.nodes,oI v39 r30.sites,oS v41 r30.outer,oW v42 r30.inner] []:=sp
  obtain⟨hb49,h⟩:=h
  obtain⟨x50,ex50,h⟩:=atm h
  obtain⟨id51,els52,row53,W54,hq55,mo56,moL57,moR58,hrl59,hW60,hsub61,hni62,spr63,hcl64⟩:=Sep.rowF (q:=i16.toNat) (f:=(Big.cells true)) sp hb49 ex50 rfl
  subst hq55
  obtain⟨c65,c66,c67,c68,c69,c70,hq55⟩:=len6 (by simpa using hrl59)
  subst hq55
  replace spr63:Sep _ _ [(.c,c65,int x50.roots),(.s [.c,.c,.s [.c]],c66,.list true (x50.nodes.map (GNode.cells true))),(.s [.c],c67,.list true (x50.sites.map intC)),(.c,c68,int x50.edges),(.s [.c],c69,.list true (x50.outer.map strC)),(.s [.c,.c],c70,.list true (x50.inner.map Wire.cells))] W54:=spr63
  obtain rfl:=Sep.cAt (K1:=[]) (K2:=[(.s [.c,.c,.s [.c]],c66,.list true (x50.nodes.map (GNode.cells true))),(.s [.c],c67,.list true (x50.sites.map intC)),(.c,c68,int x50.edges),(.s [.c],c69,.list true (x50.outer.map strC)),(.s [.c,.c],c70,.list true (x50.inner.map Wire.cells))]) spr63
  obtain rfl:=Sep.cAt (K1:=[(.c,int x50.roots,int x50.roots),(.s [.c,.c,.s [.c]],c66,.list true (x50.nodes.map (GNode.cells true))),(.s [.c],c67,.list true (x50.sites.map intC))]) (K2:=[(.s [.c],c69,.list true (x50.outer.map strC)),(.s [.c,.c],c70,.list true (x50.inner.map Wire.cells))]) spr63
  have f71:=ix_arr (k:=.i64) (off:=0) (len:=l17.length) kd_70 mo56 moL57 rfl hb49
  obtain⟨l72,el72,h⟩:=atm h
  simp[hh,mo56,moL57,moR58,f28,f71,dc24,Big.cells,encI,encN,encS,encW,-indexAddrF,-storeF]
  refine bind_store (q:=i16.toNat) (news:=(Big.cells true) r30) [oN v38 r30.nodes,oI v39 r30.sites,oS v41 r30.outer,oW v42 r30.inner] [] sp (by simp) (by simp;omega) (by simp) (by simp[-one1,o1x,Sep.one1 sp.dr,Sep.one1 sp.dr.dr,Sep.one1 sp.dr.dr.dr,Sep.one1 sp.dr.dr.dr.dr]) (Fill.v _ (Fill.own (Fill.own (Fill.v _ (Fill.own (Fill.own Fill.nil)))))) ?_
  rintro H73 sp hfr74
  replace sp:Sep H73 n33 [oE [.c,.s [.c,.c,.s [.c]],.s [.c],.c,.s [.c],.s [.c,.c]] (Big.cells true) (.arr id51 l17.length 0 l17.length) l72] []:=Sep.st el72 sp
  simp[hh,f28,f71,dc24,Big.cells,encI,encN,encS,encW,-indexAddrF]
  apply hk'
  refine Runs.cut (fun ρ H n=>∃ (v76:AVal),(ρ 0 = .list false (a.map (Big.cells false))∧ρ 3=v76∧ρ 4=int i16)∧Sep H n [oE [.c,.s [.c,.c,.s [.c]],.s [.c],.c,.s [.c],.s [.c,.c]] (Big.cells true) v76 l72] []) (by refine⟨.arr id51 l17.length 0 l17.length,?_,sp⟩<;>simp[hh,f28,f71,dc24,Big.cells,encI,encN,encS,encW,-indexAddrF]) ?_
  clear hh
  rintro ρ H n77 ⟨v76,hh,sp⟩
  refine Runs.inBlock ?_
  refine zF fun k' hk'=>?_
  obtain⟨hb78,h⟩:=h
  obtain⟨v79,ev79,h⟩:=atm h
  have f80:=ib_add hb78 ev79
  simp[hh,f80,Big.cells,encI,encN,encS,encW,-intBin]
  apply hk'
  refine IH20 (v79,l72) _ _ _ h (by refine⟨v76,?_,sp⟩<;>simp[hh,Big.cells,encI,encN,encS,encW])
 replace h:=h.2 dc24
 refine Runs.exit rfl ?_
 refine zE fun k' hk'=>?_
 simp[hh,dc24,Big.cells,encI,encN,encS,encW]
 apply hk'
 exact Runs.ret1 (v:=v18) Tryz.func67 Tryz.results67 (by simp[hh,dc24,Big.cells,encI,encN,encS,encW]) (hQ _ _ _ _ (Sep.sub (ids':=[]) sp (by simp)) ⟨l17,h,rfl⟩)
theorem toBigraphS_ok (a:List Big) (hp:toBigraphS_pre a):OwnS Tryz.prog 67 [.list false (a.map (Big.cells false))] (.s [.c,.s [.c,.c,.s [.c]],.s [.c],.c,.s [.c],.s [.c,.c]]) (fun r=>r = .list true ((toBigraphS a).map (Big.cells true))):=(toBigraphS_walk a _ (toBigraphS_vc a hp)).mono (by rintro _ ⟨_,rfl,rfl⟩;rfl)
theorem e115:Ent Tryz.prog 115:=Ent.of Tryz.func115 (by kernel_rfl) rfl
theorem toIntA3_walk (a:Int × Int × Int) (Z:(Int × Int × Int)→Prop) (h:toIntA3_wp a Z):PureC Tryz.prog 115 [.agg [int a.1,int a.2.1,int a.2.2]] (fun r=>∃ y:Int × Int × Int,Z y∧r = .agg [int y.1,int y.2.1,int y.2.2]):=by
 unfold toIntA3_wp at h
 refine PureC.of Tryz.func115 rfl Tryz.ntmps115 (by simp) fun Q hQ=>?_
 refine Runs.cut (fun ρ H n=>ρ 0 = .agg [int a.1,int a.2.1,int a.2.2]) (by simp[]) ?_
 rintro ρ H n1 hh
 refine zE fun k' hk'=>?_
 simp[hh]
 apply hk'
 refine Runs.cut (fun ρ H n=>(ρ 1=pA n1 1∧ρ 2=pA (n1+1) 2)∧H (n1,1)=some ⟨3,[[int a.1,int a.2.1,int a.2.2]]⟩∧H (n1+1,2)=some ⟨3,[[int 0,int 0,int 0]]⟩) (by refine⟨?_,?_,?_⟩<;>simp[hh]) ?_
 clear hh
 rintro ρ H n4 ⟨hh,m1_1,m2_2⟩
 refine zE fun k' hk'=>?_
 simp[hh,m1_1,m2_2]
 apply hk'
 refine Runs.cut (fun ρ H n=>(ρ 1=pA n1 1∧ρ 2=pA (n1+1) 2∧ρ 3=pA n4 3)∧H (n1,1)=some ⟨3,[[int a.1,int a.2.1,int a.2.2]]⟩∧H (n1+1,2)=some ⟨3,[[int 0,int 0,int 0]]⟩∧H (n4,3)=some ⟨3,[[int 0,int 0,int 0]]⟩) (by refine⟨?_,?_,?_,?_⟩<;>simp[hh,m1_1,m2_2]) ?_
 clear hh m1_1 m2_2
 rintro ρ H n6 ⟨hh,m1_1,m2_2,m3_4⟩
 refine Runs.seq ?_
 refine zE fun k' hk'=>?_
 simp[hh,m1_1,m2_2,m3_4]
 apply hk'
 refine Runs.block ?_
 refine Runs.loop ?_
 refine Runs.seq ?_
 refine zE fun k' hk'=>?_
 have f7:=ib_lss (k:=.i64) (show true=decide (0<(3:Int)) by decide)
 simp[hh,m1_1,m2_2,m3_4,f7,-intBin]
 apply hk'
 refine Runs.cond (b:=true) (by simp[hh,m1_1,m2_2,m3_4]) ?_
 simp only[if_true,if_false,Bool.false_eq_true,↓reduceIte]
 refine Runs.skip ?_
 refine Runs.seq ?_
 refine Runs.block ?_
 refine zF fun k' hk'=>?_
 simp[hh,m1_1,m2_2,m3_4]
 apply hk'
 refine Runs.cut (fun ρ H n=>(ρ 1=pA n1 1∧ρ 2=pA (n1+1) 2∧ρ 3=pA n4 3∧ρ 4=int 0)∧H (n1,1)=some ⟨3,[[int a.1,int a.2.1,int a.2.2]]⟩∧H (n1+1,2)=some ⟨3,[[int 0,int 0,int 0]]⟩∧H (n4,3)=some ⟨3,[[int a.1,int 0,int 0]]⟩) (by refine⟨?_,?_,?_,?_⟩<;>simp[hh,m1_1,m2_2,m3_4]) ?_
 clear hh m1_1 m2_2 m3_4
 rintro ρ H n8 ⟨hh,m1_1,m2_2,m3_4⟩
 refine Runs.inBlock ?_
 refine zF fun k' hk'=>?_
 have f9:=ib_add (show I64 ((0:Int)+1) from ⟨by decide,by decide⟩) (show (1:Int)=(0:Int)+1 by decide)
 simp[hh,m1_1,m2_2,m3_4,f9,-intBin]
 apply hk'
 refine Runs.inLoop ?_
 refine Runs.seq ?_
 refine zE fun k' hk'=>?_
 have f10:=ib_lss (k:=.i64) (show true=decide (1<(3:Int)) by decide)
 simp[hh,m1_1,m2_2,m3_4,f10,-intBin]
 apply hk'
 refine Runs.cond (b:=true) (by simp[hh,m1_1,m2_2,m3_4]) ?_
 simp only[if_true,if_false,Bool.false_eq_true,↓reduceIte]
 refine Runs.skip ?_
 refine Runs.seq ?_
 refine Runs.block ?_
 refine zF fun k' hk'=>?_
 simp[hh,m1_1,m2_2,m3_4]
 apply hk'
 refine Runs.cut (fun ρ H n=>(ρ 1=pA n1 1∧ρ 2=pA (n1+1) 2∧ρ 3=pA n4 3∧ρ 4=int 1)∧H (n1,1)=some ⟨3,[[int a.1,int a.2.1,int a.2.2]]⟩∧H (n1+1,2)=some ⟨3,[[int 0,int 0,int 0]]⟩∧H (n4,3)=some ⟨3,[[int a.1,int a.2.1,int 0]]⟩) (by refine⟨?_,?_,?_,?_⟩<;>simp[hh,m1_1,m2_2,m3_4]) ?_
 clear hh m1_1 m2_2 m3_4
 rintro ρ H n11 ⟨hh,m1_1,m2_2,m3_4⟩
 refine Runs.inBlock ?_
 refine zF fun k' hk'=>?_
 have f12:=ib_add (show I64 ((1:Int)+1) from ⟨by decide,by decide⟩) (show (2:Int)=(1:Int)+1 by decide)
 simp[hh,m1_1,m2_2,m3_4,f12,-intBin]
 apply hk'
 refine Runs.inLoop ?_
 refine Runs.seq ?_
 refine zE fun k' hk'=>?_
 have f13:=ib_lss (k:=.i64) (show true=decide (2<(3:Int)) by decide)
 simp[hh,m1_1,m2_2,m3_4,f13,-intBin]
 apply hk'
 refine Runs.cond (b:=true) (by simp[hh,m1_1,m2_2,m3_4]) ?_
 simp only[if_true,if_false,Bool.false_eq_true,↓reduceIte]
 refine Runs.skip ?_
 refine Runs.seq ?_
 refine Runs.block ?_
 refine zF fun k' hk'=>?_
 simp[hh,m1_1,m2_2,m3_4]
 apply hk'
 refine Runs.cut (fun ρ H n=>(ρ 1=pA n1 1∧ρ 2=pA (n1+1) 2∧ρ 3=pA n4 3∧ρ 4=int 2)∧H (n1,1)=some ⟨3,[[int a.1,int a.2.1,int a.2.2]]⟩∧H (n1+1,2)=some ⟨3,[[int 0,int 0,int 0]]⟩∧H (n4,3)=some ⟨3,[[int a.1,int a.2.1,int a.2.2]]⟩) (by refine⟨?_,?_,?_,?_⟩<;>simp[hh,m1_1,m2_2,m3_4]) ?_
 clear hh m1_1 m2_2 m3_4
 rintro ρ H n14 ⟨hh,m1_1,m2_2,m3_4⟩
 refine Runs.inBlock ?_
 refine zF fun k' hk'=>?_
 have f15:=ib_add (show I64 ((2:Int)+1) from ⟨by decide,by decide⟩) (show (3:Int)=(2:Int)+1 by decide)
 simp[hh,m1_1,m2_2,m3_4,f15,-intBin]
 apply hk'
 refine Runs.inLoop ?_
 refine Runs.seq ?_
 refine zE fun k' hk'=>?_
 have f16:=ib_lss (k:=.i64) (show false=decide (3<(3:Int)) by decide)
 simp[hh,m1_1,m2_2,m3_4,f16,-intBin]
 apply hk'
 refine Runs.cond (b:=false) (by simp[hh,m1_1,m2_2,m3_4]) ?_
 simp only[if_true,if_false,Bool.false_eq_true,↓reduceIte]
 refine Runs.exit rfl ?_
 refine zE fun k' hk'=>?_
 simp[hh,m1_1,m2_2,m3_4]
 apply hk'
 refine Runs.cut (fun ρ H n=>ρ 2=pA (n1+1) 2∧H (n1+1,2)=some ⟨3,[[int a.1,int a.2.1,int a.2.2]]⟩) (by refine⟨?_,?_⟩<;>simp[hh,m1_1,m2_2,m3_4]) ?_
 clear hh m1_1 m2_2 m3_4
 rintro ρ H n17 ⟨hh,m2_2⟩
 exact Runs.res1 Ty_ok (v:=.agg [int a.1,int a.2.1,int a.2.2]) Tryz.func115 Tryz.results115 (by simp[hh,m2_2,resA]) (hQ _ _ _ _ (.of (.aggL (.cons (.v _) (.cons (.v _) (.cons (.v _) .nil))))) ⟨(a.1,a.2.1,a.2.2),h,rfl⟩)
theorem toIntA3_ok (a:Int × Int × Int)  : PureC Tryz.prog 115 [.agg [int a.1,int a.2.1,int a.2.2]] (fun r=>r = .agg [int ((toIntA3 a).1),int ((toIntA3 a).2.1),int ((toIntA3 a).2.2)]):=(toIntA3_walk a _ (toIntA3_vc a )).mono (by rintro _ ⟨_,rfl,rfl⟩;rfl)
theorem e68:Ent Tryz.prog 68:=Ent.of Tryz.func68 (by kernel_rfl) rfl
theorem toIntA3S_walk (a:List (Int × Int × Int)) (Z:(List (Int × Int × Int))→Prop) (h:toIntA3S_wp a Z):OwnS Tryz.prog 68 [.list false (a.map intC3)] (.s [.c,.c,.c]) (fun r=>∃ y:List (Int × Int × Int),Z y∧r = .list true (y.map intC3)):=by
 unfold toIntA3S_wp at h
 have sp:Sep noHeap 0 [] []:=Sep.nil (by simp)
 refine OwnS.of Tryz.func68 rfl Tryz.ntmps68 (by simp) fun Q hQ=>?_
 refine Runs.cut (fun ρ H n=>ρ 0 = .list false (a.map intC3)∧Sep H n [] []) (by refine⟨?_,sp⟩<;>simp ) ?_
 rintro ρ H n1 ⟨hh,sp⟩
 refine zE fun k' hk'=>?_
 simp[hh]
 apply hk'
 refine zE fun k' hk'=>?_
 obtain⟨len2,elen2,h⟩:=atm h
 have f3:=fun H=>len_list (H:=H) (fr:=false) (f:=intC3) kd_64 elen2
 obtain⟨hb4,h⟩:=h
 obtain⟨l5,el5,h⟩:=atm h
 simp[hh,f3,hb4,el5,-lenF]
 apply hk'
 refine Runs.cut (fun ρ H n=>∃ (v7:AVal),(ρ 0 = .list false (a.map intC3)∧ρ 3=v7)∧Sep H n [oE [.c,.c,.c] intC3 v7 l5] []) (by refine⟨.arr (n1,7) len2.toNat 0 len2.toNat,?_,(by rw[el5];exact Sep.addRep (z:=[int 0,int 0,int 0]) (f:=intC3) (k:=len2.toNat) sp (fun H=>by show Row H [.c,.c,.c] [int 0,int 0,int 0] [int 0,int 0,int 0] [];simp[Row,Tr]))⟩<;>simp[hh,f3,hb4,el5,-lenF]) ?_
 clear hh
 rintro ρ H n8 ⟨v7,hh,sp⟩
 refine Runs.seq ?_
 refine zE fun k' hk'=>?_
 simp[hh]
 apply hk'
 refine Runs.block ?_
 refine Runs.loopW h (fun (sJ:Int × (List (Int × Int × Int))) ρ H n=>match sJ with | (i16,l17)=>∃ (v18:AVal),(ρ 0 = .list false (a.map intC3)∧ρ 3=v18∧ρ 4=int i16)∧Sep H n [oE [.c,.c,.c] intC3 v18 l17] []) (by refine⟨v7,?_,sp⟩<;>simp[hh]) ?_
 clear hh
 rintro⟨i16,l17⟩ ρ H n19 K h ⟨v18,hh,sp⟩ IH20
 refine Runs.seq ?_
 refine zE fun k' hk'=>?_
 obtain⟨len22,elen22,h⟩:=atm h
 have f23:=fun H=>len_list (H:=H) (fr:=false) (f:=intC3) kd_64 elen22
 obtain⟨c24,ec24,h⟩:=atm h
 have f25:=ib_lss (k:=.i64) ec24
 simp[hh,f23,f25,-intBin,-lenF]
 apply hk'
 refine Runs.ite (b:=c24) (by simp[hh]) (fun dc24=>?_) (fun dc24=>?_)
 ·replace h:=h.1 dc24
  refine Runs.skip ?_
  refine Runs.seq ?_
  refine Runs.block ?_
  refine zF fun k' hk'=>?_
  obtain⟨hb26,h⟩:=h
  obtain⟨x27,ex27,h⟩:=atm h
  have f28:=fun H=>ix_list (H:=H) (fr:=false) (f:=intC3) (k:=.i64) kd_64 (fun _=>rfl) hb26 ex27
  obtain⟨r29,er29,h⟩:=atm h
  simp[hh,f28,dc24,-indexAddrF]
  refine RunK.callA Ty_ok (toIntA3_ok (x27.1,x27.2.1,x27.2.2) ) e115 (.cons (ArgOk.agg (.cons (.v _ _ _) (.cons (.v _ _ _) (.cons (.v _ _ _) .nil)))) .nil) (by decide) (by decide) rfl (by simp[hh,f28,dc24,-indexAddrF]) ?_
  rintro _ rfl
  rw[← er29]
  obtain⟨hb30,h⟩:=h
  obtain⟨id31,hv,mo32,ln33,ni34⟩:=Sep.openF sp (by simp) hb30
  subst hv
  obtain⟨x35,ex35,h⟩:=atm h
  have f36:=fun H (hm:H id31=some ⟨3,l17.map intC3⟩)=>ix_arr (H:=H) (k:=.i64) (off:=0) (len:=l17.length) (g:=l17.length) kd_64 hm (by simp) rfl hb30
  have f37:=at_some (q:=i16.toNat) hb30 ex35 rfl
  obtain⟨l38,el38,h⟩:=atm h
  simp[hh,mo32,f28,f36,f37,dc24,-indexAddrF,-storeF]
  refine bind_store (q:=i16.toNat) (news:=intC3 (r29.1,r29.2.1,r29.2.2)) [] [] sp (by simp) (by simp;omega) (by simp) (by simp[-one1,o1x]) (Fill.v _ (Fill.v _ (Fill.v _ Fill.nil))) ?_
  rintro H39 sp hfr40
  replace sp:Sep H39 n19 [oE [.c,.c,.c] intC3 (.arr id31 l17.length 0 l17.length) l38] []:=Sep.st el38 sp
  simp[hh,f28,f36,f37,dc24,-indexAddrF]
  apply hk'
  refine Runs.cut (fun ρ H n=>∃ (v42:AVal),(ρ 0 = .list false (a.map intC3)∧ρ 3=v42∧ρ 4=int i16)∧Sep H n [oE [.c,.c,.c] intC3 v42 l38] []) (by refine⟨.arr id31 l17.length 0 l17.length,?_,sp⟩<;>simp[hh,f28,f36,f37,dc24,-indexAddrF]) ?_
  clear hh
  rintro ρ H n43 ⟨v42,hh,sp⟩
  refine Runs.inBlock ?_
  refine zF fun k' hk'=>?_
  obtain⟨hb44,h⟩:=h
  obtain⟨v45,ev45,h⟩:=atm h
  have f46:=ib_add hb44 ev45
  simp[hh,f46,-intBin]
  apply hk'
  refine IH20 (v45,l38) _ _ _ h (by refine⟨v42,?_,sp⟩<;>simp[hh])
 replace h:=h.2 dc24
 refine Runs.exit rfl ?_
 refine zE fun k' hk'=>?_
 simp[hh,dc24]
 apply hk'
 exact Runs.ret1 (v:=v18) Tryz.func68 Tryz.results68 (by simp[hh,dc24]) (hQ _ _ _ _ (Sep.sub (ids':=[]) sp (by simp)) ⟨l17,h,rfl⟩)
theorem toIntA3S_ok (a:List (Int × Int × Int)) (hp:toIntA3S_pre a):OwnS Tryz.prog 68 [.list false (a.map intC3)] (.s [.c,.c,.c]) (fun r=>r = .list true ((toIntA3S a).map intC3)):=(toIntA3S_walk a _ (toIntA3S_vc a hp)).mono (by rintro _ ⟨_,rfl,rfl⟩;rfl)
theorem e25:Ent Tryz.prog 25:=Ent.of Tryz.func25 (by kernel_rfl) rfl
theorem toSystem_walk (a:Sys) (Z:Sys→Prop) (h:toSystem_wp a Z):OwnS Tryz.prog 25 [.agg [.list false (a.states.map (Big.cells false)),.list false (a.steps.map intC3)]] (.a [.s [.c,.s [.c,.c,.s [.c]],.s [.c],.c,.s [.c],.s [.c,.c]],.s [.c,.c,.c]]) (fun r=>∃ y:Sys,Z y∧r = .agg [.list true (y.states.map (Big.cells true)),.list true (y.steps.map intC3)]):=by
 unfold toSystem_wp at h
 have sp:Sep noHeap 0 [] []:=Sep.nil (by simp)
 refine OwnS.of Tryz.func25 rfl Tryz.ntmps25 (by simp) fun Q hQ=>?_
 refine Runs.cut (fun ρ H n=>ρ 0 = .agg [.list false (a.states.map (Big.cells false)),.list false (a.steps.map intC3)]∧Sep H n [] []) (by refine⟨?_,sp⟩<;>simp[Big.cells,encI,encN,encS,encW]) ?_
 rintro ρ H n1 ⟨hh,sp⟩
 refine zE fun k' hk'=>?_
 simp[hh,Big.cells,encI,encN,encS,encW]
 apply hk'
 refine Runs.cut (fun ρ H n=>(ρ 1=pA n1 1∧ρ 2=pA (n1+1) 2)∧H (n1,1)=some ⟨2,[[.list false (a.states.map (Big.cells false)),.list false (a.steps.map intC3)]]⟩∧H (n1+1,2)=some ⟨2,[[.v (.slice none 0 0),.v (.slice none 0 0)]]⟩∧Sep H n [] [(n1+1,2),(n1,1)]) (by refine⟨?_,?_,?_,sp.var.var⟩<;>simp[hh,Big.cells,encI,encN,encS,encW]) ?_
 clear hh
 rintro ρ H n4 ⟨hh,m1_1,m2_2,sp⟩
 refine zE fun k' hk'=>?_
 simp[hh,m1_1,m2_2,Big.cells,encI,encN,encS,encW]
 apply hk'
 refine Runs.cut (fun ρ H n=>(ρ 1=pA n1 1∧ρ 2=pA (n1+1) 2∧ρ 3=pA n4 3)∧H (n1,1)=some ⟨2,[[.list false (a.states.map (Big.cells false)),.list false (a.steps.map intC3)]]⟩∧H (n1+1,2)=some ⟨2,[[.v (.slice none 0 0),.v (.slice none 0 0)]]⟩∧H (n4,3)=some ⟨2,[[.v (.slice none 0 0),.v (.slice none 0 0)]]⟩∧Sep H n [] [(n4,3),(n1+1,2),(n1,1)]) (by refine⟨?_,?_,?_,?_,sp.var⟩<;>simp[hh,m1_1,m2_2,Big.cells,encI,encN,encS,encW]) ?_
 clear hh m1_1 m2_2
 rintro ρ H n6 ⟨hh,m1_1,m2_2,m3_4,sp⟩
 refine zE fun k' hk'=>?_
 obtain⟨hb7,h⟩:=h
 obtain⟨r8,er8,h⟩:=atm h
 simp[hh,m1_1,m2_2,m3_4,Big.cells,encI,encN,encS,encW]
 refine RunK.callW Ty_ok (toBigraphS_ok a.states hb7) e67 (.cons (ArgOk.nest_Bigraph false a.states) .nil) sp (by decide) (by decide) rfl (by simp[hh,m1_1,m2_2,m3_4,Big.cells,encI,encN,encS,encW]) ?_
 rintro v9 H10 n11 _ sp rfl hle13 hfr12
 rw[← er8] at sp
 have m1_1:H10 (n1,1)=some ⟨2,[[.list false (a.states.map (Big.cells false)),.list false (a.steps.map intC3)]]⟩:=(hfr12 _ (by simp)).trans (by simp[hh,m1_1,m2_2,m3_4,Heap.get_set])
 have m2_2:H10 (n1+1,2)=some ⟨2,[[.v (.slice none 0 0),.v (.slice none 0 0)]]⟩:=(hfr12 _ (by simp)).trans (by simp[hh,m1_1,m2_2,m3_4,Heap.get_set])
 have m3_4:H10 (n4,3)=some ⟨2,[[.v (.slice none 0 0),.v (.slice none 0 0)]]⟩:=(hfr12 _ (by simp)).trans (by simp[hh,m1_1,m2_2,m3_4,Heap.get_set])
 have f16:=Sep.oc sp
 simp[hh,m1_1,m2_2,m3_4,f16,Big.cells,encI,encN,encS,encW,-cellsA,-one1,cAx,o1x]
 apply hk'
 refine Runs.cut (fun ρ H n=>∃ (v17:AVal),(ρ 1=pA n1 1∧ρ 2=pA (n1+1) 2∧ρ 3=pA n4 3)∧H (n1,1)=some ⟨2,[[.list false (a.states.map (Big.cells false)),.list false (a.steps.map intC3)]]⟩∧H (n1+1,2)=some ⟨2,[[.v (.slice none 0 0),.v (.slice none 0 0)]]⟩∧H (n4,3)=some ⟨2,[[v17,.v (.slice none 0 0)]]⟩∧Sep H n [oE [.c,.s [.c,.c,.s [.c]],.s [.c],.c,.s [.c],.s [.c,.c]] (Big.cells true) v17 r8] [(n4,3),(n1+1,2),(n1,1)]) (by refine⟨v9,?_,?_,?_,?_,(Sep.setVar (w:=(n4,3)) sp (by simp))⟩<;>simp[hh,m1_1,m2_2,m3_4,f16,Big.cells,encI,encN,encS,encW,-cellsA,-one1,cAx,o1x]) ?_
 clear hh m1_1 m2_2 m3_4
 rintro ρ H n18 ⟨v17,hh,m1_1,m2_2,m3_4,sp⟩
 refine zE fun k' hk'=>?_
 obtain⟨hb19,h⟩:=h
 obtain⟨r20,er20,h⟩:=atm h
 simp[hh,m1_1,m2_2,m3_4,Big.cells,encI,encN,encS,encW]
 refine RunK.callW Ty_ok (toIntA3S_ok a.steps hb19) e68 (.cons (ArgOk.listF (fr:=false) (els:=a.steps.map intC3) (flatI3 _)) .nil) sp (by decide) (by decide) rfl (by simp[hh,m1_1,m2_2,m3_4,Big.cells,encI,encN,encS,encW]) ?_
 rintro v21 H22 n23 _ sp rfl hle25 hfr24
 rw[← er20] at sp
 have m1_1:H22 (n1,1)=some ⟨2,[[.list false (a.states.map (Big.cells false)),.list false (a.steps.map intC3)]]⟩:=(hfr24 _ (by simp)).trans (by simp[hh,m1_1,m2_2,m3_4,Heap.get_set])
 have m2_2:H22 (n1+1,2)=some ⟨2,[[.v (.slice none 0 0),.v (.slice none 0 0)]]⟩:=(hfr24 _ (by simp)).trans (by simp[hh,m1_1,m2_2,m3_4,Heap.get_set])
 have m3_4:H22 (n4,3)=some ⟨2,[[v17,.v (.slice none 0 0)]]⟩:=(hfr24 _ (by simp)).trans (by simp[hh,m1_1,m2_2,m3_4,Heap.get_set])
 have f28:=Sep.oc sp
 simp[hh,m1_1,m2_2,m3_4,f28,Big.cells,encI,encN,encS,encW,-cellsA,-one1,cAx,o1x]
 apply hk'
 refine Runs.cut (fun ρ H n=>∃ (v29 v30:AVal),(ρ 2=pA (n1+1) 2∧ρ 3=pA n4 3)∧H (n1+1,2)=some ⟨2,[[.v (.slice none 0 0),.v (.slice none 0 0)]]⟩∧H (n4,3)=some ⟨2,[[v30,v29]]⟩∧Sep H n [oE [.c,.c,.c] intC3 v29 r20,oE [.c,.s [.c,.c,.s [.c]],.s [.c],.c,.s [.c],.s [.c,.c]] (Big.cells true) v30 r8] [(n4,3),(n1+1,2)]) (by refine⟨v21,v17,?_,?_,?_,(Sep.sub (Sep.setVar (w:=(n4,3)) sp (by simp)) (by simp +contextual))⟩<;>simp[hh,m1_1,m2_2,m3_4,f28,Big.cells,encI,encN,encS,encW,-cellsA,-one1,cAx,o1x]) ?_
 clear hh m1_1 m2_2 m3_4
 rintro ρ H n31 ⟨v29,v30,hh,m2_2,m3_4,sp⟩
 refine zE fun k' hk'=>?_
 have f32:=Sep.oc sp.f1
 have f33:=Sep.oc sp
 simp[hh,m2_2,m3_4,f32,f33,Big.cells,encI,encN,encS,encW,-cellsA,-one1,cAx,o1x]
 apply hk'
 refine Runs.cut (fun ρ H n=>∃ (v34 v35:AVal),ρ 2=pA (n1+1) 2∧H (n1+1,2)=some ⟨2,[[v35,v34]]⟩∧Sep H n [oE [.c,.c,.c] intC3 v34 r20,oE [.c,.s [.c,.c,.s [.c]],.s [.c],.c,.s [.c],.s [.c,.c]] (Big.cells true) v35 r8] [(n1+1,2)]) (by refine⟨v29,v30,?_,?_,(Sep.sub (Sep.setVar (w:=(n1+1,2)) sp (by simp)) (by simp +contextual))⟩<;>simp[hh,m2_2,m3_4,f32,f33,Big.cells,encI,encN,encS,encW,-cellsA,-one1,cAx,o1x]) ?_
 clear hh m2_2 m3_4
 rintro ρ H n36 ⟨v34,v35,hh,m2_2,sp⟩
 exact Runs.res1 Ty_ok (v:=.agg [v35,v34]) Tryz.func25 Tryz.results25 (by simp[hh,m2_2,resA,Big.cells,encI,encN,encS,encW]) (hQ _ _ _ _ (Sep.sub (ids':=[]) (Sep.pack (Fill.own (Fill.own Fill.nil)) sp.f1) (by simp)) ⟨(Sys.mk r8 r20),h,rfl⟩)
theorem toSystem_ok (a:Sys) (hp:toSystem_pre a):OwnS Tryz.prog 25 [.agg [.list false (a.states.map (Big.cells false)),.list false (a.steps.map intC3)]] (.a [.s [.c,.s [.c,.c,.s [.c]],.s [.c],.c,.s [.c],.s [.c,.c]],.s [.c,.c,.c]]) (fun r=>r = .agg [.list true (((toSystem a).states).map (Big.cells true)),.list true (((toSystem a).steps).map intC3)]):=(toSystem_walk a _ (toSystem_vc a hp)).mono (by rintro _ ⟨_,rfl,rfl⟩;rfl)
theorem e61:Ent Tryz.prog 61:=Ent.of Tryz.func61 (by kernel_rfl) rfl
theorem szBs_walk (a:List Big) (left:Int) (Z:Int→Prop) (h:szBs_wp a left Z):PureC Tryz.prog 61 [.list false (a.map (Big.cells false)),int left] (fun r=>∃ y:Int,Z y∧r=int y):=by
 unfold szBs_wp at h
 refine PureC.of Tryz.func61 rfl Tryz.ntmps61 (by simp) fun Q hQ=>?_
 refine Runs.cut (fun ρ H n=>(ρ 0 = .list false (a.map (Big.cells false))∧ρ 1=int left)) (by simp[Big.cells,encI,encN,encS,encW]) ?_
 rintro ρ H n1 hh
 refine zE fun k' hk'=>?_
 simp[hh,Big.cells,encI,encN,encS,encW]
 apply hk'
 refine zE fun k' hk'=>?_
 obtain⟨len2,elen2,h⟩:=atm h
 have f3:=fun H=>len_list (H:=H) (fr:=false) (f:=(Big.cells false)) kd_63 elen2
 obtain⟨hb4,h⟩:=h
 obtain⟨v5,ev5,h⟩:=atm h
 have f6:=ib_sub hb4 ev5
 simp[hh,f3,f6,Big.cells,encI,encN,encS,encW,-intBin,-lenF]
 apply hk'
 refine Runs.seq ?_
 refine zE fun k' hk'=>?_
 obtain⟨c7,ec7,h⟩:=atm h
 have f8:=ib_lss (k:=.i64) ec7
 simp[hh,f8,Big.cells,encI,encN,encS,encW,-intBin]
 apply hk'
 refine Runs.ite (b:=c7) (by simp[hh,Big.cells,encI,encN,encS,encW]) (fun dc7=>?_) (fun dc7=>?_)
 ·replace h:=h.1 dc7
  refine zE fun k' hk'=>?_
  simp[hh,dc7,Big.cells,encI,encN,encS,encW]
  apply hk'
  exact Runs.ret1 (v:=int (-1)) Tryz.func61 Tryz.results61 (by simp[hh,dc7,Big.cells,encI,encN,encS,encW]) (hQ _ _ _ _ (.of (.v _)) ⟨(-1),h,rfl⟩)
 replace h:=h.2 dc7
 refine Runs.skip ?_
 refine Runs.seq ?_
 refine zE fun k' hk'=>?_
 simp[hh,dc7,Big.cells,encI,encN,encS,encW]
 apply hk'
 refine Runs.block ?_
 refine Runs.loopW h (fun (sJ:Int × Int) ρ H n=>match sJ with | (left12,i13)=>(ρ 0 = .list false (a.map (Big.cells false))∧ρ 1=int left12∧ρ 5=int i13)) (by simp[hh,dc7,Big.cells,encI,encN,encS,encW]) ?_
 clear hh
 rintro⟨left12,i13⟩ ρ H n14 K h hh IH15
 refine Runs.seq ?_
 refine zE fun k' hk'=>?_
 obtain⟨len17,elen17,h⟩:=atm h
 have f18:=fun H=>len_list (H:=H) (fr:=false) (f:=(Big.cells false)) kd_63 elen17
 obtain⟨c19,ec19,h⟩:=atm h
 have f20:=ib_lss (k:=.i64) ec19
 simp[hh,f18,f20,Big.cells,encI,encN,encS,encW,-intBin,-lenF]
 apply hk'
 refine Runs.ite (b:=c19) (by simp[hh,Big.cells,encI,encN,encS,encW]) (fun dc19=>?_) (fun dc19=>?_)
 ·replace h:=h.1 dc19
  refine Runs.skip ?_
  refine Runs.seq ?_
  refine Runs.block ?_
  refine zE fun k' hk'=>?_
  obtain⟨hb21,h⟩:=h
  obtain⟨x22,ex22,h⟩:=atm h
  have f23:=fun H=>ix_list (H:=H) (fr:=false) (f:=(Big.cells false)) (k:=.i64) kd_63 (fun _=>rfl) hb21 ex22
  obtain⟨hb24,h⟩:=h
  obtain⟨r25,er25,h⟩:=atm h
  simp[hh,f23,dc19,Big.cells,encI,encN,encS,encW,-indexAddrF]
  refine RunK.callA Ty_ok (szBigraph_ok x22 left12 hb24.1.1 hb24.1.2 hb24.2) e9 (.cons (argB false x22) (.cons (.v _ _ _) .nil)) (by decide) (by decide) rfl (by simp[hh,f23,dc19,Big.cells,encI,encN,encS,encW,-indexAddrF]) ?_
  rintro _ rfl
  rw[← er25]
  simp[hh,f23,dc19,Big.cells,encI,encN,encS,encW,-indexAddrF]
  apply hk'
  refine zE fun k' hk'=>?_
  obtain⟨c26,ec26,h⟩:=atm h
  have f27:=ib_lss (k:=.i64) ec26
  simp[hh,f27,dc19,Big.cells,encI,encN,encS,encW,-intBin]
  apply hk'
  refine Runs.ite (b:=c26) (by simp[hh,dc19,Big.cells,encI,encN,encS,encW]) (fun dc26=>?_) (fun dc26=>?_)
  ·replace h:=h.1 dc26
   refine zE fun k' hk'=>?_
   simp[hh,dc19,dc26,Big.cells,encI,encN,encS,encW]
   apply hk'
   exact Runs.ret1 (v:=int (-1)) Tryz.func61 Tryz.results61 (by simp[hh,dc19,dc26,Big.cells,encI,encN,encS,encW]) (hQ _ _ _ _ (.of (.v _)) ⟨(-1),h,rfl⟩)
  replace h:=h.2 dc26
  refine Runs.skip ?_
  refine Runs.inBlock ?_
  refine zF fun k' hk'=>?_
  obtain⟨hb28,h⟩:=h
  obtain⟨v29,ev29,h⟩:=atm h
  have f30:=ib_add hb28 ev29
  simp[hh,f30,dc19,dc26,Big.cells,encI,encN,encS,encW,-intBin]
  apply hk'
  refine Runs.cut (fun ρ H n=>(ρ 0 = .list false (a.map (Big.cells false))∧ρ 1=int r25∧ρ 5=int v29)) (by simp[hh,f30,dc19,dc26,Big.cells,encI,encN,encS,encW,-intBin]) ?_
  clear hh
  rintro ρ H n31 hh
  refine IH15 (r25,v29) _ _ _ h (by simp[hh,Big.cells,encI,encN,encS,encW])
 replace h:=h.2 dc19
 refine Runs.exit rfl ?_
 refine zE fun k' hk'=>?_
 simp[hh,dc19,Big.cells,encI,encN,encS,encW]
 apply hk'
 exact Runs.ret1 (v:=int left12) Tryz.func61 Tryz.results61 (by simp[hh,dc19,Big.cells,encI,encN,encS,encW]) (hQ _ _ _ _ (.of (.v _)) ⟨left12,h,rfl⟩)
theorem szBs_ok (a:List Big) (left:Int) (hp:szBs_pre a left):PureC Tryz.prog 61 [.list false (a.map (Big.cells false)),int left] (fun r=>r=int (szBs a left)):=(szBs_walk a left _ (szBs_vc a left hp)).mono (by rintro _ ⟨_,rfl,rfl⟩;rfl)
theorem e62:Ent Tryz.prog 62:=Ent.of Tryz.func62 (by kernel_rfl) rfl
theorem szA3s_walk (a:List (Int × Int × Int)) (left:Int) (Z:Int→Prop) (h:szA3s_wp a left Z):PureC Tryz.prog 62 [.list false (a.map intC3),int left] (fun r=>∃ y:Int,Z y∧r=int y):=by
 unfold szA3s_wp at h
 refine PureC.of Tryz.func62 rfl Tryz.ntmps62 (by simp) fun Q hQ=>?_
 refine Runs.cut (fun ρ H n=>(ρ 0 = .list false (a.map intC3)∧ρ 1=int left)) (by simp) ?_
 rintro ρ H n1 hh
 refine zE fun k' hk'=>?_
 simp[hh]
 apply hk'
 refine zE fun k' hk'=>?_
 obtain⟨len2,elen2,h⟩:=atm h
 have f3:=fun H=>len_list (H:=H) (fr:=false) (f:=intC3) kd_64 elen2
 obtain⟨hb4,h⟩:=h
 obtain⟨v5,ev5,h⟩:=atm h
 have f6:=ib_sub hb4 ev5
 simp[hh,f3,f6,-intBin,-lenF]
 apply hk'
 refine Runs.seq ?_
 refine zE fun k' hk'=>?_
 obtain⟨c7,ec7,h⟩:=atm h
 have f8:=ib_lss (k:=.i64) ec7
 simp[hh,f8,-intBin]
 apply hk'
 refine Runs.ite (b:=c7) (by simp[hh]) (fun dc7=>?_) (fun dc7=>?_)
 ·replace h:=h.1 dc7
  refine zE fun k' hk'=>?_
  simp[hh,dc7]
  apply hk'
  exact Runs.ret1 (v:=int (-1)) Tryz.func62 Tryz.results62 (by simp[hh,dc7]) (hQ _ _ _ _ (.of (.v _)) ⟨(-1),h,rfl⟩)
 replace h:=h.2 dc7
 refine Runs.skip ?_
 refine zE fun k' hk'=>?_
 simp[hh,dc7]
 apply hk'
 exact Runs.ret1 (v:=int v5) Tryz.func62 Tryz.results62 (by simp[hh,dc7]) (hQ _ _ _ _ (.of (.v _)) ⟨v5,h,rfl⟩)
theorem szA3s_ok (a:List (Int × Int × Int)) (left:Int) (hp:szA3s_pre a left):PureC Tryz.prog 62 [.list false (a.map intC3),int left] (fun r=>r=int (szA3s a left)):=(szA3s_walk a left _ (szA3s_vc a left hp)).mono (by rintro _ ⟨_,rfl,rfl⟩;rfl)
theorem e23:Ent Tryz.prog 23:=Ent.of Tryz.func23 (by kernel_rfl) rfl
theorem szY_walk (a:Sys) (left:Int) (Z:Int→Prop) (h:szY_wp a left Z):PureC Tryz.prog 23 [.agg [.list false (a.states.map (Big.cells false)),.list false (a.steps.map intC3)],int left] (fun r=>∃ y:Int,Z y∧r=int y):=by
 unfold szY_wp at h
 refine PureC.of Tryz.func23 rfl Tryz.ntmps23 (by simp) fun Q hQ=>?_
 refine Runs.cut (fun ρ H n=>(ρ 0 = .agg [.list false (a.states.map (Big.cells false)),.list false (a.steps.map intC3)]∧ρ 1=int left)) (by simp[Big.cells,encI,encN,encS,encW]) ?_
 rintro ρ H n1 hh
 refine zE fun k' hk'=>?_
 simp[hh,Big.cells,encI,encN,encS,encW]
 apply hk'
 refine Runs.cut (fun ρ H n=>(ρ 1=int left∧ρ 2=pA n1 2)∧H (n1,2)=some ⟨2,[[.list false (a.states.map (Big.cells false)),.list false (a.steps.map intC3)]]⟩) (by refine⟨?_,?_⟩<;>simp[hh,Big.cells,encI,encN,encS,encW]) ?_
 clear hh
 rintro ρ H n3 ⟨hh,m2_1⟩
 refine zE fun k' hk'=>?_
 obtain⟨hb4,h⟩:=h
 obtain⟨r5,er5,h⟩:=atm h
 simp[hh,m2_1,Big.cells,encI,encN,encS,encW]
 refine RunK.callA Ty_ok (szBs_ok a.states left hb4) e61 (.cons (ArgOk.nest_Bigraph false a.states) (.cons (.v _ _ _) .nil)) (by decide) (by decide) rfl (by simp[hh,m2_1,Big.cells,encI,encN,encS,encW]) ?_
 rintro _ rfl
 rw[← er5]
 simp[hh,m2_1,Big.cells,encI,encN,encS,encW]
 apply hk'
 refine Runs.seq ?_
 refine zE fun k' hk'=>?_
 obtain⟨c6,ec6,h⟩:=atm h
 have f7:=ib_lss (k:=.i64) ec6
 simp[hh,m2_1,f7,Big.cells,encI,encN,encS,encW,-intBin]
 apply hk'
 refine Runs.ite (b:=c6) (by simp[hh,m2_1,Big.cells,encI,encN,encS,encW]) (fun dc6=>?_) (fun dc6=>?_)
 ·replace h:=h.1 dc6
  refine zE fun k' hk'=>?_
  simp[hh,m2_1,dc6,Big.cells,encI,encN,encS,encW]
  apply hk'
  exact Runs.ret1 (v:=int (-1)) Tryz.func23 Tryz.results23 (by simp[hh,m2_1,dc6,Big.cells,encI,encN,encS,encW]) (hQ _ _ _ _ (.of (.v _)) ⟨(-1),h,rfl⟩)
 replace h:=h.2 dc6
 refine Runs.skip ?_
 refine zE fun k' hk'=>?_
 obtain⟨hb8,h⟩:=h
 obtain⟨r9,er9,h⟩:=atm h
 simp[hh,m2_1,dc6,Big.cells,encI,encN,encS,encW]
 refine RunK.callA Ty_ok (szA3s_ok a.steps r5 hb8) e62 (.cons (ArgOk.listF (fr:=false) (els:=a.steps.map intC3) (flatI3 _)) (.cons (.v _ _ _) .nil)) (by decide) (by decide) rfl (by simp[hh,m2_1,dc6,Big.cells,encI,encN,encS,encW]) ?_
 rintro _ rfl
 rw[← er9]
 simp[hh,m2_1,dc6,Big.cells,encI,encN,encS,encW]
 apply hk'
 refine Runs.seq ?_
 refine zE fun k' hk'=>?_
 obtain⟨c10,ec10,h⟩:=atm h
 have f11:=ib_lss (k:=.i64) ec10
 simp[hh,m2_1,f11,dc6,Big.cells,encI,encN,encS,encW,-intBin]
 apply hk'
 refine Runs.ite (b:=c10) (by simp[hh,m2_1,dc6,Big.cells,encI,encN,encS,encW]) (fun dc10=>?_) (fun dc10=>?_)
 ·replace h:=h.1 dc10
  refine zE fun k' hk'=>?_
  simp[hh,m2_1,dc6,dc10,Big.cells,encI,encN,encS,encW]
  apply hk'
  refine Runs.cut (fun ρ H n=>ρ 4=int (-1)) (by simp[hh,m2_1,dc6,dc10,Big.cells,encI,encN,encS,encW]) ?_
  clear hh m2_1
  rintro ρ H n12 hh
  exact Runs.ret1 (v:=int (-1)) Tryz.func23 Tryz.results23 (by simp[hh,Big.cells,encI,encN,encS,encW]) (hQ _ _ _ _ (.of (.v _)) ⟨(-1),h,rfl⟩)
 replace h:=h.2 dc10
 refine Runs.skip ?_
 refine zE fun k' hk'=>?_
 simp[hh,m2_1,dc6,dc10,Big.cells,encI,encN,encS,encW]
 apply hk'
 refine Runs.cut (fun ρ H n=>ρ 4=int r9) (by simp[hh,m2_1,dc6,dc10,Big.cells,encI,encN,encS,encW]) ?_
 clear hh m2_1
 rintro ρ H n13 hh
 exact Runs.ret1 (v:=int r9) Tryz.func23 Tryz.results23 (by simp[hh,Big.cells,encI,encN,encS,encW]) (hQ _ _ _ _ (.of (.v _)) ⟨r9,h,rfl⟩)
theorem szY_ok (a:Sys) (left:Int) (hp:szY_pre a left):PureC Tryz.prog 23 [.agg [.list false (a.states.map (Big.cells false)),.list false (a.steps.map intC3)],int left] (fun r=>r=int (szY a left)):=(szY_walk a left _ (szY_vc a left hp)).mono (by rintro _ ⟨_,rfl,rfl⟩;rfl)
theorem e77:Ent Tryz.prog 77:=Ent.of Tryz.func77 (by kernel_rfl) rfl
theorem eqBs_walk (a:List Big) (b:List Big) (Z:Bool→Prop) (h:eqBs_wp a b Z):PureC Tryz.prog 77 [.list false (a.map (Big.cells false)),.list false (b.map (Big.cells false))] (fun r=>∃ y:Bool,Z y∧r=bool y):=by
 unfold eqBs_wp at h
 refine PureC.of Tryz.func77 rfl Tryz.ntmps77 (by simp) fun Q hQ=>?_
 refine Runs.cut (fun ρ H n=>(ρ 0 = .list false (a.map (Big.cells false))∧ρ 1 = .list false (b.map (Big.cells false)))) (by simp[Big.cells,encI,encN,encS,encW]) ?_
 rintro ρ H n1 hh
 refine zE fun k' hk'=>?_
 simp[hh,Big.cells,encI,encN,encS,encW]
 apply hk'
 refine Runs.seq ?_
 refine zE fun k' hk'=>?_
 obtain⟨len2,elen2,h⟩:=atm h
 have f3:=fun H=>len_list (H:=H) (fr:=false) (f:=(Big.cells false)) kd_70 elen2
 obtain⟨len4,elen4,h⟩:=atm h
 have f5:=fun H=>len_list (H:=H) (fr:=false) (f:=(Big.cells false)) kd_70 elen4
 obtain⟨c6,ec6,h⟩:=atm h
 have f7:=ib_neq (k:=.i64) ec6
 simp[hh,f3,f5,f7,Big.cells,encI,encN,encS,encW,-intBin,-lenF]
 apply hk'
 refine Runs.ite (b:=c6) (by simp[hh,Big.cells,encI,encN,encS,encW]) (fun dc6=>?_) (fun dc6=>?_)
 ·replace h:=h.1 dc6
  refine zE fun k' hk'=>?_
  simp[hh,dc6,Big.cells,encI,encN,encS,encW]
  apply hk'
  exact Runs.ret1 (v:=bool false) Tryz.func77 Tryz.results77 (by simp[hh,dc6,Big.cells,encI,encN,encS,encW]) (hQ _ _ _ _ (.of (.v _)) ⟨false,h,rfl⟩)
 replace h:=h.2 dc6
 refine Runs.skip ?_
 refine Runs.seq ?_
 refine zE fun k' hk'=>?_
 simp[hh,dc6,Big.cells,encI,encN,encS,encW]
 apply hk'
 refine Runs.block ?_
 refine Runs.loopW h (fun (sJ:Int) ρ H n=>match sJ with | i10=>(ρ 0 = .list false (a.map (Big.cells false))∧ρ 1 = .list false (b.map (Big.cells false))∧ρ 5=int i10)) (by simp[hh,dc6,Big.cells,encI,encN,encS,encW]) ?_
 clear hh
 rintro i10 ρ H n11 K h hh IH12
 refine Runs.seq ?_
 refine zE fun k' hk'=>?_
 obtain⟨len14,elen14,h⟩:=atm h
 have f15:=fun H=>len_list (H:=H) (fr:=false) (f:=(Big.cells false)) kd_70 elen14
 obtain⟨c16,ec16,h⟩:=atm h
 have f17:=ib_lss (k:=.i64) ec16
 simp[hh,f15,f17,Big.cells,encI,encN,encS,encW,-intBin,-lenF]
 apply hk'
 refine Runs.ite (b:=c16) (by simp[hh,Big.cells,encI,encN,encS,encW]) (fun dc16=>?_) (fun dc16=>?_)
 ·replace h:=h.1 dc16
  refine Runs.skip ?_
  refine Runs.seq ?_
  refine Runs.block ?_
  refine Runs.seqD Ty_ok kindOp_ok draws (by decide) (by kernel_rfl) fun k' hk'=>?_
  obtain⟨hb18,h⟩:=h
  obtain⟨x19,ex19,h⟩:=atm h
  have f20:=fun H=>ix_list (H:=H) (fr:=false) (f:=(Big.cells false)) (k:=.i64) kd_70 (fun _=>rfl) hb18 ex19
  obtain⟨hb21,h⟩:=h
  obtain⟨x22,ex22,h⟩:=atm h
  have f23:=fun H=>ix_list (H:=H) (fr:=false) (f:=(Big.cells false)) (k:=.i64) kd_70 (fun _=>rfl) hb21 ex22
  obtain⟨hb24,h⟩:=h
  obtain⟨r25,er25,h⟩:=atm h
  simp[hh,f20,f23,dc16,Big.cells,encI,encN,encS,encW,-indexAddrF]
  refine RunDK.callA Ty_ok kindOp_ok (eqBigraph_ok x19 x22 hb24) e21 (.cons (argB false x19) (.cons (argB false x22) .nil)) (by decide) rfl (by simp[hh,f20,f23,dc16,Big.cells,encI,encN,encS,encW,-indexAddrF]) ?_
  rw[← er25]
  simp[hh,f20,f23,dc16,Big.cells,encI,encN,encS,encW,-indexAddrF]
  apply hk'
  refine Runs.ite (b:=(!r25)) (by simp[hh,dc16,Big.cells,encI,encN,encS,encW]) (fun dr25=>?_) (fun dr25=>?_)
  ·have dr25:r25=false:=by simpa using dr25
   replace h:=h.2 dr25
   refine zE fun k' hk'=>?_
   simp[hh,dc16,dr25,Big.cells,encI,encN,encS,encW]
   apply hk'
   refine Runs.cut (fun ρ H n=>ρ 4=bool false) (by simp[hh,dc16,dr25,Big.cells,encI,encN,encS,encW]) ?_
   clear hh
   rintro ρ H n26 hh
   exact Runs.ret1 (v:=bool false) Tryz.func77 Tryz.results77 (by simp[hh,Big.cells,encI,encN,encS,encW]) (hQ _ _ _ _ (.of (.v _)) ⟨false,h,rfl⟩)
  have dr25:r25=true:=by simpa using dr25
  replace h:=h.1 dr25
  refine Runs.skip ?_
  refine Runs.inBlock ?_
  refine zF fun k' hk'=>?_
  obtain⟨hb27,h⟩:=h
  obtain⟨v28,ev28,h⟩:=atm h
  have f29:=ib_add hb27 ev28
  simp[hh,f29,dc16,dr25,Big.cells,encI,encN,encS,encW,-intBin]
  apply hk'
  refine Runs.cut (fun ρ H n=>(ρ 0 = .list false (a.map (Big.cells false))∧ρ 1 = .list false (b.map (Big.cells false))∧ρ 5=int v28)) (by simp[hh,f29,dc16,dr25,Big.cells,encI,encN,encS,encW,-intBin]) ?_
  clear hh
  rintro ρ H n30 hh
  refine IH12 (v28) _ _ _ h (by simp[hh,Big.cells,encI,encN,encS,encW])
 replace h:=h.2 dc16
 refine Runs.exit rfl ?_
 refine zE fun k' hk'=>?_
 simp[hh,dc16,Big.cells,encI,encN,encS,encW]
 apply hk'
 exact Runs.ret1 (v:=bool true) Tryz.func77 Tryz.results77 (by simp[hh,dc16,Big.cells,encI,encN,encS,encW]) (hQ _ _ _ _ (.of (.v _)) ⟨true,h,rfl⟩)
theorem eqBs_ok (a:List Big) (b:List Big) (hp:eqBs_pre a b):PureC Tryz.prog 77 [.list false (a.map (Big.cells false)),.list false (b.map (Big.cells false))] (fun r=>r=bool (eqBs a b)):=(eqBs_walk a b _ (eqBs_vc a b hp)).mono (by rintro _ ⟨_,rfl,rfl⟩;rfl)
theorem e133:Ent Tryz.prog 133:=Ent.of Tryz.func133 (by kernel_rfl) rfl
theorem eqA3_walk (a:Int × Int × Int) (b:Int × Int × Int) (Z:Bool→Prop) (h:eqA3_wp a b Z):PureC Tryz.prog 133 [.agg [int a.1,int a.2.1,int a.2.2],.agg [int b.1,int b.2.1,int b.2.2]] (fun r=>∃ y:Bool,Z y∧r=bool y):=by
 unfold eqA3_wp at h
 refine PureC.of Tryz.func133 rfl Tryz.ntmps133 (by simp) fun Q hQ=>?_
 refine Runs.cut (fun ρ H n=>(ρ 0 = .agg [int a.1,int a.2.1,int a.2.2]∧ρ 1 = .agg [int b.1,int b.2.1,int b.2.2])) (by simp[]) ?_
 rintro ρ H n1 hh
 refine zE fun k' hk'=>?_
 simp[hh]
 apply hk'
 refine Runs.cut (fun ρ H n=>(ρ 2=pA n1 2∧ρ 3=pA (n1+1) 3)∧H (n1,2)=some ⟨3,[[int a.1,int a.2.1,int a.2.2]]⟩∧H (n1+1,3)=some ⟨3,[[int b.1,int b.2.1,int b.2.2]]⟩) (by refine⟨?_,?_,?_⟩<;>simp[hh]) ?_
 clear hh
 rintro ρ H n4 ⟨hh,m2_1,m3_2⟩
 refine Runs.seq ?_
 refine zE fun k' hk'=>?_
 simp[hh,m2_1,m3_2]
 apply hk'
 refine Runs.block ?_
 refine Runs.loop ?_
 refine Runs.seq ?_
 refine zE fun k' hk'=>?_
 have f5:=ib_lss (k:=.i64) (show true=decide (0<(3:Int)) by decide)
 simp[hh,m2_1,m3_2,f5,-intBin]
 apply hk'
 refine Runs.cond (b:=true) (by simp[hh,m2_1,m3_2]) ?_
 simp only[if_true,if_false,Bool.false_eq_true,↓reduceIte]
 refine Runs.skip ?_
 refine Runs.seq ?_
 refine Runs.block ?_
 refine Runs.seqD Ty_ok kindOp_ok draws (by decide) (by kernel_rfl) fun k' hk'=>?_
 obtain⟨c6,ec6,h⟩:=atm h
 have f7:=ib_neq (k:=.i64) ec6
 simp[hh,m2_1,m3_2,f7,-intBin]
 apply hk'
 refine Runs.ite (b:=c6) (by simp[hh,m2_1,m3_2]) (fun dc6=>?_) (fun dc6=>?_)
 ·replace h:=h.1 dc6
  refine zE fun k' hk'=>?_
  simp[hh,m2_1,m3_2,dc6]
  apply hk'
  exact Runs.ret1 (v:=bool false) Tryz.func133 Tryz.results133 (by simp[hh,m2_1,m3_2,dc6]) (hQ _ _ _ _ (.of (.v _)) ⟨false,h,rfl⟩)
 replace h:=h.2 dc6
 refine Runs.skip ?_
 refine Runs.inBlock ?_
 refine zF fun k' hk'=>?_
 have f8:=ib_add (show I64 ((0:Int)+1) from ⟨by decide,by decide⟩) (show (1:Int)=(0:Int)+1 by decide)
 simp[hh,m2_1,m3_2,f8,dc6,-intBin]
 apply hk'
 refine Runs.inLoop ?_
 refine Runs.seq ?_
 refine zE fun k' hk'=>?_
 have f9:=ib_lss (k:=.i64) (show true=decide (1<(3:Int)) by decide)
 simp[hh,m2_1,m3_2,f9,dc6,-intBin]
 apply hk'
 refine Runs.cut (fun ρ H n=>(ρ 2=pA n1 2∧ρ 3=pA (n1+1) 3∧ρ 5=int 1∧ρ 7=bool true)∧H (n1,2)=some ⟨3,[[int a.1,int a.2.1,int a.2.2]]⟩∧H (n1+1,3)=some ⟨3,[[int b.1,int b.2.1,int b.2.2]]⟩) (by refine⟨?_,?_,?_⟩<;>simp[hh,m2_1,m3_2,f9,dc6,-intBin]) ?_
 clear hh m2_1 m3_2
 rintro ρ H n10 ⟨hh,m2_1,m3_2⟩
 refine Runs.cond (b:=true) (by simp[hh,m2_1,m3_2]) ?_
 simp only[if_true,if_false,Bool.false_eq_true,↓reduceIte]
 refine Runs.skip ?_
 refine Runs.seq ?_
 refine Runs.block ?_
 refine Runs.seqD Ty_ok kindOp_ok draws (by decide) (by kernel_rfl) fun k' hk'=>?_
 obtain⟨c11,ec11,h⟩:=atm h
 have f12:=ib_neq (k:=.i64) ec11
 simp[hh,m2_1,m3_2,f12,-intBin]
 apply hk'
 refine Runs.ite (b:=c11) (by simp[hh,m2_1,m3_2]) (fun dc11=>?_) (fun dc11=>?_)
 ·replace h:=h.1 dc11
  refine zE fun k' hk'=>?_
  simp[hh,m2_1,m3_2,dc11]
  apply hk'
  exact Runs.ret1 (v:=bool false) Tryz.func133 Tryz.results133 (by simp[hh,m2_1,m3_2,dc11]) (hQ _ _ _ _ (.of (.v _)) ⟨false,h,rfl⟩)
 replace h:=h.2 dc11
 refine Runs.skip ?_
 refine Runs.inBlock ?_
 refine zF fun k' hk'=>?_
 have f13:=ib_add (show I64 ((1:Int)+1) from ⟨by decide,by decide⟩) (show (2:Int)=(1:Int)+1 by decide)
 simp[hh,m2_1,m3_2,f13,dc11,-intBin]
 apply hk'
 refine Runs.inLoop ?_
 refine Runs.seq ?_
 refine zE fun k' hk'=>?_
 have f14:=ib_lss (k:=.i64) (show true=decide (2<(3:Int)) by decide)
 simp[hh,m2_1,m3_2,f14,dc11,-intBin]
 apply hk'
 refine Runs.cond (b:=true) (by simp[hh,m2_1,m3_2,dc11]) ?_
 simp only[if_true,if_false,Bool.false_eq_true,↓reduceIte]
 refine Runs.skip ?_
 refine Runs.seq ?_
 refine Runs.block ?_
 refine Runs.seqD Ty_ok kindOp_ok draws (by decide) (by kernel_rfl) fun k' hk'=>?_
 obtain⟨c15,ec15,h⟩:=atm h
 have f16:=ib_neq (k:=.i64) ec15
 simp[hh,m2_1,m3_2,f16,-intBin]
 apply hk'
 refine Runs.cut (fun ρ H n=>(ρ 2=pA n1 2∧ρ 3=pA (n1+1) 3∧ρ 5=int 2∧ρ 16=bool c15)∧H (n1,2)=some ⟨3,[[int a.1,int a.2.1,int a.2.2]]⟩∧H (n1+1,3)=some ⟨3,[[int b.1,int b.2.1,int b.2.2]]⟩) (by refine⟨?_,?_,?_⟩<;>simp[hh,m2_1,m3_2,f16,-intBin]) ?_
 clear hh m2_1 m3_2
 rintro ρ H n17 ⟨hh,m2_1,m3_2⟩
 refine Runs.ite (b:=c15) (by simp[hh,m2_1,m3_2]) (fun dc15=>?_) (fun dc15=>?_)
 ·replace h:=h.1 dc15
  refine zE fun k' hk'=>?_
  simp[hh,m2_1,m3_2,dc15]
  apply hk'
  exact Runs.ret1 (v:=bool false) Tryz.func133 Tryz.results133 (by simp[hh,m2_1,m3_2,dc15]) (hQ _ _ _ _ (.of (.v _)) ⟨false,h,rfl⟩)
 replace h:=h.2 dc15
 refine Runs.skip ?_
 refine Runs.inBlock ?_
 refine zF fun k' hk'=>?_
 have f18:=ib_add (show I64 ((2:Int)+1) from ⟨by decide,by decide⟩) (show (3:Int)=(2:Int)+1 by decide)
 simp[hh,m2_1,m3_2,f18,dc15,-intBin]
 apply hk'
 refine Runs.inLoop ?_
 refine Runs.seq ?_
 refine zE fun k' hk'=>?_
 have f19:=ib_lss (k:=.i64) (show false=decide (3<(3:Int)) by decide)
 simp[hh,m2_1,m3_2,f19,dc15,-intBin]
 apply hk'
 refine Runs.cond (b:=false) (by simp[hh,m2_1,m3_2,dc15]) ?_
 simp only[if_true,if_false,Bool.false_eq_true,↓reduceIte]
 refine Runs.exit rfl ?_
 refine zE fun k' hk'=>?_
 simp[hh,m2_1,m3_2,dc15]
 apply hk'
 exact Runs.ret1 (v:=bool true) Tryz.func133 Tryz.results133 (by simp[hh,m2_1,m3_2,dc15]) (hQ _ _ _ _ (.of (.v _)) ⟨true,h,rfl⟩)
theorem eqA3_ok (a:Int × Int × Int) (b:Int × Int × Int)  : PureC Tryz.prog 133 [.agg [int a.1,int a.2.1,int a.2.2],.agg [int b.1,int b.2.1,int b.2.2]] (fun r=>r=bool (eqA3 a b)):=(eqA3_walk a b _ (eqA3_vc a b )).mono (by rintro _ ⟨_,rfl,rfl⟩;rfl)
theorem e78:Ent Tryz.prog 78:=Ent.of Tryz.func78 (by kernel_rfl) rfl
theorem eqA3s_walk (a:List (Int × Int × Int)) (b:List (Int × Int × Int)) (Z:Bool→Prop) (h:eqA3s_wp a b Z):PureC Tryz.prog 78 [.list false (a.map intC3),.list false (b.map intC3)] (fun r=>∃ y:Bool,Z y∧r=bool y):=by
 unfold eqA3s_wp at h
 refine PureC.of Tryz.func78 rfl Tryz.ntmps78 (by simp) fun Q hQ=>?_
 refine Runs.cut (fun ρ H n=>(ρ 0 = .list false (a.map intC3)∧ρ 1 = .list false (b.map intC3))) (by simp) ?_
 rintro ρ H n1 hh
 refine zE fun k' hk'=>?_
 simp[hh]
 apply hk'
 refine Runs.seq ?_
 refine zE fun k' hk'=>?_
 obtain⟨len2,elen2,h⟩:=atm h
 have f3:=fun H=>len_list (H:=H) (fr:=false) (f:=intC3) kd_64 elen2
 obtain⟨len4,elen4,h⟩:=atm h
 have f5:=fun H=>len_list (H:=H) (fr:=false) (f:=intC3) kd_64 elen4
 obtain⟨c6,ec6,h⟩:=atm h
 have f7:=ib_neq (k:=.i64) ec6
 simp[hh,f3,f5,f7,-intBin,-lenF]
 apply hk'
 refine Runs.ite (b:=c6) (by simp[hh]) (fun dc6=>?_) (fun dc6=>?_)
 ·replace h:=h.1 dc6
  refine zE fun k' hk'=>?_
  simp[hh,dc6]
  apply hk'
  exact Runs.ret1 (v:=bool false) Tryz.func78 Tryz.results78 (by simp[hh,dc6]) (hQ _ _ _ _ (.of (.v _)) ⟨false,h,rfl⟩)
 replace h:=h.2 dc6
 refine Runs.skip ?_
 refine Runs.seq ?_
 refine zE fun k' hk'=>?_
 simp[hh,dc6]
 apply hk'
 refine Runs.block ?_
 refine Runs.loopW h (fun (sJ:Int) ρ H n=>match sJ with | i10=>(ρ 0 = .list false (a.map intC3)∧ρ 1 = .list false (b.map intC3)∧ρ 5=int i10)) (by simp[hh,dc6]) ?_
 clear hh
 rintro i10 ρ H n11 K h hh IH12
 refine Runs.seq ?_
 refine zE fun k' hk'=>?_
 obtain⟨len14,elen14,h⟩:=atm h
 have f15:=fun H=>len_list (H:=H) (fr:=false) (f:=intC3) kd_64 elen14
 obtain⟨c16,ec16,h⟩:=atm h
 have f17:=ib_lss (k:=.i64) ec16
 simp[hh,f15,f17,-intBin,-lenF]
 apply hk'
 refine Runs.ite (b:=c16) (by simp[hh]) (fun dc16=>?_) (fun dc16=>?_)
 ·replace h:=h.1 dc16
  refine Runs.skip ?_
  refine Runs.seq ?_
  refine Runs.block ?_
  refine Runs.seqD Ty_ok kindOp_ok draws (by decide) (by kernel_rfl) fun k' hk'=>?_
  obtain⟨hb18,h⟩:=h
  obtain⟨x19,ex19,h⟩:=atm h
  have f20:=fun H=>ix_list (H:=H) (fr:=false) (f:=intC3) (k:=.i64) kd_64 (fun _=>rfl) hb18 ex19
  obtain⟨hb21,h⟩:=h
  obtain⟨x22,ex22,h⟩:=atm h
  have f23:=fun H=>ix_list (H:=H) (fr:=false) (f:=intC3) (k:=.i64) kd_64 (fun _=>rfl) hb21 ex22
  obtain⟨r24,er24,h⟩:=atm h
  simp[hh,f20,f23,dc16,-indexAddrF]
  refine RunDK.callA Ty_ok kindOp_ok (eqA3_ok (x19.1,x19.2.1,x19.2.2) (x22.1,x22.2.1,x22.2.2) ) e133 (.cons (ArgOk.agg (.cons (.v _ _ _) (.cons (.v _ _ _) (.cons (.v _ _ _) .nil)))) (.cons (ArgOk.agg (.cons (.v _ _ _) (.cons (.v _ _ _) (.cons (.v _ _ _) .nil)))) .nil)) (by decide) rfl (by simp[hh,f20,f23,dc16,-indexAddrF]) ?_
  rw[← er24]
  simp[hh,f20,f23,dc16,-indexAddrF]
  apply hk'
  refine Runs.ite (b:=(!r24)) (by simp[hh,dc16]) (fun dr24=>?_) (fun dr24=>?_)
  ·have dr24:r24=false:=by simpa using dr24
   replace h:=h.2 dr24
   refine zE fun k' hk'=>?_
   simp[hh,dc16,dr24]
   apply hk'
   refine Runs.cut (fun ρ H n=>ρ 4=bool false) (by simp[hh,dc16,dr24]) ?_
   clear hh
   rintro ρ H n25 hh
   exact Runs.ret1 (v:=bool false) Tryz.func78 Tryz.results78 (by simp[hh]) (hQ _ _ _ _ (.of (.v _)) ⟨false,h,rfl⟩)
  have dr24:r24=true:=by simpa using dr24
  replace h:=h.1 dr24
  refine Runs.skip ?_
  refine Runs.inBlock ?_
  refine zF fun k' hk'=>?_
  obtain⟨hb26,h⟩:=h
  obtain⟨v27,ev27,h⟩:=atm h
  have f28:=ib_add hb26 ev27
  simp[hh,f28,dc16,dr24,-intBin]
  apply hk'
  refine Runs.cut (fun ρ H n=>(ρ 0 = .list false (a.map intC3)∧ρ 1 = .list false (b.map intC3)∧ρ 5=int v27)) (by simp[hh,f28,dc16,dr24,-intBin]) ?_
  clear hh
  rintro ρ H n29 hh
  refine IH12 (v27) _ _ _ h (by simp[hh])
 replace h:=h.2 dc16
 refine Runs.exit rfl ?_
 refine zE fun k' hk'=>?_
 simp[hh,dc16]
 apply hk'
 exact Runs.ret1 (v:=bool true) Tryz.func78 Tryz.results78 (by simp[hh,dc16]) (hQ _ _ _ _ (.of (.v _)) ⟨true,h,rfl⟩)
theorem eqA3s_ok (a:List (Int × Int × Int)) (b:List (Int × Int × Int)) (hp:eqA3s_pre a b):PureC Tryz.prog 78 [.list false (a.map intC3),.list false (b.map intC3)] (fun r=>r=bool (eqA3s a b)):=(eqA3s_walk a b _ (eqA3s_vc a b hp)).mono (by rintro _ ⟨_,rfl,rfl⟩;rfl)
theorem e28:Ent Tryz.prog 28:=Ent.of Tryz.func28 (by kernel_rfl) rfl
theorem eqY_walk (a:Sys) (b:Sys) (Z:Bool→Prop) (h:eqY_wp a b Z):PureC Tryz.prog 28 [.agg [.list false (a.states.map (Big.cells false)),.list false (a.steps.map intC3)],.agg [.list false (b.states.map (Big.cells false)),.list false (b.steps.map intC3)]] (fun r=>∃ y:Bool,Z y∧r=bool y):=by
 unfold eqY_wp at h
 refine PureC.of Tryz.func28 rfl Tryz.ntmps28 (by simp) fun Q hQ=>?_
 refine Runs.cut (fun ρ H n=>(ρ 0 = .agg [.list false (a.states.map (Big.cells false)),.list false (a.steps.map intC3)]∧ρ 1 = .agg [.list false (b.states.map (Big.cells false)),.list false (b.steps.map intC3)])) (by simp[Big.cells,encI,encN,encS,encW]) ?_
 rintro ρ H n1 hh
 refine zE fun k' hk'=>?_
 simp[hh,Big.cells,encI,encN,encS,encW]
 apply hk'
 refine Runs.cut (fun ρ H n=>(ρ 2=pA n1 2∧ρ 3=pA (n1+1) 3)∧H (n1,2)=some ⟨2,[[.list false (a.states.map (Big.cells false)),.list false (a.steps.map intC3)]]⟩∧H (n1+1,3)=some ⟨2,[[.list false (b.states.map (Big.cells false)),.list false (b.steps.map intC3)]]⟩) (by refine⟨?_,?_,?_⟩<;>simp[hh,Big.cells,encI,encN,encS,encW]) ?_
 clear hh
 rintro ρ H n4 ⟨hh,m2_1,m3_2⟩
 refine Runs.seq ?_
 refine zE fun k' hk'=>?_
 obtain⟨hb5,h⟩:=h
 obtain⟨r6,er6,h⟩:=atm h
 simp[hh,m2_1,m3_2,Big.cells,encI,encN,encS,encW]
 refine RunK.callA Ty_ok (eqBs_ok a.states b.states hb5) e77 (.cons (ArgOk.nest_Bigraph false a.states) (.cons (ArgOk.nest_Bigraph false b.states) .nil)) (by decide) (by decide) rfl (by simp[hh,m2_1,m3_2,Big.cells,encI,encN,encS,encW]) ?_
 rintro _ rfl
 rw[← er6]
 simp[hh,m2_1,m3_2,Big.cells,encI,encN,encS,encW]
 apply hk'
 refine Runs.ite (b:=(!r6)) (by simp[hh,m2_1,m3_2,Big.cells,encI,encN,encS,encW]) (fun dr6=>?_) (fun dr6=>?_)
 ·have dr6:r6=false:=by simpa using dr6
  replace h:=h.2 dr6
  refine zE fun k' hk'=>?_
  simp[hh,m2_1,m3_2,dr6,Big.cells,encI,encN,encS,encW]
  apply hk'
  exact Runs.ret1 (v:=bool false) Tryz.func28 Tryz.results28 (by simp[hh,m2_1,m3_2,dr6,Big.cells,encI,encN,encS,encW]) (hQ _ _ _ _ (.of (.v _)) ⟨false,h,rfl⟩)
 have dr6:r6=true:=by simpa using dr6
 replace h:=h.1 dr6
 refine Runs.skip ?_
 refine Runs.seq ?_
 refine zE fun k' hk'=>?_
 obtain⟨hb7,h⟩:=h
 obtain⟨r8,er8,h⟩:=atm h
 simp[hh,m2_1,m3_2,dr6,Big.cells,encI,encN,encS,encW]
 refine RunK.callA Ty_ok (eqA3s_ok a.steps b.steps hb7) e78 (.cons (ArgOk.listF (fr:=false) (els:=a.steps.map intC3) (flatI3 _)) (.cons (ArgOk.listF (fr:=false) (els:=b.steps.map intC3) (flatI3 _)) .nil)) (by decide) (by decide) rfl (by simp[hh,m2_1,m3_2,dr6,Big.cells,encI,encN,encS,encW]) ?_
 rintro _ rfl
 rw[← er8]
 simp[hh,m2_1,m3_2,dr6,Big.cells,encI,encN,encS,encW]
 apply hk'
 refine Runs.ite (b:=(!r8)) (by simp[hh,m2_1,m3_2,dr6,Big.cells,encI,encN,encS,encW]) (fun dr8=>?_) (fun dr8=>?_)
 ·have dr8:r8=false:=by simpa using dr8
  replace h:=h.2 dr8
  refine zE fun k' hk'=>?_
  simp[hh,m2_1,m3_2,dr6,dr8,Big.cells,encI,encN,encS,encW]
  apply hk'
  exact Runs.ret1 (v:=bool false) Tryz.func28 Tryz.results28 (by simp[hh,m2_1,m3_2,dr6,dr8,Big.cells,encI,encN,encS,encW]) (hQ _ _ _ _ (.of (.v _)) ⟨false,h,rfl⟩)
 have dr8:r8=true:=by simpa using dr8
 replace h:=h.1 dr8
 refine Runs.skip ?_
 refine zE fun k' hk'=>?_
 simp[hh,m2_1,m3_2,dr6,dr8,Big.cells,encI,encN,encS,encW]
 apply hk'
 exact Runs.ret1 (v:=bool true) Tryz.func28 Tryz.results28 (by simp[hh,m2_1,m3_2,dr6,dr8,Big.cells,encI,encN,encS,encW]) (hQ _ _ _ _ (.of (.v _)) ⟨true,h,rfl⟩)
theorem eqY_ok (a:Sys) (b:Sys) (hp:eqY_pre a b):PureC Tryz.prog 28 [.agg [.list false (a.states.map (Big.cells false)),.list false (a.steps.map intC3)],.agg [.list false (b.states.map (Big.cells false)),.list false (b.steps.map intC3)]] (fun r=>r=bool (eqY a b)):=(eqY_walk a b _ (eqY_vc a b hp)).mono (by rintro _ ⟨_,rfl,rfl⟩;rfl)
end Go.Ab.Vg
/- Walks by program for YtbpdcoahefnnkaaGreatDoorAbMy. -/
namespace Go.Ab.Vg
open Go.Proofs
set_option maxRecDepth 100000
set_option linter.unusedSimpArgs false
set_option linter.unusedVariables false
attribute [local simp] Control.cells GNode.cells Wire.cells Match.cells intC intC3 sliceC strC bC pA
theorem e128:Ent Tryz.prog 128:=Ent.of Tryz.func128 (by kernel_rfl) rfl
theorem e72:Ent Tryz.prog 72:=Ent.of Tryz.func72 (by kernel_rfl) rfl
theorem indexFuncB_ok {H:Heap} {n:Nat} {cl:AVal} (t:Bool) (l:List (Big)) (p:Big→Bool) (hl:l.length≤1048576) (hcl:∀ x ∈ l,ClosC Tryz.prog H n cl [.agg (bC false x)] (fun r=>r=bool (p x))) :
  StillC Tryz.prog 128 [.list t (l.map (Big.cells false)),cl] H n (fun r=>r=int (idxF l p)):=by
 refine StillC.of Tryz.func128 rfl Tryz.ntmps128 (by simp) fun Q _ hQ=>?_
 refine zE fun k' hk'=>?_
 simp
 apply hk'
 refine Runs.seq ?_
 refine zE fun k' hk'=>?_
 simp
 apply hk'
 refine Runs.block (Runs.loopUp l.length (fun k ρ H' n'=>ρ 0 = .list t (l.map (Big.cells false))∧ρ 1=cl∧ρ 7=int l.length∧ρ 8=int k∧H'=H∧n'=n∧∀ i (h:i<l.length),i<k→p l[i]=false) ?_ ?_)
 ·simp
 ·rintro k ρ H' n' hk ⟨h0,h1,h7,h8,rfl,rfl,hno⟩ IH
  refine zE fun k' hk'=>?_
  simp[h7,h8]
  apply hk'
  refine Runs.seq ?_
  refine Runs.ite rfl (fun hc1=>?_) (fun hc1=>?_)
  ·have hc1:k<l.length:=by simpa using hc1
   refine Runs.skip ?_
   refine Runs.seq ?_
   refine Runs.block ?_
   refine zE fun k' hk'=>?_
   simp[h8]
   apply hk'
   refine zE fun k' hk'=>?_
   simp[h0,h1,hc1,Big.cells,encN,encI,encS,encW]
   refine RunK.callF Ty_ok (hcl l[k] (List.getElem_mem hc1)) (by decide) (by decide) (by simp[h1]) (by simp[Big.cells,encN,encI,encS,encW]) ?_
   rintro _ rfl
   simp
   apply hk'
   refine Runs.ite rfl (fun hc2=>?_) (fun hc2=>?_)
   ·have hc2:p l[k]=true:=by simpa using hc2
    refine zE fun k' hk'=>?_
    simp
    apply hk'
    refine Runs.ret Tryz.func128 (RetOk.one Tryz.results128) (hQ _ _ _ _ (.bnd (.v _)) (Frame.refl _ _) ?_)
    simp[idxF_at hc1 hc2 hno]
   ·have hc2:p l[k]=false:=by simpa using hc2
    refine Runs.skip ?_
    refine Runs.inBlock ?_
    refine zF fun k' hk'=>?_
    simp[h8,wrap_succ (show k<4611686018427387904 by omega)]
    apply hk'
    refine IH hc1 _ _ _ ⟨by simp[h0,Big.cells,encN,encI,encS,encW],by simp[h1],by simp[h7],by simp,rfl,rfl,fun i h hi=>?_⟩
    rcases Nat.lt_or_ge i k with hik | hik
    ·exact hno i h hik
    ·have:i=k:=by omega
     subst this
     exact hc2
  ·have hc1:¬ k<l.length:=by simpa using hc1
   have hke:k=l.length:=by omega
   subst hke
   refine Runs.exit rfl ?_
   refine zE fun k' hk'=>?_
   simp
   apply hk'
   refine Runs.ret Tryz.func128 (RetOk.one Tryz.results128) (hQ _ _ _ _ (.bnd (.v _)) (Frame.refl _ _) ?_)
   simp[idxF_no fun i h=>hno i h h]
theorem containsFuncB_ok {H:Heap} {n:Nat} {cl:AVal} (t:Bool) (l:List (Big)) (p:Big→Bool) (hl:l.length≤1048576) (hcl:∀ x ∈ l,ClosC Tryz.prog H n cl [.agg (bC false x)] (fun r=>r=bool (p x))) :
  StillC Tryz.prog 72 [.list t (l.map (Big.cells false)),cl] H n (fun r=>r=bool (l.any p)):=by
 refine StillC.of Tryz.func72 rfl Tryz.ntmps72 (by simp) fun Q _ hQ=>?_
 refine zE fun k' hk'=>?_
 simp
 apply hk'
 refine zE fun k' hk'=>?_
 simp
 refine RunK.callT Ty_ok (indexFuncB_ok t l p hl hcl) e128 (by decide) (by decide) rfl (by simp) ?_
 rintro _ rfl
 simp
 apply hk'
 refine Runs.ret Tryz.func72 (RetOk.one Tryz.results72) (hQ _ _ _ _ (.bnd (.v _)) (Frame.refl _ _) ?_)
 simp[idxF_any]
theorem e73:Ent Tryz.prog 73:=Ent.of Tryz.func73 (by kernel_rfl) rfl
theorem pat1_walk {H0:Heap} {n0:Nat} {X1:Id} (b:Big) (v_:List Control) (hX1:H0 X1=some ⟨1,[[.list false (v_.map Control.cells)]]⟩) (Z:Bool→Prop) (h:pat1_wp b v_ Z):ClosC Tryz.prog H0 n0 (.fn (.func 73) [] [.ptr X1 1 0 0]) [.agg (bC false b)] (fun r=>∃ y:Bool,Z y∧r=bool y):=by
 unfold pat1_wp at h
 refine⟨73,[],[.ptr X1 1 0 0],rfl,e73,?_⟩
 refine StillC.of Tryz.func73 rfl Tryz.ntmps73 (by simp) fun Q hB hQ=>?_
 have lX1:X1.1<n0:=(hB X1 _ hX1).1
 have neX1:∀ m d,n0≤m→(X1=(m,d))=False:=fun m d hm=>by simp only[eq_iff_iff,iff_false];rintro rfl;simp at lX1;omega
 have hfr:Frame n0 H0 H0:=Frame.refl _ _
 have hn0:n0≤n0:=Nat.le_refl _
 refine Runs.cut (fun ρ H n=>(ρ 0 = .agg (bC false b)∧ρ 1 = .ptr X1 1 0 0)∧H X1=some ⟨1,[[.list false (v_.map Control.cells)]]⟩∧n0≤n∧Frame n0 H0 H) (by refine⟨?_,?_,?_,?_⟩<;>first | ((repeat (first | exact hfr | refine Frame.set (by first | omega | (simp;omega)) ?_));done) | omega | simp[hX1]) ?_
 rintro ρ H n1 ⟨hh,mX1,hn0,hfr⟩
 have hn1:=Nat.le_succ_of_le hn0
 have hn2:=Nat.le_succ_of_le hn1
 refine zE fun k' hk'=>?_
 simp[hh,mX1,hn0,hn1,hn2,neX1]
 apply hk'
 refine Runs.cut (fun ρ H n=>(ρ 1 = .ptr X1 1 0 0∧ρ 2=pA n1 2)∧H X1=some ⟨1,[[.list false (v_.map Control.cells)]]⟩∧H (n1,2)=some ⟨6,[bC false b]⟩∧n0≤n∧Frame n0 H0 H) (by refine⟨?_,?_,?_,?_,?_⟩<;>first | ((repeat (first | exact hfr | refine Frame.set (by first | omega | (simp;omega)) ?_));done) | omega | simp[hh,mX1,hn0,hn1,hn2,neX1]) ?_
 clear hh mX1 hn0
 rintro ρ H n3 ⟨hh,mX1,m2_1,hn0,hfr⟩
 have hn1:=Nat.le_succ_of_le hn0
 have hn2:=Nat.le_succ_of_le hn1
 refine zE fun k' hk'=>?_
 obtain⟨hb4,h⟩:=h
 obtain⟨r5,er5,h⟩:=atm h
 simp[hh,mX1,m2_1,hn0,hn1,hn2,neX1]
 refine RunK.callA Ty_ok (agentB_ok v_ b hb4) e74 (.cons (argC false v_) (.cons (argB false b) .nil)) (by decide) (by decide) rfl (by simp[hh,mX1,m2_1,hn0,hn1,hn2,neX1]) ?_
 rintro _ rfl
 rw[← er5]
 simp[hh,mX1,m2_1,hn0,hn1,hn2,neX1]
 apply hk'
 exact Runs.ret1 (v:=bool (!r5)) Tryz.func73 Tryz.results73 (by simp[hh,mX1,m2_1,hn0,hn1,hn2,neX1]) (hQ _ _ _ _ (.bnd (.v _)) (hfr) ⟨(!r5),h,rfl⟩)
theorem pat1_ok {H0:Heap} {n0:Nat} {X1:Id} (b:Big) (v_:List Control) (hX1:H0 X1=some ⟨1,[[.list false (v_.map Control.cells)]]⟩) (hp:pat1_pre b v_):ClosC Tryz.prog H0 n0 (.fn (.func 73) [] [.ptr X1 1 0 0]) [.agg (bC false b)] (fun r=>r=bool (pat1 b v_)):=(pat1_walk b v_ hX1 _ (pat1_vc b v_ hp)).mono (by rintro _ ⟨_,rfl,rfl⟩;rfl)
theorem e76:Ent Tryz.prog 76:=Ent.of Tryz.func76 (by kernel_rfl) rfl
theorem yldNo_ok (m:Match) (v:AVal):EffT Tryz.prog 76 ([v]++[]) [] (fun (_:Unit) _ L=>L=[]) () [(.a [.s [.c],.s [.c]],v,.agg (Match.cells true m))] (fun s' r=>s'=((),yldNo m).1∧r=bool ((),yldNo m).2):=by
 refine EffT.of Tryz.func76 rfl Tryz.ntmps76 (by simp) fun H0 n0 K0 ids0 E0 hI hWd sp Q hQ=>?_
 subst hI
 replace sp:Sep H0 n0 ((.a [.s [.c],.s [.c]],v,.agg (Match.cells true m))::K0) ids0:=sp
 have sp2:=Sep.dr sp
 replace sp:=Sep.unpack sp
 obtain⟨L0,hv,hl0,sp⟩:=sp
 subst hv
 refine Runs.cut (fun ρ H n=>ρ 0 = .agg L0∧H=H0∧n=n0) (by simp) ?_
 rintro ρ H n ⟨h0,rfl,rfl⟩
 refine zE fun k' hk'=>?_
 simp[h0]
 apply hk'
 refine zE fun k' hk'=>?_
 simp
 apply hk'
 exact Runs.ret1 (v:=bool false) Tryz.func76 Tryz.results76 (by simp) (hQ _ _ _ () [] rfl (Sep.sub (Sep.var sp2) (by simp +contextual)) (fun i hi=>Heap.get_set_ne _ _ (by rintro rfl;have:=sp2.1 _ hi;simp at this)) (by omega) ⟨rfl,rfl⟩)
theorem e26:Ent Tryz.prog 26:=Ent.of Tryz.func26 (by kernel_rfl) rfl
theorem PatternStates_walk (sig:List Control) (x:Sys) (pattern:Big) (Z:((List Int) × Bool)→Prop) (h:PatternStates_wp sig x pattern Z):OwnS Tryz.prog 26 [.list false (sig.map Control.cells),.agg [.list false (x.states.map (Big.cells false)),.list false (x.steps.map intC3)],.agg (bC false pattern)] (.t [.s [.c],.c]) (fun r=>∃ y:(List Int) × Bool,Z y∧r = .tup [.list true (y.1.map intC),bool y.2]):=by
 unfold PatternStates_wp at h
 have sp:Sep noHeap 0 [] []:=Sep.nil (by simp)
 refine OwnS.of Tryz.func26 rfl Tryz.ntmps26 (by simp) fun Q hQ=>?_
 refine Runs.cut (fun ρ H n=>(ρ 0 = .list false (sig.map Control.cells)∧ρ 1 = .agg [.list false (x.states.map (Big.cells false)),.list false (x.steps.map intC3)]∧ρ 2 = .agg (bC false pattern))∧Sep H n [] []) (by refine⟨?_,sp⟩<;>simp[Big.cells,encI,encN,encS,encW]) ?_
 rintro ρ H n1 ⟨hh,sp⟩
 refine zE fun k' hk'=>?_
 simp[hh,Big.cells,encI,encN,encS,encW]
 apply hk'
 refine Runs.cut (fun ρ H n=>(ρ 3=pA n1 3∧ρ 4=pA (n1+1) 4∧ρ 5=pA (n1+2) 5)∧H (n1,3)=some ⟨1,[[.list false (sig.map Control.cells)]]⟩∧H (n1+1,4)=some ⟨2,[[.list false (x.states.map (Big.cells false)),.list false (x.steps.map intC3)]]⟩∧H (n1+2,5)=some ⟨6,[bC false pattern]⟩∧Sep H n [] [(n1+2,5),(n1+1,4),(n1,3)]) (by refine⟨?_,?_,?_,?_,sp.var.var.var⟩<;>simp[hh,Big.cells,encI,encN,encS,encW]) ?_
 clear hh
 rintro ρ H n5 ⟨hh,m3_1,m4_2,m5_3,sp⟩
 refine Runs.seq ?_
 refine zE fun k' hk'=>?_
 obtain⟨J6,hJ7,hr8⟩:=h
 have fin10:∀ (sJ:Bool) (ρ:Env) (H:Heap) (n:Nat),J6 sJ→(match sJ with | b9=>(ρ 4=pA (n1+1) 4∧ρ 5=pA (n1+2) 5∧ρ 30=bool b9)∧H (n1+1,4)=some ⟨2,[[.list false (x.states.map (Big.cells false)),.list false (x.steps.map intC3)]]⟩∧H (n1+2,5)=some ⟨6,[bC false pattern]⟩∧Sep H n [] [(n1+2,5),(n1+1,4)])→Runs Tryz.prog 26 50 k' ρ H n Q:=by
  rintro b9 ρ H n11 h ⟨hh,m4_2,m5_3,sp⟩
  replace h:=hr8 _ h
  apply hk'
  refine Runs.ite (b:=b9) (by simp[hh,m4_2,m5_3,Big.cells,encI,encN,encS,encW]) (fun db9=>?_) (fun db9=>?_)
  ·replace h:=h.1 db9
   refine zE fun k' hk'=>?_
   simp[hh,m4_2,m5_3,db9,Big.cells,encI,encN,encS,encW]
   apply hk'
   exact Runs.ret2 (v:=.v (.slice none 0 0)) (w:=bool false) Tryz.func26 Tryz.results26 (by simp[hh,m4_2,m5_3,db9,Big.cells,encI,encN,encS,encW]) (by simp[hh,m4_2,m5_3,db9,Big.cells,encI,encN,encS,encW]) (hQ _ _ _ _ (Sep.sub (ids':=[]) (Sep.packT (Fill.own (Fill.v _ Fill.nil)) (Sep.addNil sp)) (by simp)) ⟨([],false),h,rfl⟩)
  replace h:=h.2 db9
  refine Runs.skip ?_
  refine zE fun k' hk'=>?_
  simp[hh,m4_2,m5_3,db9,Big.cells,encI,encN,encS,encW]
  apply hk'
  refine Runs.cut (fun ρ H n=>∃ (v15:AVal),(ρ 4=pA (n1+1) 4∧ρ 5=pA (n1+2) 5∧ρ 8=v15)∧H (n1+1,4)=some ⟨2,[[.list false (x.states.map (Big.cells false)),.list false (x.steps.map intC3)]]⟩∧H (n1+2,5)=some ⟨6,[bC false pattern]⟩∧Sep H n [oI v15 ([]:List Int)] [(n1+2,5),(n1+1,4)]) (by refine⟨.arr (n11,31) 0 0 0,?_,?_,?_,(Sep.addEmpty (l:=[.c]) sp)⟩<;>simp[hh,m4_2,m5_3,db9,Big.cells,encI,encN,encS,encW]) ?_
  clear hh m4_2 m5_3
  rintro ρ H n16 ⟨v15,hh,m4_2,m5_3,sp⟩
  refine Runs.seq ?_
  refine zE fun k' hk'=>?_
  obtain⟨len17,elen17,h⟩:=atm h
  have f18:=fun H=>len_list (H:=H) (fr:=false) (f:=(Big.cells false)) kd_70 elen17
  simp[hh,m4_2,m5_3,f18,Big.cells,encI,encN,encS,encW,-lenF]
  apply hk'
  refine Runs.block ?_
  refine Runs.loopW h (fun (sJ:Int × (List Int)) ρ H n=>match sJ with | (v26,l27)=>∃ (v28:AVal),(ρ 5=pA (n1+2) 5∧ρ 8=v28∧ρ 33 = .list false (x.states.map (Big.cells false))∧ρ 34=int len17∧ρ 35=int v26)∧H (n1+2,5)=some ⟨6,[bC false pattern]⟩∧Sep H n [oI v28 l27] [(n1+2,5)]) (by refine⟨v15,?_,?_,(Sep.sub sp (by simp +contextual))⟩<;>simp[hh,m4_2,m5_3,Big.cells,encI,encN,encS,encW]) ?_
  clear hh m4_2 m5_3
  rintro⟨v26,l27⟩ ρ H n29 K h ⟨v28,hh,m5_3,sp⟩ IH30
  refine zE fun k' hk'=>?_
  obtain⟨c32,ec32,h⟩:=atm h
  have f33:=ib_lss (k:=.i64) ec32
  simp[hh,m5_3,f33,Big.cells,encI,encN,encS,encW,-intBin]
  apply hk'
  refine Runs.seq ?_
  refine Runs.ite (b:=c32) (by simp[hh,m5_3,Big.cells,encI,encN,encS,encW]) (fun dc32=>?_) (fun dc32=>?_)
  ·replace h:=h.1 dc32
   refine Runs.skip ?_
   refine Runs.seq ?_
   refine Runs.block ?_
   refine zE fun k' hk'=>?_
   obtain⟨hb34,h⟩:=h
   obtain⟨x35,ex35,h⟩:=atm h
   have f36:=fun H=>ix_list (H:=H) (fr:=false) (f:=(Big.cells false)) (k:=.i64) kd_70 (fun _=>rfl) hb34 ex35
   simp[hh,m5_3,f36,dc32,Big.cells,encI,encN,encS,encW,-indexAddrF]
   apply hk'
   refine Runs.cut (fun ρ H n=>∃ (v38:AVal),(ρ 5=pA (n1+2) 5∧ρ 8=v38∧ρ 9=int v26∧ρ 10=pA n29 10∧ρ 33 = .list false (x.states.map (Big.cells false))∧ρ 34=int len17∧ρ 35=int v26)∧H (n1+2,5)=some ⟨6,[bC false pattern]⟩∧H (n29,10)=some ⟨6,[bC false x35]⟩∧Sep H n [oI v38 l27] [(n29,10),(n1+2,5)]) (by refine⟨v28,?_,?_,?_,sp.var⟩<;>simp[hh,m5_3,f36,dc32,Big.cells,encI,encN,encS,encW,-indexAddrF]) ?_
   clear hh m5_3
   rintro ρ H n39 ⟨v38,hh,m5_3,m10_36,sp⟩
   refine zE fun k' hk'=>?_
   obtain⟨hb40,h⟩:=h
   obtain⟨r41,er41,h⟩:=atm h
   simp[hh,m5_3,m10_36,Big.cells,encI,encN,encS,encW]
   refine RunK.callEff (xsA:=[.agg (bC false pattern),.agg (bC false x35),.v (.slice none 0 0),.fn (.func 76) [] []]) (ysA:=[.agg (bC false pattern),.agg (bC false x35),.list false ([].map intC),.fn (.func 76) [] []]) (caps:=[]) (I:=fun (_:Unit) _ L=>L=[]) (s:=()) (M:=[]) (R:=[]) (E:=[]) (K0:=[oI v38 l27]) (A:=[(n29,10),(n1+2,5)]) (W:=[]) (B:=[]) Ty_ok (matchesY_ok (fun s m=>(s,yldNo m)) (fun _=>True) e76 (fun _ _ _ _ h _=>h) (fun _ m v _ _=>yldNo_ok m v) pattern x35 [] () hb40) (.cons (Sub.refl _) (.cons (Sub.refl _) (.cons (Sub.nil false) (.cons (Sub.refl _) .nil)))) e75 rfl (by simp) (by simpa using sp) (by decide) (by decide) rfl (by simp[hh,m5_3,m10_36,Big.cells,encI,encN,encS,encW]) ?_
   rintro _ H42 n43 _ _ ⟨rfl,rfl⟩ rfl sp hle45 hfr44
   rw[← er41]
   replace sp:Sep H42 n43 [oI v38 l27] [(n29,10),(n1+2,5)]:=by simpa using sp
   have m5_3:H42 (n1+2,5)=some ⟨6,[bC false pattern]⟩:=(hfr44 _ (by simp)).trans (by simp[hh,m5_3,m10_36,Heap.get_set])
   have m10_36:H42 (n29,10)=some ⟨6,[bC false x35]⟩:=(hfr44 _ (by simp)).trans (by simp[hh,m5_3,m10_36,Heap.get_set])
   simp[hh,m5_3,m10_36,Big.cells,encI,encN,encS,encW]
   apply hk'
   refine Runs.cut (fun ρ H n=>∃ (v47:AVal),(ρ 5=pA (n1+2) 5∧ρ 8=v47∧ρ 9=int v26∧ρ 33 = .list false (x.states.map (Big.cells false))∧ρ 34=int len17∧ρ 35=int v26∧ρ 43=bool (!r41.2))∧H (n1+2,5)=some ⟨6,[bC false pattern]⟩∧Sep H n [oI v47 l27] [(n1+2,5)]) (by refine⟨v38,?_,?_,(Sep.sub sp (by simp +contextual))⟩<;>simp[hh,m5_3,m10_36,Big.cells,encI,encN,encS,encW]) ?_
   clear hh m5_3 m10_36
   rintro ρ H n48 ⟨v47,hh,m5_3,sp⟩
   refine Runs.ite (b:=(!r41.2)) (by simp[hh,m5_3,Big.cells,encI,encN,encS,encW]) (fun dr41_2=>?_) (fun dr41_2=>?_)
   ·have dr41_2:r41.2=false:=by simpa using dr41_2
    replace h:=h.2 dr41_2
    refine zF fun k' hk'=>?_
    obtain⟨hb49,h⟩:=h
    obtain⟨l50,el50,h⟩:=atm h
    simp[hh,m5_3,dr41_2,Big.cells,encI,encN,encS,encW,-appendF]
    refine bind_append [] [] [[int v26]] [intC v26] sp kd_24 (by simp) (by simp) (by simp[Big.cells,encI,encN,encS,encW]) (by simp[-one1,o1x]) (rows_one (Fill.v _ Fill.nil)) (by simp) (by simpa using hb49) ?_
    rintro v51 H52 n53 sp hfr54 hle55
    replace sp:Sep H52 n53 [oI v51 l50] [(n1+2,5)]:=Sep.ap el50 sp
    have m5_3:H52 (n1+2,5)=some ⟨6,[bC false pattern]⟩:=(hfr54 _ (by simp)).trans (by simp[hh,m5_3,Heap.get_set])
    simp[hh,m5_3,dr41_2,Big.cells,encI,encN,encS,encW]
    apply hk'
    refine Runs.cut (fun ρ H n=>∃ (v57:AVal),(ρ 5=pA (n1+2) 5∧ρ 8=v57∧ρ 33 = .list false (x.states.map (Big.cells false))∧ρ 34=int len17∧ρ 35=int v26)∧H (n1+2,5)=some ⟨6,[bC false pattern]⟩∧Sep H n [oI v57 l50] [(n1+2,5)]) (by refine⟨v51,?_,?_,sp⟩<;>simp[hh,m5_3,dr41_2,Big.cells,encI,encN,encS,encW]) ?_
    clear hh m5_3
    rintro ρ H n58 ⟨v57,hh,m5_3,sp⟩
    refine Runs.inBlock ?_
    refine zF fun k' hk'=>?_
    obtain⟨hb59,h⟩:=h
    obtain⟨v60,ev60,h⟩:=atm h
    have f61:=ib_add hb59 ev60
    simp[hh,m5_3,f61,Big.cells,encI,encN,encS,encW,-intBin]
    apply hk'
    refine IH30 (v60,l50) _ _ _ h (by refine⟨v57,?_,?_,sp⟩<;>simp[hh,m5_3,Big.cells,encI,encN,encS,encW])
   have dr41_2:r41.2=true:=by simpa using dr41_2
   replace h:=h.1 dr41_2
   refine Runs.skip ?_
   refine Runs.inBlock ?_
   refine zF fun k' hk'=>?_
   obtain⟨hb62,h⟩:=h
   obtain⟨v63,ev63,h⟩:=atm h
   have f64:=ib_add hb62 ev63
   simp[hh,m5_3,f64,dr41_2,Big.cells,encI,encN,encS,encW,-intBin]
   apply hk'
   refine IH30 (v63,l27) _ _ _ h (by refine⟨v47,?_,?_,sp⟩<;>simp[hh,m5_3,dr41_2,Big.cells,encI,encN,encS,encW])
  replace h:=h.2 dc32
  refine Runs.exit rfl ?_
  refine zE fun k' hk'=>?_
  simp[hh,m5_3,dc32,Big.cells,encI,encN,encS,encW]
  apply hk'
  exact Runs.ret2 (v:=v28) (w:=bool true) Tryz.func26 Tryz.results26 (by simp[hh,m5_3,dc32,Big.cells,encI,encN,encS,encW]) (by simp[hh,m5_3,dc32,Big.cells,encI,encN,encS,encW]) (hQ _ _ _ _ (Sep.sub (ids':=[]) (Sep.packT (Fill.own (Fill.v _ Fill.nil)) sp) (by simp)) ⟨(l27,true),h,rfl⟩)
 replace h:=hJ7
 obtain⟨hb66,h⟩:=h
 obtain⟨r67,er67,h⟩:=atm h
 simp[hh,m3_1,m4_2,m5_3,Big.cells,encI,encN,encS,encW]
 refine RunK.callA Ty_ok (isSystem_ok x hb66) e69 (.cons (ArgOk.agg (.cons (ArgOk.nest_Bigraph false x.states) (.cons (ArgOk.listF (fr:=false) (els:=x.steps.map intC3) (flatI3 _)) .nil))) .nil) (by decide) (by decide) rfl (by simp[hh,m3_1,m4_2,m5_3,Big.cells,encI,encN,encS,encW]) ?_
 rintro _ rfl
 rw[← er67]
 rcases Bool.eq_false_or_eq_true r67 with dr67 | dr67
 ·replace h:=h.1 dr67
  obtain⟨hb68,h⟩:=h
  obtain⟨r69,er69,h⟩:=atm h
  simp[hh,m3_1,m4_2,m5_3,dr67,Big.cells,encI,encN,encS,encW]
  refine RunK.callA Ty_ok (IsBigraph_ok sig pattern hb68) e70 (.cons (argC false sig) (.cons (argB false pattern) .nil)) (by decide) (by decide) rfl (by simp[hh,m3_1,m4_2,m5_3,dr67,Big.cells,encI,encN,encS,encW]) ?_
  rintro _ rfl
  rw[← er69]
  rcases Bool.eq_false_or_eq_true r69 with dr69 | dr69
  ·replace h:=h.1 dr69
   obtain⟨hb70,h⟩:=h
   obtain⟨r71,er71,h⟩:=atm h
   simp[hh,m3_1,m4_2,m5_3,dr67,dr69,Big.cells,encI,encN,encS,encW]
   refine RunK.callA Ty_ok (isRedex_ok pattern hb70) e71 (.cons (argB false pattern) .nil) (by decide) (by decide) rfl (by simp[hh,m3_1,m4_2,m5_3,dr67,dr69,Big.cells,encI,encN,encS,encW]) ?_
   rintro _ rfl
   rw[← er71]
   rcases Bool.eq_false_or_eq_true r71 with dr71 | dr71
   ·replace h:=h.1 dr71
    obtain⟨hb72,h⟩:=h
    obtain⟨r73,er73,h⟩:=atm h
    simp[hh,m3_1,m4_2,m5_3,dr67,dr69,dr71,Big.cells,encI,encN,encS,encW]
    refine RunK.callT Ty_ok (containsFuncB_ok false x.states (fun z=>pat1 z sig) hb72.1 (fun z hz=>pat1_ok z sig m3_1 (hb72.2 z hz))) e72 (by decide) (by decide) rfl (by simp[hh,m3_1,m4_2,m5_3,dr67,dr69,dr71,Big.cells,encI,encN,encS,encW]) ?_
    rintro _ rfl
    rw[← er73]
    simp[hh,m3_1,m4_2,m5_3,dr67,dr69,dr71,Big.cells,encI,encN,encS,encW]
    exact fin10 (r73) _ _ _ h (by refine⟨?_,?_,?_,(Sep.sub sp (by simp +contextual))⟩<;>simp[hh,m3_1,m4_2,m5_3,dr67,dr69,dr71,Big.cells,encI,encN,encS,encW])
   replace h:=h.2 dr71
   simp[hh,m3_1,m4_2,m5_3,dr67,dr69,dr71,Big.cells,encI,encN,encS,encW]
   exact fin10 (true) _ _ _ h (by refine⟨?_,?_,?_,(Sep.sub sp (by simp +contextual))⟩<;>simp[hh,m3_1,m4_2,m5_3,dr67,dr69,dr71,Big.cells,encI,encN,encS,encW])
  replace h:=h.2 dr69
  simp[hh,m3_1,m4_2,m5_3,dr67,dr69,Big.cells,encI,encN,encS,encW]
  exact fin10 (true) _ _ _ h (by refine⟨?_,?_,?_,(Sep.sub sp (by simp +contextual))⟩<;>simp[hh,m3_1,m4_2,m5_3,dr67,dr69,Big.cells,encI,encN,encS,encW])
 replace h:=h.2 dr67
 simp[hh,m3_1,m4_2,m5_3,dr67,Big.cells,encI,encN,encS,encW]
 exact fin10 (true) _ _ _ h (by refine⟨?_,?_,?_,(Sep.sub sp (by simp +contextual))⟩<;>simp[hh,m3_1,m4_2,m5_3,dr67,Big.cells,encI,encN,encS,encW])
theorem PatternStates_ok (sig:List Control) (x:Sys) (pattern:Big) (hp:PatternStates_pre sig x pattern):OwnS Tryz.prog 26 [.list false (sig.map Control.cells),.agg [.list false (x.states.map (Big.cells false)),.list false (x.steps.map intC3)],.agg (bC false pattern)] (.t [.s [.c],.c]) (fun r=>r = .tup [.list true (((PatternStates sig x pattern).1).map intC),bool ((PatternStates sig x pattern).2)]):=(PatternStates_walk sig x pattern _ (PatternStates_vc sig x pattern hp)).mono (by rintro _ ⟨_,rfl,rfl⟩;rfl)
theorem e24:Ent Tryz.prog 24:=Ent.of Tryz.func24 (by kernel_rfl) rfl
theorem sPatternStates_walk (sig:List Control) (x:Sys) (pattern:Big) (Z:((List Int) × Bool)→Prop) (h:sPatternStates_wp sig x pattern Z):OwnS Tryz.prog 24 [.list false (sig.map Control.cells),.agg [.list false (x.states.map (Big.cells false)),.list false (x.steps.map intC3)],.agg (bC false pattern)] (.t [.s [.c],.c]) (fun r=>∃ y:(List Int) × Bool,Z y∧r = .tup [.list true (y.1.map intC),bool y.2]):=by
 unfold sPatternStates_wp at h
 have sp:Sep noHeap 0 [] []:=Sep.nil (by simp)
 refine OwnS.of Tryz.func24 rfl Tryz.ntmps24 (by simp) fun Q hQ=>?_
 refine Runs.cut (fun ρ H n=>(ρ 0 = .list false (sig.map Control.cells)∧ρ 1 = .agg [.list false (x.states.map (Big.cells false)),.list false (x.steps.map intC3)]∧ρ 2 = .agg (bC false pattern))∧Sep H n [] []) (by refine⟨?_,sp⟩<;>simp[Big.cells,encI,encN,encS,encW]) ?_
 rintro ρ H n1 ⟨hh,sp⟩
 refine zE fun k' hk'=>?_
 simp[hh,Big.cells,encI,encN,encS,encW]
 apply hk'
 refine Runs.cut (fun ρ H n=>(ρ 0 = .list false (sig.map Control.cells)∧ρ 4=pA n1 4∧ρ 5=pA (n1+1) 5)∧H (n1,4)=some ⟨2,[[.list false (x.states.map (Big.cells false)),.list false (x.steps.map intC3)]]⟩∧H (n1+1,5)=some ⟨6,[bC false pattern]⟩∧Sep H n [] [(n1+1,5),(n1,4)]) (by refine⟨?_,?_,?_,sp.var.var⟩<;>simp[hh,Big.cells,encI,encN,encS,encW]) ?_
 clear hh
 rintro ρ H n4 ⟨hh,m4_1,m5_2,sp⟩
 refine zE fun k' hk'=>?_
 simp[hh,m4_1,m5_2,Big.cells,encI,encN,encS,encW]
 apply hk'
 refine Runs.cut (fun ρ H n=>∃ (v6:AVal),(ρ 0 = .list false (sig.map Control.cells)∧ρ 4=pA n1 4∧ρ 5=pA (n1+1) 5∧ρ 8=v6)∧H (n1,4)=some ⟨2,[[.list false (x.states.map (Big.cells false)),.list false (x.steps.map intC3)]]⟩∧H (n1+1,5)=some ⟨6,[bC false pattern]⟩∧Sep H n [oI v6 ([]:List Int)] [(n1+1,5),(n1,4)]) (by refine⟨.arr (n4,10) 0 0 0,?_,?_,?_,(Sep.addEmpty (l:=[.c]) sp)⟩<;>simp[hh,m4_1,m5_2,Big.cells,encI,encN,encS,encW]) ?_
 clear hh m4_1 m5_2
 rintro ρ H n7 ⟨v6,hh,m4_1,m5_2,sp⟩
 refine Runs.seq ?_
 refine zE fun k' hk'=>?_
 obtain⟨J8,hJ9,hr10⟩:=h
 have fin13:∀ (sJ:Bool) (ρ:Env) (H:Heap) (n:Nat),J8 sJ→(match sJ with | b11=>∃ (v12:AVal),(ρ 0 = .list false (sig.map Control.cells)∧ρ 4=pA n1 4∧ρ 5=pA (n1+1) 5∧ρ 8=v12∧ρ 19=bool b11)∧H (n1,4)=some ⟨2,[[.list false (x.states.map (Big.cells false)),.list false (x.steps.map intC3)]]⟩∧H (n1+1,5)=some ⟨6,[bC false pattern]⟩∧Sep H n [oI v12 ([]:List Int)] [(n1+1,5),(n1,4)])→Runs Tryz.prog 24 52 k' ρ H n Q:=by
  rintro b11 ρ H n14 h ⟨v12,hh,m4_1,m5_2,sp⟩
  replace h:=hr10 _ h
  apply hk'
  refine Runs.ite (b:=b11) (by simp[hh,m4_1,m5_2,Big.cells,encI,encN,encS,encW]) (fun db11=>?_) (fun db11=>?_)
  ·replace h:=h.1 db11
   refine zE fun k' hk'=>?_
   simp[hh,m4_1,m5_2,db11,Big.cells,encI,encN,encS,encW]
   apply hk'
   exact Runs.ret2 (v:=v12) (w:=bool false) Tryz.func24 Tryz.results24 (by simp[hh,m4_1,m5_2,db11,Big.cells,encI,encN,encS,encW]) (by simp[hh,m4_1,m5_2,db11,Big.cells,encI,encN,encS,encW]) (hQ _ _ _ _ (Sep.sub (ids':=[]) (Sep.packT (Fill.own (Fill.v _ Fill.nil)) sp) (by simp)) ⟨(([]:List Int),false),h,rfl⟩)
  replace h:=h.2 db11
  refine Runs.skip ?_
  refine Runs.seq ?_
  refine zE fun k' hk'=>?_
  simp[hh,m4_1,m5_2,db11,Big.cells,encI,encN,encS,encW]
  apply hk'
  refine Runs.block ?_
  refine Runs.loopW h (fun (sJ:Int × (List Int)) ρ H n=>match sJ with | (i23,l24)=>∃ (v25:AVal),(ρ 0 = .list false (sig.map Control.cells)∧ρ 4=pA n1 4∧ρ 5=pA (n1+1) 5∧ρ 8=v25∧ρ 9=int i23)∧H (n1,4)=some ⟨2,[[.list false (x.states.map (Big.cells false)),.list false (x.steps.map intC3)]]⟩∧H (n1+1,5)=some ⟨6,[bC false pattern]⟩∧Sep H n [oI v25 l24] [(n1+1,5),(n1,4)]) (by refine⟨v12,?_,?_,?_,sp⟩<;>simp[hh,m4_1,m5_2,db11,Big.cells,encI,encN,encS,encW]) ?_
  clear hh m4_1 m5_2
  rintro⟨i23,l24⟩ ρ H n26 K h ⟨v25,hh,m4_1,m5_2,sp⟩ IH27
  refine Runs.seq ?_
  refine zE fun k' hk'=>?_
  obtain⟨len29,elen29,h⟩:=atm h
  have f30:=fun H=>len_list (H:=H) (fr:=false) (f:=(Big.cells false)) kd_70 elen29
  obtain⟨c31,ec31,h⟩:=atm h
  have f32:=ib_lss (k:=.i64) ec31
  simp[hh,m4_1,m5_2,f30,f32,Big.cells,encI,encN,encS,encW,-intBin,-lenF]
  apply hk'
  refine Runs.ite (b:=c31) (by simp[hh,m4_1,m5_2,Big.cells,encI,encN,encS,encW]) (fun dc31=>?_) (fun dc31=>?_)
  ·replace h:=h.1 dc31
   refine Runs.skip ?_
   refine Runs.seq ?_
   refine Runs.block ?_
   refine Runs.seq ?_
   refine zE fun k' hk'=>?_
   obtain⟨hb33,h⟩:=h
   obtain⟨x34,ex34,h⟩:=atm h
   have f35:=fun H=>ix_list (H:=H) (fr:=false) (f:=(Big.cells false)) (k:=.i64) kd_70 (fun _=>rfl) hb33 ex34
   obtain⟨hb36,h⟩:=h
   obtain⟨r37,er37,h⟩:=atm h
   simp[hh,m4_1,m5_2,f35,dc31,Big.cells,encI,encN,encS,encW,-indexAddrF]
   refine RunK.callA Ty_ok (l2Agent_ok sig x34 hb36) e65 (.cons (argC false sig) (.cons (argB false x34) .nil)) (by decide) (by decide) rfl (by simp[hh,m4_1,m5_2,f35,dc31,Big.cells,encI,encN,encS,encW,-indexAddrF]) ?_
   rintro _ rfl
   rw[← er37]
   simp[hh,m4_1,m5_2,f35,dc31,Big.cells,encI,encN,encS,encW,-indexAddrF]
   apply hk'
   refine Runs.ite (b:=(!r37)) (by simp[hh,m4_1,m5_2,dc31,Big.cells,encI,encN,encS,encW]) (fun dr37=>?_) (fun dr37=>?_)
   ·have dr37:r37=false:=by simpa using dr37
    replace h:=h.2 dr37
    refine zE fun k' hk'=>?_
    simp[hh,m4_1,m5_2,dc31,dr37,Big.cells,encI,encN,encS,encW]
    apply hk'
    refine Runs.cut (fun ρ H n=>∃ (v39:AVal),(ρ 6=v39∧ρ 7=bool false)∧Sep H n [oI v39 ([]:List Int)] []) (by refine⟨.arr (n26,36) 0 0 0,?_,(Sep.sub (Sep.dr (Sep.f1 (Sep.addEmpty (l:=[.c]) sp))) (by simp +contextual))⟩<;>simp[hh,m4_1,m5_2,dc31,dr37,Big.cells,encI,encN,encS,encW]) ?_
    clear hh m4_1 m5_2
    rintro ρ H n40 ⟨v39,hh,sp⟩
    exact Runs.ret2 (v:=v39) (w:=bool false) Tryz.func24 Tryz.results24 (by simp[hh,Big.cells,encI,encN,encS,encW]) (by simp[hh,Big.cells,encI,encN,encS,encW]) (hQ _ _ _ _ (Sep.sub (ids':=[]) (Sep.packT (Fill.own (Fill.v _ Fill.nil)) sp) (by simp)) ⟨(([]:List Int),false),h,rfl⟩)
   have dr37:r37=true:=by simpa using dr37
   replace h:=h.1 dr37
   refine Runs.skip ?_
   refine Runs.cut (fun ρ H n=>∃ (v42:AVal),(ρ 0 = .list false (sig.map Control.cells)∧ρ 4=pA n1 4∧ρ 5=pA (n1+1) 5∧ρ 8=v42∧ρ 9=int i23)∧H (n1,4)=some ⟨2,[[.list false (x.states.map (Big.cells false)),.list false (x.steps.map intC3)]]⟩∧H (n1+1,5)=some ⟨6,[bC false pattern]⟩∧Sep H n [oI v42 l24] [(n1+1,5),(n1,4)]) (by refine⟨v25,?_,?_,?_,sp⟩<;>simp[hh,m4_1,m5_2,dc31,dr37,Big.cells,encI,encN,encS,encW]) ?_
   clear hh m4_1 m5_2
   rintro ρ H n43 ⟨v42,hh,m4_1,m5_2,sp⟩
   obtain⟨hb44,h⟩:=h
   obtain⟨x45,ex45,h⟩:=atm h
   have f46:=fun H=>ix_list (H:=H) (fr:=false) (f:=(Big.cells false)) (k:=.i64) kd_70 (fun _=>rfl) hb44 ex45
   obtain⟨hb47,h⟩:=h
   obtain⟨r48,er48,h⟩:=atm h
   obtain⟨len49,elen49,h⟩:=atm h
   have f50:=fun H=>len_list (H:=H) (fr:=true) (f:=(Match.cells true)) kd_110 elen49
   obtain⟨c51,ec51,h⟩:=atm h
   have f52:=ib_gtr (k:=.i64) ec51
   refine Runs.seqC (fun H n=>H (n1,4)=some ⟨2,[[.list false (x.states.map (Big.cells false)),.list false (x.steps.map intC3)]]⟩∧H (n1+1,5)=some ⟨6,[bC false pattern]⟩∧Sep H n [oI v42 l24] [(n1+1,5),(n1,4)]) [] (.free 0 (.free 1 (.free 2 (.free 3 (.free 4 (.free 5 (.free 6 (.free 7 (.free 8 (.free 9 (.fin))))))))))) (fun ρ H n=>∃ (v53:AVal),(ρ 0 = .list false (sig.map Control.cells)∧ρ 4=pA n1 4∧ρ 5=pA (n1+1) 5∧ρ 8=v53∧ρ 9=int i23∧ρ 46=bool c51)∧H (n1,4)=some ⟨2,[[.list false (x.states.map (Big.cells false)),.list false (x.steps.map intC3)]]⟩∧H (n1+1,5)=some ⟨6,[bC false pattern]⟩∧Sep H n [oI v53 l24] [(n1+1,5),(n1,4)]) draws (by decide) (by kernel_rfl) ?_ ?_
   ·refine RunT.free (.agg (bC false pattern)) rfl rfl ⟨m4_1,m5_2,sp⟩ (fun H n hS=>by obtain⟨m4_1,m5_2,sp⟩:=hS;exact (by exact stepF_ok Ty_ok (by rw[stepF_loc];simp[hh,m4_1,m5_2,f46,f50,f52,Big.cells,encI,encN,encS,encW,-indexAddrF,-intBin,-lenF]))) ?_
    refine RunT.free (pA n1 4) rfl rfl ⟨m4_1,m5_2,sp⟩ (fun H n hS=>by obtain⟨m4_1,m5_2,sp⟩:=hS;exact (by exact stepF_ok Ty_ok (by rw[stepF_loc];simp[hh,m4_1,m5_2,f46,f50,f52,Big.cells,encI,encN,encS,encW,-indexAddrF,-intBin,-lenF]))) ?_
    refine RunT.free (.list false (x.states.map (Big.cells false))) rfl rfl ⟨m4_1,m5_2,sp⟩ (fun H n hS=>by obtain⟨m4_1,m5_2,sp⟩:=hS;exact (by exact stepF_ok Ty_ok (by rw[stepF_loc];simp[hh,m4_1,m5_2,f46,f50,f52,Big.cells,encI,encN,encS,encW,-indexAddrF,-intBin,-lenF]))) ?_
    refine RunT.free (int i23) rfl rfl ⟨m4_1,m5_2,sp⟩ (fun H n hS=>by obtain⟨m4_1,m5_2,sp⟩:=hS;exact (by exact stepF_ok Ty_ok (by rw[stepF_loc];simp[hh,m4_1,m5_2,f46,f50,f52,Big.cells,encI,encN,encS,encW,-indexAddrF,-intBin,-lenF]))) ?_
    refine RunT.free (.iptr false (bC false x45)) rfl rfl ⟨m4_1,m5_2,sp⟩ (fun H n hS=>by obtain⟨m4_1,m5_2,sp⟩:=hS;exact (by have f46:=fun H=>ix_list (H:=H) (fr:=false) (f:=(Big.cells false)) (k:=.i64) kd_70 (fun _=>rfl) hb44 ex45;exact stepF_ok Ty_ok (by rw[stepF_loc];simp[hh,m4_1,m5_2,f46,f50,f52,Big.cells,encI,encN,encS,encW,-indexAddrF,-intBin,-lenF]))) ?_
    refine RunT.free (.agg (bC false x45)) rfl rfl ⟨m4_1,m5_2,sp⟩ (fun H n hS=>by obtain⟨m4_1,m5_2,sp⟩:=hS;exact (by exact stepF_ok Ty_ok (by rw[stepF_loc];simp[hh,m4_1,m5_2,f46,f50,f52,Big.cells,encI,encN,encS,encW,-indexAddrF,-intBin,-lenF]))) ?_
    refine RunT.free (.list true (([]:List Int).map intC)) rfl rfl ⟨m4_1,m5_2,sp⟩ (fun H n hS=>by obtain⟨m4_1,m5_2,sp⟩:=hS;exact (by simpa using OpSem.build0 Ty_ok kd_24)) ?_
    refine RunT.free (.list true (r48.map (Match.cells true))) rfl rfl ⟨m4_1,m5_2,sp⟩ (fun H n hS=>by obtain⟨m4_1,m5_2,sp⟩:=hS;exact (by rw[er48];exact OpSem.callD2 (xs:=[.agg (bC false pattern),.agg (bC false x45),.list true (([]:List Int).map intC),int 0]) ((l8Search_ok pattern x45 ([]:List Int) 0 hb47).pure) e66 (.cons (argB false pattern) (.cons (argB false x45) (.cons (argI true ([]:List Int)) (.cons (.v _ _ _) .nil)))) (by simp[hh,m4_1,m5_2,f46,f50,f52,Big.cells,encI,encN,encS,encW,-indexAddrF,-intBin,-lenF]) (by simp[hh,m4_1,m5_2,f46,f50,f52,Big.cells,encI,encN,encS,encW,-indexAddrF,-intBin,-lenF]))) ?_
    refine RunT.free (int len49) rfl rfl ⟨m4_1,m5_2,sp⟩ (fun H n hS=>by obtain⟨m4_1,m5_2,sp⟩:=hS;exact (by have f50:=fun H=>len_list (H:=H) (fr:=true) (f:=(Match.cells true)) kd_110 elen49;exact stepF_ok Ty_ok (by rw[stepF_loc];simp[hh,m4_1,m5_2,f46,f50,f52,Big.cells,encI,encN,encS,encW,-indexAddrF,-intBin,-lenF]))) ?_
    refine RunT.free (bool c51) rfl rfl ⟨m4_1,m5_2,sp⟩ (fun H n hS=>by obtain⟨m4_1,m5_2,sp⟩:=hS;exact (by have f52:=ib_gtr (k:=.i64) ec51;exact stepF_ok Ty_ok (by rw[stepF_loc];simp[hh,m4_1,m5_2,f46,f50,f52,Big.cells,encI,encN,encS,encW,-indexAddrF,-intBin,-lenF]))) ?_
    refine RunT.fin (by refine⟨v42,?_,?_,?_,sp⟩<;>simp[hh,m4_1,m5_2,f46,f50,f52,Big.cells,encI,encN,encS,encW,-indexAddrF,-intBin,-lenF])
   clear hh m4_1 m5_2
   rintro ρ H n54 ⟨v53,hh,m4_1,m5_2,sp⟩
   refine Runs.ite (b:=c51) (by simp[hh,m4_1,m5_2,Big.cells,encI,encN,encS,encW]) (fun dc51=>?_) (fun dc51=>?_)
   ·replace h:=h.1 dc51
    refine zF fun k' hk'=>?_
    obtain⟨hb55,h⟩:=h
    obtain⟨l56,el56,h⟩:=atm h
    simp[hh,m4_1,m5_2,dc51,Big.cells,encI,encN,encS,encW,-appendF]
    refine bind_append [] [] [[int i23]] [intC i23] sp kd_24 (by simp) (by simp) (by simp[Big.cells,encI,encN,encS,encW]) (by simp[-one1,o1x]) (rows_one (Fill.v _ Fill.nil)) (by simp) (by simpa using hb55) ?_
    rintro v57 H58 n59 sp hfr60 hle61
    replace sp:Sep H58 n59 [oI v57 l56] [(n1+1,5),(n1,4)]:=Sep.ap el56 sp
    have m4_1:H58 (n1,4)=some ⟨2,[[.list false (x.states.map (Big.cells false)),.list false (x.steps.map intC3)]]⟩:=(hfr60 _ (by simp)).trans (by simp[hh,m4_1,m5_2,Heap.get_set])
    have m5_2:H58 (n1+1,5)=some ⟨6,[bC false pattern]⟩:=(hfr60 _ (by simp)).trans (by simp[hh,m4_1,m5_2,Heap.get_set])
    simp[hh,m4_1,m5_2,dc51,Big.cells,encI,encN,encS,encW]
    apply hk'
    refine Runs.cut (fun ρ H n=>∃ (v63:AVal),(ρ 0 = .list false (sig.map Control.cells)∧ρ 4=pA n1 4∧ρ 5=pA (n1+1) 5∧ρ 8=v63∧ρ 9=int i23)∧H (n1,4)=some ⟨2,[[.list false (x.states.map (Big.cells false)),.list false (x.steps.map intC3)]]⟩∧H (n1+1,5)=some ⟨6,[bC false pattern]⟩∧Sep H n [oI v63 l56] [(n1+1,5),(n1,4)]) (by refine⟨v57,?_,?_,?_,sp⟩<;>simp[hh,m4_1,m5_2,dc51,Big.cells,encI,encN,encS,encW]) ?_
    clear hh m4_1 m5_2
    rintro ρ H n64 ⟨v63,hh,m4_1,m5_2,sp⟩
    refine Runs.inBlock ?_
    refine zF fun k' hk'=>?_
    obtain⟨hb65,h⟩:=h
    obtain⟨v66,ev66,h⟩:=atm h
    have f67:=ib_add hb65 ev66
    simp[hh,m4_1,m5_2,f67,Big.cells,encI,encN,encS,encW,-intBin]
    apply hk'
    refine IH27 (v66,l56) _ _ _ h (by refine⟨v63,?_,?_,?_,sp⟩<;>simp[hh,m4_1,m5_2,Big.cells,encI,encN,encS,encW])
   replace h:=h.2 dc51
   refine Runs.skip ?_
   refine Runs.inBlock ?_
   refine zF fun k' hk'=>?_
   obtain⟨hb68,h⟩:=h
   obtain⟨v69,ev69,h⟩:=atm h
   have f70:=ib_add hb68 ev69
   simp[hh,m4_1,m5_2,f70,dc51,Big.cells,encI,encN,encS,encW,-intBin]
   apply hk'
   refine IH27 (v69,l24) _ _ _ h (by refine⟨v53,?_,?_,?_,sp⟩<;>simp[hh,m4_1,m5_2,dc51,Big.cells,encI,encN,encS,encW])
  replace h:=h.2 dc31
  refine Runs.exit rfl ?_
  refine zE fun k' hk'=>?_
  simp[hh,m4_1,m5_2,dc31,Big.cells,encI,encN,encS,encW]
  apply hk'
  exact Runs.ret2 (v:=v25) (w:=bool true) Tryz.func24 Tryz.results24 (by simp[hh,m4_1,m5_2,dc31,Big.cells,encI,encN,encS,encW]) (by simp[hh,m4_1,m5_2,dc31,Big.cells,encI,encN,encS,encW]) (hQ _ _ _ _ (Sep.sub (ids':=[]) (Sep.packT (Fill.own (Fill.v _ Fill.nil)) sp) (by simp)) ⟨(l24,true),h,rfl⟩)
 replace h:=hJ9
 obtain⟨hb72,h⟩:=h
 obtain⟨r73,er73,h⟩:=atm h
 simp[hh,m4_1,m5_2,Big.cells,encI,encN,encS,encW]
 refine RunK.callA Ty_ok (l10Good_ok x hb72) e63 (.cons (ArgOk.agg (.cons (ArgOk.nest_Bigraph false x.states) (.cons (ArgOk.listF (fr:=false) (els:=x.steps.map intC3) (flatI3 _)) .nil))) .nil) (by decide) (by decide) rfl (by simp[hh,m4_1,m5_2,Big.cells,encI,encN,encS,encW]) ?_
 rintro _ rfl
 rw[← er73]
 rcases Bool.eq_false_or_eq_true r73 with dr73 | dr73
 ·replace h:=h.1 dr73
  obtain⟨hb74,h⟩:=h
  obtain⟨r75,er75,h⟩:=atm h
  simp[hh,m4_1,m5_2,dr73,Big.cells,encI,encN,encS,encW]
  refine RunK.callA Ty_ok (l8Redex_ok sig pattern hb74) e64 (.cons (argC false sig) (.cons (argB false pattern) .nil)) (by decide) (by decide) rfl (by simp[hh,m4_1,m5_2,dr73,Big.cells,encI,encN,encS,encW]) ?_
  rintro _ rfl
  rw[← er75]
  simp[hh,m4_1,m5_2,dr73,Big.cells,encI,encN,encS,encW]
  exact fin13 ((!r75)) _ _ _ h (by refine⟨v6,?_,?_,?_,sp⟩<;>simp[hh,m4_1,m5_2,dr73,Big.cells,encI,encN,encS,encW])
 replace h:=h.2 dr73
 simp[hh,m4_1,m5_2,dr73,Big.cells,encI,encN,encS,encW]
 exact fin13 (true) _ _ _ h (by refine⟨v6,?_,?_,?_,sp⟩<;>simp[hh,m4_1,m5_2,dr73,Big.cells,encI,encN,encS,encW])
theorem sPatternStates_ok (sig:List Control) (x:Sys) (pattern:Big) (hp:sPatternStates_pre sig x pattern):OwnS Tryz.prog 24 [.list false (sig.map Control.cells),.agg [.list false (x.states.map (Big.cells false)),.list false (x.steps.map intC3)],.agg (bC false pattern)] (.t [.s [.c],.c]) (fun r=>r = .tup [.list true (((sPatternStates sig x pattern).1).map intC),bool ((sPatternStates sig x pattern).2)]):=(sPatternStates_walk sig x pattern _ (sPatternStates_vc sig x pattern hp)).mono (by rintro _ ⟨_,rfl,rfl⟩;rfl)
end Go.Ab.Vg
