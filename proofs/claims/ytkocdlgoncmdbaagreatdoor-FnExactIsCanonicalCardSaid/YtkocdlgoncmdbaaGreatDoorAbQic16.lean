/- Merged texts (16 of 17) of the proof that ends in Icy: Ktw Icz. -/
import Derived.Test.YtkocdlgoncmdbaaGreatDoorAbQic15
/- Walks by program for YtkocdlgoncmdbaaGreatDoorAbKt. -/
namespace Go.Ab.Vg
open Go.Proofs
set_option maxRecDepth 100000
set_option linter.unusedSimpArgs false
set_option linter.unusedVariables false
attribute [local simp] Control.cells GNode.cells Wire.cells intC sliceC strC bC pA
theorem e100:Ent Tryz.prog 100:=Ent.of Tryz.func100 (by kernel_rfl) rfl
theorem eqInts_walk (s1:List Int) (s2:List Int) (Z:Bool→Prop) (h:eqInts_wp s1 s2 Z):PureC Tryz.prog 100 [.list false (s1.map intC),.list false (s2.map intC)] (fun r=>∃ y:Bool,Z y∧r=bool y):=by
 unfold eqInts_wp at h
 refine PureC.of Tryz.func100 rfl Tryz.ntmps100 (by simp) fun Q hQ=>?_
 refine Runs.cut (fun ρ H n=>(ρ 0 = .list false (s1.map intC)∧ρ 1 = .list false (s2.map intC))) (by simp) ?_
 rintro ρ H n1 hh
 refine zE fun k' hk'=>?_
 simp[hh]
 apply hk'
 refine Runs.seq ?_
 refine zE fun k' hk'=>?_
 obtain⟨len2,elen2,h⟩:=atm h
 have f3:=fun H=>len_list (H:=H) (fr:=false) (f:=intC) kd_24 elen2
 obtain⟨len4,elen4,h⟩:=atm h
 have f5:=fun H=>len_list (H:=H) (fr:=false) (f:=intC) kd_24 elen4
 obtain⟨c6,ec6,h⟩:=atm h
 have f7:=ib_neq (k:=.i64) ec6
 simp[hh,f3,f5,f7,-intBin,-lenF]
 apply hk'
 refine Runs.ite (b:=c6) (by simp[hh]) (fun dc6=>?_) (fun dc6=>?_)
 ·replace h:=h.1 dc6
  refine zE fun k' hk'=>?_
  simp[hh,dc6]
  apply hk'
  exact Runs.ret1 (v:=bool false) Tryz.func100 Tryz.results100 (by simp[hh,dc6]) (hQ _ _ _ _ (.of (.v _)) ⟨false,h,rfl⟩)
 replace h:=h.2 dc6
 refine Runs.skip ?_
 refine Runs.seq ?_
 refine zE fun k' hk'=>?_
 obtain⟨len8,elen8,h⟩:=atm h
 have f9:=fun H=>len_list (H:=H) (fr:=false) (f:=intC) kd_24 elen8
 simp[hh,f9,dc6,-lenF]
 apply hk'
 refine Runs.block ?_
 refine Runs.loopW h (fun (sJ:Int) ρ H n=>match sJ with | v12=>(ρ 0 = .list false (s1.map intC)∧ρ 1 = .list false (s2.map intC)∧ρ 12=int len8∧ρ 13=int v12)) (by simp[hh,dc6]) ?_
 clear hh
 rintro v12 ρ H n13 K h hh IH14
 refine zE fun k' hk'=>?_
 obtain⟨c16,ec16,h⟩:=atm h
 have f17:=ib_lss (k:=.i64) ec16
 simp[hh,f17,-intBin]
 apply hk'
 refine Runs.seq ?_
 refine Runs.ite (b:=c16) (by simp[hh]) (fun dc16=>?_) (fun dc16=>?_)
 ·replace h:=h.1 dc16
  refine Runs.skip ?_
  refine Runs.seq ?_
  refine Runs.block ?_
  refine zE fun k' hk'=>?_
  simp[hh,dc16]
  apply hk'
  refine Runs.seqD Ty_ok kindOp_ok draws (by decide) (by kernel_rfl) fun k' hk'=>?_
  obtain⟨hb18,h⟩:=h
  obtain⟨x19,ex19,h⟩:=atm h
  have f20:=fun H=>ix_list (H:=H) (fr:=false) (f:=intC) (k:=.i64) kd_24 (fun _=>rfl) hb18 ex19
  obtain⟨hb21,h⟩:=h
  obtain⟨x22,ex22,h⟩:=atm h
  have f23:=fun H=>ix_list (H:=H) (fr:=false) (f:=intC) (k:=.i64) kd_24 (fun _=>rfl) hb21 ex22
  obtain⟨c24,ec24,h⟩:=atm h
  have f25:=ib_neq (k:=.i64) ec24
  simp[hh,f20,f23,f25,dc16,-indexAddrF,-intBin]
  apply hk'
  refine Runs.ite (b:=c24) (by simp[hh,dc16]) (fun dc24=>?_) (fun dc24=>?_)
  ·replace h:=h.1 dc24
   refine zE fun k' hk'=>?_
   simp[hh,dc16,dc24]
   apply hk'
   exact Runs.ret1 (v:=bool false) Tryz.func100 Tryz.results100 (by simp[hh,dc16,dc24]) (hQ _ _ _ _ (.of (.v _)) ⟨false,h,rfl⟩)
  replace h:=h.2 dc24
  refine Runs.skip ?_
  refine Runs.inBlock ?_
  refine zF fun k' hk'=>?_
  obtain⟨hb26,h⟩:=h
  obtain⟨v27,ev27,h⟩:=atm h
  have f28:=ib_add hb26 ev27
  simp[hh,f28,dc16,dc24,-intBin]
  apply hk'
  refine IH14 (v27) _ _ _ h (by simp[hh,dc16,dc24])
 replace h:=h.2 dc16
 refine Runs.exit rfl ?_
 refine zE fun k' hk'=>?_
 simp[hh,dc16]
 apply hk'
 exact Runs.ret1 (v:=bool true) Tryz.func100 Tryz.results100 (by simp[hh,dc16]) (hQ _ _ _ _ (.of (.v _)) ⟨true,h,rfl⟩)
theorem eqInts_ok (s1:List Int) (s2:List Int) (hp:eqInts_pre s1 s2):PureC Tryz.prog 100 [.list false (s1.map intC),.list false (s2.map intC)] (fun r=>r=bool (eqInts s1 s2)):=(eqInts_walk s1 s2 _ (eqInts_vc s1 s2 hp)).mono (by rintro _ ⟨_,rfl,rfl⟩;rfl)
theorem e102:Ent Tryz.prog 102:=Ent.of Tryz.func102 (by kernel_rfl) rfl
theorem eqWires_walk (s1:List Wire) (s2:List Wire) (Z:Bool→Prop) (h:eqWires_wp s1 s2 Z):PureC Tryz.prog 102 [.list false (s1.map Wire.cells),.list false (s2.map Wire.cells)] (fun r=>∃ y:Bool,Z y∧r=bool y):=by
 unfold eqWires_wp at h
 refine PureC.of Tryz.func102 rfl Tryz.ntmps102 (by simp) fun Q hQ=>?_
 refine Runs.cut (fun ρ H n=>(ρ 0 = .list false (s1.map Wire.cells)∧ρ 1 = .list false (s2.map Wire.cells))) (by simp) ?_
 rintro ρ H n1 hh
 refine zE fun k' hk'=>?_
 simp[hh]
 apply hk'
 refine Runs.seq ?_
 refine zE fun k' hk'=>?_
 obtain⟨len2,elen2,h⟩:=atm h
 have f3:=fun H=>len_list (H:=H) (fr:=false) (f:=Wire.cells) kd_35 elen2
 obtain⟨len4,elen4,h⟩:=atm h
 have f5:=fun H=>len_list (H:=H) (fr:=false) (f:=Wire.cells) kd_35 elen4
 obtain⟨c6,ec6,h⟩:=atm h
 have f7:=ib_neq (k:=.i64) ec6
 simp[hh,f3,f5,f7,-intBin,-lenF]
 apply hk'
 refine Runs.ite (b:=c6) (by simp[hh]) (fun dc6=>?_) (fun dc6=>?_)
 ·replace h:=h.1 dc6
  refine zE fun k' hk'=>?_
  simp[hh,dc6]
  apply hk'
  exact Runs.ret1 (v:=bool false) Tryz.func102 Tryz.results102 (by simp[hh,dc6]) (hQ _ _ _ _ (.of (.v _)) ⟨false,h,rfl⟩)
 replace h:=h.2 dc6
 refine Runs.skip ?_
 refine Runs.seq ?_
 refine zE fun k' hk'=>?_
 obtain⟨len8,elen8,h⟩:=atm h
 have f9:=fun H=>len_list (H:=H) (fr:=false) (f:=Wire.cells) kd_35 elen8
 simp[hh,f9,dc6,-lenF]
 apply hk'
 refine Runs.block ?_
 refine Runs.loopW h (fun (sJ:Int) ρ H n=>match sJ with | v12=>(ρ 0 = .list false (s1.map Wire.cells)∧ρ 1 = .list false (s2.map Wire.cells)∧ρ 12=int len8∧ρ 13=int v12)) (by simp[hh,dc6]) ?_
 clear hh
 rintro v12 ρ H n13 K h hh IH14
 refine zE fun k' hk'=>?_
 obtain⟨c16,ec16,h⟩:=atm h
 have f17:=ib_lss (k:=.i64) ec16
 simp[hh,f17,-intBin]
 apply hk'
 refine Runs.seq ?_
 refine Runs.ite (b:=c16) (by simp[hh]) (fun dc16=>?_) (fun dc16=>?_)
 ·replace h:=h.1 dc16
  refine Runs.skip ?_
  refine Runs.seq ?_
  refine Runs.block ?_
  refine zE fun k' hk'=>?_
  simp[hh,dc16]
  apply hk'
  refine Runs.seqD Ty_ok kindOp_ok draws (by decide) (by kernel_rfl) fun k' hk'=>?_
  obtain⟨hb18,h⟩:=h
  obtain⟨x19,ex19,h⟩:=atm h
  have f20:=fun H=>ix_list (H:=H) (fr:=false) (f:=Wire.cells) (k:=.i64) kd_35 (fun _=>rfl) hb18 ex19
  obtain⟨hb21,h⟩:=h
  obtain⟨x22,ex22,h⟩:=atm h
  have f23:=fun H=>ix_list (H:=H) (fr:=false) (f:=Wire.cells) (k:=.i64) kd_35 (fun _=>rfl) hb21 ex22
  obtain⟨c24,ec24,h⟩:=atm h
  simp[hh,f20,f23,dc16,-indexAddrF]
  refine RunDK.eqS (c:=c24) Ty_ok kindOp_ok [.string ⟨x19.name.toArray⟩,.int .i64 x19.link] [.string ⟨x22.name.toArray⟩,.int .i64 x22.link] (eqA_Wire x19 x22) (.inr rfl) (by rw[ec24];rfl) (by simp[hh,f20,f23,dc16,-indexAddrF]) (by simp[hh,f20,f23,dc16,-indexAddrF]) ?_
  simp[hh,f20,f23,dc16,-indexAddrF]
  apply hk'
  refine Runs.ite (b:=c24) (by simp[hh,dc16]) (fun dc24=>?_) (fun dc24=>?_)
  ·replace h:=h.1 dc24
   refine zE fun k' hk'=>?_
   simp[hh,dc16,dc24]
   apply hk'
   exact Runs.ret1 (v:=bool false) Tryz.func102 Tryz.results102 (by simp[hh,dc16,dc24]) (hQ _ _ _ _ (.of (.v _)) ⟨false,h,rfl⟩)
  replace h:=h.2 dc24
  refine Runs.skip ?_
  refine Runs.inBlock ?_
  refine zF fun k' hk'=>?_
  obtain⟨hb25,h⟩:=h
  obtain⟨v26,ev26,h⟩:=atm h
  have f27:=ib_add hb25 ev26
  simp[hh,f27,dc16,dc24,-intBin]
  apply hk'
  refine IH14 (v26) _ _ _ h (by simp[hh,dc16,dc24])
 replace h:=h.2 dc16
 refine Runs.exit rfl ?_
 refine zE fun k' hk'=>?_
 simp[hh,dc16]
 apply hk'
 exact Runs.ret1 (v:=bool true) Tryz.func102 Tryz.results102 (by simp[hh,dc16]) (hQ _ _ _ _ (.of (.v _)) ⟨true,h,rfl⟩)
theorem eqWires_ok (s1:List Wire) (s2:List Wire) (hp:eqWires_pre s1 s2):PureC Tryz.prog 102 [.list false (s1.map Wire.cells),.list false (s2.map Wire.cells)] (fun r=>r=bool (eqWires s1 s2)):=(eqWires_walk s1 s2 _ (eqWires_vc s1 s2 hp)).mono (by rintro _ ⟨_,rfl,rfl⟩;rfl)
theorem e104:Ent Tryz.prog 104:=Ent.of Tryz.func104 (by kernel_rfl) rfl
theorem sameN_walk (m:GNode) (n_:GNode) (Z:Bool→Prop) (h:sameN_wp m n_ Z):PureC Tryz.prog 104 [.agg [int m.control,int m.parent,.list false (m.links.map intC)],.agg [int n_.control,int n_.parent,.list false (n_.links.map intC)]] (fun r=>∃ y:Bool,Z y∧r=bool y):=by
 unfold sameN_wp at h
 refine PureC.of Tryz.func104 rfl Tryz.ntmps104 (by simp) fun Q hQ=>?_
 refine Runs.cut (fun ρ H n=>(ρ 0 = .agg [int m.control,int m.parent,.list false (m.links.map intC)]∧ρ 1 = .agg [int n_.control,int n_.parent,.list false (n_.links.map intC)])) (by simp) ?_
 rintro ρ H n1 hh
 refine zE fun k' hk'=>?_
 simp[hh]
 apply hk'
 refine Runs.cut (fun ρ H n=>(ρ 2=pA n1 2∧ρ 3=pA (n1+1) 3)∧H (n1,2)=some ⟨3,[[int m.control,int m.parent,.list false (m.links.map intC)]]⟩∧H (n1+1,3)=some ⟨3,[[int n_.control,int n_.parent,.list false (n_.links.map intC)]]⟩) (by refine⟨?_,?_,?_⟩<;>simp[hh]) ?_
 clear hh
 rintro ρ H n4 ⟨hh,m2_1,m3_2⟩
 refine zE fun k' hk'=>?_
 obtain⟨J5,hJ6,hr7⟩:=h
 have fin9:∀ (sJ:Bool) (ρ:Env) (H:Heap) (n:Nat),J5 sJ→(match sJ with | b8=>ρ 4=bool b8)→Runs Tryz.prog 104 24 k' ρ H n Q:=by
  rintro b8 ρ H n10 h hh
  replace h:=hr7 _ h
  apply hk'
  exact Runs.ret1 (v:=bool b8) Tryz.func104 Tryz.results104 (by simp[hh]) (hQ _ _ _ _ (.of (.v _)) ⟨b8,h,rfl⟩)
 replace h:=hJ6
 obtain⟨c11,ec11,h⟩:=atm h
 have f12:=ib_eql (k:=.i64) ec11
 rcases Bool.eq_false_or_eq_true c11 with dc11 | dc11
 ·replace h:=h.1 dc11
  obtain⟨c13,ec13,h⟩:=atm h
  have f14:=ib_eql (k:=.i64) ec13
  rcases Bool.eq_false_or_eq_true c13 with dc13 | dc13
  ·replace h:=h.1 dc13
   obtain⟨hb15,h⟩:=h
   obtain⟨r16,er16,h⟩:=atm h
   simp[hh,m2_1,m3_2,f12,f14,dc11,dc13,-intBin]
   refine RunK.callA Ty_ok (eqInts_ok m.links n_.links hb15) e100 (.cons (argI false m.links) (.cons (argI false n_.links) .nil)) (by decide) (by decide) rfl (by simp[hh,m2_1,m3_2,f12,f14,dc11,dc13,-intBin]) ?_
   rintro _ rfl
   rw[← er16]
   simp[hh,m2_1,m3_2,f12,f14,dc11,dc13,-intBin]
   exact fin9 (r16) _ _ _ h (by simp[hh,m2_1,m3_2,f12,f14,dc11,dc13,-intBin])
  replace h:=h.2 dc13
  simp[hh,m2_1,m3_2,f12,f14,dc11,dc13,-intBin]
  exact fin9 (false) _ _ _ h (by simp[hh,m2_1,m3_2,f12,f14,dc11,dc13,-intBin])
 replace h:=h.2 dc11
 simp[hh,m2_1,m3_2,f12,dc11,-intBin]
 exact fin9 (false) _ _ _ h (by simp[hh,m2_1,m3_2,f12,dc11,-intBin])
theorem sameN_ok (m:GNode) (n_:GNode) (hp:sameN_pre m n_):PureC Tryz.prog 104 [.agg [int m.control,int m.parent,.list false (m.links.map intC)],.agg [int n_.control,int n_.parent,.list false (n_.links.map intC)]] (fun r=>r=bool (sameN m n_)):=(sameN_walk m n_ _ (sameN_vc m n_ hp)).mono (by rintro _ ⟨_,rfl,rfl⟩;rfl)
theorem e103:Ent Tryz.prog 103:=Ent.of Tryz.func103 (by kernel_rfl) rfl
theorem eqF_walk {gF2:FuncId} {cF2:List AVal} (s1:List GNode) (s2:List GNode) (f2:GNode→GNode→Bool) (D2:GNode→GNode→Prop) (heF2:Ent Tryz.prog gF2) (hcF2:∀ H n,ArgsOk H n cF2 cF2) (hF2:∀ z0 z1,D2 z0 z1→PureC Tryz.prog gF2 ((.agg [int z0.control,int z0.parent,.list false (z0.links.map intC)])::(.agg [int z1.control,int z1.parent,.list false (z1.links.map intC)])::cF2) (fun r=>r=bool (f2 z0 z1))) (Z:Bool→Prop) (h:eqF_wp s1 s2 f2 D2 Z):PureC Tryz.prog 103 [.list false (s1.map (GNode.cells false)),.list false (s2.map (GNode.cells false)),.fn (.func gF2) [] cF2] (fun r=>∃ y:Bool,Z y∧r=bool y):=by
 unfold eqF_wp at h
 refine PureC.of Tryz.func103 rfl Tryz.ntmps103 (by simp) fun Q hQ=>?_
 refine Runs.cut (fun ρ H n=>(ρ 0 = .list false (s1.map (GNode.cells false))∧ρ 1 = .list false (s2.map (GNode.cells false))∧ρ 2 = .fn (.func gF2) [] cF2)) (by simp) ?_
 rintro ρ H n1 hh
 refine zE fun k' hk'=>?_
 simp[hh]
 apply hk'
 refine Runs.seq ?_
 refine zE fun k' hk'=>?_
 obtain⟨len2,elen2,h⟩:=atm h
 have f3:=fun H=>len_list (H:=H) (fr:=false) (f:=(GNode.cells false)) kd_34 elen2
 obtain⟨len4,elen4,h⟩:=atm h
 have f5:=fun H=>len_list (H:=H) (fr:=false) (f:=(GNode.cells false)) kd_34 elen4
 obtain⟨c6,ec6,h⟩:=atm h
 have f7:=ib_neq (k:=.i64) ec6
 simp[hh,f3,f5,f7,-intBin,-lenF]
 apply hk'
 refine Runs.ite (b:=c6) (by simp[hh]) (fun dc6=>?_) (fun dc6=>?_)
 ·replace h:=h.1 dc6
  refine zE fun k' hk'=>?_
  simp[hh,dc6]
  apply hk'
  exact Runs.ret1 (v:=bool false) Tryz.func103 Tryz.results103 (by simp[hh,dc6]) (hQ _ _ _ _ (.of (.v _)) ⟨false,h,rfl⟩)
 replace h:=h.2 dc6
 refine Runs.skip ?_
 refine Runs.seq ?_
 refine zE fun k' hk'=>?_
 obtain⟨len8,elen8,h⟩:=atm h
 have f9:=fun H=>len_list (H:=H) (fr:=false) (f:=(GNode.cells false)) kd_34 elen8
 simp[hh,f9,dc6,-lenF]
 apply hk'
 refine Runs.block ?_
 refine Runs.loopW h (fun (sJ:Int) ρ H n=>match sJ with | v12=>(ρ 1 = .list false (s2.map (GNode.cells false))∧ρ 2 = .fn (.func gF2) [] cF2∧ρ 15 = .list false (s1.map (GNode.cells false))∧ρ 16=int len8∧ρ 17=int v12)) (by simp[hh,dc6]) ?_
 clear hh
 rintro v12 ρ H n13 K h hh IH14
 refine zE fun k' hk'=>?_
 obtain⟨c16,ec16,h⟩:=atm h
 have f17:=ib_lss (k:=.i64) ec16
 simp[hh,f17,-intBin]
 apply hk'
 refine Runs.seq ?_
 refine Runs.ite (b:=c16) (by simp[hh]) (fun dc16=>?_) (fun dc16=>?_)
 ·replace h:=h.1 dc16
  refine Runs.skip ?_
  refine Runs.seq ?_
  refine Runs.block ?_
  refine zE fun k' hk'=>?_
  obtain⟨hb18,h⟩:=h
  obtain⟨x19,ex19,h⟩:=atm h
  have f20:=fun H=>ix_list (H:=H) (fr:=false) (f:=(GNode.cells false)) (k:=.i64) kd_34 (fun _=>rfl) hb18 ex19
  simp[hh,f20,dc16,-indexAddrF]
  apply hk'
  refine Runs.cut (fun ρ H n=>(ρ 1 = .list false (s2.map (GNode.cells false))∧ρ 2 = .fn (.func gF2) [] cF2∧ρ 7=int v12∧ρ 8=pA n13 8∧ρ 15 = .list false (s1.map (GNode.cells false))∧ρ 16=int len8∧ρ 17=int v12)∧H (n13,8)=some ⟨3,[[int x19.control,int x19.parent,.list false (x19.links.map intC)]]⟩) (by refine⟨?_,?_⟩<;>simp[hh,f20,dc16,-indexAddrF]) ?_
  clear hh
  rintro ρ H n22 ⟨hh,m8_20⟩
  refine zE fun k' hk'=>?_
  obtain⟨hb23,h⟩:=h
  obtain⟨x24,ex24,h⟩:=atm h
  have f25:=fun H=>ix_list (H:=H) (fr:=false) (f:=(GNode.cells false)) (k:=.i64) kd_34 (fun _=>rfl) hb23 ex24
  simp[hh,m8_20,f25,-indexAddrF]
  apply hk'
  refine Runs.cut (fun ρ H n=>(ρ 1 = .list false (s2.map (GNode.cells false))∧ρ 2 = .fn (.func gF2) [] cF2∧ρ 8=pA n13 8∧ρ 9=pA n22 9∧ρ 15 = .list false (s1.map (GNode.cells false))∧ρ 16=int len8∧ρ 17=int v12)∧H (n13,8)=some ⟨3,[[int x19.control,int x19.parent,.list false (x19.links.map intC)]]⟩∧H (n22,9)=some ⟨3,[[int x24.control,int x24.parent,.list false (x24.links.map intC)]]⟩) (by refine⟨?_,?_,?_⟩<;>simp[hh,m8_20,f25,-indexAddrF]) ?_
  clear hh m8_20
  rintro ρ H n27 ⟨hh,m8_20,m9_25⟩
  refine zE fun k' hk'=>?_
  obtain⟨hb28,h⟩:=h
  obtain⟨r29,er29,h⟩:=atm h
  simp[hh,m8_20,m9_25]
  refine RunK.callG (xs1:=[.agg [int x19.control,int x19.parent,.list false (x19.links.map intC)],.agg [int x24.control,int x24.parent,.list false (x24.links.map intC)]]) (xs2:=[.agg [int x19.control,int x19.parent,.list false (x19.links.map intC)],.agg [int x24.control,int x24.parent,.list false (x24.links.map intC)]]) Ty_ok (hF2 x19 x24 hb28) heF2 (.cons (ArgOk.agg (.cons (.v _ _ _) (.cons (.v _ _ _) (.cons (argI false x19.links) .nil)))) (.cons (ArgOk.agg (.cons (.v _ _ _) (.cons (.v _ _ _) (.cons (argI false x24.links) .nil)))) .nil)) (hcF2 _ _) (by decide) (by decide) rfl (by simp[hh,m8_20,m9_25]) ?_
  rintro _ rfl
  rw[← er29]
  simp[hh,m8_20,m9_25]
  apply hk'
  refine Runs.ite (b:=(!r29)) (by simp[hh,m8_20,m9_25]) (fun dr29=>?_) (fun dr29=>?_)
  ·have dr29:r29=false:=by simpa using dr29
   replace h:=h.2 dr29
   refine zE fun k' hk'=>?_
   simp[hh,m8_20,m9_25,dr29]
   apply hk'
   exact Runs.ret1 (v:=bool false) Tryz.func103 Tryz.results103 (by simp[hh,m8_20,m9_25,dr29]) (hQ _ _ _ _ (.of (.v _)) ⟨false,h,rfl⟩)
  have dr29:r29=true:=by simpa using dr29
  replace h:=h.1 dr29
  refine Runs.skip ?_
  refine Runs.inBlock ?_
  refine zF fun k' hk'=>?_
  obtain⟨hb30,h⟩:=h
  obtain⟨v31,ev31,h⟩:=atm h
  have f32:=ib_add hb30 ev31
  simp[hh,m8_20,m9_25,f32,dr29,-intBin]
  apply hk'
  refine IH14 (v31) _ _ _ h (by simp[hh,m8_20,m9_25,dr29])
 replace h:=h.2 dc16
 refine Runs.exit rfl ?_
 refine zE fun k' hk'=>?_
 simp[hh,dc16]
 apply hk'
 exact Runs.ret1 (v:=bool true) Tryz.func103 Tryz.results103 (by simp[hh,dc16]) (hQ _ _ _ _ (.of (.v _)) ⟨true,h,rfl⟩)
theorem eqF_ok {gF2:FuncId} {cF2:List AVal} (s1:List GNode) (s2:List GNode) (f2:GNode→GNode→Bool) (D2:GNode→GNode→Prop) (heF2:Ent Tryz.prog gF2) (hcF2:∀ H n,ArgsOk H n cF2 cF2) (hF2:∀ z0 z1,D2 z0 z1→PureC Tryz.prog gF2 ((.agg [int z0.control,int z0.parent,.list false (z0.links.map intC)])::(.agg [int z1.control,int z1.parent,.list false (z1.links.map intC)])::cF2) (fun r=>r=bool (f2 z0 z1))) (hp:eqF_pre s1 s2 f2 D2):PureC Tryz.prog 103 [.list false (s1.map (GNode.cells false)),.list false (s2.map (GNode.cells false)),.fn (.func gF2) [] cF2] (fun r=>r=bool (eqF s1 s2 f2 D2)):=(eqF_walk s1 s2 f2 D2 heF2 hcF2 hF2 _ (eqF_vc s1 s2 f2 D2 hp)).mono (by rintro _ ⟨_,rfl,rfl⟩;rfl)
theorem e41:Ent Tryz.prog 41:=Ent.of Tryz.func41 (by kernel_rfl) rfl
theorem sameB_walk (a:Big) (b:Big) (Z:Bool→Prop) (h:sameB_wp a b Z):PureC Tryz.prog 41 [.agg (bC false a),.agg (bC false b)] (fun r=>∃ y:Bool,Z y∧r=bool y):=by
 unfold sameB_wp at h
 refine PureC.of Tryz.func41 rfl Tryz.ntmps41 (by simp) fun Q hQ=>?_
 refine Runs.cut (fun ρ H n=>(ρ 0 = .agg (bC false a)∧ρ 1 = .agg (bC false b))) (by simp) ?_
 rintro ρ H n1 hh
 refine zE fun k' hk'=>?_
 simp[hh]
 apply hk'
 refine Runs.cut (fun ρ H n=>(ρ 2=pA n1 2∧ρ 3=pA (n1+1) 3)∧H (n1,2)=some ⟨6,[bC false a]⟩∧H (n1+1,3)=some ⟨6,[bC false b]⟩) (by refine⟨?_,?_,?_⟩<;>simp[hh]) ?_
 clear hh
 rintro ρ H n4 ⟨hh,m2_1,m3_2⟩
 refine zE fun k' hk'=>?_
 obtain⟨J5,hJ6,hr7⟩:=h
 have fin9:∀ (sJ:Bool) (ρ:Env) (H:Heap) (n:Nat),J5 sJ→(match sJ with | b8=>ρ 4=bool b8)→Runs Tryz.prog 41 45 k' ρ H n Q:=by
  rintro b8 ρ H n10 h hh
  replace h:=hr7 _ h
  apply hk'
  exact Runs.ret1 (v:=bool b8) Tryz.func41 Tryz.results41 (by simp[hh]) (hQ _ _ _ _ (.of (.v _)) ⟨b8,h,rfl⟩)
 replace h:=hJ6
 obtain⟨c11,ec11,h⟩:=atm h
 have f12:=ib_eql (k:=.i64) ec11
 rcases Bool.eq_false_or_eq_true c11 with dc11 | dc11
 ·replace h:=h.1 dc11
  obtain⟨c13,ec13,h⟩:=atm h
  have f14:=ib_eql (k:=.i64) ec13
  rcases Bool.eq_false_or_eq_true c13 with dc13 | dc13
  ·replace h:=h.1 dc13
   obtain⟨hb15,h⟩:=h
   obtain⟨r16,er16,h⟩:=atm h
   simp[hh,m2_1,m3_2,f12,f14,dc11,dc13,-intBin]
   refine RunK.callA Ty_ok (eqInts_ok a.sites b.sites hb15) e100 (.cons (argI false a.sites) (.cons (argI false b.sites) .nil)) (by decide) (by decide) rfl (by simp[hh,m2_1,m3_2,f12,f14,dc11,dc13,-intBin]) ?_
   rintro _ rfl
   rw[← er16]
   rcases Bool.eq_false_or_eq_true r16 with dr16 | dr16
   ·replace h:=h.1 dr16
    obtain⟨hb17,h⟩:=h
    obtain⟨r18,er18,h⟩:=atm h
    simp[hh,m2_1,m3_2,f12,f14,dc11,dc13,dr16,-intBin]
    refine RunK.callA Ty_ok (eqStrs_ok a.outer b.outer hb17) e101 (.cons (argS false a.outer) (.cons (argS false b.outer) .nil)) (by decide) (by decide) rfl (by simp[hh,m2_1,m3_2,f12,f14,dc11,dc13,dr16,-intBin]) ?_
    rintro _ rfl
    rw[← er18]
    rcases Bool.eq_false_or_eq_true r18 with dr18 | dr18
    ·replace h:=h.1 dr18
     obtain⟨hb19,h⟩:=h
     obtain⟨r20,er20,h⟩:=atm h
     simp[hh,m2_1,m3_2,f12,f14,dc11,dc13,dr16,dr18,-intBin]
     refine RunK.callA Ty_ok (eqWires_ok a.inner b.inner hb19) e102 (.cons (argW false a.inner) (.cons (argW false b.inner) .nil)) (by decide) (by decide) rfl (by simp[hh,m2_1,m3_2,f12,f14,dc11,dc13,dr16,dr18,-intBin]) ?_
     rintro _ rfl
     rw[← er20]
     rcases Bool.eq_false_or_eq_true r20 with dr20 | dr20
     ·replace h:=h.1 dr20
      obtain⟨hb21,h⟩:=h
      obtain⟨r22,er22,h⟩:=atm h
      simp[hh,m2_1,m3_2,f12,f14,dc11,dc13,dr16,dr18,dr20,-intBin]
      refine RunK.callA Ty_ok (eqF_ok a.nodes b.nodes (fun z0 z1=>sameN z0 z1) (fun z0 z1=>sameN_pre z0 z1) e104 (fun _ _=>by exact .nil) (fun z0 z1 hz=>sameN_ok z0 z1 hz) hb21) e103 (.cons (ArgOk.nest_Node false a.nodes) (.cons (ArgOk.nest_Node false b.nodes) (.cons (ArgOk.fnF .nil .nil) .nil))) (by decide) (by decide) rfl (by simp[hh,m2_1,m3_2,f12,f14,dc11,dc13,dr16,dr18,dr20,-intBin]) ?_
      rintro _ rfl
      rw[← er22]
      simp[hh,m2_1,m3_2,f12,f14,dc11,dc13,dr16,dr18,dr20,-intBin]
      exact fin9 (r22) _ _ _ h (by simp[hh,m2_1,m3_2,f12,f14,dc11,dc13,dr16,dr18,dr20,-intBin])
     replace h:=h.2 dr20
     simp[hh,m2_1,m3_2,f12,f14,dc11,dc13,dr16,dr18,dr20,-intBin]
     exact fin9 (false) _ _ _ h (by simp[hh,m2_1,m3_2,f12,f14,dc11,dc13,dr16,dr18,dr20,-intBin])
    replace h:=h.2 dr18
    simp[hh,m2_1,m3_2,f12,f14,dc11,dc13,dr16,dr18,-intBin]
    exact fin9 (false) _ _ _ h (by simp[hh,m2_1,m3_2,f12,f14,dc11,dc13,dr16,dr18,-intBin])
   replace h:=h.2 dr16
   simp[hh,m2_1,m3_2,f12,f14,dc11,dc13,dr16,-intBin]
   exact fin9 (false) _ _ _ h (by simp[hh,m2_1,m3_2,f12,f14,dc11,dc13,dr16,-intBin])
  replace h:=h.2 dc13
  simp[hh,m2_1,m3_2,f12,f14,dc11,dc13,-intBin]
  exact fin9 (false) _ _ _ h (by simp[hh,m2_1,m3_2,f12,f14,dc11,dc13,-intBin])
 replace h:=h.2 dc11
 simp[hh,m2_1,m3_2,f12,dc11,-intBin]
 exact fin9 (false) _ _ _ h (by simp[hh,m2_1,m3_2,f12,dc11,-intBin])
theorem sameB_ok (a:Big) (b:Big) (hp:sameB_pre a b):PureC Tryz.prog 41 [.agg (bC false a),.agg (bC false b)] (fun r=>r=bool (sameB a b)):=(sameB_walk a b _ (sameB_vc a b hp)).mono (by rintro _ ⟨_,rfl,rfl⟩;rfl)
theorem e33:Ent Tryz.prog 33:=Ent.of Tryz.func33 (by kernel_rfl) rfl
theorem sameS_walk (a:Big) (b:Big) (Z:Bool→Prop) (h:sameS_wp a b Z):PureC Tryz.prog 33 [.agg (bC false a),.agg (bC false b)] (fun r=>∃ y:Bool,Z y∧r=bool y):=by
 unfold sameS_wp at h
 refine PureC.of Tryz.func33 rfl Tryz.ntmps33 (by simp) fun Q hQ=>?_
 refine Runs.cut (fun ρ H n=>(ρ 0 = .agg (bC false a)∧ρ 1 = .agg (bC false b))) (by simp) ?_
 rintro ρ H n1 hh
 refine zE fun k' hk'=>?_
 simp[hh]
 apply hk'
 refine Runs.cut (fun ρ H n=>(ρ 2=pA n1 2∧ρ 3=pA (n1+1) 3)∧H (n1,2)=some ⟨6,[bC false a]⟩∧H (n1+1,3)=some ⟨6,[bC false b]⟩) (by refine⟨?_,?_,?_⟩<;>simp[hh]) ?_
 clear hh
 rintro ρ H n4 ⟨hh,m2_1,m3_2⟩
 refine Runs.seq ?_
 refine zE fun k' hk'=>?_
 obtain⟨J5,hJ6,hr7⟩:=h
 have fin9:∀ (sJ:Bool) (ρ:Env) (H:Heap) (n:Nat),J5 sJ→(match sJ with | b8=>(ρ 2=pA n1 2∧ρ 3=pA (n1+1) 3∧ρ 54=bool b8)∧H (n1,2)=some ⟨6,[bC false a]⟩∧H (n1+1,3)=some ⟨6,[bC false b]⟩)→Runs Tryz.prog 33 142 k' ρ H n Q:=by
  rintro b8 ρ H n10 h ⟨hh,m2_1,m3_2⟩
  replace h:=hr7 _ h
  apply hk'
  refine Runs.ite (b:=b8) (by simp[hh,m2_1,m3_2]) (fun db8=>?_) (fun db8=>?_)
  ·replace h:=h.1 db8
   refine zE fun k' hk'=>?_
   simp[hh,m2_1,m3_2,db8]
   apply hk'
   exact Runs.ret1 (v:=bool false) Tryz.func33 Tryz.results33 (by simp[hh,m2_1,m3_2,db8]) (hQ _ _ _ _ (.of (.v _)) ⟨false,h,rfl⟩)
  replace h:=h.2 db8
  refine Runs.skip ?_
  refine Runs.seq ?_
  refine zE fun k' hk'=>?_
  simp[hh,m2_1,m3_2,db8]
  apply hk'
  refine Runs.block ?_
  refine Runs.loopW h (fun (sJ:Int) ρ H n=>match sJ with | i13=>(ρ 2=pA n1 2∧ρ 3=pA (n1+1) 3∧ρ 5=int i13)∧H (n1,2)=some ⟨6,[bC false a]⟩∧H (n1+1,3)=some ⟨6,[bC false b]⟩) (by refine⟨?_,?_,?_⟩<;>simp[hh,m2_1,m3_2,db8]) ?_
  clear hh m2_1 m3_2
  rintro i13 ρ H n14 K h ⟨hh,m2_1,m3_2⟩ IH15
  refine Runs.seq ?_
  refine zE fun k' hk'=>?_
  obtain⟨len17,elen17,h⟩:=atm h
  have f18:=fun H=>len_list (H:=H) (fr:=false) (f:=(GNode.cells false)) kd_34 elen17
  obtain⟨c19,ec19,h⟩:=atm h
  have f20:=ib_lss (k:=.i64) ec19
  simp[hh,m2_1,m3_2,f18,f20,-intBin,-lenF]
  apply hk'
  refine Runs.ite (b:=c19) (by simp[hh,m2_1,m3_2]) (fun dc19=>?_) (fun dc19=>?_)
  ·replace h:=h.1 dc19
   refine Runs.skip ?_
   refine Runs.seq ?_
   refine Runs.block ?_
   refine Runs.seqD Ty_ok kindOp_ok draws (by decide) (by kernel_rfl) fun k' hk'=>?_
   obtain⟨J21,hJ22,hr23⟩:=h
   have fin25:∀ (sJ:Bool) (ρ:Env) (H:Heap) (n:Nat),J21 sJ→(match sJ with | b24=>(ρ 2=pA n1 2∧ρ 3=pA (n1+1) 3∧ρ 5=int i13∧ρ 105=bool b24)∧H (n1,2)=some ⟨6,[bC false a]⟩∧H (n1+1,3)=some ⟨6,[bC false b]⟩)→Runs Tryz.prog 33 142 k' ρ H n Q:=by
    rintro b24 ρ H n26 h ⟨hh,m2_1,m3_2⟩
    replace h:=hr23 _ h
    apply hk'
    refine Runs.ite (b:=b24) (by simp[hh,m2_1,m3_2]) (fun db24=>?_) (fun db24=>?_)
    ·replace h:=h.1 db24
     refine zE fun k' hk'=>?_
     simp[hh,m2_1,m3_2,db24]
     apply hk'
     exact Runs.ret1 (v:=bool false) Tryz.func33 Tryz.results33 (by simp[hh,m2_1,m3_2,db24]) (hQ _ _ _ _ (.of (.v _)) ⟨false,h,rfl⟩)
    replace h:=h.2 db24
    refine Runs.skip ?_
    refine Runs.inBlock ?_
    refine zF fun k' hk'=>?_
    obtain⟨hb27,h⟩:=h
    obtain⟨v28,ev28,h⟩:=atm h
    have f29:=ib_add hb27 ev28
    simp[hh,m2_1,m3_2,f29,db24,-intBin]
    apply hk'
    refine IH15 (v28) _ _ _ h (by refine⟨?_,?_,?_⟩<;>simp[hh,m2_1,m3_2,db24])
   replace h:=hJ22
   obtain⟨hb30,h⟩:=h
   obtain⟨x31,ex31,h⟩:=atm h
   have f32:=fun H=>ix_list (H:=H) (fr:=false) (f:=(GNode.cells false)) (k:=.i64) kd_34 (fun _=>rfl) hb30 ex31
   obtain⟨hb33,h⟩:=h
   obtain⟨x34,ex34,h⟩:=atm h
   have f35:=fun H=>ix_list (H:=H) (fr:=false) (f:=(GNode.cells false)) (k:=.i64) kd_34 (fun _=>rfl) hb33 ex34
   obtain⟨c36,ec36,h⟩:=atm h
   have f37:=ib_neq (k:=.i64) ec36
   rcases Bool.eq_false_or_eq_true c36 with dc36 | dc36
   ·replace h:=h.1 dc36
    simp[hh,m2_1,m3_2,f32,f35,f37,dc19,dc36,-indexAddrF,-intBin]
    exact fin25 (true) _ _ _ h (by refine⟨?_,?_,?_⟩<;>simp[hh,m2_1,m3_2,f32,f35,f37,dc19,dc36,-indexAddrF,-intBin])
   replace h:=h.2 dc36
   obtain⟨hb38,h⟩:=h
   obtain⟨x39,ex39,h⟩:=atm h
   have hq40:=ex31.trans ex39.symm
   subst hq40
   have f41:=fun H=>ix_list (H:=H) (fr:=false) (f:=(GNode.cells false)) (k:=.i64) kd_34 (fun _=>rfl) hb38 ex31
   obtain⟨hb42,h⟩:=h
   obtain⟨x43,ex43,h⟩:=atm h
   have hq44:=ex34.trans ex43.symm
   subst hq44
   have f45:=fun H=>ix_list (H:=H) (fr:=false) (f:=(GNode.cells false)) (k:=.i64) kd_34 (fun _=>rfl) hb42 ex34
   obtain⟨c46,ec46,h⟩:=atm h
   have f47:=ib_neq (k:=.i64) ec46
   rcases Bool.eq_false_or_eq_true c46 with dc46 | dc46
   ·replace h:=h.1 dc46
    simp[hh,m2_1,m3_2,f32,f35,f37,f41,f45,f47,dc19,dc36,dc46,-indexAddrF,-intBin]
    exact fin25 (true) _ _ _ h (by refine⟨?_,?_,?_⟩<;>simp[hh,m2_1,m3_2,f32,f35,f37,f41,f45,f47,dc19,dc36,dc46,-indexAddrF,-intBin])
   replace h:=h.2 dc46
   obtain⟨hb48,h⟩:=h
   obtain⟨x49,ex49,h⟩:=atm h
   have hq50:=ex31.trans ex49.symm
   subst hq50
   have f51:=fun H=>ix_list (H:=H) (fr:=false) (f:=(GNode.cells false)) (k:=.i64) kd_34 (fun _=>rfl) hb48 ex31
   obtain⟨hb52,h⟩:=h
   obtain⟨x53,ex53,h⟩:=atm h
   have hq54:=ex34.trans ex53.symm
   subst hq54
   have f55:=fun H=>ix_list (H:=H) (fr:=false) (f:=(GNode.cells false)) (k:=.i64) kd_34 (fun _=>rfl) hb52 ex34
   obtain⟨hb56,h⟩:=h
   obtain⟨r57,er57,h⟩:=atm h
   simp[hh,m2_1,m3_2,f32,f35,f37,f41,f45,f47,f51,f55,dc19,dc36,dc46,-indexAddrF,-intBin]
   refine RunDK.callA Ty_ok kindOp_ok (sameZ_ok x31.links x34.links hb56) e82 (.cons (argI false x31.links) (.cons (argI false x34.links) .nil)) (by decide) rfl (by simp[hh,m2_1,m3_2,f32,f35,f37,f41,f45,f47,f51,f55,dc19,dc36,dc46,-indexAddrF,-intBin]) ?_
   rw[← er57]
   simp[hh,m2_1,m3_2,f32,f35,f37,f41,f45,f47,f51,f55,dc19,dc36,dc46,-indexAddrF,-intBin]
   exact fin25 ((!r57)) _ _ _ h (by refine⟨?_,?_,?_⟩<;>simp[hh,m2_1,m3_2,f32,f35,f37,f41,f45,f47,f51,f55,dc19,dc36,dc46,-indexAddrF,-intBin])
  replace h:=h.2 dc19
  refine Runs.exit rfl ?_
  refine Runs.seq ?_
  refine zE fun k' hk'=>?_
  simp[hh,m2_1,m3_2,dc19]
  apply hk'
  refine Runs.block ?_
  refine Runs.loopW h (fun (sJ:Int) ρ H n=>match sJ with | i60=>(ρ 2=pA n1 2∧ρ 3=pA (n1+1) 3∧ρ 6=int i60)∧H (n1,2)=some ⟨6,[bC false a]⟩∧H (n1+1,3)=some ⟨6,[bC false b]⟩) (by refine⟨?_,?_,?_⟩<;>simp[hh,m2_1,m3_2,dc19]) ?_
  clear hh m2_1 m3_2
  rintro i60 ρ H n61 K h ⟨hh,m2_1,m3_2⟩ IH62
  refine Runs.seq ?_
  refine zE fun k' hk'=>?_
  obtain⟨len64,elen64,h⟩:=atm h
  have f65:=fun H=>len_list (H:=H) (fr:=false) (f:=strC) kd_25 elen64
  obtain⟨c66,ec66,h⟩:=atm h
  have f67:=ib_lss (k:=.i64) ec66
  simp[hh,m2_1,m3_2,f65,f67,-intBin,-lenF]
  apply hk'
  refine Runs.ite (b:=c66) (by simp[hh,m2_1,m3_2]) (fun dc66=>?_) (fun dc66=>?_)
  ·replace h:=h.1 dc66
   refine Runs.skip ?_
   refine Runs.seq ?_
   refine Runs.block ?_
   refine Runs.seqD Ty_ok kindOp_ok draws (by decide) (by kernel_rfl) fun k' hk'=>?_
   obtain⟨hb68,h⟩:=h
   obtain⟨x69,ex69,h⟩:=atm h
   have f70:=fun H=>ix_list (H:=H) (fr:=false) (f:=strC) (k:=.i64) kd_25 (fun _=>rfl) hb68 ex69
   obtain⟨hb71,h⟩:=h
   obtain⟨x72,ex72,h⟩:=atm h
   have f73:=fun H=>ix_list (H:=H) (fr:=false) (f:=strC) (k:=.i64) kd_25 (fun _=>rfl) hb71 ex72
   obtain⟨c74,ec74,h⟩:=atm h
   have f75:=sb_neq ec74
   simp[hh,m2_1,m3_2,f70,f73,f75,dc66,-indexAddrF,-strBin]
   apply hk'
   refine Runs.cut (fun ρ H n=>(ρ 2=pA n1 2∧ρ 3=pA (n1+1) 3∧ρ 6=int i60∧ρ 123=bool c74)∧H (n1,2)=some ⟨6,[bC false a]⟩∧H (n1+1,3)=some ⟨6,[bC false b]⟩) (by refine⟨?_,?_,?_⟩<;>simp[hh,m2_1,m3_2,f70,f73,f75,dc66,-indexAddrF,-strBin]) ?_
   clear hh m2_1 m3_2
   rintro ρ H n76 ⟨hh,m2_1,m3_2⟩
   refine Runs.ite (b:=c74) (by simp[hh,m2_1,m3_2]) (fun dc74=>?_) (fun dc74=>?_)
   ·replace h:=h.1 dc74
    refine zE fun k' hk'=>?_
    simp[hh,m2_1,m3_2,dc74]
    apply hk'
    exact Runs.ret1 (v:=bool false) Tryz.func33 Tryz.results33 (by simp[hh,m2_1,m3_2,dc74]) (hQ _ _ _ _ (.of (.v _)) ⟨false,h,rfl⟩)
   replace h:=h.2 dc74
   refine Runs.skip ?_
   refine Runs.inBlock ?_
   refine zF fun k' hk'=>?_
   obtain⟨hb77,h⟩:=h
   obtain⟨v78,ev78,h⟩:=atm h
   have f79:=ib_add hb77 ev78
   simp[hh,m2_1,m3_2,f79,dc74,-intBin]
   apply hk'
   refine IH62 (v78) _ _ _ h (by refine⟨?_,?_,?_⟩<;>simp[hh,m2_1,m3_2,dc74])
  replace h:=h.2 dc66
  refine Runs.exit rfl ?_
  refine Runs.seq ?_
  refine zE fun k' hk'=>?_
  simp[hh,m2_1,m3_2,dc66]
  apply hk'
  refine Runs.block ?_
  refine Runs.loopW h (fun (sJ:Int) ρ H n=>match sJ with | i82=>(ρ 2=pA n1 2∧ρ 3=pA (n1+1) 3∧ρ 7=int i82)∧H (n1,2)=some ⟨6,[bC false a]⟩∧H (n1+1,3)=some ⟨6,[bC false b]⟩) (by refine⟨?_,?_,?_⟩<;>simp[hh,m2_1,m3_2,dc66]) ?_
  clear hh m2_1 m3_2
  rintro i82 ρ H n83 K h ⟨hh,m2_1,m3_2⟩ IH84
  refine Runs.seq ?_
  refine zE fun k' hk'=>?_
  obtain⟨len86,elen86,h⟩:=atm h
  have f87:=fun H=>len_list (H:=H) (fr:=false) (f:=Wire.cells) kd_35 elen86
  obtain⟨c88,ec88,h⟩:=atm h
  have f89:=ib_lss (k:=.i64) ec88
  simp[hh,m2_1,m3_2,f87,f89,-intBin,-lenF]
  apply hk'
  refine Runs.ite (b:=c88) (by simp[hh,m2_1,m3_2]) (fun dc88=>?_) (fun dc88=>?_)
  ·replace h:=h.1 dc88
   refine Runs.skip ?_
   refine Runs.seq ?_
   refine Runs.block ?_
   refine Runs.seqD Ty_ok kindOp_ok draws (by decide) (by kernel_rfl) fun k' hk'=>?_
   obtain⟨hb90,h⟩:=h
   obtain⟨x91,ex91,h⟩:=atm h
   have f92:=fun H=>ix_list (H:=H) (fr:=false) (f:=Wire.cells) (k:=.i64) kd_35 (fun _=>rfl) hb90 ex91
   obtain⟨hb93,h⟩:=h
   obtain⟨x94,ex94,h⟩:=atm h
   have f95:=fun H=>ix_list (H:=H) (fr:=false) (f:=Wire.cells) (k:=.i64) kd_35 (fun _=>rfl) hb93 ex94
   obtain⟨c96,ec96,h⟩:=atm h
   simp[hh,m2_1,m3_2,f92,f95,dc88,-indexAddrF]
   refine RunDK.eqS (c:=c96) Ty_ok kindOp_ok [.string ⟨x91.name.toArray⟩,.int .i64 x91.link] [.string ⟨x94.name.toArray⟩,.int .i64 x94.link] (eqA_Wire x91 x94) (.inr rfl) (by rw[ec96];rfl) (by simp[hh,m2_1,m3_2,f92,f95,dc88,-indexAddrF]) (by simp[hh,m2_1,m3_2,f92,f95,dc88,-indexAddrF]) ?_
   simp[hh,m2_1,m3_2,f92,f95,dc88,-indexAddrF]
   apply hk'
   refine Runs.cut (fun ρ H n=>(ρ 2=pA n1 2∧ρ 3=pA (n1+1) 3∧ρ 7=int i82∧ρ 141=bool c96)∧H (n1,2)=some ⟨6,[bC false a]⟩∧H (n1+1,3)=some ⟨6,[bC false b]⟩) (by refine⟨?_,?_,?_⟩<;>simp[hh,m2_1,m3_2,f92,f95,dc88,-indexAddrF]) ?_
   clear hh m2_1 m3_2
   rintro ρ H n97 ⟨hh,m2_1,m3_2⟩
   refine Runs.ite (b:=c96) (by simp[hh,m2_1,m3_2]) (fun dc96=>?_) (fun dc96=>?_)
   ·replace h:=h.1 dc96
    refine zE fun k' hk'=>?_
    simp[hh,m2_1,m3_2,dc96]
    apply hk'
    exact Runs.ret1 (v:=bool false) Tryz.func33 Tryz.results33 (by simp[hh,m2_1,m3_2,dc96]) (hQ _ _ _ _ (.of (.v _)) ⟨false,h,rfl⟩)
   replace h:=h.2 dc96
   refine Runs.skip ?_
   refine Runs.inBlock ?_
   refine zF fun k' hk'=>?_
   obtain⟨hb98,h⟩:=h
   obtain⟨v99,ev99,h⟩:=atm h
   have f100:=ib_add hb98 ev99
   simp[hh,m2_1,m3_2,f100,dc96,-intBin]
   apply hk'
   refine IH84 (v99) _ _ _ h (by refine⟨?_,?_,?_⟩<;>simp[hh,m2_1,m3_2,dc96])
  replace h:=h.2 dc88
  refine Runs.exit rfl ?_
  refine zE fun k' hk'=>?_
  simp[hh,m2_1,m3_2,dc88]
  apply hk'
  exact Runs.ret1 (v:=bool true) Tryz.func33 Tryz.results33 (by simp[hh,m2_1,m3_2,dc88]) (hQ _ _ _ _ (.of (.v _)) ⟨true,h,rfl⟩)
 replace h:=hJ6
 obtain⟨c101,ec101,h⟩:=atm h
 have f102:=ib_neq (k:=.i64) ec101
 rcases Bool.eq_false_or_eq_true c101 with dc101 | dc101
 ·replace h:=h.1 dc101
  simp[hh,m2_1,m3_2,f102,dc101,-intBin]
  exact fin9 (true) _ _ _ h (by refine⟨?_,?_,?_⟩<;>simp[hh,m2_1,m3_2,f102,dc101,-intBin])
 replace h:=h.2 dc101
 obtain⟨c103,ec103,h⟩:=atm h
 have f104:=ib_neq (k:=.i64) ec103
 rcases Bool.eq_false_or_eq_true c103 with dc103 | dc103
 ·replace h:=h.1 dc103
  simp[hh,m2_1,m3_2,f102,f104,dc101,dc103,-intBin]
  exact fin9 (true) _ _ _ h (by refine⟨?_,?_,?_⟩<;>simp[hh,m2_1,m3_2,f102,f104,dc101,dc103,-intBin])
 replace h:=h.2 dc103
 obtain⟨len105,elen105,h⟩:=atm h
 have f106:=fun H=>len_list (H:=H) (fr:=false) (f:=(GNode.cells false)) kd_34 elen105
 obtain⟨len107,elen107,h⟩:=atm h
 have f108:=fun H=>len_list (H:=H) (fr:=false) (f:=(GNode.cells false)) kd_34 elen107
 obtain⟨c109,ec109,h⟩:=atm h
 have f110:=ib_neq (k:=.i64) ec109
 rcases Bool.eq_false_or_eq_true c109 with dc109 | dc109
 ·replace h:=h.1 dc109
  simp[hh,m2_1,m3_2,f102,f104,f106,f108,f110,dc101,dc103,dc109,-intBin,-lenF]
  exact fin9 (true) _ _ _ h (by refine⟨?_,?_,?_⟩<;>simp[hh,m2_1,m3_2,f102,f104,f106,f108,f110,dc101,dc103,dc109,-intBin,-lenF])
 replace h:=h.2 dc109
 obtain⟨len111,elen111,h⟩:=atm h
 have f112:=fun H=>len_list (H:=H) (fr:=false) (f:=strC) kd_25 elen111
 obtain⟨len113,elen113,h⟩:=atm h
 have f114:=fun H=>len_list (H:=H) (fr:=false) (f:=strC) kd_25 elen113
 obtain⟨c115,ec115,h⟩:=atm h
 have f116:=ib_neq (k:=.i64) ec115
 rcases Bool.eq_false_or_eq_true c115 with dc115 | dc115
 ·replace h:=h.1 dc115
  simp[hh,m2_1,m3_2,f102,f104,f106,f108,f110,f112,f114,f116,dc101,dc103,dc109,dc115,-intBin,-lenF]
  exact fin9 (true) _ _ _ h (by refine⟨?_,?_,?_⟩<;>simp[hh,m2_1,m3_2,f102,f104,f106,f108,f110,f112,f114,f116,dc101,dc103,dc109,dc115,-intBin,-lenF])
 replace h:=h.2 dc115
 obtain⟨len117,elen117,h⟩:=atm h
 have f118:=fun H=>len_list (H:=H) (fr:=false) (f:=Wire.cells) kd_35 elen117
 obtain⟨len119,elen119,h⟩:=atm h
 have f120:=fun H=>len_list (H:=H) (fr:=false) (f:=Wire.cells) kd_35 elen119
 obtain⟨c121,ec121,h⟩:=atm h
 have f122:=ib_neq (k:=.i64) ec121
 rcases Bool.eq_false_or_eq_true c121 with dc121 | dc121
 ·replace h:=h.1 dc121
  simp[hh,m2_1,m3_2,f102,f104,f106,f108,f110,f112,f114,f116,f118,f120,f122,dc101,dc103,dc109,dc115,dc121,-intBin,-lenF]
  exact fin9 (true) _ _ _ h (by refine⟨?_,?_,?_⟩<;>simp[hh,m2_1,m3_2,f102,f104,f106,f108,f110,f112,f114,f116,f118,f120,f122,dc101,dc103,dc109,dc115,dc121,-intBin,-lenF])
 replace h:=h.2 dc121
 obtain⟨hb123,h⟩:=h
 obtain⟨r124,er124,h⟩:=atm h
 simp[hh,m2_1,m3_2,f102,f104,f106,f108,f110,f112,f114,f116,f118,f120,f122,dc101,dc103,dc109,dc115,dc121,-intBin,-lenF]
 refine RunK.callA Ty_ok (sameZ_ok a.sites b.sites hb123) e82 (.cons (argI false a.sites) (.cons (argI false b.sites) .nil)) (by decide) (by decide) rfl (by simp[hh,m2_1,m3_2,f102,f104,f106,f108,f110,f112,f114,f116,f118,f120,f122,dc101,dc103,dc109,dc115,dc121,-intBin,-lenF]) ?_
 rintro _ rfl
 rw[← er124]
 simp[hh,m2_1,m3_2,f102,f104,f106,f108,f110,f112,f114,f116,f118,f120,f122,dc101,dc103,dc109,dc115,dc121,-intBin,-lenF]
 exact fin9 ((!r124)) _ _ _ h (by refine⟨?_,?_,?_⟩<;>simp[hh,m2_1,m3_2,f102,f104,f106,f108,f110,f112,f114,f116,f118,f120,f122,dc101,dc103,dc109,dc115,dc121,-intBin,-lenF])
theorem sameS_ok (a:Big) (b:Big) (hp:sameS_pre a b):PureC Tryz.prog 33 [.agg (bC false a),.agg (bC false b)] (fun r=>r=bool (sameS a b)):=(sameS_walk a b _ (sameS_vc a b hp)).mono (by rintro _ ⟨_,rfl,rfl⟩;rfl)
theorem e12:Ent Tryz.prog 12:=Ent.of Tryz.func12 (by kernel_rfl) rfl
theorem isCanon_walk (sig:List Control) (b:Big) (Z:Bool→Prop) (h:isCanon_wp sig b Z):PureC Tryz.prog 12 [.list false (sig.map Control.cells),.agg (bC false b)] (fun r=>∃ y:Bool,Z y∧r=bool y):=by
 unfold isCanon_wp at h
 have sp:Sep noHeap 0 [] []:=Sep.nil (by simp)
 refine PureC.of Tryz.func12 rfl Tryz.ntmps12 (by simp) fun Q hQ=>?_
 refine Runs.cut (fun ρ H n=>(ρ 0 = .list false (sig.map Control.cells)∧ρ 1 = .agg (bC false b))∧Sep H n [] []) (by refine⟨by simp ,sp⟩) ?_
 rintro ρ H n1 ⟨hh,sp⟩
 refine zE fun k' hk'=>?_
 simp[hh]
 apply hk'
 refine Runs.cut (fun ρ H n=>((ρ 0 = .list false (sig.map Control.cells)∧ρ 3=pA n1 3)∧H (n1,3)=some ⟨6,[bC false b]⟩)∧Sep H n [] [(n1,3)]) (by refine⟨by simp[hh],sp.var⟩) ?_
 clear hh
 rintro ρ H n3 ⟨⟨hh,m3_1⟩,sp⟩
 refine Runs.seqD Ty_ok kindOp_ok draws (by decide) (by kernel_rfl) fun k' hk'=>?_
 obtain⟨J4,hJ5,hr6⟩:=h
 have fin8:∀ (sJ:Bool) (ρ:Env) (H:Heap) (n:Nat),J4 sJ→(match sJ with | b7=>ρ 4=bool b7∧Sep H n [] [])→Runs Tryz.prog 12 14 k' ρ H n Q:=by
  rintro b7 ρ H n9 h ⟨hh,sp⟩
  replace h:=hr6 _ h
  apply hk'
  exact Runs.ret1 (v:=bool b7) Tryz.func12 Tryz.results12 (by simp[hh]) (hQ _ _ _ _ (.of (.v _)) ⟨b7,h,rfl⟩)
 replace h:=hJ5
 obtain⟨hb10,h⟩:=h
 obtain⟨r11,er11,h⟩:=atm h
 simp[hh,m3_1]
 refine RunDK.callA Ty_ok kindOp_ok (IsBigraph_ok sig b hb10) e40 (.cons (argC false sig) (.cons (argB false b) .nil)) (by decide) rfl (by simp[hh,m3_1]) ?_
 rw[← er11]
 rcases Bool.eq_false_or_eq_true r11 with dr11 | dr11
 ·replace h:=h.1 dr11
  obtain⟨hb12,h⟩:=h
  obtain⟨r13,er13,h⟩:=atm h
  simp[hh,m3_1,dr11]
  refine RunDK.callA Ty_ok kindOp_ok ((canonZ_ok b hb12).pure) e42 (.cons (argB false b) .nil) (by decide) rfl (by simp[hh,m3_1,dr11]) ?_
  rw[← er13]
  obtain⟨hb14,h⟩:=h
  obtain⟨r15,er15,h⟩:=atm h
  simp[hh,m3_1,dr11]
  refine RunDK.callA Ty_ok kindOp_ok (sameB_ok b r13 hb14) e41 (.cons (argB false b) (.cons (argB true r13) .nil)) (by decide) rfl (by simp[hh,m3_1,dr11]) ?_
  rw[← er15]
  simp[hh,m3_1,dr11]
  exact fin8 (r15) _ _ _ h (by refine⟨by simp[hh,m3_1,dr11],(Sep.sub sp (by simp +contextual))⟩)
 replace h:=h.2 dr11
 simp[hh,m3_1,dr11]
 exact fin8 (false) _ _ _ h (by refine⟨by simp[hh,m3_1,dr11],(Sep.sub sp (by simp +contextual))⟩)
theorem isCanon_ok (sig:List Control) (b:Big) (hp:isCanon_pre sig b):PureC Tryz.prog 12 [.list false (sig.map Control.cells),.agg (bC false b)] (fun r=>r=bool (isCanon sig b)):=(isCanon_walk sig b _ (isCanon_vc sig b hp)).mono (by rintro _ ⟨_,rfl,rfl⟩;rfl)
theorem e9:Ent Tryz.prog 9:=Ent.of Tryz.func9 (by kernel_rfl) rfl
theorem sIsCanon_walk (sig:List Control) (b:Big) (Z:Bool→Prop) (h:sIsCanon_wp sig b Z):PureC Tryz.prog 9 [.list false (sig.map Control.cells),.agg (bC false b)] (fun r=>∃ y:Bool,Z y∧r=bool y):=by
 unfold sIsCanon_wp at h
 have sp:Sep noHeap 0 [] []:=Sep.nil (by simp)
 refine PureC.of Tryz.func9 rfl Tryz.ntmps9 (by simp) fun Q hQ=>?_
 refine Runs.cut (fun ρ H n=>(ρ 0 = .list false (sig.map Control.cells)∧ρ 1 = .agg (bC false b))∧Sep H n [] []) (by refine⟨by simp ,sp⟩) ?_
 rintro ρ H n1 ⟨hh,sp⟩
 refine zE fun k' hk'=>?_
 simp[hh]
 apply hk'
 refine Runs.cut (fun ρ H n=>((ρ 0 = .list false (sig.map Control.cells)∧ρ 3=pA n1 3)∧H (n1,3)=some ⟨6,[bC false b]⟩)∧Sep H n [] [(n1,3)]) (by refine⟨by simp[hh],sp.var⟩) ?_
 clear hh
 rintro ρ H n3 ⟨⟨hh,m3_1⟩,sp⟩
 refine Runs.seqD Ty_ok kindOp_ok draws (by decide) (by kernel_rfl) fun k' hk'=>?_
 obtain⟨J4,hJ5,hr6⟩:=h
 have fin8:∀ (sJ:Bool) (ρ:Env) (H:Heap) (n:Nat),J4 sJ→(match sJ with | b7=>ρ 4=bool b7∧Sep H n [] [])→Runs Tryz.prog 9 14 k' ρ H n Q:=by
  rintro b7 ρ H n9 h ⟨hh,sp⟩
  replace h:=hr6 _ h
  apply hk'
  exact Runs.ret1 (v:=bool b7) Tryz.func9 Tryz.results9 (by simp[hh]) (hQ _ _ _ _ (.of (.v _)) ⟨b7,h,rfl⟩)
 replace h:=hJ5
 obtain⟨hb10,h⟩:=h
 obtain⟨r11,er11,h⟩:=atm h
 simp[hh,m3_1]
 refine RunDK.callA Ty_ok kindOp_ok (l2Good_ok sig b hb10) e32 (.cons (argC false sig) (.cons (argB false b) .nil)) (by decide) rfl (by simp[hh,m3_1]) ?_
 rw[← er11]
 rcases Bool.eq_false_or_eq_true r11 with dr11 | dr11
 ·replace h:=h.1 dr11
  obtain⟨hb12,h⟩:=h
  obtain⟨r13,er13,h⟩:=atm h
  simp[hh,m3_1,dr11]
  refine RunDK.callA Ty_ok kindOp_ok (canonS_ok b hb12) e34 (.cons (argB false b) .nil) (by decide) rfl (by simp[hh,m3_1,dr11]) ?_
  rw[← er13]
  obtain⟨hb14,h⟩:=h
  obtain⟨r15,er15,h⟩:=atm h
  simp[hh,m3_1,dr11]
  refine RunDK.callA Ty_ok kindOp_ok (sameS_ok b r13 hb14) e33 (.cons (argB false b) (.cons (argB true r13) .nil)) (by decide) rfl (by simp[hh,m3_1,dr11]) ?_
  rw[← er15]
  simp[hh,m3_1,dr11]
  exact fin8 (r15) _ _ _ h (by refine⟨by simp[hh,m3_1,dr11],(Sep.sub sp (by simp +contextual))⟩)
 replace h:=h.2 dr11
 simp[hh,m3_1,dr11]
 exact fin8 (false) _ _ _ h (by refine⟨by simp[hh,m3_1,dr11],(Sep.sub sp (by simp +contextual))⟩)
theorem sIsCanon_ok (sig:List Control) (b:Big) (hp:sIsCanon_pre sig b):PureC Tryz.prog 9 [.list false (sig.map Control.cells),.agg (bC false b)] (fun r=>r=bool (sIsCanon sig b)):=(sIsCanon_walk sig b _ (sIsCanon_vc sig b hp)).mono (by rintro _ ⟨_,rfl,rfl⟩;rfl)
theorem e3:Ent Tryz.prog 3:=Ent.of Tryz.func3 (by kernel_rfl) rfl
set_option maxHeartbeats 4000000 in
theorem lawIs_walk (aSig:List Control) (aB:Big) (Z:Bool→Prop) (h:lawIs_wp aSig aB Z):PureC Tryz.prog 3 [.list false (aSig.map Control.cells),.agg (bC false aB)] (fun r=>∃ y:Bool,Z y∧r=bool y):=by
 unfold lawIs_wp at h
 refine PureC.of Tryz.func3 rfl Tryz.ntmps3 (by simp) fun Q hQ=>?_
 refine Runs.cut (fun ρ H n=>(ρ 0 = .list false (aSig.map Control.cells)∧ρ 1 = .agg (bC false aB))) (by simp) ?_
 rintro ρ H n1 hh
 refine zE fun k' hk'=>?_
 simp[hh]
 apply hk'
 refine Runs.cut (fun ρ H n=>(ρ 0 = .list false (aSig.map Control.cells)∧ρ 3=pA n1 3)∧H (n1,3)=some ⟨6,[bC false aB]⟩) (by refine⟨?_,?_⟩<;>simp[hh]) ?_
 clear hh
 rintro ρ H n3 ⟨hh,m3_1⟩
 refine zE fun k' hk'=>?_
 simp[hh,m3_1]
 apply hk'
 refine zE fun k' hk'=>?_
 obtain⟨hb4,h⟩:=h
 obtain⟨r5,er5,h⟩:=atm h
 simp[hh,m3_1]
 refine RunK.callA Ty_ok (szControlS_ok aSig 1048576 hb4.1.1 hb4.1.2 hb4.2.len hb4.2.names) e7 (.cons (argC false aSig) (.cons (.v _ _ _) .nil)) (by decide) (by decide) rfl (by simp[hh,m3_1]) ?_
 rintro _ rfl
 rw[← er5]
 simp[hh,m3_1]
 apply hk'
 refine Runs.seq ?_
 refine zE fun k' hk'=>?_
 obtain⟨c6,ec6,h⟩:=atm h
 have f7:=ib_lss (k:=.i64) ec6
 simp[hh,m3_1,f7,-intBin]
 apply hk'
 refine Runs.ite (b:=c6) (by simp[hh,m3_1]) (fun dc6=>?_) (fun dc6=>?_)
 ·replace h:=h.1 dc6
  refine zE fun k' hk'=>?_
  simp[hh,m3_1,dc6]
  apply hk'
  exact Runs.ret1 (v:=bool true) Tryz.func3 Tryz.results3 (by simp[hh,m3_1,dc6]) (hQ _ _ _ _ (.of (.v _)) ⟨true,h,rfl⟩)
 replace h:=h.2 dc6
 refine Runs.skip ?_
 refine zE fun k' hk'=>?_
 obtain⟨hb8,h⟩:=h
 obtain⟨r9,er9,h⟩:=atm h
 simp[hh,m3_1,dc6]
 refine RunK.callA Ty_ok (szBigraph_ok aB r5 hb8.1.1 hb8.1.2 hb8.2) e8 (.cons (argB false aB) (.cons (.v _ _ _) .nil)) (by decide) (by decide) rfl (by simp[hh,m3_1,dc6]) ?_
 rintro _ rfl
 rw[← er9]
 simp[hh,m3_1,dc6]
 apply hk'
 refine Runs.seq ?_
 refine zE fun k' hk'=>?_
 obtain⟨c10,ec10,h⟩:=atm h
 have f11:=ib_lss (k:=.i64) ec10
 simp[hh,m3_1,f11,dc6,-intBin]
 apply hk'
 refine Runs.ite (b:=c10) (by simp[hh,m3_1,dc6]) (fun dc10=>?_) (fun dc10=>?_)
 ·replace h:=h.1 dc10
  refine zE fun k' hk'=>?_
  simp[hh,m3_1,dc6,dc10]
  apply hk'
  exact Runs.ret1 (v:=bool true) Tryz.func3 Tryz.results3 (by simp[hh,m3_1,dc6,dc10]) (hQ _ _ _ _ (.of (.v _)) ⟨true,h,rfl⟩)
 replace h:=h.2 dc10
 refine Runs.skip ?_
 refine Runs.seqD Ty_ok kindOp_ok draws (by decide) (by kernel_rfl) fun k' hk'=>?_
 obtain⟨hb12,h⟩:=h
 obtain⟨r13,er13,h⟩:=atm h
 simp[hh,m3_1,dc6,dc10]
 refine RunDK.callA Ty_ok kindOp_ok ((toControlS_ok aSig hb12).pure) e10 (.cons (argC false aSig) .nil) (by decide) rfl (by simp[hh,m3_1,dc6,dc10]) ?_
 rw[← er13]
 obtain⟨hb14,h⟩:=h
 obtain⟨r15,er15,h⟩:=atm h
 simp[hh,m3_1,dc6,dc10]
 refine RunDK.callA Ty_ok kindOp_ok ((toBigraph_ok aB hb14).pure) e11 (.cons (argB false aB) .nil) (by decide) rfl (by simp[hh,m3_1,dc6,dc10]) ?_
 rw[← er15]
 obtain⟨hb16,h⟩:=h
 obtain⟨r17,er17,h⟩:=atm h
 simp[hh,m3_1,dc6,dc10]
 refine RunDK.callA Ty_ok kindOp_ok (sIsCanon_ok r13 r15 hb16) e9 (.cons (argC true r13) (.cons (argB true r15) .nil)) (by decide) rfl (by simp[hh,m3_1,dc6,dc10]) ?_
 rw[← er17]
 simp[hh,m3_1,dc6,dc10]
 apply hk'
 refine Runs.cut (fun ρ H n=>(ρ 0 = .list false (aSig.map Control.cells)∧ρ 3=pA n1 3∧ρ 6=bool r17)∧H (n1,3)=some ⟨6,[bC false aB]⟩) (by refine⟨?_,?_⟩<;>simp[hh,m3_1,dc6,dc10]) ?_
 clear hh m3_1
 rintro ρ H n18 ⟨hh,m3_1⟩
 refine zE fun k' hk'=>?_
 obtain⟨hb19,h⟩:=h
 obtain⟨r20,er20,h⟩:=atm h
 simp[hh,m3_1]
 refine RunK.callA Ty_ok ((toControlS_ok aSig hb19).pure) e10 (.cons (argC false aSig) .nil) (by decide) (by decide) rfl (by simp[hh,m3_1]) ?_
 rintro _ rfl
 rw[← er20]
 simp[hh,m3_1]
 apply hk'
 refine zE fun k' hk'=>?_
 obtain⟨hb21,h⟩:=h
 obtain⟨r22,er22,h⟩:=atm h
 simp[hh,m3_1]
 refine RunK.callA Ty_ok ((toBigraph_ok aB hb21).pure) e11 (.cons (argB false aB) .nil) (by decide) (by decide) rfl (by simp[hh,m3_1]) ?_
 rintro _ rfl
 rw[← er22]
 simp[hh,m3_1]
 apply hk'
 refine Runs.cut (fun ρ H n=>(ρ 0 = .list false (aSig.map Control.cells)∧ρ 3=pA n1 3∧ρ 6=bool r17∧ρ 7 = .list true (r20.map Control.cells)∧ρ 8=pA n18 8)∧H (n1,3)=some ⟨6,[bC false aB]⟩∧H (n18,8)=some ⟨6,[bC true r22]⟩) (by refine⟨?_,?_,?_⟩<;>simp[hh,m3_1]) ?_
 clear hh m3_1
 rintro ρ H n24 ⟨hh,m3_1,m8_22⟩
 refine zE fun k' hk'=>?_
 obtain⟨hb25,h⟩:=h
 obtain⟨r26,er26,h⟩:=atm h
 simp[hh,m3_1,m8_22]
 refine RunK.callA Ty_ok (isCanon_ok r20 r22 hb25) e12 (.cons (argC true r20) (.cons (argB true r22) .nil)) (by decide) (by decide) rfl (by simp[hh,m3_1,m8_22]) ?_
 rintro _ rfl
 rw[← er26]
 simp[hh,m3_1,m8_22]
 apply hk'
 refine Runs.seq ?_
 refine zE fun k' hk'=>?_
 obtain⟨c27,ec27,h⟩:=atm h
 have f28:=bb_neq ec27
 simp[hh,m3_1,m8_22,f28,-boolBin]
 apply hk'
 refine Runs.ite (b:=c27) (by simp[hh,m3_1,m8_22]) (fun dc27=>?_) (fun dc27=>?_)
 ·replace h:=h.1 dc27
  refine zE fun k' hk'=>?_
  simp[hh,m3_1,m8_22,dc27]
  apply hk'
  exact Runs.ret1 (v:=bool false) Tryz.func3 Tryz.results3 (by simp[hh,m3_1,m8_22,dc27]) (hQ _ _ _ _ (.of (.v _)) ⟨false,h,rfl⟩)
 replace h:=h.2 dc27
 refine Runs.skip ?_
 refine Runs.seq ?_
 refine zE fun k' hk'=>?_
 obtain⟨hb29,h⟩:=h
 obtain⟨r30,er30,h⟩:=atm h
 simp[hh,m3_1,m8_22,dc27]
 refine RunK.callA Ty_ok ((toControlS_ok aSig hb29).pure) e10 (.cons (argC false aSig) .nil) (by decide) (by decide) rfl (by simp[hh,m3_1,m8_22,dc27]) ?_
 rintro _ rfl
 rw[← er30]
 obtain⟨hb31,h⟩:=h
 obtain⟨r32,er32,h⟩:=atm h
 simp[hh,m3_1,m8_22,dc27]
 refine RunK.callA Ty_ok (eqControlS_ok r20 r30 hb31) e13 (.cons (argC true r20) (.cons (argC true r30) .nil)) (by decide) (by decide) rfl (by simp[hh,m3_1,m8_22,dc27]) ?_
 rintro _ rfl
 rw[← er32]
 simp[hh,m3_1,m8_22,dc27]
 apply hk'
 refine Runs.ite (b:=(!r32)) (by simp[hh,m3_1,m8_22,dc27]) (fun dr32=>?_) (fun dr32=>?_)
 ·have dr32:r32=false:=by simpa using dr32
  replace h:=h.2 dr32
  refine zE fun k' hk'=>?_
  simp[hh,m3_1,m8_22,dc27,dr32]
  apply hk'
  exact Runs.ret1 (v:=bool false) Tryz.func3 Tryz.results3 (by simp[hh,m3_1,m8_22,dc27,dr32]) (hQ _ _ _ _ (.of (.v _)) ⟨false,h,rfl⟩)
 have dr32:r32=true:=by simpa using dr32
 replace h:=h.1 dr32
 refine Runs.skip ?_
 refine Runs.seq ?_
 refine Runs.seqD Ty_ok kindOp_ok draws (by decide) (by kernel_rfl) fun k' hk'=>?_
 obtain⟨hb33,h⟩:=h
 obtain⟨r34,er34,h⟩:=atm h
 simp[hh,m3_1,m8_22,dc27,dr32]
 refine RunDK.callA Ty_ok kindOp_ok ((toBigraph_ok aB hb33).pure) e11 (.cons (argB false aB) .nil) (by decide) rfl (by simp[hh,m3_1,m8_22,dc27,dr32]) ?_
 rw[← er34]
 obtain⟨hb35,h⟩:=h
 obtain⟨r36,er36,h⟩:=atm h
 simp[hh,m3_1,m8_22,dc27,dr32]
 refine RunDK.callA Ty_ok kindOp_ok (eqBigraph_ok r22 r34 hb35) e14 (.cons (argB true r22) (.cons (argB true r34) .nil)) (by decide) rfl (by simp[hh,m3_1,m8_22,dc27,dr32]) ?_
 rw[← er36]
 simp[hh,m3_1,m8_22,dc27,dr32]
 apply hk'
 refine Runs.cut (fun ρ H n=>ρ 44=bool (!r36)) (by simp[hh,m3_1,m8_22,dc27,dr32]) ?_
 clear hh m3_1 m8_22
 rintro ρ H n37 hh
 refine Runs.ite (b:=(!r36)) (by simp[hh]) (fun dr36=>?_) (fun dr36=>?_)
 ·have dr36:r36=false:=by simpa using dr36
  replace h:=h.2 dr36
  refine zE fun k' hk'=>?_
  simp[hh,dr36]
  apply hk'
  exact Runs.ret1 (v:=bool false) Tryz.func3 Tryz.results3 (by simp[hh,dr36]) (hQ _ _ _ _ (.of (.v _)) ⟨false,h,rfl⟩)
 have dr36:r36=true:=by simpa using dr36
 replace h:=h.1 dr36
 refine Runs.skip ?_
 refine zE fun k' hk'=>?_
 simp[hh,dr36]
 apply hk'
 exact Runs.ret1 (v:=bool true) Tryz.func3 Tryz.results3 (by simp[hh,dr36]) (hQ _ _ _ _ (.of (.v _)) ⟨true,h,rfl⟩)
theorem lawIs_ok (aSig:List Control) (aB:Big) (hp:lawIs_pre aSig aB):PureC Tryz.prog 3 [.list false (aSig.map Control.cells),.agg (bC false aB)] (fun r=>r=bool (lawIs aSig aB)):=(lawIs_walk aSig aB _ (lawIs_vc aSig aB hp)).mono (by rintro _ ⟨_,rfl,rfl⟩;rfl)
end Go.Ab.Vg
/- The contract of laws.FnExactIsCanonical: it answers true. -/
namespace Go.Ab
open Go.Proofs
theorem exactIsCanonical_ok (a0:Sig) (a1:Big) (h0:HugeS a0) (h1:HugeB a1):PureC Tryz.prog 3 [encSig false a0,encB false a1] (fun r=>r=bool true):=Vg.lawIs_ok a0 a1 ⟨h0,h1⟩
end Go.Ab
