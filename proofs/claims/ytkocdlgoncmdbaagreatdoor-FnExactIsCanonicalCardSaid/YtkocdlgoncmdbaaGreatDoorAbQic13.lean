/- Merged texts (13 of 17) of the proof that ends in Icy: Kqw Maw Mbw Mcw Lmt Lmw. -/
import Derived.Test.YtkocdlgoncmdbaaGreatDoorAbQic12
/- Walks by program for YtkocdlgoncmdbaaGreatDoorAbKq. -/
namespace Go.Ab.Vg
open Go.Proofs
set_option maxRecDepth 100000
set_option linter.unusedSimpArgs false
set_option linter.unusedVariables false
attribute [local simp] GNode.cells Wire.cells intC sliceC strC bC pA
theorem e153:Ent Tryz.prog 153:=Ent.of Tryz.func153 (by kernel_rfl) rfl
theorem lessZ_walk (a:List Int) (b:List Int) (Z:Bool→Prop) (h:lessZ_wp a b Z):PureC Tryz.prog 153 [.list false (a.map intC),.list false (b.map intC)] (fun r=>∃ y:Bool,Z y∧r=bool y):=by
 unfold lessZ_wp at h
 refine PureC.of Tryz.func153 rfl Tryz.ntmps153 (by simp) fun Q hQ=>?_
 refine Runs.cut (fun ρ H n=>(ρ 0 = .list false (a.map intC)∧ρ 1 = .list false (b.map intC))) (by simp) ?_
 rintro ρ H n1 hh
 refine zE fun k' hk'=>?_
 simp[hh]
 apply hk'
 refine Runs.seq ?_
 refine zE fun k' hk'=>?_
 simp[hh]
 apply hk'
 refine Runs.block ?_
 refine Runs.loopW h (fun (sJ:Int) ρ H n=>match sJ with | i4=>(ρ 0 = .list false (a.map intC)∧ρ 1 = .list false (b.map intC)∧ρ 5=int i4)) (by simp[hh]) ?_
 clear hh
 rintro i4 ρ H n5 K h hh IH6
 refine Runs.seq ?_
 refine zE fun k' hk'=>?_
 obtain⟨J8,hJ9,hr10⟩:=h
 have fin12:∀ (sJ:Bool) (ρ:Env) (H:Heap) (n:Nat),J8 sJ→(match sJ with | b11=>(ρ 0 = .list false (a.map intC)∧ρ 1 = .list false (b.map intC)∧ρ 5=int i4∧ρ 15=bool b11))→Runs Tryz.prog 153 41 k' ρ H n Q:=by
  rintro b11 ρ H n13 h hh
  replace h:=hr10 _ h
  apply hk'
  refine Runs.ite (b:=b11) (by simp[hh]) (fun db11=>?_) (fun db11=>?_)
  ·replace h:=h.1 db11
   refine Runs.skip ?_
   refine Runs.seq ?_
   refine Runs.block ?_
   refine Runs.seqD Ty_ok kindOp_ok draws (by decide) (by kernel_rfl) fun k' hk'=>?_
   obtain⟨hb14,h⟩:=h
   obtain⟨x15,ex15,h⟩:=atm h
   have f16:=fun H=>ix_list (H:=H) (fr:=false) (f:=intC) (k:=.i64) kd_24 (fun _=>rfl) hb14 ex15
   obtain⟨hb17,h⟩:=h
   obtain⟨x18,ex18,h⟩:=atm h
   have f19:=fun H=>ix_list (H:=H) (fr:=false) (f:=intC) (k:=.i64) kd_24 (fun _=>rfl) hb17 ex18
   obtain⟨c20,ec20,h⟩:=atm h
   have f21:=ib_neq (k:=.i64) ec20
   simp[hh,f16,f19,f21,db11,-indexAddrF,-intBin]
   apply hk'
   refine Runs.ite (b:=c20) (by simp[hh,db11]) (fun dc20=>?_) (fun dc20=>?_)
   ·replace h:=h.1 dc20
    refine Runs.seqD Ty_ok kindOp_ok draws (by decide) (by kernel_rfl) fun k' hk'=>?_
    obtain⟨hb22,h⟩:=h
    obtain⟨x23,ex23,h⟩:=atm h
    have hq24:=ex15.trans ex23.symm
    subst hq24
    have f25:=fun H=>ix_list (H:=H) (fr:=false) (f:=intC) (k:=.i64) kd_24 (fun _=>rfl) hb22 ex15
    obtain⟨hb26,h⟩:=h
    obtain⟨x27,ex27,h⟩:=atm h
    have hq28:=ex18.trans ex27.symm
    subst hq28
    have f29:=fun H=>ix_list (H:=H) (fr:=false) (f:=intC) (k:=.i64) kd_24 (fun _=>rfl) hb26 ex18
    obtain⟨c30,ec30,h⟩:=atm h
    have f31:=ib_lss (k:=.i64) ec30
    simp[hh,f25,f29,f31,db11,dc20,-indexAddrF,-intBin]
    apply hk'
    refine Runs.cut (fun ρ H n=>ρ 4=bool c30) (by simp[hh,f25,f29,f31,db11,dc20,-indexAddrF,-intBin]) ?_
    clear hh
    rintro ρ H n32 hh
    exact Runs.ret1 (v:=bool c30) Tryz.func153 Tryz.results153 (by simp[hh]) (hQ _ _ _ _ (.of (.v _)) ⟨c30,h,rfl⟩)
   replace h:=h.2 dc20
   refine Runs.skip ?_
   refine Runs.inBlock ?_
   refine zF fun k' hk'=>?_
   obtain⟨hb33,h⟩:=h
   obtain⟨v34,ev34,h⟩:=atm h
   have f35:=ib_add hb33 ev34
   simp[hh,f35,db11,dc20,-intBin]
   apply hk'
   refine IH6 (v34) _ _ _ h (by simp[hh,db11,dc20])
  replace h:=h.2 db11
  refine Runs.exit rfl ?_
  refine zE fun k' hk'=>?_
  obtain⟨len36,elen36,h⟩:=atm h
  have f37:=fun H=>len_list (H:=H) (fr:=false) (f:=intC) kd_24 elen36
  obtain⟨len38,elen38,h⟩:=atm h
  have f39:=fun H=>len_list (H:=H) (fr:=false) (f:=intC) kd_24 elen38
  obtain⟨c40,ec40,h⟩:=atm h
  have f41:=ib_lss (k:=.i64) ec40
  simp[hh,f37,f39,f41,db11,-intBin,-lenF]
  apply hk'
  exact Runs.ret1 (v:=bool c40) Tryz.func153 Tryz.results153 (by simp[hh,db11]) (hQ _ _ _ _ (.of (.v _)) ⟨c40,h,rfl⟩)
 replace h:=hJ9
 obtain⟨len42,elen42,h⟩:=atm h
 have f43:=fun H=>len_list (H:=H) (fr:=false) (f:=intC) kd_24 elen42
 obtain⟨c44,ec44,h⟩:=atm h
 have f45:=ib_lss (k:=.i64) ec44
 rcases Bool.eq_false_or_eq_true c44 with dc44 | dc44
 ·replace h:=h.1 dc44
  obtain⟨len46,elen46,h⟩:=atm h
  have f47:=fun H=>len_list (H:=H) (fr:=false) (f:=intC) kd_24 elen46
  obtain⟨c48,ec48,h⟩:=atm h
  have f49:=ib_lss (k:=.i64) ec48
  simp[hh,f43,f45,f47,f49,dc44,-intBin,-lenF]
  exact fin12 (c48) _ _ _ h (by simp[hh,f43,f45,f47,f49,dc44,-intBin,-lenF])
 replace h:=h.2 dc44
 simp[hh,f43,f45,dc44,-intBin,-lenF]
 exact fin12 (false) _ _ _ h (by simp[hh,f43,f45,dc44,-intBin,-lenF])
theorem lessZ_ok (a:List Int) (b:List Int) (hp:lessZ_pre a b):PureC Tryz.prog 153 [.list false (a.map intC),.list false (b.map intC)] (fun r=>r=bool (lessZ a b)):=(lessZ_walk a b _ (lessZ_vc a b hp)).mono (by rintro _ ⟨_,rfl,rfl⟩;rfl)
theorem e82:Ent Tryz.prog 82:=Ent.of Tryz.func82 (by kernel_rfl) rfl
theorem sameZ_walk (a:List Int) (b:List Int) (Z:Bool→Prop) (h:sameZ_wp a b Z):PureC Tryz.prog 82 [.list false (a.map intC),.list false (b.map intC)] (fun r=>∃ y:Bool,Z y∧r=bool y):=by
 unfold sameZ_wp at h
 refine PureC.of Tryz.func82 rfl Tryz.ntmps82 (by simp) fun Q hQ=>?_
 refine Runs.cut (fun ρ H n=>(ρ 0 = .list false (a.map intC)∧ρ 1 = .list false (b.map intC))) (by simp) ?_
 rintro ρ H n1 hh
 refine zE fun k' hk'=>?_
 simp[hh]
 apply hk'
 refine Runs.seq ?_
 refine zE fun k' hk'=>?_
 obtain⟨len2,elen2,h⟩:=atm h
 have f3:=fun H=>len_list (H:=H) (fr:=false) (f:=intC) kd_24 elen2
 obtain⟨len4,elen4,h⟩:=atm h
 have f5:=fun H=>len_list (H:=H) (fr:=false) (f:=intC) kd_24 elen4
 obtain⟨c6,ec6,h⟩:=atm h
 have f7:=ib_neq (k:=.i64) ec6
 simp[hh,f3,f5,f7,-intBin,-lenF]
 apply hk'
 refine Runs.ite (b:=c6) (by simp[hh]) (fun dc6=>?_) (fun dc6=>?_)
 ·replace h:=h.1 dc6
  refine zE fun k' hk'=>?_
  simp[hh,dc6]
  apply hk'
  exact Runs.ret1 (v:=bool false) Tryz.func82 Tryz.results82 (by simp[hh,dc6]) (hQ _ _ _ _ (.of (.v _)) ⟨false,h,rfl⟩)
 replace h:=h.2 dc6
 refine Runs.skip ?_
 refine Runs.seq ?_
 refine zE fun k' hk'=>?_
 simp[hh,dc6]
 apply hk'
 refine Runs.block ?_
 refine Runs.loopW h (fun (sJ:Int) ρ H n=>match sJ with | i10=>(ρ 0 = .list false (a.map intC)∧ρ 1 = .list false (b.map intC)∧ρ 5=int i10)) (by simp[hh,dc6]) ?_
 clear hh
 rintro i10 ρ H n11 K h hh IH12
 refine Runs.seq ?_
 refine zE fun k' hk'=>?_
 obtain⟨len14,elen14,h⟩:=atm h
 have f15:=fun H=>len_list (H:=H) (fr:=false) (f:=intC) kd_24 elen14
 obtain⟨c16,ec16,h⟩:=atm h
 have f17:=ib_lss (k:=.i64) ec16
 simp[hh,f15,f17,-intBin,-lenF]
 apply hk'
 refine Runs.ite (b:=c16) (by simp[hh]) (fun dc16=>?_) (fun dc16=>?_)
 ·replace h:=h.1 dc16
  refine Runs.skip ?_
  refine Runs.seq ?_
  refine Runs.block ?_
  refine Runs.seqD Ty_ok kindOp_ok draws (by decide) (by kernel_rfl) fun k' hk'=>?_
  obtain⟨hb18,h⟩:=h
  obtain⟨x19,ex19,h⟩:=atm h
  have f20:=fun H=>ix_list (H:=H) (fr:=false) (f:=intC) (k:=.i64) kd_24 (fun _=>rfl) hb18 ex19
  obtain⟨hb21,h⟩:=h
  obtain⟨x22,ex22,h⟩:=atm h
  have f23:=fun H=>ix_list (H:=H) (fr:=false) (f:=intC) (k:=.i64) kd_24 (fun _=>rfl) hb21 ex22
  obtain⟨c24,ec24,h⟩:=atm h
  have f25:=ib_neq (k:=.i64) ec24
  simp[hh,f20,f23,f25,dc16,-indexAddrF,-intBin]
  apply hk'
  refine Runs.ite (b:=c24) (by simp[hh,dc16]) (fun dc24=>?_) (fun dc24=>?_)
  ·replace h:=h.1 dc24
   refine zE fun k' hk'=>?_
   simp[hh,dc16,dc24]
   apply hk'
   exact Runs.ret1 (v:=bool false) Tryz.func82 Tryz.results82 (by simp[hh,dc16,dc24]) (hQ _ _ _ _ (.of (.v _)) ⟨false,h,rfl⟩)
  replace h:=h.2 dc24
  refine Runs.skip ?_
  refine Runs.inBlock ?_
  refine zF fun k' hk'=>?_
  obtain⟨hb26,h⟩:=h
  obtain⟨v27,ev27,h⟩:=atm h
  have f28:=ib_add hb26 ev27
  simp[hh,f28,dc16,dc24,-intBin]
  apply hk'
  refine Runs.cut (fun ρ H n=>(ρ 0 = .list false (a.map intC)∧ρ 1 = .list false (b.map intC)∧ρ 5=int v27)) (by simp[hh,f28,dc16,dc24,-intBin]) ?_
  clear hh
  rintro ρ H n29 hh
  refine IH12 (v27) _ _ _ h (by simp[hh])
 replace h:=h.2 dc16
 refine Runs.exit rfl ?_
 refine zE fun k' hk'=>?_
 simp[hh,dc16]
 apply hk'
 exact Runs.ret1 (v:=bool true) Tryz.func82 Tryz.results82 (by simp[hh,dc16]) (hQ _ _ _ _ (.of (.v _)) ⟨true,h,rfl⟩)
theorem sameZ_ok (a:List Int) (b:List Int) (hp:sameZ_pre a b):PureC Tryz.prog 82 [.list false (a.map intC),.list false (b.map intC)] (fun r=>r=bool (sameZ a b)):=(sameZ_walk a b _ (sameZ_vc a b hp)).mono (by rintro _ ⟨_,rfl,rfl⟩;rfl)
theorem e165:Ent Tryz.prog 165:=Ent.of Tryz.func165 (by kernel_rfl) rfl
theorem twinZ_walk (b:Big) (x:Int) (y:Int) (Z:Bool→Prop) (h:twinZ_wp b x y Z):PureC Tryz.prog 165 [.agg (bC false b),int x,int y] (fun r=>∃ y:Bool,Z y∧r=bool y):=by
 unfold twinZ_wp at h
 refine PureC.of Tryz.func165 rfl Tryz.ntmps165 (by simp) fun Q hQ=>?_
 refine Runs.cut (fun ρ H n=>(ρ 0 = .agg (bC false b)∧ρ 1=int x∧ρ 2=int y)) (by first | (simp ;done) | omega | (simp;omega)) ?_
 rintro ρ H n1 hh
 refine zE fun k' hk'=>?_
 simp[hh]
 apply hk'
 refine Runs.cut (fun ρ H n=>(ρ 1=int x∧ρ 2=int y∧ρ 3=pA n1 3)∧H (n1,3)=some ⟨6,[bC false b]⟩∧n1<n) (by refine⟨?_,?_,?_⟩<;>first | (simp[hh];done) | omega | (simp;omega)) ?_
 clear hh
 rintro ρ H n3 ⟨hh,m3_1,g3_1⟩
 refine Runs.seqN Ty_ok draws (by decide) (by kernel_rfl) fun k' hk'=>?_
 obtain⟨hb4,h⟩:=h
 obtain⟨x5,ex5,h⟩:=atm h
 have f6:=fun H=>ix_list (H:=H) (fr:=false) (f:=(GNode.cells false)) (k:=.i64) kd_34 (fun _=>rfl) hb4 ex5
 obtain⟨hb7,h⟩:=h
 obtain⟨x8,ex8,h⟩:=atm h
 have f9:=fun H=>ix_list (H:=H) (fr:=false) (f:=(GNode.cells false)) (k:=.i64) kd_34 (fun _=>rfl) hb7 ex8
 simp[hh,m3_1,g3_1,f6,f9,-indexAddrF]
 intro a10 ha10 qa10;clear qa10
 intro a11 ha11 qa11;clear qa11
 refine⟨ha10,ha11,hk' _ _ _ ?_⟩
 refine Runs.cut (fun ρ H n=>(ρ 1=int x∧ρ 2=int y∧ρ 3=pA n1 3∧ρ 7 = .ptr (a10,7) 1 0 0∧ρ 8 = .ptr (a11,8) 1 0 0)∧H (n1,3)=some ⟨6,[bC false b]⟩∧H (a10,7)=some ⟨3,[[int x5.control,int x5.parent,.list false (x5.links.map intC)]]⟩∧H (a11,8)=some ⟨3,[[int x8.control,int x8.parent,.list false (x8.links.map intC)]]⟩∧n1<n∧a10<n∧a11<n) (by refine⟨?_,?_,?_,?_,?_,?_,?_⟩<;>first | (simp[hh,m3_1,g3_1,f6,f9,-indexAddrF];done) | omega | (simp;omega)) ?_
 clear hh m3_1 g3_1
 rintro ρ H n12 ⟨hh,m3_1,m7_9,m8_10,g3_1,g7_9,g8_10⟩
 refine Runs.seq ?_
 refine zE fun k' hk'=>?_
 obtain⟨J13,hJ14,hr15⟩:=h
 have fin17:∀ (sJ:Bool) (ρ:Env) (H:Heap) (n:Nat),J13 sJ→(match sJ with | b16=>(ρ 1=int x∧ρ 2=int y∧ρ 3=pA n1 3∧ρ 38=bool b16)∧H (n1,3)=some ⟨6,[bC false b]⟩∧n1<n)→Runs Tryz.prog 165 65 k' ρ H n Q:=by
  rintro b16 ρ H n18 h ⟨hh,m3_1,g3_1⟩
  replace h:=hr15 _ h
  apply hk'
  refine Runs.ite (b:=b16) (by simp[hh,m3_1,g3_1]) (fun db16=>?_) (fun db16=>?_)
  ·replace h:=h.1 db16
   refine zE fun k' hk'=>?_
   simp[hh,m3_1,g3_1,db16]
   apply hk'
   exact Runs.ret1 (v:=bool false) Tryz.func165 Tryz.results165 (by simp[hh,m3_1,g3_1,db16]) (hQ _ _ _ _ (.of (.v _)) ⟨false,h,rfl⟩)
  replace h:=h.2 db16
  refine Runs.skip ?_
  refine zE fun k' hk'=>?_
  obtain⟨J19,hJ20,hr21⟩:=h
  have fin23:∀ (sJ:Bool) (ρ:Env) (H:Heap) (n:Nat),J19 sJ→(match sJ with | b22=>ρ 6=bool b22)→Runs Tryz.prog 165 65 k' ρ H n Q:=by
   rintro b22 ρ H n24 h hh
   replace h:=hr21 _ h
   apply hk'
   exact Runs.ret1 (v:=bool b22) Tryz.func165 Tryz.results165 (by simp[hh]) (hQ _ _ _ _ (.of (.v _)) ⟨b22,h,rfl⟩)
  replace h:=hJ20
  obtain⟨hb25,h⟩:=h
  obtain⟨r26,er26,h⟩:=atm h
  simp[hh,m3_1,g3_1,db16]
  refine RunK.callA Ty_ok ((l2Kids_ok b x hb25).pure) e179 (.cons (argB false b) (.cons (.v _ _ _) .nil)) (by decide) (by decide) rfl (by simp[hh,m3_1,g3_1,db16]) ?_
  rintro _ rfl
  rw[← er26]
  obtain⟨len27,elen27,h⟩:=atm h
  have f28:=fun H=>len_list (H:=H) (fr:=true) (f:=intC) kd_24 elen27
  obtain⟨c29,ec29,h⟩:=atm h
  have f30:=ib_eql (k:=.i64) ec29
  rcases Bool.eq_false_or_eq_true c29 with dc29 | dc29
  ·replace h:=h.1 dc29
   obtain⟨hb31,h⟩:=h
   obtain⟨r32,er32,h⟩:=atm h
   simp[hh,m3_1,g3_1,f28,f30,db16,dc29,-intBin,-lenF]
   refine RunK.callA Ty_ok ((l2Kids_ok b y hb31).pure) e179 (.cons (argB false b) (.cons (.v _ _ _) .nil)) (by decide) (by decide) rfl (by simp[hh,m3_1,g3_1,f28,f30,db16,dc29,-intBin,-lenF]) ?_
   rintro _ rfl
   rw[← er32]
   obtain⟨len33,elen33,h⟩:=atm h
   have f34:=fun H=>len_list (H:=H) (fr:=true) (f:=intC) kd_24 elen33
   obtain⟨c35,ec35,h⟩:=atm h
   have f36:=ib_eql (k:=.i64) ec35
   rcases Bool.eq_false_or_eq_true c35 with dc35 | dc35
   ·replace h:=h.1 dc35
    obtain⟨hb37,h⟩:=h
    obtain⟨r38,er38,h⟩:=atm h
    simp[hh,m3_1,g3_1,f28,f30,f34,f36,db16,dc29,dc35,-intBin,-lenF]
    refine RunK.callA Ty_ok ((l2Holes_ok b x hb37).pure) e180 (.cons (argB false b) (.cons (.v _ _ _) .nil)) (by decide) (by decide) rfl (by simp[hh,m3_1,g3_1,f28,f30,f34,f36,db16,dc29,dc35,-intBin,-lenF]) ?_
    rintro _ rfl
    rw[← er38]
    obtain⟨len39,elen39,h⟩:=atm h
    have f40:=fun H=>len_list (H:=H) (fr:=true) (f:=intC) kd_24 elen39
    obtain⟨c41,ec41,h⟩:=atm h
    have f42:=ib_eql (k:=.i64) ec41
    rcases Bool.eq_false_or_eq_true c41 with dc41 | dc41
    ·replace h:=h.1 dc41
     obtain⟨hb43,h⟩:=h
     obtain⟨r44,er44,h⟩:=atm h
     simp[hh,m3_1,g3_1,f28,f30,f34,f36,f40,f42,db16,dc29,dc35,dc41,-intBin,-lenF]
     refine RunK.callA Ty_ok ((l2Holes_ok b y hb43).pure) e180 (.cons (argB false b) (.cons (.v _ _ _) .nil)) (by decide) (by decide) rfl (by simp[hh,m3_1,g3_1,f28,f30,f34,f36,f40,f42,db16,dc29,dc35,dc41,-intBin,-lenF]) ?_
     rintro _ rfl
     rw[← er44]
     obtain⟨len45,elen45,h⟩:=atm h
     have f46:=fun H=>len_list (H:=H) (fr:=true) (f:=intC) kd_24 elen45
     obtain⟨c47,ec47,h⟩:=atm h
     have f48:=ib_eql (k:=.i64) ec47
     simp[hh,m3_1,g3_1,f28,f30,f34,f36,f40,f42,f46,f48,db16,dc29,dc35,dc41,-intBin,-lenF]
     exact fin23 (c47) _ _ _ h (by first | (simp[hh,m3_1,g3_1,f28,f30,f34,f36,f40,f42,f46,f48,db16,dc29,dc35,dc41,-intBin,-lenF];done) | omega | (simp;omega))
    replace h:=h.2 dc41
    simp[hh,m3_1,g3_1,f28,f30,f34,f36,f40,f42,db16,dc29,dc35,dc41,-intBin,-lenF]
    exact fin23 (false) _ _ _ h (by first | (simp[hh,m3_1,g3_1,f28,f30,f34,f36,f40,f42,db16,dc29,dc35,dc41,-intBin,-lenF];done) | omega | (simp;omega))
   replace h:=h.2 dc35
   simp[hh,m3_1,g3_1,f28,f30,f34,f36,db16,dc29,dc35,-intBin,-lenF]
   exact fin23 (false) _ _ _ h (by first | (simp[hh,m3_1,g3_1,f28,f30,f34,f36,db16,dc29,dc35,-intBin,-lenF];done) | omega | (simp;omega))
  replace h:=h.2 dc29
  simp[hh,m3_1,g3_1,f28,f30,db16,dc29,-intBin,-lenF]
  exact fin23 (false) _ _ _ h (by first | (simp[hh,m3_1,g3_1,f28,f30,db16,dc29,-intBin,-lenF];done) | omega | (simp;omega))
 replace h:=hJ14
 obtain⟨c49,ec49,h⟩:=atm h
 have f50:=ib_neq (k:=.i64) ec49
 rcases Bool.eq_false_or_eq_true c49 with dc49 | dc49
 ·replace h:=h.1 dc49
  simp[hh,m3_1,m7_9,m8_10,g3_1,g7_9,g8_10,f50,dc49,-intBin]
  exact fin17 (true) _ _ _ h (by refine⟨?_,?_,?_⟩<;>first | (simp[hh,m3_1,m7_9,m8_10,g3_1,g7_9,g8_10,f50,dc49,-intBin];done) | omega | (simp;omega))
 replace h:=h.2 dc49
 obtain⟨c51,ec51,h⟩:=atm h
 have f52:=ib_neq (k:=.i64) ec51
 rcases Bool.eq_false_or_eq_true c51 with dc51 | dc51
 ·replace h:=h.1 dc51
  simp[hh,m3_1,m7_9,m8_10,g3_1,g7_9,g8_10,f50,f52,dc49,dc51,-intBin]
  exact fin17 (true) _ _ _ h (by refine⟨?_,?_,?_⟩<;>first | (simp[hh,m3_1,m7_9,m8_10,g3_1,g7_9,g8_10,f50,f52,dc49,dc51,-intBin];done) | omega | (simp;omega))
 replace h:=h.2 dc51
 obtain⟨hb53,h⟩:=h
 obtain⟨r54,er54,h⟩:=atm h
 simp[hh,m3_1,m7_9,m8_10,g3_1,g7_9,g8_10,f50,f52,dc49,dc51,-intBin]
 refine RunK.callA Ty_ok (sameZ_ok x5.links x8.links hb53) e82 (.cons (argI false x5.links) (.cons (argI false x8.links) .nil)) (by decide) (by decide) rfl (by simp[hh,m3_1,m7_9,m8_10,g3_1,g7_9,g8_10,f50,f52,dc49,dc51,-intBin]) ?_
 rintro _ rfl
 rw[← er54]
 simp[hh,m3_1,m7_9,m8_10,g3_1,g7_9,g8_10,f50,f52,dc49,dc51,-intBin]
 exact fin17 ((!r54)) _ _ _ h (by refine⟨?_,?_,?_⟩<;>first | (simp[hh,m3_1,m7_9,m8_10,g3_1,g7_9,g8_10,f50,f52,dc49,dc51,-intBin];done) | omega | (simp;omega))
theorem twinZ_ok (b:Big) (x:Int) (y:Int) (hp:twinZ_pre b x y):PureC Tryz.prog 165 [.agg (bC false b),int x,int y] (fun r=>r=bool (twinZ b x y)):=(twinZ_walk b x y _ (twinZ_vc b x y hp)).mono (by rintro _ ⟨_,rfl,rfl⟩;rfl)
theorem e152:Ent Tryz.prog 152:=Ent.of Tryz.func152 (by kernel_rfl) rfl
theorem freeZ_walk (b:Big) (places:List Int) (Z:(List Int)→Prop) (h:freeZ_wp b places Z):OwnS Tryz.prog 152 [.agg (bC false b),.list false (places.map intC)] (.s [.c]) (fun r=>∃ y:List Int,Z y∧r = .list true (y.map intC)):=by
 unfold freeZ_wp at h
 have sp:Sep noHeap 0 [] []:=Sep.nil (by simp)
 refine OwnS.of Tryz.func152 rfl Tryz.ntmps152 (by simp) fun Q hQ=>?_
 refine Runs.cut (fun ρ H n=>(ρ 0 = .agg (bC false b)∧ρ 1 = .list false (places.map intC))∧Sep H n [] []) (by refine⟨by simp ,sp⟩) ?_
 rintro ρ H n1 ⟨hh,sp⟩
 refine zE fun k' hk'=>?_
 simp[hh]
 apply hk'
 refine Runs.cut (fun ρ H n=>((ρ 1 = .list false (places.map intC)∧ρ 2=pA n1 2)∧H (n1,2)=some ⟨6,[bC false b]⟩)∧Sep H n [] [(n1,2)]) (by refine⟨by simp[hh],sp.var⟩) ?_
 clear hh
 rintro ρ H n3 ⟨⟨hh,m2_1⟩,sp⟩
 refine zE fun k' hk'=>?_
 simp[hh,m2_1]
 apply hk'
 refine Runs.cut (fun ρ H n=>∃ (v5:AVal),((ρ 1 = .list false (places.map intC)∧ρ 2=pA n1 2∧ρ 5=v5)∧H (n1,2)=some ⟨6,[bC false b]⟩)∧Sep H n [oI v5 ([]:List Int)] [(n1,2)]) (by refine⟨.arr (n3,9) 0 0 0,by simp[hh,m2_1],(Sep.addEmpty (l:=[.c]) sp)⟩) ?_
 clear hh m2_1
 rintro ρ H n6 ⟨v5,⟨hh,m2_1⟩,sp⟩
 refine Runs.seq ?_
 refine zE fun k' hk'=>?_
 simp[hh,m2_1]
 apply hk'
 refine Runs.block ?_
 refine Runs.loopW h (fun (sJ:Int × (List Int)) ρ H n=>match sJ with | (i14,l15)=>∃ (v16:AVal),((ρ 1 = .list false (places.map intC)∧ρ 2=pA n1 2∧ρ 5=v16∧ρ 6=int i14)∧H (n1,2)=some ⟨6,[bC false b]⟩)∧Sep H n [oI v16 l15] [(n1,2)]) (by refine⟨v5,by simp[hh,m2_1],sp⟩) ?_
 clear hh m2_1
 rintro⟨i14,l15⟩ ρ H n17 K h ⟨v16,⟨hh,m2_1⟩,sp⟩ IH18
 refine Runs.seq ?_
 refine zE fun k' hk'=>?_
 obtain⟨len20,elen20,h⟩:=atm h
 have f21:=fun H=>len_list (H:=H) (fr:=false) (f:=(GNode.cells false)) kd_34 elen20
 obtain⟨c22,ec22,h⟩:=atm h
 have f23:=ib_lss (k:=.i64) ec22
 simp[hh,m2_1,f21,f23,-intBin,-lenF]
 apply hk'
 refine Runs.ite (b:=c22) (by simp[hh,m2_1]) (fun dc22=>?_) (fun dc22=>?_)
 ·replace h:=h.1 dc22
  refine Runs.skip ?_
  refine Runs.seq ?_
  refine Runs.block ?_
  refine zE fun k' hk'=>?_
  obtain⟨J24,hJ25,hr26⟩:=h
  have fin29:∀ (sJ:Bool) (ρ:Env) (H:Heap) (n:Nat),J24 sJ→(match sJ with | b27=>∃ (v28:AVal),((ρ 1 = .list false (places.map intC)∧ρ 2=pA n1 2∧ρ 5=v28∧ρ 6=int i14∧ρ 7=bool b27)∧H (n1,2)=some ⟨6,[bC false b]⟩)∧Sep H n [oI v28 l15] [(n1,2)])→Runs Tryz.prog 152 66 k' ρ H n Q:=by
   rintro b27 ρ H n30 h ⟨v28,⟨hh,m2_1⟩,sp⟩
   replace h:=hr26 _ h
   apply hk'
   refine Runs.seq ?_
   refine zE fun k' hk'=>?_
   simp[hh,m2_1]
   apply hk'
   refine Runs.block ?_
   refine Runs.loopW h (fun (sJ:Bool × Int) ρ H n=>match sJ with | (free35,k36)=>∃ (v37:AVal),((ρ 1 = .list false (places.map intC)∧ρ 2=pA n1 2∧ρ 5=v37∧ρ 6=int i14∧ρ 7=bool free35∧ρ 8=int k36)∧H (n1,2)=some ⟨6,[bC false b]⟩)∧Sep H n [oI v37 l15] [(n1,2)]) (by refine⟨v28,by simp[hh,m2_1],sp⟩) ?_
   clear hh m2_1
   rintro⟨free35,k36⟩ ρ H n38 K h ⟨v37,⟨hh,m2_1⟩,sp⟩ IH39
   refine Runs.seq ?_
   refine zE fun k' hk'=>?_
   obtain⟨J41,hJ42,hr43⟩:=h
   have fin46:∀ (sJ:Bool) (ρ:Env) (H:Heap) (n:Nat),J41 sJ→(match sJ with | b44=>∃ (v45:AVal),((ρ 1 = .list false (places.map intC)∧ρ 2=pA n1 2∧ρ 5=v45∧ρ 6=int i14∧ρ 7=bool free35∧ρ 8=int k36∧ρ 49=bool b44)∧H (n1,2)=some ⟨6,[bC false b]⟩)∧Sep H n [oI v45 l15] [(n1,2)])→Runs Tryz.prog 152 66 k' ρ H n Q:=by
    rintro b44 ρ H n47 h ⟨v45,⟨hh,m2_1⟩,sp⟩
    replace h:=hr43 _ h
    apply hk'
    refine Runs.ite (b:=b44) (by simp[hh,m2_1]) (fun db44=>?_) (fun db44=>?_)
    ·replace h:=h.1 db44
     refine Runs.skip ?_
     refine Runs.seq ?_
     refine Runs.block ?_
     refine Runs.evalDE Ty_ok kindOp_ok draws (by decide) (by kernel_rfl) fun k' hk'=>?_
     obtain⟨hb48,h⟩:=h
     obtain⟨id49,hv,mo50,ln51,ni52⟩:=Sep.openF sp (by simp) hb48
     subst hv
     simp at ni52
     obtain⟨x53,ex53,h⟩:=atm h
     have f54:=fun H (hm:H id49=some ⟨1,l15.map intC⟩)=>ix_arr (H:=H) (k:=.i64) (off:=0) (len:=l15.length) (g:=l15.length) kd_24 hm (by simp) rfl hb48
     have f55:=at_some (q:=k36.toNat) hb48 ex53 rfl
     obtain⟨hb56,h⟩:=h
     obtain⟨r57,er57,h⟩:=atm h
     simp[hh,m2_1,mo50,ni52,f54,f55,db44,-indexAddrF]
     refine RunDK.callA Ty_ok kindOp_ok (twinZ_ok b x53 i14 hb56) e165 (.cons (argB false b) (.cons (.v _ _ _) (.cons (.v _ _ _) .nil))) (by decide) rfl (by simp[hh,m2_1,mo50,ni52,f54,f55,db44,-indexAddrF]) ?_
     rw[← er57]
     simp[hh,m2_1,mo50,ni52,f54,f55,db44,-indexAddrF]
     apply hk'
     refine Runs.inBlock ?_
     refine zF fun k' hk'=>?_
     obtain⟨hb58,h⟩:=h
     obtain⟨v59,ev59,h⟩:=atm h
     have f60:=ib_add hb58 ev59
     simp[hh,m2_1,mo50,ni52,f60,db44,-intBin]
     apply hk'
     refine IH39 ((!r57),v59) _ _ _ h (by refine⟨.arr id49 l15.length 0 l15.length,by simp[hh,m2_1,mo50,ni52,db44],sp⟩)
    replace h:=h.2 db44
    refine Runs.exit rfl ?_
    refine zE fun k' hk'=>?_
    simp[hh,m2_1,db44]
    apply hk'
    refine Runs.ite (b:=free35) (by simp[hh,m2_1,db44]) (fun dfree35=>?_) (fun dfree35=>?_)
    ·replace h:=h.1 dfree35
     refine zF fun k' hk'=>?_
     obtain⟨hb61,h⟩:=h
     obtain⟨l62,el62,h⟩:=atm h
     simp[hh,m2_1,db44,dfree35,-appendF]
     refine bind_append [] [] [[int i14]] [intC i14] sp kd_24 (by simp) (by simp) (by simp) (by simp[-one1,o1x]) (rows_one (Fill.v _ Fill.nil)) (by simp) (by simpa using hb61) ?_
     rintro v63 H64 n65 sp hfr66 hle67
     replace sp:Sep H64 n65 [oI v63 l62] [(n1,2)]:=Sep.ap el62 sp
     have m2_1:=(hfr66 _ (by simp)).trans m2_1
     simp[hh,m2_1,db44,dfree35]
     apply hk'
     refine Runs.cut (fun ρ H n=>∃ (v69:AVal),((ρ 1 = .list false (places.map intC)∧ρ 2=pA n1 2∧ρ 5=v69∧ρ 6=int i14)∧H (n1,2)=some ⟨6,[bC false b]⟩)∧Sep H n [oI v69 l62] [(n1,2)]) (by refine⟨v63,by simp[hh,m2_1,db44,dfree35],sp⟩) ?_
     clear hh m2_1
     rintro ρ H n70 ⟨v69,⟨hh,m2_1⟩,sp⟩
     refine Runs.inBlock ?_
     refine zF fun k' hk'=>?_
     obtain⟨hb71,h⟩:=h
     obtain⟨v72,ev72,h⟩:=atm h
     have f73:=ib_add hb71 ev72
     simp[hh,m2_1,f73,-intBin]
     apply hk'
     refine IH18 (v72,l62) _ _ _ h (by refine⟨v69,by simp[hh,m2_1],sp⟩)
    replace h:=h.2 dfree35
    refine Runs.skip ?_
    refine Runs.inBlock ?_
    refine zF fun k' hk'=>?_
    obtain⟨hb74,h⟩:=h
    obtain⟨v75,ev75,h⟩:=atm h
    have f76:=ib_add hb74 ev75
    simp[hh,m2_1,f76,db44,dfree35,-intBin]
    apply hk'
    refine IH18 (v75,l15) _ _ _ h (by refine⟨v45,by simp[hh,m2_1,db44,dfree35],sp⟩)
   replace h:=hJ42
   obtain⟨len77,elen77,h⟩:=atm h
   have f78:=len_own (Sep.len (m:=len77) sp kd_24 (by rw[elen77,List.length_map]))
   obtain⟨c79,ec79,h⟩:=atm h
   have f80:=ib_lss (k:=.i64) ec79
   rcases Bool.eq_false_or_eq_true c79 with dc79 | dc79
   ·replace h:=h.1 dc79
    simp[hh,m2_1,f78,f80,dc79,-intBin,-lenF]
    exact fin46 (free35) _ _ _ h (by refine⟨v37,by simp[hh,m2_1,f78,f80,dc79,-intBin,-lenF],sp⟩)
   replace h:=h.2 dc79
   simp[hh,m2_1,f78,f80,dc79,-intBin,-lenF]
   exact fin46 (false) _ _ _ h (by refine⟨v37,by simp[hh,m2_1,f78,f80,dc79,-intBin,-lenF],sp⟩)
  replace h:=hJ25
  obtain⟨hb81,h⟩:=h
  obtain⟨x82,ex82,h⟩:=atm h
  have f83:=fun H=>ix_list (H:=H) (fr:=false) (f:=intC) (k:=.i64) kd_24 (fun _=>rfl) hb81 ex82
  obtain⟨c84,ec84,h⟩:=atm h
  have f85:=ib_lss (k:=.i64) ec84
  rcases Bool.eq_false_or_eq_true c84 with dc84 | dc84
  ·replace h:=h.1 dc84
   obtain⟨hb86,h⟩:=h
   obtain⟨x87,ex87,h⟩:=atm h
   have f88:=fun H=>ix_list (H:=H) (fr:=false) (f:=(GNode.cells false)) (k:=.i64) kd_34 (fun _=>rfl) hb86 ex87
   obtain⟨c89,ec89,h⟩:=atm h
   have f90:=ib_lss (k:=.i64) ec89
   rcases Bool.eq_false_or_eq_true c89 with dc89 | dc89
   ·replace h:=h.1 dc89
    simp[hh,m2_1,f83,f85,f88,f90,dc22,dc84,dc89,-indexAddrF,-intBin]
    exact fin29 (true) _ _ _ h (by refine⟨v16,by simp[hh,m2_1,f83,f85,f88,f90,dc22,dc84,dc89,-indexAddrF,-intBin],sp⟩)
   replace h:=h.2 dc89
   obtain⟨hb91,h⟩:=h
   obtain⟨x92,ex92,h⟩:=atm h
   have hq93:=ex87.trans ex92.symm
   subst hq93
   have f94:=fun H=>ix_list (H:=H) (fr:=false) (f:=(GNode.cells false)) (k:=.i64) kd_34 (fun _=>rfl) hb91 ex87
   obtain⟨hb95,h⟩:=h
   obtain⟨x96,ex96,h⟩:=atm h
   have f97:=fun H=>ix_list (H:=H) (fr:=false) (f:=intC) (k:=.i64) kd_24 (fun _=>rfl) hb95 ex96
   obtain⟨c98,ec98,h⟩:=atm h
   have f99:=ib_geq (k:=.i64) ec98
   simp[hh,m2_1,f83,f85,f88,f90,f94,f97,f99,dc22,dc84,dc89,-indexAddrF,-intBin]
   exact fin29 (c98) _ _ _ h (by refine⟨v16,by simp[hh,m2_1,f83,f85,f88,f90,f94,f97,f99,dc22,dc84,dc89,-indexAddrF,-intBin],sp⟩)
  replace h:=h.2 dc84
  simp[hh,m2_1,f83,f85,dc22,dc84,-indexAddrF,-intBin]
  exact fin29 (false) _ _ _ h (by refine⟨v16,by simp[hh,m2_1,f83,f85,dc22,dc84,-indexAddrF,-intBin],sp⟩)
 replace h:=h.2 dc22
 refine Runs.exit rfl ?_
 refine zE fun k' hk'=>?_
 simp[hh,m2_1,dc22]
 apply hk'
 exact Runs.ret1 (v:=v16) Tryz.func152 Tryz.results152 (by simp[hh,m2_1,dc22]) (hQ _ _ _ _ (Sep.sub (ids':=[]) sp (by simp)) ⟨l15,h,rfl⟩)
theorem freeZ_ok (b:Big) (places:List Int) (hp:freeZ_pre b places):OwnS Tryz.prog 152 [.agg (bC false b),.list false (places.map intC)] (.s [.c]) (fun r=>r = .list true ((freeZ b places).map intC)):=(freeZ_walk b places _ (freeZ_vc b places hp)).mono (by rintro _ ⟨_,rfl,rfl⟩;rfl)
theorem Sep.atF {H:Heap} {n:Nat} {K:List OwnE} {ids:List Id} {l:List Sh} {id:Id} {g o len:Nat} {i:Int} {α:Type} {f:α→List AVal} {xs:List α} (h:Sep H n ((.s l,.arr id g o len,.list true (xs.map f))::K) ids) (hf:∀ t ∈ l,t = .c) (hb:0≤i∧i<xs.length):H id=some ⟨l.length,xs.map f⟩:=by
 obtain⟨id',e,h2,_⟩:=Sep.openF h hf hb
 cases e
 exact h2
theorem e128:Ent Tryz.prog 128:=Ent.of Tryz.func128 (by kernel_rfl) rfl
set_option maxHeartbeats 2000000 in
theorem bestZ_walk (b:Big) (places:List Int) (edges:List Int) (many:Int) (Z:((List Int) × (List Int))→Prop) (ih:∀ br placesr edgesr manyr,bestZ_pre br placesr edgesr manyr→bestZ_ms br placesr edgesr manyr<bestZ_ms b places edges many→OwnS Tryz.prog 128 [.agg (bC false br),.list false (placesr.map intC),.list false (edgesr.map intC),int manyr] (.t [.s [.c],.s [.c]]) (fun r=>r = .tup [.list true (((bestZ br placesr edgesr manyr).1).map intC),.list true (((bestZ br placesr edgesr manyr).2).map intC)])) (h:bestZ_wp b places edges many Z):OwnS Tryz.prog 128 [.agg (bC false b),.list false (places.map intC),.list false (edges.map intC),int many] (.t [.s [.c],.s [.c]]) (fun r=>∃ y:(List Int) × (List Int),Z y∧r = .tup [.list true (y.1.map intC),.list true (y.2.map intC)]):=by
 unfold bestZ_wp at h
 have sp:Sep noHeap 0 [] []:=Sep.nil (by simp)
 refine OwnS.of Tryz.func128 rfl Tryz.ntmps128 (by simp) fun Q hQ=>?_
 refine Runs.cut (fun ρ H n=>(ρ 0 = .agg (bC false b)∧ρ 1 = .list false (places.map intC)∧ρ 2 = .list false (edges.map intC)∧ρ 3=int many)∧Sep H n [] []) (by refine⟨by simp ,sp⟩) ?_
 rintro ρ H n1 ⟨hh,sp⟩
 refine zE fun k' hk'=>?_
 simp[hh]
 apply hk'
 refine Runs.cut (fun ρ H n=>((ρ 1 = .list false (places.map intC)∧ρ 2 = .list false (edges.map intC)∧ρ 3=int many∧ρ 4=pA n1 4)∧H (n1,4)=some ⟨6,[bC false b]⟩)∧Sep H n [] [(n1,4)]) (by refine⟨by simp[hh],sp.var⟩) ?_
 clear hh
 rintro ρ H n3 ⟨⟨hh,m4_1⟩,sp⟩
 refine Runs.seq ?_
 refine zE fun k' hk'=>?_
 obtain⟨len4,elen4,h⟩:=atm h
 have f5:=fun H=>len_list (H:=H) (fr:=false) (f:=(GNode.cells false)) kd_34 elen4
 obtain⟨c6,ec6,h⟩:=atm h
 have f7:=ib_eql (k:=.i64) ec6
 simp[hh,m4_1,f5,f7,-intBin,-lenF]
 apply hk'
 refine Runs.ite (b:=c6) (by simp[hh,m4_1]) (fun dc6=>?_) (fun dc6=>?_)
 ·replace h:=h.1 dc6
  refine zE fun k' hk'=>?_
  obtain⟨hb8,h⟩:=h
  obtain⟨r9,er9,h⟩:=atm h
  simp[hh,m4_1,dc6]
  refine RunK.callW Ty_ok (tailZ_ok b places edges hb8) e131 (.cons (argB false b) (.cons (argI false places) (.cons (argI false edges) .nil))) sp (by decide) (by decide) rfl (by simp[hh,m4_1,dc6]) ?_
  rintro v10 H11 n12 _ sp rfl hle14 hfr13
  rw[← er9] at sp
  have m4_1:=(hfr13 _ (by simp)).trans m4_1
  replace sp:=Sep.unpackT sp
  obtain⟨L18,hv,hl19,sp⟩:=sp
  subst hv
  obtain⟨v16,v17,hv⟩:=len2 (by simpa using hl19)
  subst hv
  simp only[zip3,List.cons_append,List.nil_append] at sp
  replace sp:=Sep.rot sp
  try simp only[List.cons_append,List.nil_append,List.append_assoc] at sp
  replace sp:=Sep.rot sp
  try simp only[List.cons_append,List.nil_append,List.append_assoc] at sp
  simp[hh,m4_1,dc6]
  apply hk'
  refine Runs.cut (fun ρ H n=>∃ (v22:AVal),ρ 10=v22∧Sep H n [oI v22 r9.1] []) (by refine⟨v16,by simp[hh,m4_1,dc6],(Sep.sub sp.f1.dr (by simp +contextual))⟩) ?_
  clear hh m4_1
  rintro ρ H n23 ⟨v22,hh,sp⟩
  refine zE fun k' hk'=>?_
  simp[hh]
  apply hk'
  refine Runs.cut (fun ρ H n=>∃ (v25 v26:AVal),(ρ 8=v26∧ρ 9=v25)∧Sep H n [oI v25 ([]:List Int),oI v26 r9.1] []) (by refine⟨.arr (n23,40) 0 0 0,v22,by simp[hh],(Sep.addEmpty (l:=[.c]) sp)⟩) ?_
  clear hh
  rintro ρ H n27 ⟨v25,v26,hh,sp⟩
  exact Runs.ret2 (v:=v26) (w:=v25) Tryz.func128 Tryz.results128 (by simp[hh]) (by simp[hh]) (hQ _ _ _ _ (Sep.sub (ids':=[]) (Sep.packT (Fill.own (Fill.own Fill.nil)) sp.f1) (by simp)) ⟨(r9.1,([]:List Int)),h,rfl⟩)
 replace h:=h.2 dc6
 refine Runs.skip ?_
 refine zE fun k' hk'=>?_
 obtain⟨hb29,h⟩:=h
 obtain⟨r30,er30,h⟩:=atm h
 simp[hh,m4_1,dc6]
 refine RunK.callW Ty_ok (freeZ_ok b places hb29) e152 (.cons (argB false b) (.cons (argI false places) .nil)) sp (by decide) (by decide) rfl (by simp[hh,m4_1,dc6]) ?_
 rintro v31 H32 n33 _ sp rfl hle35 hfr34
 rw[← er30] at sp
 have m4_1:=(hfr34 _ (by simp)).trans m4_1
 simp[hh,m4_1,dc6]
 apply hk'
 refine Runs.cut (fun ρ H n=>∃ (v38:AVal),((ρ 1 = .list false (places.map intC)∧ρ 2 = .list false (edges.map intC)∧ρ 3=int many∧ρ 4=pA n1 4∧ρ 12=v38)∧H (n1,4)=some ⟨6,[bC false b]⟩)∧Sep H n [oI v38 r30] [(n1,4)]) (by refine⟨v31,by simp[hh,m4_1,dc6],sp⟩) ?_
 clear hh m4_1
 rintro ρ H n39 ⟨v38,⟨hh,m4_1⟩,sp⟩
 refine Runs.cut (fun ρ H n=>∃ (v40:AVal),((ρ 1 = .list false (places.map intC)∧ρ 2 = .list false (edges.map intC)∧ρ 3=int many∧ρ 4=pA n1 4∧ρ 12=v40)∧H (n1,4)=some ⟨6,[bC false b]⟩)∧Sep H n [oI v40 r30] [(n1,4)]) (by refine⟨v38,by simp[hh,m4_1],sp⟩) ?_
 clear hh m4_1
 rintro ρ H n41 ⟨v40,⟨hh,m4_1⟩,sp⟩
 obtain⟨hb42,h⟩:=h
 obtain⟨id43,hv,mo44,ln45,ni46⟩:=Sep.openF sp (by simp) hb42
 subst hv
 simp at ni46
 obtain⟨x47,ex47,h⟩:=atm h
 have f48:=fun H (hm:H id43=some ⟨1,r30.map intC⟩)=>ix_arr (H:=H) (k:=.i64) (off:=0) (len:=r30.length) (g:=r30.length) kd_24 hm (by simp) rfl hb42
 have f49:=at_some (q:=0) hb42 ex47 rfl
 obtain⟨hb50,h⟩:=h
 obtain⟨r51,er51,h⟩:=atm h
 refine Runs.seqC (fun H n=>H (n1,4)=some ⟨6,[bC false b]⟩∧Sep H n [oI (.arr id43 r30.length 0 r30.length) r30] [(n1,4)]) [6,7,8,9,10,11] (.free 0 (.free 1 (.free 2 (.free 3 (.free 4 (.free 5 (.hard 6 (.hard 7 (.hard 8 (.hard 9 (.hard 10 (.hard 11 (.fin) (.stop)) (.stop)) (.hard 10 (.hard 9 (.hard 11 (.fin) (.stop)) (.stop)) (.stop))) (.hard 9 (.hard 8 (.hard 10 (.hard 11 (.fin) (.stop)) (.stop)) (.stop)) (.stop))) (.stop)) (.stop)))))))) (fun ρ H n=>∃ (v54 v55:AVal),((ρ 1 = .list false (places.map intC)∧ρ 2 = .list false (edges.map intC)∧ρ 3=int many∧ρ 4=pA n1 4∧ρ 12=v55∧ρ 13=v54)∧H (n1,4)=some ⟨6,[bC false b]⟩)∧Sep H n [oI v54 r51.1,oI v55 r30] [(n1,4)]) draws (by decide) (by kernel_rfl) ?_ ?_
 ·refine RunT.free (.agg (bC false b)) rfl rfl ⟨m4_1,sp⟩ (fun H n hS=>by obtain⟨m4_1,sp⟩:=hS;exact (by exact stepF_ok Ty_ok (by rw[stepF_loc];simp[hh,m4_1,f48,f49,-indexAddrF]))) ?_
  refine RunT.free (.arr id43 r30.length 0 r30.length) rfl rfl ⟨m4_1,sp⟩ (fun H n hS=>by obtain⟨m4_1,sp⟩:=hS;exact (by exact stepF_ok Ty_ok (by rw[stepF_loc];simp[hh,m4_1,f48,f49,-indexAddrF]))) ?_
  refine RunT.free (.ptr id43 r30.length 0 0) rfl rfl ⟨m4_1,sp⟩ (fun H n hS=>by obtain⟨m4_1,sp⟩:=hS;exact (by have mo44:=Sep.atF sp (by simp) hb42;have f48:=fun H (hm:H id43=some ⟨1,r30.map intC⟩)=>ix_arr (H:=H) (k:=.i64) (off:=0) (len:=r30.length) (g:=r30.length) kd_24 hm (by simp) rfl hb42;have f49:=at_some (q:=0) hb42 ex47 rfl;exact stepF_ok Ty_ok (by rw[stepF_loc];simp[hh,m4_1,f48,f49,mo44,-indexAddrF]))) ?_
  refine RunT.free (int x47) rfl rfl ⟨m4_1,sp⟩ (fun H n hS=>by obtain⟨m4_1,sp⟩:=hS;exact (by have mo44:=Sep.atF sp (by simp) hb42;exact stepF_ok Ty_ok (by rw[stepF_loc];simp[hh,m4_1,f48,f49,mo44,-indexAddrF]))) ?_
  refine RunT.free (.list false (places.map intC)) rfl rfl ⟨m4_1,sp⟩ (fun H n hS=>by obtain⟨m4_1,sp⟩:=hS;exact (by exact stepF_ok Ty_ok (by rw[stepF_loc];simp[hh,m4_1,f48,f49,-indexAddrF]))) ?_
  refine RunT.free (.list false (edges.map intC)) rfl rfl ⟨m4_1,sp⟩ (fun H n hS=>by obtain⟨m4_1,sp⟩:=hS;exact (by exact stepF_ok Ty_ok (by rw[stepF_loc];simp[hh,m4_1,f48,f49,-indexAddrF]))) ?_
  refine⟨?_,trivial⟩
  refine RunT.callW (as1:=[.agg (bC false b),int x47,.list false (places.map intC),.list false (edges.map intC)]) rfl rfl (chunkZ_ok b x47 places edges hb50) e130 (.cons (argB false b) (.cons (.v _ _ _) (.cons (argI false places) (.cons (argI false edges) .nil)))) sp (by simp[hh,m4_1,f48,f49,-indexAddrF]) (by simp[hh,m4_1,f48,f49,-indexAddrF]) ?_
  rintro v61 H57 n58 _ sp rfl hle60 hfr59
  rw[← er51] at sp
  replace sp:=Sep.unpackT sp
  obtain⟨L65,hv,hl66,sp⟩:=sp
  subst hv
  obtain⟨v63,v64,hv⟩:=len2 (by simpa using hl66)
  subst hv
  simp only[zip3,List.cons_append,List.nil_append] at sp
  replace sp:=Sep.rot sp
  try simp only[List.cons_append,List.nil_append,List.append_assoc] at sp
  replace sp:=Sep.rot sp
  try simp only[List.cons_append,List.nil_append,List.append_assoc] at sp
  replace sp:Sep H57 n58 [oI (.arr id43 r30.length 0 r30.length) r30,oI v63 r51.1,oI v64 r51.2] [(n1,4)]:=sp
  have m4_1:=(hfr59 _ (by simp)).trans m4_1
  refine⟨(fun hl=>absurd (hl.symm.trans (show lateC _ _ _=true by kernel_rfl)) (by decide)),?_⟩
  refine⟨?_,trivial⟩
  refine RunT.same (v:=(.tup [v63,v64])) Ty_ok rfl rfl (by simp[hh,m4_1,f48,f49,-indexAddrF]) (fun hl=>absurd (hl.symm.trans (show lateC _ _ _=true by kernel_rfl)) (by decide)) ?_
  refine⟨?_,?_,trivial⟩
  ·have f80:=Sep.oc sp.f1
   refine RunT.same (v:=v63) Ty_ok rfl rfl (by simp[hh,m4_1,f48,f49,f80,-cellsA,-indexAddrF,-one1,cAx,o1x]) (fun hl=>absurd (hl.symm.trans (show lateC _ _ _=true by kernel_rfl)) (by decide)) ?_
   refine⟨?_,?_,trivial⟩
   ·have f87:=Sep.oc sp.f2
    refine RunT.same (v:=v64) Ty_ok rfl rfl (by simp[hh,m4_1,f48,f49,f80,f87,-cellsA,-indexAddrF,-one1,cAx,o1x]) (fun hl=>absurd (hl.symm.trans (show lateC _ _ _=true by kernel_rfl)) (by decide)) ?_
    refine⟨?_,trivial⟩
    have f94:=Sep.oc sp.f1
    refine RunT.same (v:=v63) Ty_ok rfl rfl (by simp[hh,m4_1,f48,f49,f80,f87,f94,-cellsA,-indexAddrF,-one1,cAx,o1x]) (fun hl=>absurd (hl.symm.trans (show lateC _ _ _=true by kernel_rfl)) (by decide)) ?_
    refine⟨?_,trivial⟩
    have f101:=Sep.oc sp.f2
    refine RunT.same (v:=v64) Ty_ok rfl rfl (by simp[hh,m4_1,f48,f49,f80,f87,f94,f101,-cellsA,-indexAddrF,-one1,cAx,o1x]) (fun hl=>absurd (hl.symm.trans (show lateC _ _ _=true by kernel_rfl)) (by decide)) ?_
    refine RunT.fin (by refine⟨v63,.arr id43 r30.length 0 r30.length,by simp[hh,m4_1,f48,f49,f80,f87,f94,f101,-cellsA,-indexAddrF,-one1,cAx,o1x],sp.f2.dr.f1⟩)
   have f108:=Sep.oc sp.f1
   refine RunT.same (v:=v63) Ty_ok rfl rfl (by simp[hh,m4_1,f48,f49,f80,f108,-cellsA,-indexAddrF,-one1,cAx,o1x]) (fun hl=>absurd (hl.symm.trans (show lateC _ _ _=true by kernel_rfl)) (by decide)) ?_
   refine⟨?_,trivial⟩
   have f115:=Sep.oc sp.f2
   refine RunT.same (v:=v64) Ty_ok rfl rfl (by simp[hh,m4_1,f48,f49,f80,f108,f115,-cellsA,-indexAddrF,-one1,cAx,o1x]) (fun hl=>absurd (hl.symm.trans (show lateC _ _ _=true by kernel_rfl)) (by decide)) ?_
   refine⟨?_,trivial⟩
   have f122:=Sep.oc sp.f2
   refine RunT.same (v:=v64) Ty_ok rfl rfl (by simp[hh,m4_1,f48,f49,f80,f108,f115,f122,-cellsA,-indexAddrF,-one1,cAx,o1x]) (fun hl=>absurd (hl.symm.trans (show lateC _ _ _=true by kernel_rfl)) (by decide)) ?_
   refine RunT.fin (by refine⟨v63,.arr id43 r30.length 0 r30.length,by simp[hh,m4_1,f48,f49,f80,f108,f115,f122,-cellsA,-indexAddrF,-one1,cAx,o1x],sp.f2.dr.f1⟩)
  have f129:=Sep.oc sp.f2
  refine RunT.same (v:=v64) Ty_ok rfl rfl (by simp[hh,m4_1,f48,f49,f129,-cellsA,-indexAddrF,-one1,cAx,o1x]) (fun hl=>absurd (hl.symm.trans (show lateC _ _ _=true by kernel_rfl)) (by decide)) ?_
  refine⟨?_,trivial⟩
  have f136:=Sep.oc sp.f1
  refine RunT.same (v:=v63) Ty_ok rfl rfl (by simp[hh,m4_1,f48,f49,f129,f136,-cellsA,-indexAddrF,-one1,cAx,o1x]) (fun hl=>absurd (hl.symm.trans (show lateC _ _ _=true by kernel_rfl)) (by decide)) ?_
  refine⟨?_,trivial⟩
  have f143:=Sep.oc sp.f1
  refine RunT.same (v:=v63) Ty_ok rfl rfl (by simp[hh,m4_1,f48,f49,f129,f136,f143,-cellsA,-indexAddrF,-one1,cAx,o1x]) (fun hl=>absurd (hl.symm.trans (show lateC _ _ _=true by kernel_rfl)) (by decide)) ?_
  refine⟨?_,trivial⟩
  have f150:=Sep.oc sp.f2
  refine RunT.same (v:=v64) Ty_ok rfl rfl (by simp[hh,m4_1,f48,f49,f129,f136,f143,f150,-cellsA,-indexAddrF,-one1,cAx,o1x]) (fun hl=>absurd (hl.symm.trans (show lateC _ _ _=true by kernel_rfl)) (by decide)) ?_
  refine RunT.fin (by refine⟨v63,.arr id43 r30.length 0 r30.length,by simp[hh,m4_1,f48,f49,f129,f136,f143,f150,-cellsA,-indexAddrF,-one1,cAx,o1x],sp.f2.dr.f1⟩)
 clear hh m4_1
 rintro ρ H n56 ⟨v54,v55,⟨hh,m4_1⟩,sp⟩
 refine Runs.seq ?_
 refine zE fun k' hk'=>?_
 simp[hh,m4_1]
 apply hk'
 refine Runs.block ?_
 refine Runs.loopW h (fun (sJ:Int × (List Int)) ρ H n=>match sJ with | (i160,l161)=>∃ (v162 v163:AVal),((ρ 1 = .list false (places.map intC)∧ρ 2 = .list false (edges.map intC)∧ρ 3=int many∧ρ 4=pA n1 4∧ρ 12=v163∧ρ 13=v162∧ρ 15=int i160)∧H (n1,4)=some ⟨6,[bC false b]⟩)∧Sep H n [oI v162 l161,oI v163 r30] [(n1,4)]) (by refine⟨v54,v55,by simp[hh,m4_1],sp⟩) ?_
 clear hh m4_1
 rintro⟨i160,l161⟩ ρ H n164 K h ⟨v162,v163,⟨hh,m4_1⟩,sp⟩ IH165
 refine Runs.seq ?_
 refine zE fun k' hk'=>?_
 obtain⟨len167,elen167,h⟩:=atm h
 have f168:=len_own (Sep.len (m:=len167) sp.f1 kd_24 (by rw[elen167,List.length_map]))
 obtain⟨c169,ec169,h⟩:=atm h
 have f170:=ib_lss (k:=.i64) ec169
 simp[hh,m4_1,f168,f170,-intBin,-lenF]
 apply hk'
 refine Runs.ite (b:=c169) (by simp[hh,m4_1]) (fun dc169=>?_) (fun dc169=>?_)
 ·replace h:=h.1 dc169
  refine Runs.skip ?_
  refine Runs.seq ?_
  refine Runs.block ?_
  refine Runs.cut (fun ρ H n=>∃ (v171 v172:AVal),((ρ 1 = .list false (places.map intC)∧ρ 2 = .list false (edges.map intC)∧ρ 3=int many∧ρ 4=pA n1 4∧ρ 12=v172∧ρ 13=v171∧ρ 15=int i160)∧H (n1,4)=some ⟨6,[bC false b]⟩)∧Sep H n [oI v171 l161,oI v172 r30] [(n1,4)]) (by refine⟨v162,v163,by simp[hh,m4_1,dc169],sp⟩) ?_
  clear hh m4_1
  rintro ρ H n173 ⟨v171,v172,⟨hh,m4_1⟩,sp⟩
  obtain⟨hb174,h⟩:=h
  obtain⟨id175,hv,mo176,ln177,ni178⟩:=Sep.openF sp.f1 (by simp) hb174
  subst hv
  simp at ni178
  obtain⟨x179,ex179,h⟩:=atm h
  have f180:=fun H (hm:H id175=some ⟨1,r30.map intC⟩)=>ix_arr (H:=H) (k:=.i64) (off:=0) (len:=r30.length) (g:=r30.length) kd_24 hm (by simp) rfl hb174
  have f181:=at_some (q:=i160.toNat) hb174 ex179 rfl
  obtain⟨hb182,h⟩:=h
  obtain⟨r183,er183,h⟩:=atm h
  refine Runs.seqC (fun H n=>H (n1,4)=some ⟨6,[bC false b]⟩∧Sep H n [oI v171 l161,oI (.arr id175 r30.length 0 r30.length) r30] [(n1,4)]) [7,8,9,10,11,12] (.free 0 (.free 1 (.free 2 (.free 3 (.free 4 (.free 5 (.free 6 (.hard 7 (.hard 8 (.hard 9 (.hard 10 (.hard 11 (.hard 12 (.fin) (.stop)) (.stop)) (.hard 11 (.hard 10 (.hard 12 (.fin) (.stop)) (.stop)) (.stop))) (.hard 10 (.hard 9 (.hard 11 (.hard 12 (.fin) (.stop)) (.stop)) (.stop)) (.stop))) (.stop)) (.stop))))))))) (fun ρ H n=>∃ (v186 v187 v188:AVal),((ρ 1 = .list false (places.map intC)∧ρ 2 = .list false (edges.map intC)∧ρ 3=int many∧ρ 4=pA n1 4∧ρ 12=v188∧ρ 13=v187∧ρ 15=int i160∧ρ 16=v186)∧H (n1,4)=some ⟨6,[bC false b]⟩)∧Sep H n [oI v186 r183.1,oI v187 l161,oI v188 r30] [(n1,4)]) draws (by decide) (by kernel_rfl) ?_ ?_
  ·refine RunT.free (.agg (bC false b)) rfl rfl ⟨m4_1,sp⟩ (fun H n hS=>by obtain⟨m4_1,sp⟩:=hS;exact (by exact stepF_ok Ty_ok (by rw[stepF_loc];simp[hh,m4_1,f180,f181,-indexAddrF]))) ?_
   refine RunT.free (.arr id175 r30.length 0 r30.length) rfl rfl ⟨m4_1,sp⟩ (fun H n hS=>by obtain⟨m4_1,sp⟩:=hS;exact (by exact stepF_ok Ty_ok (by rw[stepF_loc];simp[hh,m4_1,f180,f181,-indexAddrF]))) ?_
   refine RunT.free (int i160) rfl rfl ⟨m4_1,sp⟩ (fun H n hS=>by obtain⟨m4_1,sp⟩:=hS;exact (by exact stepF_ok Ty_ok (by rw[stepF_loc];simp[hh,m4_1,f180,f181,-indexAddrF]))) ?_
   refine RunT.free (.ptr id175 r30.length i160.toNat 0) rfl rfl ⟨m4_1,sp⟩ (fun H n hS=>by obtain⟨m4_1,sp⟩:=hS;exact (by have mo176:=Sep.atF sp.f1 (by simp) hb174;have f180:=fun H (hm:H id175=some ⟨1,r30.map intC⟩)=>ix_arr (H:=H) (k:=.i64) (off:=0) (len:=r30.length) (g:=r30.length) kd_24 hm (by simp) rfl hb174;have f181:=at_some (q:=i160.toNat) hb174 ex179 rfl;exact stepF_ok Ty_ok (by rw[stepF_loc];simp[hh,m4_1,f180,f181,mo176,-indexAddrF]))) ?_
   refine RunT.free (int x179) rfl rfl ⟨m4_1,sp⟩ (fun H n hS=>by obtain⟨m4_1,sp⟩:=hS;exact (by have mo176:=Sep.atF sp.f1 (by simp) hb174;exact stepF_ok Ty_ok (by rw[stepF_loc];simp[hh,m4_1,f180,f181,mo176,-indexAddrF]))) ?_
   refine RunT.free (.list false (places.map intC)) rfl rfl ⟨m4_1,sp⟩ (fun H n hS=>by obtain⟨m4_1,sp⟩:=hS;exact (by exact stepF_ok Ty_ok (by rw[stepF_loc];simp[hh,m4_1,f180,f181,-indexAddrF]))) ?_
   refine RunT.free (.list false (edges.map intC)) rfl rfl ⟨m4_1,sp⟩ (fun H n hS=>by obtain⟨m4_1,sp⟩:=hS;exact (by exact stepF_ok Ty_ok (by rw[stepF_loc];simp[hh,m4_1,f180,f181,-indexAddrF]))) ?_
   refine⟨?_,trivial⟩
   refine RunT.callW (as1:=[.agg (bC false b),int x179,.list false (places.map intC),.list false (edges.map intC)]) rfl rfl (chunkZ_ok b x179 places edges hb182) e130 (.cons (argB false b) (.cons (.v _ _ _) (.cons (argI false places) (.cons (argI false edges) .nil)))) sp (by simp[hh,m4_1,f180,f181,-indexAddrF]) (by simp[hh,m4_1,f180,f181,-indexAddrF]) ?_
   rintro v194 H190 n191 _ sp rfl hle193 hfr192
   rw[← er183] at sp
   replace sp:=Sep.unpackT sp
   obtain⟨L198,hv,hl199,sp⟩:=sp
   subst hv
   obtain⟨v196,v197,hv⟩:=len2 (by simpa using hl199)
   subst hv
   simp only[zip3,List.cons_append,List.nil_append] at sp
   replace sp:=Sep.rot sp
   try simp only[List.cons_append,List.nil_append,List.append_assoc] at sp
   replace sp:=Sep.rot sp
   try simp only[List.cons_append,List.nil_append,List.append_assoc] at sp
   replace sp:Sep H190 n191 [oI v171 l161,oI (.arr id175 r30.length 0 r30.length) r30,oI v196 r183.1,oI v197 r183.2] [(n1,4)]:=sp
   have m4_1:=(hfr192 _ (by simp)).trans m4_1
   refine⟨(fun hl=>absurd (hl.symm.trans (show lateC _ _ _=true by kernel_rfl)) (by decide)),?_⟩
   refine⟨?_,trivial⟩
   refine RunT.same (v:=(.tup [v196,v197])) Ty_ok rfl rfl (by simp[hh,m4_1,f180,f181,-indexAddrF]) (fun hl=>absurd (hl.symm.trans (show lateC _ _ _=true by kernel_rfl)) (by decide)) ?_
   refine⟨?_,?_,trivial⟩
   ·have f213:=Sep.oc sp.f2
    refine RunT.same (v:=v196) Ty_ok rfl rfl (by simp[hh,m4_1,f180,f181,f213,-cellsA,-indexAddrF,-one1,cAx,o1x]) (fun hl=>absurd (hl.symm.trans (show lateC _ _ _=true by kernel_rfl)) (by decide)) ?_
    refine⟨?_,?_,trivial⟩
    ·have f220:=Sep.oc sp.f3
     refine RunT.same (v:=v197) Ty_ok rfl rfl (by simp[hh,m4_1,f180,f181,f213,f220,-cellsA,-indexAddrF,-one1,cAx,o1x]) (fun hl=>absurd (hl.symm.trans (show lateC _ _ _=true by kernel_rfl)) (by decide)) ?_
     refine⟨?_,trivial⟩
     have f227:=Sep.oc sp.f2
     refine RunT.same (v:=v196) Ty_ok rfl rfl (by simp[hh,m4_1,f180,f181,f213,f220,f227,-cellsA,-indexAddrF,-one1,cAx,o1x]) (fun hl=>absurd (hl.symm.trans (show lateC _ _ _=true by kernel_rfl)) (by decide)) ?_
     refine⟨?_,trivial⟩
     have f234:=Sep.oc sp.f3
     refine RunT.same (v:=v197) Ty_ok rfl rfl (by simp[hh,m4_1,f180,f181,f213,f220,f227,f234,-cellsA,-indexAddrF,-one1,cAx,o1x]) (fun hl=>absurd (hl.symm.trans (show lateC _ _ _=true by kernel_rfl)) (by decide)) ?_
     refine RunT.fin (by refine⟨v196,v171,.arr id175 r30.length 0 r30.length,by simp[hh,m4_1,f180,f181,f213,f220,f227,f234,-cellsA,-indexAddrF,-one1,cAx,o1x],sp.f3.dr.f2⟩)
    have f241:=Sep.oc sp.f2
    refine RunT.same (v:=v196) Ty_ok rfl rfl (by simp[hh,m4_1,f180,f181,f213,f241,-cellsA,-indexAddrF,-one1,cAx,o1x]) (fun hl=>absurd (hl.symm.trans (show lateC _ _ _=true by kernel_rfl)) (by decide)) ?_
    refine⟨?_,trivial⟩
    have f248:=Sep.oc sp.f3
    refine RunT.same (v:=v197) Ty_ok rfl rfl (by simp[hh,m4_1,f180,f181,f213,f241,f248,-cellsA,-indexAddrF,-one1,cAx,o1x]) (fun hl=>absurd (hl.symm.trans (show lateC _ _ _=true by kernel_rfl)) (by decide)) ?_
    refine⟨?_,trivial⟩
    have f255:=Sep.oc sp.f3
    refine RunT.same (v:=v197) Ty_ok rfl rfl (by simp[hh,m4_1,f180,f181,f213,f241,f248,f255,-cellsA,-indexAddrF,-one1,cAx,o1x]) (fun hl=>absurd (hl.symm.trans (show lateC _ _ _=true by kernel_rfl)) (by decide)) ?_
    refine RunT.fin (by refine⟨v196,v171,.arr id175 r30.length 0 r30.length,by simp[hh,m4_1,f180,f181,f213,f241,f248,f255,-cellsA,-indexAddrF,-one1,cAx,o1x],sp.f3.dr.f2⟩)
   have f262:=Sep.oc sp.f3
   refine RunT.same (v:=v197) Ty_ok rfl rfl (by simp[hh,m4_1,f180,f181,f262,-cellsA,-indexAddrF,-one1,cAx,o1x]) (fun hl=>absurd (hl.symm.trans (show lateC _ _ _=true by kernel_rfl)) (by decide)) ?_
   refine⟨?_,trivial⟩
   have f269:=Sep.oc sp.f2
   refine RunT.same (v:=v196) Ty_ok rfl rfl (by simp[hh,m4_1,f180,f181,f262,f269,-cellsA,-indexAddrF,-one1,cAx,o1x]) (fun hl=>absurd (hl.symm.trans (show lateC _ _ _=true by kernel_rfl)) (by decide)) ?_
   refine⟨?_,trivial⟩
   have f276:=Sep.oc sp.f2
   refine RunT.same (v:=v196) Ty_ok rfl rfl (by simp[hh,m4_1,f180,f181,f262,f269,f276,-cellsA,-indexAddrF,-one1,cAx,o1x]) (fun hl=>absurd (hl.symm.trans (show lateC _ _ _=true by kernel_rfl)) (by decide)) ?_
   refine⟨?_,trivial⟩
   have f283:=Sep.oc sp.f3
   refine RunT.same (v:=v197) Ty_ok rfl rfl (by simp[hh,m4_1,f180,f181,f262,f269,f276,f283,-cellsA,-indexAddrF,-one1,cAx,o1x]) (fun hl=>absurd (hl.symm.trans (show lateC _ _ _=true by kernel_rfl)) (by decide)) ?_
   refine RunT.fin (by refine⟨v196,v171,.arr id175 r30.length 0 r30.length,by simp[hh,m4_1,f180,f181,f262,f269,f276,f283,-cellsA,-indexAddrF,-one1,cAx,o1x],sp.f3.dr.f2⟩)
  clear hh m4_1
  rintro ρ H n189 ⟨v186,v187,v188,⟨hh,m4_1⟩,sp⟩
  refine zE fun k' hk'=>?_
  obtain⟨hb284,h⟩:=h
  obtain⟨r285,er285,h⟩:=atm h
  simp[hh,m4_1]
  refine RunK.callA Ty_ok (lessZ_ok r183.1 l161 hb284) e153 (.cons (Sep.argOk' sp (old_listF (by simp))) (.cons (Sep.argOk' sp.f1 (old_listF (by simp))) .nil)) (by decide) (by decide) rfl (by simp[hh,m4_1]) ?_
  rintro _ rfl
  rw[← er285]
  simp[hh,m4_1]
  apply hk'
  refine Runs.ite (b:=r285) (by simp[hh,m4_1]) (fun dr285=>?_) (fun dr285=>?_)
  ·replace h:=h.1 dr285
   refine zF fun k' hk'=>?_
   simp[hh,m4_1,dr285]
   apply hk'
   refine Runs.inBlock ?_
   refine zF fun k' hk'=>?_
   obtain⟨hb286,h⟩:=h
   obtain⟨v287,ev287,h⟩:=atm h
   have f288:=ib_add hb286 ev287
   simp[hh,m4_1,f288,dr285,-intBin]
   apply hk'
   refine IH165 (v287,r183.1) _ _ _ h (by refine⟨v186,v188,by simp[hh,m4_1,dr285],sp.f1.dr⟩)
  replace h:=h.2 dr285
  refine Runs.skip ?_
  refine Runs.inBlock ?_
  refine zF fun k' hk'=>?_
  obtain⟨hb289,h⟩:=h
  obtain⟨v290,ev290,h⟩:=atm h
  have f291:=ib_add hb289 ev290
  simp[hh,m4_1,f291,dr285,-intBin]
  apply hk'
  refine IH165 (v290,l161) _ _ _ h (by refine⟨v187,v188,by simp[hh,m4_1,dr285],sp.dr⟩)
 replace h:=h.2 dc169
 refine Runs.exit rfl ?_
 refine zE fun k' hk'=>?_
 simp[hh,m4_1,dc169]
 apply hk'
 refine Runs.cut (fun ρ H n=>∃ (v294 v295 v296 v297:AVal),((ρ 1 = .list false (places.map intC)∧ρ 2 = .list false (edges.map intC)∧ρ 3=int many∧ρ 4=pA n1 4∧ρ 12=v297∧ρ 13=v296∧ρ 18=v295∧ρ 19=v294)∧H (n1,4)=some ⟨6,[bC false b]⟩)∧Sep H n [oI v294 ([]:List Int),oI v295 ([]:List Int),oI v296 l161,oI v297 r30] [(n1,4)]) (by refine⟨.arr (n164+1,76) 0 0 0,.arr (n164,75) 0 0 0,v162,v163,by simp[hh,m4_1,dc169],(Sep.addEmpty (l:=[.c]) (Sep.addEmpty (l:=[.c]) sp))⟩) ?_
 clear hh m4_1
 rintro ρ H n298 ⟨v294,v295,v296,v297,⟨hh,m4_1⟩,sp⟩
 refine zE fun k' hk'=>?_
 simp[hh,m4_1]
 apply hk'
 refine Runs.seq ?_
 refine zE fun k' hk'=>?_
 simp[hh,m4_1]
 apply hk'
 refine Runs.block ?_
 refine Runs.loopW h (fun (sJ:Bool × Int × (List Int) × (List Int)) ρ H n=>match sJ with | (found315,i316,l317,l318)=>∃ (v319 v320 v321 v322:AVal),((ρ 1 = .list false (places.map intC)∧ρ 2 = .list false (edges.map intC)∧ρ 3=int many∧ρ 4=pA n1 4∧ρ 12=v322∧ρ 13=v321∧ρ 18=v320∧ρ 19=v319∧ρ 20=bool found315∧ρ 21=int i316)∧H (n1,4)=some ⟨6,[bC false b]⟩)∧Sep H n [oI v319 l317,oI v320 l318,oI v321 l161,oI v322 r30] [(n1,4)]) (by refine⟨v294,v295,v296,v297,by simp[hh,m4_1],sp⟩) ?_
 clear hh m4_1
 rintro⟨found315,i316,l317,l318⟩ ρ H n323 K h ⟨v319,v320,v321,v322,⟨hh,m4_1⟩,sp⟩ IH324
 refine Runs.seq ?_
 refine zE fun k' hk'=>?_
 obtain⟨len326,elen326,h⟩:=atm h
 have f327:=len_own (Sep.len (m:=len326) sp.f3 kd_24 (by rw[elen326,List.length_map]))
 obtain⟨c328,ec328,h⟩:=atm h
 have f329:=ib_lss (k:=.i64) ec328
 simp[hh,m4_1,f327,f329,-intBin,-lenF]
 apply hk'
 refine Runs.ite (b:=c328) (by simp[hh,m4_1]) (fun dc328=>?_) (fun dc328=>?_)
 ·replace h:=h.1 dc328
  refine Runs.skip ?_
  refine Runs.seq ?_
  refine Runs.block ?_
  refine Runs.cut (fun ρ H n=>∃ (v330 v331 v332 v333:AVal),((ρ 1 = .list false (places.map intC)∧ρ 2 = .list false (edges.map intC)∧ρ 3=int many∧ρ 4=pA n1 4∧ρ 12=v333∧ρ 13=v332∧ρ 18=v331∧ρ 19=v330∧ρ 20=bool found315∧ρ 21=int i316)∧H (n1,4)=some ⟨6,[bC false b]⟩)∧Sep H n [oI v330 l317,oI v331 l318,oI v332 l161,oI v333 r30] [(n1,4)]) (by refine⟨v319,v320,v321,v322,by simp[hh,m4_1,dc328],sp⟩) ?_
  clear hh m4_1
  rintro ρ H n334 ⟨v330,v331,v332,v333,⟨hh,m4_1⟩,sp⟩
  obtain⟨hb335,h⟩:=h
  obtain⟨id336,hv,mo337,ln338,ni339⟩:=Sep.openF sp.f3 (by simp) hb335
  subst hv
  simp at ni339
  obtain⟨x340,ex340,h⟩:=atm h
  have f341:=fun H (hm:H id336=some ⟨1,r30.map intC⟩)=>ix_arr (H:=H) (k:=.i64) (off:=0) (len:=r30.length) (g:=r30.length) kd_24 hm (by simp) rfl hb335
  have f342:=at_some (q:=i316.toNat) hb335 ex340 rfl
  obtain⟨hb343,h⟩:=h
  obtain⟨r344,er344,h⟩:=atm h
  refine Runs.seqC (fun H n=>H (n1,4)=some ⟨6,[bC false b]⟩∧Sep H n [oI v330 l317,oI v331 l318,oI v332 l161,oI (.arr id336 r30.length 0 r30.length) r30] [(n1,4)]) [7,8,9,10,11,12] (.free 0 (.free 1 (.free 2 (.free 3 (.free 4 (.free 5 (.free 6 (.hard 7 (.hard 8 (.hard 9 (.hard 10 (.hard 11 (.hard 12 (.fin) (.stop)) (.stop)) (.hard 11 (.hard 10 (.hard 12 (.fin) (.stop)) (.stop)) (.stop))) (.hard 10 (.hard 9 (.hard 11 (.hard 12 (.fin) (.stop)) (.stop)) (.stop)) (.stop))) (.stop)) (.stop))))))))) (fun ρ H n=>∃ (v347 v348 v349 v350 v351 v352:AVal),((ρ 1 = .list false (places.map intC)∧ρ 2 = .list false (edges.map intC)∧ρ 3=int many∧ρ 4=pA n1 4∧ρ 12=v352∧ρ 13=v351∧ρ 18=v350∧ρ 19=v349∧ρ 20=bool found315∧ρ 21=int i316∧ρ 22=v347∧ρ 23=v348)∧H (n1,4)=some ⟨6,[bC false b]⟩)∧Sep H n [oI v347 r344.1,oI v348 r344.2,oI v349 l317,oI v350 l318,oI v351 l161,oI v352 r30] [(n1,4)]) draws (by decide) (by kernel_rfl) ?_ ?_
  ·refine RunT.free (.agg (bC false b)) rfl rfl ⟨m4_1,sp⟩ (fun H n hS=>by obtain⟨m4_1,sp⟩:=hS;exact (by exact stepF_ok Ty_ok (by rw[stepF_loc];simp[hh,m4_1,f341,f342,-indexAddrF]))) ?_
   refine RunT.free (.arr id336 r30.length 0 r30.length) rfl rfl ⟨m4_1,sp⟩ (fun H n hS=>by obtain⟨m4_1,sp⟩:=hS;exact (by exact stepF_ok Ty_ok (by rw[stepF_loc];simp[hh,m4_1,f341,f342,-indexAddrF]))) ?_
   refine RunT.free (int i316) rfl rfl ⟨m4_1,sp⟩ (fun H n hS=>by obtain⟨m4_1,sp⟩:=hS;exact (by exact stepF_ok Ty_ok (by rw[stepF_loc];simp[hh,m4_1,f341,f342,-indexAddrF]))) ?_
   refine RunT.free (.ptr id336 r30.length i316.toNat 0) rfl rfl ⟨m4_1,sp⟩ (fun H n hS=>by obtain⟨m4_1,sp⟩:=hS;exact (by have mo337:=Sep.atF sp.f3 (by simp) hb335;have f341:=fun H (hm:H id336=some ⟨1,r30.map intC⟩)=>ix_arr (H:=H) (k:=.i64) (off:=0) (len:=r30.length) (g:=r30.length) kd_24 hm (by simp) rfl hb335;have f342:=at_some (q:=i316.toNat) hb335 ex340 rfl;exact stepF_ok Ty_ok (by rw[stepF_loc];simp[hh,m4_1,f341,f342,mo337,-indexAddrF]))) ?_
   refine RunT.free (int x340) rfl rfl ⟨m4_1,sp⟩ (fun H n hS=>by obtain⟨m4_1,sp⟩:=hS;exact (by have mo337:=Sep.atF sp.f3 (by simp) hb335;exact stepF_ok Ty_ok (by rw[stepF_loc];simp[hh,m4_1,f341,f342,mo337,-indexAddrF]))) ?_
   refine RunT.free (.list false (places.map intC)) rfl rfl ⟨m4_1,sp⟩ (fun H n hS=>by obtain⟨m4_1,sp⟩:=hS;exact (by exact stepF_ok Ty_ok (by rw[stepF_loc];simp[hh,m4_1,f341,f342,-indexAddrF]))) ?_
   refine RunT.free (.list false (edges.map intC)) rfl rfl ⟨m4_1,sp⟩ (fun H n hS=>by obtain⟨m4_1,sp⟩:=hS;exact (by exact stepF_ok Ty_ok (by rw[stepF_loc];simp[hh,m4_1,f341,f342,-indexAddrF]))) ?_
   refine⟨?_,trivial⟩
   refine RunT.callW (as1:=[.agg (bC false b),int x340,.list false (places.map intC),.list false (edges.map intC)]) rfl rfl (chunkZ_ok b x340 places edges hb343) e130 (.cons (argB false b) (.cons (.v _ _ _) (.cons (argI false places) (.cons (argI false edges) .nil)))) sp (by simp[hh,m4_1,f341,f342,-indexAddrF]) (by simp[hh,m4_1,f341,f342,-indexAddrF]) ?_
   rintro v358 H354 n355 _ sp rfl hle357 hfr356
   rw[← er344] at sp
   replace sp:=Sep.unpackT sp
   obtain⟨L362,hv,hl363,sp⟩:=sp
   subst hv
   obtain⟨v360,v361,hv⟩:=len2 (by simpa using hl363)
   subst hv
   simp only[zip3,List.cons_append,List.nil_append] at sp
   replace sp:=Sep.rot sp
   try simp only[List.cons_append,List.nil_append,List.append_assoc] at sp
   replace sp:=Sep.rot sp
   try simp only[List.cons_append,List.nil_append,List.append_assoc] at sp
   replace sp:Sep H354 n355 [oI v330 l317,oI v331 l318,oI v332 l161,oI (.arr id336 r30.length 0 r30.length) r30,oI v360 r344.1,oI v361 r344.2] [(n1,4)]:=sp
   have m4_1:=(hfr356 _ (by simp)).trans m4_1
   refine⟨(fun hl=>absurd (hl.symm.trans (show lateC _ _ _=true by kernel_rfl)) (by decide)),?_⟩
   refine⟨?_,trivial⟩
   refine RunT.same (v:=(.tup [v360,v361])) Ty_ok rfl rfl (by simp[hh,m4_1,f341,f342,-indexAddrF]) (fun hl=>absurd (hl.symm.trans (show lateC _ _ _=true by kernel_rfl)) (by decide)) ?_
   refine⟨?_,?_,trivial⟩
   ·have f377:=Sep.oc sp.f4
    refine RunT.same (v:=v360) Ty_ok rfl rfl (by simp[hh,m4_1,f341,f342,f377,-cellsA,-indexAddrF,-one1,cAx,o1x]) (fun hl=>absurd (hl.symm.trans (show lateC _ _ _=true by kernel_rfl)) (by decide)) ?_
    refine⟨?_,?_,trivial⟩
    ·have f384:=Sep.oc sp.f5
     refine RunT.same (v:=v361) Ty_ok rfl rfl (by simp[hh,m4_1,f341,f342,f377,f384,-cellsA,-indexAddrF,-one1,cAx,o1x]) (fun hl=>absurd (hl.symm.trans (show lateC _ _ _=true by kernel_rfl)) (by decide)) ?_
     refine⟨?_,trivial⟩
     have f391:=Sep.oc sp.f4
     refine RunT.same (v:=v360) Ty_ok rfl rfl (by simp[hh,m4_1,f341,f342,f377,f384,f391,-cellsA,-indexAddrF,-one1,cAx,o1x]) (fun hl=>absurd (hl.symm.trans (show lateC _ _ _=true by kernel_rfl)) (by decide)) ?_
     refine⟨?_,trivial⟩
     have f398:=Sep.oc sp.f5
     refine RunT.same (v:=v361) Ty_ok rfl rfl (by simp[hh,m4_1,f341,f342,f377,f384,f391,f398,-cellsA,-indexAddrF,-one1,cAx,o1x]) (fun hl=>absurd (hl.symm.trans (show lateC _ _ _=true by kernel_rfl)) (by decide)) ?_
     refine RunT.fin (by refine⟨v360,v361,v330,v331,v332,.arr id336 r30.length 0 r30.length,by simp[hh,m4_1,f341,f342,f377,f384,f391,f398,-cellsA,-indexAddrF,-one1,cAx,o1x],sp.f5.f5⟩)
    have f405:=Sep.oc sp.f4
    refine RunT.same (v:=v360) Ty_ok rfl rfl (by simp[hh,m4_1,f341,f342,f377,f405,-cellsA,-indexAddrF,-one1,cAx,o1x]) (fun hl=>absurd (hl.symm.trans (show lateC _ _ _=true by kernel_rfl)) (by decide)) ?_
    refine⟨?_,trivial⟩
    have f412:=Sep.oc sp.f5
    refine RunT.same (v:=v361) Ty_ok rfl rfl (by simp[hh,m4_1,f341,f342,f377,f405,f412,-cellsA,-indexAddrF,-one1,cAx,o1x]) (fun hl=>absurd (hl.symm.trans (show lateC _ _ _=true by kernel_rfl)) (by decide)) ?_
    refine⟨?_,trivial⟩
    have f419:=Sep.oc sp.f5
    refine RunT.same (v:=v361) Ty_ok rfl rfl (by simp[hh,m4_1,f341,f342,f377,f405,f412,f419,-cellsA,-indexAddrF,-one1,cAx,o1x]) (fun hl=>absurd (hl.symm.trans (show lateC _ _ _=true by kernel_rfl)) (by decide)) ?_
    refine RunT.fin (by refine⟨v360,v361,v330,v331,v332,.arr id336 r30.length 0 r30.length,by simp[hh,m4_1,f341,f342,f377,f405,f412,f419,-cellsA,-indexAddrF,-one1,cAx,o1x],sp.f5.f5⟩)
   have f426:=Sep.oc sp.f5
   refine RunT.same (v:=v361) Ty_ok rfl rfl (by simp[hh,m4_1,f341,f342,f426,-cellsA,-indexAddrF,-one1,cAx,o1x]) (fun hl=>absurd (hl.symm.trans (show lateC _ _ _=true by kernel_rfl)) (by decide)) ?_
   refine⟨?_,trivial⟩
   have f433:=Sep.oc sp.f4
   refine RunT.same (v:=v360) Ty_ok rfl rfl (by simp[hh,m4_1,f341,f342,f426,f433,-cellsA,-indexAddrF,-one1,cAx,o1x]) (fun hl=>absurd (hl.symm.trans (show lateC _ _ _=true by kernel_rfl)) (by decide)) ?_
   refine⟨?_,trivial⟩
   have f440:=Sep.oc sp.f4
   refine RunT.same (v:=v360) Ty_ok rfl rfl (by simp[hh,m4_1,f341,f342,f426,f433,f440,-cellsA,-indexAddrF,-one1,cAx,o1x]) (fun hl=>absurd (hl.symm.trans (show lateC _ _ _=true by kernel_rfl)) (by decide)) ?_
   refine⟨?_,trivial⟩
   have f447:=Sep.oc sp.f5
   refine RunT.same (v:=v361) Ty_ok rfl rfl (by simp[hh,m4_1,f341,f342,f426,f433,f440,f447,-cellsA,-indexAddrF,-one1,cAx,o1x]) (fun hl=>absurd (hl.symm.trans (show lateC _ _ _=true by kernel_rfl)) (by decide)) ?_
   refine RunT.fin (by refine⟨v360,v361,v330,v331,v332,.arr id336 r30.length 0 r30.length,by simp[hh,m4_1,f341,f342,f426,f433,f440,f447,-cellsA,-indexAddrF,-one1,cAx,o1x],sp.f5.f5⟩)
  clear hh m4_1
  rintro ρ H n353 ⟨v347,v348,v349,v350,v351,v352,⟨hh,m4_1⟩,sp⟩
  refine Runs.seq ?_
  refine zE fun k' hk'=>?_
  obtain⟨hb448,h⟩:=h
  obtain⟨r449,er449,h⟩:=atm h
  simp[hh,m4_1]
  refine RunK.callA Ty_ok (sameZ_ok r344.1 l161 hb448) e82 (.cons (Sep.argOk' sp (old_listF (by simp))) (.cons (Sep.argOk' sp.f4 (old_listF (by simp))) .nil)) (by decide) (by decide) rfl (by simp[hh,m4_1]) ?_
  rintro _ rfl
  rw[← er449]
  simp[hh,m4_1]
  apply hk'
  refine Runs.ite (b:=(!r449)) (by simp[hh,m4_1]) (fun dr449=>?_) (fun dr449=>?_)
  ·have dr449:r449=false:=by simpa using dr449
   replace h:=h.2 dr449
   refine Runs.exit rfl ?_
   refine zF fun k' hk'=>?_
   obtain⟨hb450,h⟩:=h
   obtain⟨v451,ev451,h⟩:=atm h
   have f452:=ib_add hb450 ev451
   simp[hh,m4_1,f452,dr449,-intBin]
   apply hk'
   refine IH324 (found315,v451,l317,l318) _ _ _ h (by refine⟨v349,v350,v351,v352,by simp[hh,m4_1,dr449],sp.dr.dr⟩)
  have dr449:r449=true:=by simpa using dr449
  replace h:=h.1 dr449
  refine Runs.skip ?_
  refine zE fun k' hk'=>?_
  obtain⟨hb453,h⟩:=h
  obtain⟨r454,er454,h⟩:=atm h
  simp[hh,m4_1,dr449]
  refine RunK.callW Ty_ok (ownZ_ok places hb453) e134 (.cons (argI false places) .nil) sp (by decide) (by decide) rfl (by simp[hh,m4_1,dr449]) ?_
  rintro v455 H456 n457 _ sp rfl hle459 hfr458
  rw[← er454] at sp
  have m4_1:=(hfr458 _ (by simp)).trans m4_1
  simp[hh,m4_1,dr449]
  apply hk'
  refine Runs.cut (fun ρ H n=>∃ (v462 v463 v464 v465 v466 v467:AVal),((ρ 1 = .list false (places.map intC)∧ρ 2 = .list false (edges.map intC)∧ρ 3=int many∧ρ 4=pA n1 4∧ρ 12=v467∧ρ 13=v466∧ρ 18=v465∧ρ 19=v464∧ρ 20=bool found315∧ρ 21=int i316∧ρ 23=v463∧ρ 24=v462)∧H (n1,4)=some ⟨6,[bC false b]⟩)∧Sep H n [oI v462 r454,oI v463 r344.2,oI v464 l317,oI v465 l318,oI v466 l161,oI v467 r30] [(n1,4)]) (by refine⟨v455,v348,v349,v350,v351,v352,by simp[hh,m4_1,dr449],sp.f1.dr⟩) ?_
  clear hh m4_1
  rintro ρ H n468 ⟨v462,v463,v464,v465,v466,v467,⟨hh,m4_1⟩,sp⟩
  refine zE fun k' hk'=>?_
  obtain⟨hb469,h⟩:=h
  obtain⟨id470,hv,mo471,ln472,ni473⟩:=Sep.openF sp.f5 (by simp) hb469
  subst hv
  simp at ni473
  obtain⟨x474,ex474,h⟩:=atm h
  have f475:=fun H (hm:H id470=some ⟨1,r30.map intC⟩)=>ix_arr (H:=H) (k:=.i64) (off:=0) (len:=r30.length) (g:=r30.length) kd_24 hm (by simp) rfl hb469
  have f476:=at_some (q:=i316.toNat) hb469 ex474 rfl
  obtain⟨hb477,h⟩:=h
  obtain⟨id478,hv,mo479,ln480,ni481⟩:=Sep.openF sp (by simp) hb477
  subst hv
  simp at ni481
  obtain⟨x482,ex482,h⟩:=atm h
  have f483:=fun H (hm:H id478=some ⟨1,r454.map intC⟩)=>ix_arr (H:=H) (k:=.i64) (off:=0) (len:=r454.length) (g:=r454.length) kd_24 hm (by simp) rfl hb477
  have f484:=at_some (q:=x474.toNat) hb477 ex482 rfl
  obtain⟨l485,el485,h⟩:=atm h
  simp[hh,m4_1,mo471,ni473,mo479,ni481,f475,f476,f483,f484,-indexAddrF,-storeF]
  refine bind_store (q:=x474.toNat) (news:=intC many) [] [oI v463 r344.2,oI v464 l317,oI v465 l318,oI v466 l161,oI (.arr id470 r30.length 0 r30.length) r30] sp (by simp) (by simp;omega) (by simp) (by simp[-one1,o1x]) (Fill.v _ Fill.nil) ?_
  rintro H486 sp hfr487
  replace sp:Sep H486 n468 [oI (.arr id478 r454.length 0 r454.length) l485,oI v463 r344.2,oI v464 l317,oI v465 l318,oI v466 l161,oI (.arr id470 r30.length 0 r30.length) r30] [(n1,4)]:=Sep.st el485 sp
  have m4_1:=(hfr487 _ (by simp)).trans m4_1
  simp[hh,m4_1,ni473,ni481,f475,f476,f483,f484,-indexAddrF]
  apply hk'
  refine Runs.cut (fun ρ H n=>∃ (v489 v490 v491 v492 v493 v494:AVal),((ρ 1 = .list false (places.map intC)∧ρ 2 = .list false (edges.map intC)∧ρ 3=int many∧ρ 4=pA n1 4∧ρ 12=v494∧ρ 13=v493∧ρ 18=v492∧ρ 19=v491∧ρ 20=bool found315∧ρ 21=int i316∧ρ 23=v490∧ρ 24=v489)∧H (n1,4)=some ⟨6,[bC false b]⟩)∧Sep H n [oI v489 l485,oI v490 r344.2,oI v491 l317,oI v492 l318,oI v493 l161,oI v494 r30] [(n1,4)]) (by refine⟨.arr id478 r454.length 0 r454.length,v463,v464,v465,v466,.arr id470 r30.length 0 r30.length,by simp[hh,m4_1,ni473,ni481,f475,f476,f483,f484,-indexAddrF],sp⟩) ?_
  clear hh m4_1 ni473 ni481
  rintro ρ H n495 ⟨v489,v490,v491,v492,v493,v494,⟨hh,m4_1⟩,sp⟩
  refine zE fun k' hk'=>?_
  obtain⟨hb496,h⟩:=h
  obtain⟨v497,ev497,h⟩:=atm h
  have f498:=ib_add hb496 ev497
  obtain⟨hb499,h⟩:=h
  obtain⟨r500,er500,h⟩:=atm h
  simp[hh,m4_1,f498,-intBin]
  refine RunK.callW Ty_ok (ih b l485 r344.2 v497 hb499.1 hb499.2) e128 (.cons (argB false b) (.cons (Sep.argOk' sp (old_listF (by simp))) (.cons (Sep.argOk' sp.f1 (old_listF (by simp))) (.cons (.v _ _ _) .nil)))) sp (by decide) (by decide) rfl (by simp[hh,m4_1,f498,-intBin]) ?_
  rintro v501 H502 n503 _ sp rfl hle505 hfr504
  rw[← er500] at sp
  have m4_1:=(hfr504 _ (by simp)).trans m4_1
  replace sp:=Sep.unpackT sp
  obtain⟨L509,hv,hl510,sp⟩:=sp
  subst hv
  obtain⟨v507,v508,hv⟩:=len2 (by simpa using hl510)
  subst hv
  simp only[zip3,List.cons_append,List.nil_append] at sp
  replace sp:=Sep.rot sp
  try simp only[List.cons_append,List.nil_append,List.append_assoc] at sp
  replace sp:=Sep.rot sp
  try simp only[List.cons_append,List.nil_append,List.append_assoc] at sp
  simp[hh,m4_1,f498,-intBin]
  apply hk'
  refine Runs.cut (fun ρ H n=>∃ (v513 v514 v515 v516 v517 v518:AVal),((ρ 1 = .list false (places.map intC)∧ρ 2 = .list false (edges.map intC)∧ρ 3=int many∧ρ 4=pA n1 4∧ρ 12=v516∧ρ 13=v515∧ρ 18=v514∧ρ 19=v513∧ρ 20=bool found315∧ρ 21=int i316∧ρ 25=v517∧ρ 26=v518)∧H (n1,4)=some ⟨6,[bC false b]⟩)∧Sep H n [oI v513 l317,oI v514 l318,oI v515 l161,oI v516 r30,oI v517 r500.1,oI v518 r500.2] [(n1,4)]) (by refine⟨v491,v492,v493,v494,v507,v508,by simp[hh,m4_1,f498,-intBin],sp.dr.dr⟩) ?_
  clear hh m4_1
  rintro ρ H n519 ⟨v513,v514,v515,v516,v517,v518,⟨hh,m4_1⟩,sp⟩
  refine zE fun k' hk'=>?_
  obtain⟨J520,hJ521,hr522⟩:=h
  have fin530:∀ (sJ:Bool) (ρ:Env) (H:Heap) (n:Nat),J520 sJ→(match sJ with | b523=>∃ (v524 v525 v526 v527 v528 v529:AVal),((ρ 1 = .list false (places.map intC)∧ρ 2 = .list false (edges.map intC)∧ρ 3=int many∧ρ 4=pA n1 4∧ρ 12=v527∧ρ 13=v526∧ρ 18=v525∧ρ 19=v524∧ρ 20=bool found315∧ρ 21=int i316∧ρ 25=v528∧ρ 26=v529∧ρ 122=bool b523)∧H (n1,4)=some ⟨6,[bC false b]⟩)∧Sep H n [oI v524 l317,oI v525 l318,oI v526 l161,oI v527 r30,oI v528 r500.1,oI v529 r500.2] [(n1,4)])→Runs Tryz.prog 128 135 k' ρ H n Q:=by
   rintro b523 ρ H n531 h ⟨v524,v525,v526,v527,v528,v529,⟨hh,m4_1⟩,sp⟩
   replace h:=hr522 _ h
   apply hk'
   refine Runs.ite (b:=b523) (by simp[hh,m4_1]) (fun db523=>?_) (fun db523=>?_)
   ·replace h:=h.1 db523
    refine zE fun k' hk'=>?_
    simp[hh,m4_1,db523]
    apply hk'
    refine Runs.seqK Ty_ok (by decide) fun k' hk'=>?_
    refine RunK.same1 (v:=v527) Ty_ok (by decide) rfl (by simp[hh,m4_1,db523]) ?_
    refine RunK.same1 (v:=(int i316)) Ty_ok (by decide) rfl (by simp[hh,m4_1,db523]) ?_
    obtain⟨hb532,h⟩:=h
    obtain⟨id533,hv,mo534,ln535,ni536⟩:=Sep.openF sp.f3 (by simp) hb532
    subst hv
    simp at ni536
    obtain⟨x537,ex537,h⟩:=atm h
    have f538:=fun H (hm:H id533=some ⟨1,r30.map intC⟩)=>ix_arr (H:=H) (k:=.i64) (off:=0) (len:=r30.length) (g:=r30.length) kd_24 hm (by simp) rfl hb532
    have f539:=at_some (q:=i316.toNat) hb532 ex537 rfl
    refine RunK.same1 (v:=(.ptr id533 r30.length i316.toNat 0)) Ty_ok (by decide) rfl (by simp[hh,m4_1,mo534,ni536,f538,f539,db523,-indexAddrF]) ?_
    refine RunK.same1 (v:=(int x537)) Ty_ok (by decide) rfl (by simp[hh,m4_1,mo534,ni536,f538,f539,db523,-indexAddrF]) ?_
    obtain⟨l540,el540,h⟩:=atm h
    refine RunK.makeS (l':=[.c]) (cs:=[int x537]) Ty_ok (([x537]:List Int).map intC) sp (by decide) (by decide) (by simp) kd_24 (by simp) (by simp) (by simp[hh,m4_1,mo534,ni536,f538,f539,db523,splice,List.replicate,fillA,-indexAddrF]) (by simp[chunks,List.range_succ]) (by simp) (by simp) ?_
    rintro id541 H542 n543 sp hfr544 hle545
    replace sp:Sep H542 n543 [oI (.arr id541 1 0 1) l540,oI v524 l317,oI v525 l318,oI v526 l161,oI (.arr id533 r30.length 0 r30.length) r30,oI v528 r500.1,oI v529 r500.2] [(n1,4)]:=by rw[el540];exact sp
    have m4_1:=(hfr544 _ (by simp)).trans m4_1
    obtain⟨hb548,h⟩:=h
    obtain⟨l549,el549,h⟩:=atm h
    simp[hh,m4_1,ni536,f538,f539,db523,-indexAddrF,-appendF]
    refine bind_append0 (r500.2.map intC) sp (by simp) kd_24 (by simp) (by simp) (Sep.src sp.f6 (by simp)) (by simp[-one1,o1x]) (by simpa using hb548) ?_
    rintro v550 H551 n552 sp hfr553 hle554
    replace sp:Sep H551 n552 [oI v550 l549,oI v524 l317,oI v525 l318,oI v526 l161,oI (.arr id533 r30.length 0 r30.length) r30,oI v528 r500.1,oI v529 r500.2] [(n1,4)]:=by refine Sep.ap el549 ?_;exact sp
    have m4_1:=(hfr553 _ (by simp)).trans m4_1
    simp[hh,m4_1,ni536,f538,f539,db523,-indexAddrF]
    apply hk'
    refine Runs.cut (fun ρ H n=>∃ (v556 v557 v558 v559:AVal),((ρ 1 = .list false (places.map intC)∧ρ 2 = .list false (edges.map intC)∧ρ 3=int many∧ρ 4=pA n1 4∧ρ 12=v558∧ρ 13=v557∧ρ 18=v559∧ρ 19=v556∧ρ 21=int i316)∧H (n1,4)=some ⟨6,[bC false b]⟩)∧Sep H n [oI v556 l549,oI v557 l161,oI v558 r30,oI v559 r500.1] [(n1,4)]) (by refine⟨v550,v526,.arr id533 r30.length 0 r30.length,v528,by simp[hh,m4_1,ni536,f538,f539,db523,-indexAddrF],sp.f1.dr.f1.dr.f4.dr⟩) ?_
    clear hh m4_1 ni536
    rintro ρ H n560 ⟨v556,v557,v558,v559,⟨hh,m4_1⟩,sp⟩
    refine zF fun k' hk'=>?_
    simp[hh,m4_1]
    apply hk'
    refine Runs.inBlock ?_
    refine zF fun k' hk'=>?_
    obtain⟨hb561,h⟩:=h
    obtain⟨v562,ev562,h⟩:=atm h
    have f563:=ib_add hb561 ev562
    simp[hh,m4_1,f563,-intBin]
    apply hk'
    refine IH324 (true,v562,l549,r500.1) _ _ _ h (by refine⟨v556,v559,v557,v558,by simp[hh,m4_1],sp.f3.f1⟩)
   replace h:=h.2 db523
   refine Runs.skip ?_
   refine Runs.inBlock ?_
   refine zF fun k' hk'=>?_
   obtain⟨hb564,h⟩:=h
   obtain⟨v565,ev565,h⟩:=atm h
   have f566:=ib_add hb564 ev565
   simp[hh,m4_1,f566,db523,-intBin]
   apply hk'
   refine IH324 (found315,v565,l317,l318) _ _ _ h (by refine⟨v524,v525,v526,v527,by simp[hh,m4_1,db523],sp.f4.dr.f4.dr⟩)
  replace h:=hJ521
  rcases Bool.eq_false_or_eq_true found315 with dfound315 | dfound315
  ·replace h:=h.1 dfound315
   obtain⟨hb567,h⟩:=h
   obtain⟨r568,er568,h⟩:=atm h
   simp[hh,m4_1,dfound315]
   refine RunK.callA Ty_ok (lessZ_ok r500.1 l318 hb567) e153 (.cons (Sep.argOk' sp.f4 (old_listF (by simp))) (.cons (Sep.argOk' sp.f1 (old_listF (by simp))) .nil)) (by decide) (by decide) rfl (by simp[hh,m4_1,dfound315]) ?_
   rintro _ rfl
   rw[← er568]
   simp[hh,m4_1,dfound315]
   exact fin530 (r568) _ _ _ h (by refine⟨v513,v514,v515,v516,v517,v518,by simp[hh,m4_1,dfound315],sp⟩)
  replace h:=h.2 dfound315
  simp[hh,m4_1,dfound315]
  exact fin530 (true) _ _ _ h (by refine⟨v513,v514,v515,v516,v517,v518,by simp[hh,m4_1,dfound315],sp⟩)
 replace h:=h.2 dc328
 refine Runs.exit rfl ?_
 refine zE fun k' hk'=>?_
 obtain⟨hb569,h⟩:=h
 obtain⟨l570,el570,h⟩:=atm h
 simp[hh,m4_1,dc328,-appendF]
 refine bind_append0 (l318.map intC) sp.f2 (by simp) kd_24 (by simp) (by simp) (Sep.src sp.f1 (by simp)) (by simp[-one1,o1x]) (by simpa using hb569) ?_
 rintro v571 H572 n573 sp hfr574 hle575
 replace sp:Sep H572 n573 [oI v571 l570,oI v319 l317,oI v320 l318,oI v322 r30] [(n1,4)]:=by refine Sep.ap el570 ?_;exact sp
 have m4_1:=(hfr574 _ (by simp)).trans m4_1
 simp[hh,m4_1,dc328]
 apply hk'
 refine Runs.cut (fun ρ H n=>∃ (v577 v578:AVal),(ρ 8=v577∧ρ 9=v578)∧Sep H n [oI v577 l570,oI v578 l317] []) (by refine⟨v571,v319,by simp[hh,m4_1,dc328],(Sep.sub sp.f2.dr.f2.dr (by simp +contextual))⟩) ?_
 clear hh m4_1
 rintro ρ H n579 ⟨v577,v578,hh,sp⟩
 exact Runs.ret2 (v:=v577) (w:=v578) Tryz.func128 Tryz.results128 (by simp[hh]) (by simp[hh]) (hQ _ _ _ _ (Sep.sub (ids':=[]) (Sep.packT (Fill.own (Fill.own Fill.nil)) sp) (by simp)) ⟨(l570,l317),h,rfl⟩)
theorem bestZ_okm (mq:Nat):∀ (b:Big) (places:List Int) (edges:List Int) (many:Int),bestZ_ms b places edges many=mq→bestZ_pre b places edges many→OwnS Tryz.prog 128 [.agg (bC false b),.list false (places.map intC),.list false (edges.map intC),int many] (.t [.s [.c],.s [.c]]) (fun r=>r = .tup [.list true (((bestZ b places edges many).1).map intC),.list true (((bestZ b places edges many).2).map intC)]):=by
 induction mq using Nat.strongRecOn with
 | _ mq ih=>
  rintro b places edges many rfl hp
  exact (bestZ_walk b places edges many _ (fun br placesr edgesr manyr hp' hl=>ih _ hl br placesr edgesr manyr rfl hp') (bestZ_vc b places edges many hp)).mono (by rintro _ ⟨_,rfl,rfl⟩;rfl)
theorem bestZ_ok (b:Big) (places:List Int) (edges:List Int) (many:Int) (hp:bestZ_pre b places edges many):OwnS Tryz.prog 128 [.agg (bC false b),.list false (places.map intC),.list false (edges.map intC),int many] (.t [.s [.c],.s [.c]]) (fun r=>r = .tup [.list true (((bestZ b places edges many).1).map intC),.list true (((bestZ b places edges many).2).map intC)]):=bestZ_okm _ b places edges many rfl hp
end Go.Ab.Vg
/- Walks by program for YtkocdlgoncmdbaaGreatDoorAbMa. -/
namespace Go.Ab.Vg
open Go.Proofs
set_option maxRecDepth 100000
set_option linter.unusedSimpArgs false
set_option linter.unusedVariables false
attribute [local simp] Control.cells GNode.cells Wire.cells intC sliceC strC bC pA
end Go.Ab.Vg
/- Walks by program for YtkocdlgoncmdbaaGreatDoorAbMb. -/
namespace Go.Ab.Vg
open Go.Proofs
set_option maxRecDepth 100000
set_option linter.unusedSimpArgs false
set_option linter.unusedVariables false
theorem hasI_ok (l:List Int) (x:Int) (h:l.length≤1048576):PureC Tryz.prog 107 [.list false (l.map intC),int x] (fun r=>r=bool (hasI l x)):=contains_ok l x h
theorem l1HasI_ok (l:List Int) (x:Int) (h:l.length≤1048576):PureC Tryz.prog 135 [.list false (l.map intC),int x] (fun r=>r=bool (hasI l x)):=l1Has_ok l x h
end Go.Ab.Vg
/- Walks by program for YtkocdlgoncmdbaaGreatDoorAbMc. -/
namespace Go.Ab.Vg
open Go.Proofs
set_option maxRecDepth 100000
set_option linter.unusedSimpArgs false
set_option linter.unusedVariables false
end Go.Ab.Vg
/- What walks by program lean on: the text of a mark, and nested slices handed over. -/
namespace Go.Ab.Vg
open Go.Proofs
end Go.Ab.Vg
/- Walks by program for YtkocdlgoncmdbaaGreatDoorAbLm. -/
namespace Go.Ab.Vg
open Go.Proofs
set_option maxRecDepth 100000
set_option linter.unusedSimpArgs false
set_option linter.unusedVariables false
attribute [local simp] Control.cells GNode.cells Wire.cells intC sliceC strC bC pA zB
theorem e37:Ent Tryz.prog 37:=Ent.of Tryz.func37 (by kernel_rfl) rfl
theorem toIntS_walk (a:List Int) (Z:(List Int)→Prop) (h:toIntS_wp a Z):OwnS Tryz.prog 37 [.list false (a.map intC)] (.s [.c]) (fun r=>∃ y:List Int,Z y∧r = .list true (y.map intC)):=by
 unfold toIntS_wp at h
 have sp:Sep noHeap 0 [] []:=Sep.nil (by simp)
 refine OwnS.of Tryz.func37 rfl Tryz.ntmps37 (by simp) fun Q hQ=>?_
 refine Runs.cut (fun ρ H n=>ρ 0 = .list false (a.map intC)∧Sep H n [] []) (by refine⟨by simp ,sp⟩) ?_
 rintro ρ H n1 ⟨hh,sp⟩
 refine zE fun k' hk'=>?_
 simp[hh]
 apply hk'
 refine zE fun k' hk'=>?_
 obtain⟨len2,elen2,h⟩:=atm h
 have f3:=fun H=>len_list (H:=H) (fr:=false) (f:=intC) kd_24 elen2
 obtain⟨hb4,h⟩:=h
 obtain⟨l5,el5,h⟩:=atm h
 simp[hh,f3,hb4,el5,-lenF]
 apply hk'
 refine Runs.cut (fun ρ H n=>∃ (v7:AVal),(ρ 0 = .list false (a.map intC)∧ρ 3=v7)∧Sep H n [oI v7 l5] []) (by refine⟨.arr (n1,7) len2.toNat 0 len2.toNat,by simp[hh,f3,hb4,el5,-lenF],(Sep.addRepE (z:=[int 0]) (f:=intC) (k:=len2.toNat) el5 sp (fun H=>by show Row H [.c] [int 0] [int 0] [];simp[Row,Tr]))⟩) ?_
 clear hh
 rintro ρ H n8 ⟨v7,hh,sp⟩
 refine Runs.seq ?_
 refine zE fun k' hk'=>?_
 simp[hh]
 apply hk'
 refine Runs.block ?_
 refine Runs.loopW h (fun (sJ:Int × (List Int)) ρ H n=>match sJ with | (i16,l17)=>∃ (v18:AVal),(ρ 0 = .list false (a.map intC)∧ρ 3=v18∧ρ 4=int i16)∧Sep H n [oI v18 l17] []) (by refine⟨v7,by simp[hh],sp⟩) ?_
 clear hh
 rintro⟨i16,l17⟩ ρ H n19 K h ⟨v18,hh,sp⟩ IH20
 refine Runs.seq ?_
 refine zE fun k' hk'=>?_
 obtain⟨len22,elen22,h⟩:=atm h
 have f23:=fun H=>len_list (H:=H) (fr:=false) (f:=intC) kd_24 elen22
 obtain⟨c24,ec24,h⟩:=atm h
 have f25:=ib_lss (k:=.i64) ec24
 simp[hh,f23,f25,-intBin,-lenF]
 apply hk'
 refine Runs.ite (b:=c24) (by simp[hh]) (fun dc24=>?_) (fun dc24=>?_)
 ·replace h:=h.1 dc24
  refine Runs.skip ?_
  refine Runs.seq ?_
  refine Runs.block ?_
  refine zF fun k' hk'=>?_
  obtain⟨hb26,h⟩:=h
  obtain⟨x27,ex27,h⟩:=atm h
  have f28:=fun H=>ix_list (H:=H) (fr:=false) (f:=intC) (k:=.i64) kd_24 (fun _=>rfl) hb26 ex27
  obtain⟨hb29,h⟩:=h
  obtain⟨id30,hv,mo31,ln32,ni33⟩:=Sep.openF sp (by simp) hb29
  subst hv
  obtain⟨x34,ex34,h⟩:=atm h
  have f35:=fun H (hm:H id30=some ⟨1,l17.map intC⟩)=>ix_arr (H:=H) (k:=.i64) (off:=0) (len:=l17.length) (g:=l17.length) kd_24 hm (by simp) rfl hb29
  have f36:=at_some (q:=i16.toNat) hb29 ex34 rfl
  obtain⟨l37,el37,h⟩:=atm h
  simp[hh,mo31,f28,f35,f36,dc24,-indexAddrF,-storeF]
  refine bind_store (q:=i16.toNat) (news:=intC x27) [] [] sp (by simp) (by simp;omega) (by simp) (by simp[-one1,o1x]) (Fill.v _ Fill.nil) ?_
  rintro H38 sp hfr39
  replace sp:Sep H38 n19 [oI (.arr id30 l17.length 0 l17.length) l37] []:=Sep.st el37 sp
  simp[hh,f28,f35,f36,dc24,-indexAddrF]
  apply hk'
  refine Runs.cut (fun ρ H n=>∃ (v41:AVal),(ρ 0 = .list false (a.map intC)∧ρ 3=v41∧ρ 4=int i16)∧Sep H n [oI v41 l37] []) (by refine⟨.arr id30 l17.length 0 l17.length,by simp[hh,f28,f35,f36,dc24,-indexAddrF],sp⟩) ?_
  clear hh
  rintro ρ H n42 ⟨v41,hh,sp⟩
  refine Runs.inBlock ?_
  refine zF fun k' hk'=>?_
  obtain⟨hb43,h⟩:=h
  obtain⟨v44,ev44,h⟩:=atm h
  have f45:=ib_add hb43 ev44
  simp[hh,f45,-intBin]
  apply hk'
  refine IH20 (v44,l37) _ _ _ h (by refine⟨v41,by simp[hh],sp⟩)
 replace h:=h.2 dc24
 refine Runs.exit rfl ?_
 refine zE fun k' hk'=>?_
 simp[hh,dc24]
 apply hk'
 exact Runs.ret1 (v:=v18) Tryz.func37 Tryz.results37 (by simp[hh,dc24]) (hQ _ _ _ _ (Sep.sub (ids':=[]) sp (by simp)) ⟨l17,h,rfl⟩)
theorem toIntS_ok (a:List Int) (hp:toIntS_pre a):OwnS Tryz.prog 37 [.list false (a.map intC)] (.s [.c]) (fun r=>r = .list true ((toIntS a).map intC)):=(toIntS_walk a _ (toIntS_vc a hp)).mono (by rintro _ ⟨_,rfl,rfl⟩;rfl)
theorem e38:Ent Tryz.prog 38:=Ent.of Tryz.func38 (by kernel_rfl) rfl
theorem toStringS_walk (a:List Str) (Z:(List Str)→Prop) (h:toStringS_wp a Z):OwnS Tryz.prog 38 [.list false (a.map strC)] (.s [.c]) (fun r=>∃ y:List Str,Z y∧r = .list true (y.map strC)):=by
 unfold toStringS_wp at h
 have sp:Sep noHeap 0 [] []:=Sep.nil (by simp)
 refine OwnS.of Tryz.func38 rfl Tryz.ntmps38 (by simp) fun Q hQ=>?_
 refine Runs.cut (fun ρ H n=>ρ 0 = .list false (a.map strC)∧Sep H n [] []) (by refine⟨by simp ,sp⟩) ?_
 rintro ρ H n1 ⟨hh,sp⟩
 refine zE fun k' hk'=>?_
 simp[hh]
 apply hk'
 refine zE fun k' hk'=>?_
 obtain⟨len2,elen2,h⟩:=atm h
 have f3:=fun H=>len_list (H:=H) (fr:=false) (f:=strC) kd_25 elen2
 obtain⟨hb4,h⟩:=h
 obtain⟨l5,el5,h⟩:=atm h
 simp[hh,f3,hb4,el5,-lenF]
 apply hk'
 refine Runs.cut (fun ρ H n=>∃ (v7:AVal),(ρ 0 = .list false (a.map strC)∧ρ 3=v7)∧Sep H n [oS v7 l5] []) (by refine⟨.arr (n1,7) len2.toNat 0 len2.toNat,by simp[hh,f3,hb4,el5,-lenF],(Sep.addRepE (z:=[str []]) (f:=strC) (k:=len2.toNat) el5 sp (fun H=>by show Row H [.c] [str []] [str []] [];simp[Row,Tr]))⟩) ?_
 clear hh
 rintro ρ H n8 ⟨v7,hh,sp⟩
 refine Runs.seq ?_
 refine zE fun k' hk'=>?_
 simp[hh]
 apply hk'
 refine Runs.block ?_
 refine Runs.loopW h (fun (sJ:Int × (List Str)) ρ H n=>match sJ with | (i16,l17)=>∃ (v18:AVal),(ρ 0 = .list false (a.map strC)∧ρ 3=v18∧ρ 4=int i16)∧Sep H n [oS v18 l17] []) (by refine⟨v7,by simp[hh],sp⟩) ?_
 clear hh
 rintro⟨i16,l17⟩ ρ H n19 K h ⟨v18,hh,sp⟩ IH20
 refine Runs.seq ?_
 refine zE fun k' hk'=>?_
 obtain⟨len22,elen22,h⟩:=atm h
 have f23:=fun H=>len_list (H:=H) (fr:=false) (f:=strC) kd_25 elen22
 obtain⟨c24,ec24,h⟩:=atm h
 have f25:=ib_lss (k:=.i64) ec24
 simp[hh,f23,f25,-intBin,-lenF]
 apply hk'
 refine Runs.ite (b:=c24) (by simp[hh]) (fun dc24=>?_) (fun dc24=>?_)
 ·replace h:=h.1 dc24
  refine Runs.skip ?_
  refine Runs.seq ?_
  refine Runs.block ?_
  refine zF fun k' hk'=>?_
  obtain⟨hb26,h⟩:=h
  obtain⟨x27,ex27,h⟩:=atm h
  have f28:=fun H=>ix_list (H:=H) (fr:=false) (f:=strC) (k:=.i64) kd_25 (fun _=>rfl) hb26 ex27
  obtain⟨hb29,h⟩:=h
  obtain⟨id30,hv,mo31,ln32,ni33⟩:=Sep.openF sp (by simp) hb29
  subst hv
  obtain⟨x34,ex34,h⟩:=atm h
  have f35:=fun H (hm:H id30=some ⟨1,l17.map strC⟩)=>ix_arr (H:=H) (k:=.i64) (off:=0) (len:=l17.length) (g:=l17.length) kd_25 hm (by simp) rfl hb29
  have f36:=at_some (q:=i16.toNat) hb29 ex34 rfl
  obtain⟨l37,el37,h⟩:=atm h
  simp[hh,mo31,f28,f35,f36,dc24,-indexAddrF,-storeF]
  refine bind_store (q:=i16.toNat) (news:=strC x27) [] [] sp (by simp) (by simp;omega) (by simp) (by simp[-one1,o1x]) (Fill.v _ Fill.nil) ?_
  rintro H38 sp hfr39
  replace sp:Sep H38 n19 [oS (.arr id30 l17.length 0 l17.length) l37] []:=Sep.st el37 sp
  simp[hh,f28,f35,f36,dc24,-indexAddrF]
  apply hk'
  refine Runs.cut (fun ρ H n=>∃ (v41:AVal),(ρ 0 = .list false (a.map strC)∧ρ 3=v41∧ρ 4=int i16)∧Sep H n [oS v41 l37] []) (by refine⟨.arr id30 l17.length 0 l17.length,by simp[hh,f28,f35,f36,dc24,-indexAddrF],sp⟩) ?_
  clear hh
  rintro ρ H n42 ⟨v41,hh,sp⟩
  refine Runs.inBlock ?_
  refine zF fun k' hk'=>?_
  obtain⟨hb43,h⟩:=h
  obtain⟨v44,ev44,h⟩:=atm h
  have f45:=ib_add hb43 ev44
  simp[hh,f45,-intBin]
  apply hk'
  refine IH20 (v44,l37) _ _ _ h (by refine⟨v41,by simp[hh],sp⟩)
 replace h:=h.2 dc24
 refine Runs.exit rfl ?_
 refine zE fun k' hk'=>?_
 simp[hh,dc24]
 apply hk'
 exact Runs.ret1 (v:=v18) Tryz.func38 Tryz.results38 (by simp[hh,dc24]) (hQ _ _ _ _ (Sep.sub (ids':=[]) sp (by simp)) ⟨l17,h,rfl⟩)
theorem toStringS_ok (a:List Str) (hp:toStringS_pre a):OwnS Tryz.prog 38 [.list false (a.map strC)] (.s [.c]) (fun r=>r = .list true ((toStringS a).map strC)):=(toStringS_walk a _ (toStringS_vc a hp)).mono (by rintro _ ⟨_,rfl,rfl⟩;rfl)
theorem e35:Ent Tryz.prog 35:=Ent.of Tryz.func35 (by kernel_rfl) rfl
theorem toControl_walk (a:Control) (Z:Control→Prop) (h:toControl_wp a Z):PureC Tryz.prog 35 [.agg [str a.name,int a.ports,int a.kind]] (fun r=>∃ y:Control,Z y∧r = .agg [str y.name,int y.ports,int y.kind]):=by
 unfold toControl_wp at h
 refine PureC.of Tryz.func35 rfl Tryz.ntmps35 (by simp) fun Q hQ=>?_
 refine Runs.cut (fun ρ H n=>ρ 0 = .agg [str a.name,int a.ports,int a.kind]) (by simp[]) ?_
 rintro ρ H n1 hh
 refine zE fun k' hk'=>?_
 simp[hh]
 apply hk'
 refine Runs.cut (fun ρ H n=>(ρ 1=pA n1 1∧ρ 2=pA (n1+1) 2)∧H (n1,1)=some ⟨3,[[str a.name,int a.ports,int a.kind]]⟩∧H (n1+1,2)=some ⟨3,[[str [],int 0,int 0]]⟩) (by refine⟨?_,?_,?_⟩<;>simp[hh]) ?_
 clear hh
 rintro ρ H n4 ⟨hh,m1_1,m2_2⟩
 refine zE fun k' hk'=>?_
 simp[hh,m1_1,m2_2]
 apply hk'
 refine Runs.cut (fun ρ H n=>(ρ 1=pA n1 1∧ρ 2=pA (n1+1) 2∧ρ 3=pA n4 3)∧H (n1,1)=some ⟨3,[[str a.name,int a.ports,int a.kind]]⟩∧H (n1+1,2)=some ⟨3,[[str [],int 0,int 0]]⟩∧H (n4,3)=some ⟨3,[[str [],int 0,int 0]]⟩) (by refine⟨?_,?_,?_,?_⟩<;>simp[hh,m1_1,m2_2]) ?_
 clear hh m1_1 m2_2
 rintro ρ H n6 ⟨hh,m1_1,m2_2,m3_4⟩
 refine zE fun k' hk'=>?_
 simp[hh,m1_1,m2_2,m3_4]
 apply hk'
 refine Runs.cut (fun ρ H n=>(ρ 1=pA n1 1∧ρ 2=pA (n1+1) 2∧ρ 3=pA n4 3)∧H (n1,1)=some ⟨3,[[str a.name,int a.ports,int a.kind]]⟩∧H (n1+1,2)=some ⟨3,[[str [],int 0,int 0]]⟩∧H (n4,3)=some ⟨3,[[str a.name,int 0,int 0]]⟩) (by refine⟨?_,?_,?_,?_⟩<;>simp[hh,m1_1,m2_2,m3_4]) ?_
 clear hh m1_1 m2_2 m3_4
 rintro ρ H n7 ⟨hh,m1_1,m2_2,m3_4⟩
 refine zE fun k' hk'=>?_
 simp[hh,m1_1,m2_2,m3_4]
 apply hk'
 refine Runs.cut (fun ρ H n=>(ρ 1=pA n1 1∧ρ 2=pA (n1+1) 2∧ρ 3=pA n4 3)∧H (n1,1)=some ⟨3,[[str a.name,int a.ports,int a.kind]]⟩∧H (n1+1,2)=some ⟨3,[[str [],int 0,int 0]]⟩∧H (n4,3)=some ⟨3,[[str a.name,int a.ports,int 0]]⟩) (by refine⟨?_,?_,?_,?_⟩<;>simp[hh,m1_1,m2_2,m3_4]) ?_
 clear hh m1_1 m2_2 m3_4
 rintro ρ H n8 ⟨hh,m1_1,m2_2,m3_4⟩
 refine zE fun k' hk'=>?_
 simp[hh,m1_1,m2_2,m3_4]
 apply hk'
 refine Runs.cut (fun ρ H n=>(ρ 2=pA (n1+1) 2∧ρ 3=pA n4 3)∧H (n1+1,2)=some ⟨3,[[str [],int 0,int 0]]⟩∧H (n4,3)=some ⟨3,[[str a.name,int a.ports,int a.kind]]⟩) (by refine⟨?_,?_,?_⟩<;>simp[hh,m1_1,m2_2,m3_4]) ?_
 clear hh m1_1 m2_2 m3_4
 rintro ρ H n9 ⟨hh,m2_2,m3_4⟩
 refine zE fun k' hk'=>?_
 simp[hh,m2_2,m3_4]
 apply hk'
 refine Runs.cut (fun ρ H n=>ρ 2=pA (n1+1) 2∧H (n1+1,2)=some ⟨3,[[str a.name,int a.ports,int a.kind]]⟩) (by refine⟨?_,?_⟩<;>simp[hh,m2_2,m3_4]) ?_
 clear hh m2_2 m3_4
 rintro ρ H n10 ⟨hh,m2_2⟩
 exact Runs.res1 Ty_ok (v:=.agg [str a.name,int a.ports,int a.kind]) Tryz.func35 Tryz.results35 (by simp[hh,m2_2,resA]) (hQ _ _ _ _ (.of (.aggL (.cons (.v _) (.cons (.v _) (.cons (.v _) .nil))))) ⟨a,h,rfl⟩)
theorem toControl_ok (a:Control)  : PureC Tryz.prog 35 [.agg [str a.name,int a.ports,int a.kind]] (fun r=>r = .agg [str ((toControl a).name),int ((toControl a).ports),int ((toControl a).kind)]):=(toControl_walk a _ (toControl_vc a )).mono (by rintro _ ⟨_,rfl,rfl⟩;rfl)
theorem e10:Ent Tryz.prog 10:=Ent.of Tryz.func10 (by kernel_rfl) rfl
theorem toControlS_walk (a:List Control) (Z:(List Control)→Prop) (h:toControlS_wp a Z):OwnS Tryz.prog 10 [.list false (a.map Control.cells)] (.s [.c,.c,.c]) (fun r=>∃ y:List Control,Z y∧r = .list true (y.map Control.cells)):=by
 unfold toControlS_wp at h
 have sp:Sep noHeap 0 [] []:=Sep.nil (by simp)
 refine OwnS.of Tryz.func10 rfl Tryz.ntmps10 (by simp) fun Q hQ=>?_
 refine Runs.cut (fun ρ H n=>ρ 0 = .list false (a.map Control.cells)∧Sep H n [] []) (by refine⟨by simp ,sp⟩) ?_
 rintro ρ H n1 ⟨hh,sp⟩
 refine zE fun k' hk'=>?_
 simp[hh]
 apply hk'
 refine zE fun k' hk'=>?_
 obtain⟨len2,elen2,h⟩:=atm h
 have f3:=fun H=>len_list (H:=H) (fr:=false) (f:=Control.cells) kd_22 elen2
 obtain⟨hb4,h⟩:=h
 obtain⟨l5,el5,h⟩:=atm h
 simp[hh,f3,hb4,el5,-lenF]
 apply hk'
 refine Runs.cut (fun ρ H n=>∃ (v7:AVal),(ρ 0 = .list false (a.map Control.cells)∧ρ 3=v7)∧Sep H n [oE [.c,.c,.c] Control.cells v7 l5] []) (by refine⟨.arr (n1,7) len2.toNat 0 len2.toNat,by simp[hh,f3,hb4,el5,-lenF],(Sep.addRepE (z:=[str [],int 0,int 0]) (f:=Control.cells) (k:=len2.toNat) el5 sp (fun H=>by show Row H [.c,.c,.c] [str [],int 0,int 0] [str [],int 0,int 0] [];simp[Row,Tr]))⟩) ?_
 clear hh
 rintro ρ H n8 ⟨v7,hh,sp⟩
 refine Runs.seq ?_
 refine zE fun k' hk'=>?_
 simp[hh]
 apply hk'
 refine Runs.block ?_
 refine Runs.loopW h (fun (sJ:Int × (List Control)) ρ H n=>match sJ with | (i16,l17)=>∃ (v18:AVal),(ρ 0 = .list false (a.map Control.cells)∧ρ 3=v18∧ρ 4=int i16)∧Sep H n [oE [.c,.c,.c] Control.cells v18 l17] []) (by refine⟨v7,by simp[hh],sp⟩) ?_
 clear hh
 rintro⟨i16,l17⟩ ρ H n19 K h ⟨v18,hh,sp⟩ IH20
 refine Runs.seq ?_
 refine zE fun k' hk'=>?_
 obtain⟨len22,elen22,h⟩:=atm h
 have f23:=fun H=>len_list (H:=H) (fr:=false) (f:=Control.cells) kd_22 elen22
 obtain⟨c24,ec24,h⟩:=atm h
 have f25:=ib_lss (k:=.i64) ec24
 simp[hh,f23,f25,-intBin,-lenF]
 apply hk'
 refine Runs.ite (b:=c24) (by simp[hh]) (fun dc24=>?_) (fun dc24=>?_)
 ·replace h:=h.1 dc24
  refine Runs.skip ?_
  refine Runs.seq ?_
  refine Runs.block ?_
  refine zF fun k' hk'=>?_
  obtain⟨hb26,h⟩:=h
  obtain⟨x27,ex27,h⟩:=atm h
  have f28:=fun H=>ix_list (H:=H) (fr:=false) (f:=Control.cells) (k:=.i64) kd_22 (fun _=>rfl) hb26 ex27
  obtain⟨r29,er29,h⟩:=atm h
  simp[hh,f28,dc24,-indexAddrF]
  refine RunK.callA Ty_ok (toControl_ok x27 ) e35 (.cons (ArgOk.agg (.cons (.v _ _ _) (.cons (.v _ _ _) (.cons (.v _ _ _) .nil)))) .nil) (by decide) (by decide) rfl (by simp[hh,f28,dc24,-indexAddrF]) ?_
  rintro _ rfl
  rw[← er29]
  obtain⟨hb30,h⟩:=h
  obtain⟨id31,hv,mo32,ln33,ni34⟩:=Sep.openF sp (by simp) hb30
  subst hv
  obtain⟨x35,ex35,h⟩:=atm h
  have f36:=fun H (hm:H id31=some ⟨3,l17.map Control.cells⟩)=>ix_arr (H:=H) (k:=.i64) (off:=0) (len:=l17.length) (g:=l17.length) kd_32 hm (by simp) rfl hb30
  have f37:=at_some (q:=i16.toNat) hb30 ex35 rfl
  obtain⟨l38,el38,h⟩:=atm h
  simp[hh,mo32,f28,f36,f37,dc24,-indexAddrF,-storeF]
  refine bind_store (q:=i16.toNat) (news:=Control.cells r29) [] [] sp (by simp) (by simp;omega) (by simp) (by simp[-one1,o1x]) (Fill.v _ (Fill.v _ (Fill.v _ Fill.nil))) ?_
  rintro H39 sp hfr40
  replace sp:Sep H39 n19 [oE [.c,.c,.c] Control.cells (.arr id31 l17.length 0 l17.length) l38] []:=Sep.st el38 sp
  simp[hh,f28,f36,f37,dc24,-indexAddrF]
  apply hk'
  refine Runs.cut (fun ρ H n=>∃ (v42:AVal),(ρ 0 = .list false (a.map Control.cells)∧ρ 3=v42∧ρ 4=int i16)∧Sep H n [oE [.c,.c,.c] Control.cells v42 l38] []) (by refine⟨.arr id31 l17.length 0 l17.length,by simp[hh,f28,f36,f37,dc24,-indexAddrF],sp⟩) ?_
  clear hh
  rintro ρ H n43 ⟨v42,hh,sp⟩
  refine Runs.inBlock ?_
  refine zF fun k' hk'=>?_
  obtain⟨hb44,h⟩:=h
  obtain⟨v45,ev45,h⟩:=atm h
  have f46:=ib_add hb44 ev45
  simp[hh,f46,-intBin]
  apply hk'
  refine IH20 (v45,l38) _ _ _ h (by refine⟨v42,by simp[hh],sp⟩)
 replace h:=h.2 dc24
 refine Runs.exit rfl ?_
 refine zE fun k' hk'=>?_
 simp[hh,dc24]
 apply hk'
 exact Runs.ret1 (v:=v18) Tryz.func10 Tryz.results10 (by simp[hh,dc24]) (hQ _ _ _ _ (Sep.sub (ids':=[]) sp (by simp)) ⟨l17,h,rfl⟩)
theorem toControlS_ok (a:List Control) (hp:toControlS_pre a):OwnS Tryz.prog 10 [.list false (a.map Control.cells)] (.s [.c,.c,.c]) (fun r=>r = .list true ((toControlS a).map Control.cells)):=(toControlS_walk a _ (toControlS_vc a hp)).mono (by rintro _ ⟨_,rfl,rfl⟩;rfl)
theorem e88:Ent Tryz.prog 88:=Ent.of Tryz.func88 (by kernel_rfl) rfl
theorem toWire_walk (a:Wire) (Z:Wire→Prop) (h:toWire_wp a Z):PureC Tryz.prog 88 [.agg [str a.name,int a.link]] (fun r=>∃ y:Wire,Z y∧r = .agg [str y.name,int y.link]):=by
 unfold toWire_wp at h
 refine PureC.of Tryz.func88 rfl Tryz.ntmps88 (by simp) fun Q hQ=>?_
 refine Runs.cut (fun ρ H n=>ρ 0 = .agg [str a.name,int a.link]) (by simp[]) ?_
 rintro ρ H n1 hh
 refine zE fun k' hk'=>?_
 simp[hh]
 apply hk'
 refine Runs.cut (fun ρ H n=>(ρ 1=pA n1 1∧ρ 2=pA (n1+1) 2)∧H (n1,1)=some ⟨2,[[str a.name,int a.link]]⟩∧H (n1+1,2)=some ⟨2,[[str [],int 0]]⟩) (by refine⟨?_,?_,?_⟩<;>simp[hh]) ?_
 clear hh
 rintro ρ H n4 ⟨hh,m1_1,m2_2⟩
 refine zE fun k' hk'=>?_
 simp[hh,m1_1,m2_2]
 apply hk'
 refine Runs.cut (fun ρ H n=>(ρ 1=pA n1 1∧ρ 2=pA (n1+1) 2∧ρ 3=pA n4 3)∧H (n1,1)=some ⟨2,[[str a.name,int a.link]]⟩∧H (n1+1,2)=some ⟨2,[[str [],int 0]]⟩∧H (n4,3)=some ⟨2,[[str [],int 0]]⟩) (by refine⟨?_,?_,?_,?_⟩<;>simp[hh,m1_1,m2_2]) ?_
 clear hh m1_1 m2_2
 rintro ρ H n6 ⟨hh,m1_1,m2_2,m3_4⟩
 refine zE fun k' hk'=>?_
 simp[hh,m1_1,m2_2,m3_4]
 apply hk'
 refine Runs.cut (fun ρ H n=>(ρ 1=pA n1 1∧ρ 2=pA (n1+1) 2∧ρ 3=pA n4 3)∧H (n1,1)=some ⟨2,[[str a.name,int a.link]]⟩∧H (n1+1,2)=some ⟨2,[[str [],int 0]]⟩∧H (n4,3)=some ⟨2,[[str a.name,int 0]]⟩) (by refine⟨?_,?_,?_,?_⟩<;>simp[hh,m1_1,m2_2,m3_4]) ?_
 clear hh m1_1 m2_2 m3_4
 rintro ρ H n7 ⟨hh,m1_1,m2_2,m3_4⟩
 refine zE fun k' hk'=>?_
 simp[hh,m1_1,m2_2,m3_4]
 apply hk'
 refine Runs.cut (fun ρ H n=>(ρ 2=pA (n1+1) 2∧ρ 3=pA n4 3)∧H (n1+1,2)=some ⟨2,[[str [],int 0]]⟩∧H (n4,3)=some ⟨2,[[str a.name,int a.link]]⟩) (by refine⟨?_,?_,?_⟩<;>simp[hh,m1_1,m2_2,m3_4]) ?_
 clear hh m1_1 m2_2 m3_4
 rintro ρ H n8 ⟨hh,m2_2,m3_4⟩
 refine zE fun k' hk'=>?_
 simp[hh,m2_2,m3_4]
 apply hk'
 refine Runs.cut (fun ρ H n=>ρ 2=pA (n1+1) 2∧H (n1+1,2)=some ⟨2,[[str a.name,int a.link]]⟩) (by refine⟨?_,?_⟩<;>simp[hh,m2_2,m3_4]) ?_
 clear hh m2_2 m3_4
 rintro ρ H n9 ⟨hh,m2_2⟩
 exact Runs.res1 Ty_ok (v:=.agg [str a.name,int a.link]) Tryz.func88 Tryz.results88 (by simp[hh,m2_2,resA]) (hQ _ _ _ _ (.of (.aggL (.cons (.v _) (.cons (.v _) .nil)))) ⟨a,h,rfl⟩)
theorem toWire_ok (a:Wire)  : PureC Tryz.prog 88 [.agg [str a.name,int a.link]] (fun r=>r = .agg [str ((toWire a).name),int ((toWire a).link)]):=(toWire_walk a _ (toWire_vc a )).mono (by rintro _ ⟨_,rfl,rfl⟩;rfl)
theorem e39:Ent Tryz.prog 39:=Ent.of Tryz.func39 (by kernel_rfl) rfl
theorem toWireS_walk (a:List Wire) (Z:(List Wire)→Prop) (h:toWireS_wp a Z):OwnS Tryz.prog 39 [.list false (a.map Wire.cells)] (.s [.c,.c]) (fun r=>∃ y:List Wire,Z y∧r = .list true (y.map Wire.cells)):=by
 unfold toWireS_wp at h
 have sp:Sep noHeap 0 [] []:=Sep.nil (by simp)
 refine OwnS.of Tryz.func39 rfl Tryz.ntmps39 (by simp) fun Q hQ=>?_
 refine Runs.cut (fun ρ H n=>ρ 0 = .list false (a.map Wire.cells)∧Sep H n [] []) (by refine⟨by simp ,sp⟩) ?_
 rintro ρ H n1 ⟨hh,sp⟩
 refine zE fun k' hk'=>?_
 simp[hh]
 apply hk'
 refine zE fun k' hk'=>?_
 obtain⟨len2,elen2,h⟩:=atm h
 have f3:=fun H=>len_list (H:=H) (fr:=false) (f:=Wire.cells) kd_26 elen2
 obtain⟨hb4,h⟩:=h
 obtain⟨l5,el5,h⟩:=atm h
 simp[hh,f3,hb4,el5,-lenF]
 apply hk'
 refine Runs.cut (fun ρ H n=>∃ (v7:AVal),(ρ 0 = .list false (a.map Wire.cells)∧ρ 3=v7)∧Sep H n [oW v7 l5] []) (by refine⟨.arr (n1,7) len2.toNat 0 len2.toNat,by simp[hh,f3,hb4,el5,-lenF],(Sep.addRepE (z:=[str [],int 0]) (f:=Wire.cells) (k:=len2.toNat) el5 sp (fun H=>by show Row H [.c,.c] [str [],int 0] [str [],int 0] [];simp[Row,Tr]))⟩) ?_
 clear hh
 rintro ρ H n8 ⟨v7,hh,sp⟩
 refine Runs.seq ?_
 refine zE fun k' hk'=>?_
 simp[hh]
 apply hk'
 refine Runs.block ?_
 refine Runs.loopW h (fun (sJ:Int × (List Wire)) ρ H n=>match sJ with | (i16,l17)=>∃ (v18:AVal),(ρ 0 = .list false (a.map Wire.cells)∧ρ 3=v18∧ρ 4=int i16)∧Sep H n [oW v18 l17] []) (by refine⟨v7,by simp[hh],sp⟩) ?_
 clear hh
 rintro⟨i16,l17⟩ ρ H n19 K h ⟨v18,hh,sp⟩ IH20
 refine Runs.seq ?_
 refine zE fun k' hk'=>?_
 obtain⟨len22,elen22,h⟩:=atm h
 have f23:=fun H=>len_list (H:=H) (fr:=false) (f:=Wire.cells) kd_26 elen22
 obtain⟨c24,ec24,h⟩:=atm h
 have f25:=ib_lss (k:=.i64) ec24
 simp[hh,f23,f25,-intBin,-lenF]
 apply hk'
 refine Runs.ite (b:=c24) (by simp[hh]) (fun dc24=>?_) (fun dc24=>?_)
 ·replace h:=h.1 dc24
  refine Runs.skip ?_
  refine Runs.seq ?_
  refine Runs.block ?_
  refine zF fun k' hk'=>?_
  obtain⟨hb26,h⟩:=h
  obtain⟨x27,ex27,h⟩:=atm h
  have f28:=fun H=>ix_list (H:=H) (fr:=false) (f:=Wire.cells) (k:=.i64) kd_26 (fun _=>rfl) hb26 ex27
  obtain⟨r29,er29,h⟩:=atm h
  simp[hh,f28,dc24,-indexAddrF]
  refine RunK.callA Ty_ok (toWire_ok x27 ) e88 (.cons (ArgOk.agg (.cons (.v _ _ _) (.cons (.v _ _ _) .nil))) .nil) (by decide) (by decide) rfl (by simp[hh,f28,dc24,-indexAddrF]) ?_
  rintro _ rfl
  rw[← er29]
  obtain⟨hb30,h⟩:=h
  obtain⟨id31,hv,mo32,ln33,ni34⟩:=Sep.openF sp (by simp) hb30
  subst hv
  obtain⟨x35,ex35,h⟩:=atm h
  have f36:=fun H (hm:H id31=some ⟨2,l17.map Wire.cells⟩)=>ix_arr (H:=H) (k:=.i64) (off:=0) (len:=l17.length) (g:=l17.length) kd_35 hm (by simp) rfl hb30
  have f37:=at_some (q:=i16.toNat) hb30 ex35 rfl
  obtain⟨l38,el38,h⟩:=atm h
  simp[hh,mo32,f28,f36,f37,dc24,-indexAddrF,-storeF]
  refine bind_store (q:=i16.toNat) (news:=Wire.cells r29) [] [] sp (by simp) (by simp;omega) (by simp) (by simp[-one1,o1x]) (Fill.v _ (Fill.v _ Fill.nil)) ?_
  rintro H39 sp hfr40
  replace sp:Sep H39 n19 [oW (.arr id31 l17.length 0 l17.length) l38] []:=Sep.st el38 sp
  simp[hh,f28,f36,f37,dc24,-indexAddrF]
  apply hk'
  refine Runs.cut (fun ρ H n=>∃ (v42:AVal),(ρ 0 = .list false (a.map Wire.cells)∧ρ 3=v42∧ρ 4=int i16)∧Sep H n [oW v42 l38] []) (by refine⟨.arr id31 l17.length 0 l17.length,by simp[hh,f28,f36,f37,dc24,-indexAddrF],sp⟩) ?_
  clear hh
  rintro ρ H n43 ⟨v42,hh,sp⟩
  refine Runs.inBlock ?_
  refine zF fun k' hk'=>?_
  obtain⟨hb44,h⟩:=h
  obtain⟨v45,ev45,h⟩:=atm h
  have f46:=ib_add hb44 ev45
  simp[hh,f46,-intBin]
  apply hk'
  refine IH20 (v45,l38) _ _ _ h (by refine⟨v42,by simp[hh],sp⟩)
 replace h:=h.2 dc24
 refine Runs.exit rfl ?_
 refine zE fun k' hk'=>?_
 simp[hh,dc24]
 apply hk'
 exact Runs.ret1 (v:=v18) Tryz.func39 Tryz.results39 (by simp[hh,dc24]) (hQ _ _ _ _ (Sep.sub (ids':=[]) sp (by simp)) ⟨l17,h,rfl⟩)
theorem toWireS_ok (a:List Wire) (hp:toWireS_pre a):OwnS Tryz.prog 39 [.list false (a.map Wire.cells)] (.s [.c,.c]) (fun r=>r = .list true ((toWireS a).map Wire.cells)):=(toWireS_walk a _ (toWireS_vc a hp)).mono (by rintro _ ⟨_,rfl,rfl⟩;rfl)
theorem e87:Ent Tryz.prog 87:=Ent.of Tryz.func87 (by kernel_rfl) rfl
theorem toNode_walk (a:GNode) (Z:GNode→Prop) (h:toNode_wp a Z):OwnS Tryz.prog 87 [.agg [int a.control,int a.parent,.list false (a.links.map intC)]] (.a [.c,.c,.s [.c]]) (fun r=>∃ y:GNode,Z y∧r = .agg [int y.control,int y.parent,.list true (y.links.map intC)]):=by
 unfold toNode_wp at h
 have sp:Sep noHeap 0 [] []:=Sep.nil (by simp)
 refine OwnS.of Tryz.func87 rfl Tryz.ntmps87 (by simp) fun Q hQ=>?_
 refine Runs.cut (fun ρ H n=>ρ 0 = .agg [int a.control,int a.parent,.list false (a.links.map intC)]∧Sep H n [] []) (by refine⟨by simp ,sp⟩) ?_
 rintro ρ H n1 ⟨hh,sp⟩
 refine zE fun k' hk'=>?_
 simp[hh]
 apply hk'
 refine Runs.cut (fun ρ H n=>((ρ 1=pA n1 1∧ρ 2=pA (n1+1) 2)∧H (n1,1)=some ⟨3,[[int a.control,int a.parent,.list false (a.links.map intC)]]⟩∧H (n1+1,2)=some ⟨3,[[int 0,int 0,.v (.slice none 0 0)]]⟩)∧Sep H n [] [(n1+1,2),(n1,1)]) (by refine⟨by simp[hh],sp.var.var⟩) ?_
 clear hh
 rintro ρ H n4 ⟨⟨hh,m1_1,m2_2⟩,sp⟩
 refine zE fun k' hk'=>?_
 simp[hh,m1_1,m2_2]
 apply hk'
 refine Runs.cut (fun ρ H n=>((ρ 1=pA n1 1∧ρ 2=pA (n1+1) 2∧ρ 3=pA n4 3)∧H (n1,1)=some ⟨3,[[int a.control,int a.parent,.list false (a.links.map intC)]]⟩∧H (n1+1,2)=some ⟨3,[[int 0,int 0,.v (.slice none 0 0)]]⟩∧H (n4,3)=some ⟨3,[[int 0,int 0,.v (.slice none 0 0)]]⟩)∧Sep H n [] [(n4,3),(n1+1,2),(n1,1)]) (by refine⟨by simp[hh,m1_1,m2_2],sp.var⟩) ?_
 clear hh m1_1 m2_2
 rintro ρ H n6 ⟨⟨hh,m1_1,m2_2,m3_4⟩,sp⟩
 refine zE fun k' hk'=>?_
 simp[hh,m1_1,m2_2,m3_4]
 apply hk'
 refine Runs.cut (fun ρ H n=>((ρ 1=pA n1 1∧ρ 2=pA (n1+1) 2∧ρ 3=pA n4 3)∧H (n1,1)=some ⟨3,[[int a.control,int a.parent,.list false (a.links.map intC)]]⟩∧H (n1+1,2)=some ⟨3,[[int 0,int 0,.v (.slice none 0 0)]]⟩∧H (n4,3)=some ⟨3,[[int a.control,int 0,.v (.slice none 0 0)]]⟩)∧Sep H n [] [(n4,3),(n1+1,2),(n1,1)]) (by refine⟨by simp[hh,m1_1,m2_2,m3_4],(Sep.setVar (w:=(n4,3)) sp (by simp))⟩) ?_
 clear hh m1_1 m2_2 m3_4
 rintro ρ H n7 ⟨⟨hh,m1_1,m2_2,m3_4⟩,sp⟩
 refine zE fun k' hk'=>?_
 simp[hh,m1_1,m2_2,m3_4]
 apply hk'
 refine Runs.cut (fun ρ H n=>((ρ 1=pA n1 1∧ρ 2=pA (n1+1) 2∧ρ 3=pA n4 3)∧H (n1,1)=some ⟨3,[[int a.control,int a.parent,.list false (a.links.map intC)]]⟩∧H (n1+1,2)=some ⟨3,[[int 0,int 0,.v (.slice none 0 0)]]⟩∧H (n4,3)=some ⟨3,[[int a.control,int a.parent,.v (.slice none 0 0)]]⟩)∧Sep H n [] [(n4,3),(n1+1,2),(n1,1)]) (by refine⟨by simp[hh,m1_1,m2_2,m3_4],(Sep.setVar (w:=(n4,3)) sp (by simp))⟩) ?_
 clear hh m1_1 m2_2 m3_4
 rintro ρ H n8 ⟨⟨hh,m1_1,m2_2,m3_4⟩,sp⟩
 refine zE fun k' hk'=>?_
 obtain⟨hb9,h⟩:=h
 obtain⟨r10,er10,h⟩:=atm h
 simp[hh,m1_1,m2_2,m3_4]
 refine RunK.callW Ty_ok (toIntS_ok a.links hb9) e37 (.cons (argI false a.links) .nil) sp (by decide) (by decide) rfl (by simp[hh,m1_1,m2_2,m3_4]) ?_
 rintro v11 H12 n13 _ sp rfl hle15 hfr14
 rw[← er10] at sp
 have m1_1:=(hfr14 _ (by simp)).trans m1_1
 have m2_2:=(hfr14 _ (by simp)).trans m2_2
 have m3_4:=(hfr14 _ (by simp)).trans m3_4
 have f18:=Sep.oc sp
 simp[hh,m1_1,m2_2,m3_4,f18,-cellsA,-one1,cAx,o1x]
 apply hk'
 refine Runs.cut (fun ρ H n=>∃ (v19:AVal),((ρ 2=pA (n1+1) 2∧ρ 3=pA n4 3)∧H (n1+1,2)=some ⟨3,[[int 0,int 0,.v (.slice none 0 0)]]⟩∧H (n4,3)=some ⟨3,[[int a.control,int a.parent,v19]]⟩)∧Sep H n [oI v19 r10] [(n4,3),(n1+1,2)]) (by refine⟨v11,by simp[hh,m1_1,m2_2,m3_4,f18,-cellsA,-one1,cAx,o1x],(Sep.sub (Sep.setVar (w:=(n4,3)) sp (by simp)) (by simp +contextual))⟩) ?_
 clear hh m1_1 m2_2 m3_4
 rintro ρ H n20 ⟨v19,⟨hh,m2_2,m3_4⟩,sp⟩
 refine zE fun k' hk'=>?_
 have f21:=Sep.oc sp
 simp[hh,m2_2,m3_4,f21,-cellsA,-one1,cAx,o1x]
 apply hk'
 refine Runs.cut (fun ρ H n=>∃ (v22:AVal),(ρ 2=pA (n1+1) 2∧H (n1+1,2)=some ⟨3,[[int a.control,int a.parent,v22]]⟩)∧Sep H n [oI v22 r10] [(n1+1,2)]) (by refine⟨v19,by simp[hh,m2_2,m3_4,f21,-cellsA,-one1,cAx,o1x],(Sep.sub (Sep.setVar (w:=(n1+1,2)) sp (by simp)) (by simp +contextual))⟩) ?_
 clear hh m2_2 m3_4
 rintro ρ H n23 ⟨v22,⟨hh,m2_2⟩,sp⟩
 exact Runs.res1 Ty_ok (v:=.agg [int a.control,int a.parent,v22]) Tryz.func87 Tryz.results87 (by simp[hh,m2_2,resA]) (hQ _ _ _ _ (Sep.sub (ids':=[]) (Sep.pack (Fill.v _ (Fill.v _ (Fill.own Fill.nil))) sp) (by simp)) ⟨(GNode.mk a.control a.parent r10),h,rfl⟩)
theorem toNode_ok (a:GNode) (hp:toNode_pre a):OwnS Tryz.prog 87 [.agg [int a.control,int a.parent,.list false (a.links.map intC)]] (.a [.c,.c,.s [.c]]) (fun r=>r = .agg [int ((toNode a).control),int ((toNode a).parent),.list true (((toNode a).links).map intC)]):=(toNode_walk a _ (toNode_vc a hp)).mono (by rintro _ ⟨_,rfl,rfl⟩;rfl)
theorem e36:Ent Tryz.prog 36:=Ent.of Tryz.func36 (by kernel_rfl) rfl
theorem toNodeS_walk (a:List GNode) (Z:(List GNode)→Prop) (h:toNodeS_wp a Z):OwnS Tryz.prog 36 [.list false (a.map (GNode.cells false))] (.s [.c,.c,.s [.c]]) (fun r=>∃ y:List GNode,Z y∧r = .list true (y.map (GNode.cells true))):=by
 unfold toNodeS_wp at h
 have sp:Sep noHeap 0 [] []:=Sep.nil (by simp)
 refine OwnS.of Tryz.func36 rfl Tryz.ntmps36 (by simp) fun Q hQ=>?_
 refine Runs.cut (fun ρ H n=>ρ 0 = .list false (a.map (GNode.cells false))∧Sep H n [] []) (by refine⟨by simp ,sp⟩) ?_
 rintro ρ H n1 ⟨hh,sp⟩
 refine zE fun k' hk'=>?_
 simp[hh]
 apply hk'
 refine zE fun k' hk'=>?_
 obtain⟨len2,elen2,h⟩:=atm h
 have f3:=fun H=>len_list (H:=H) (fr:=false) (f:=(GNode.cells false)) kd_23 elen2
 obtain⟨hb4,h⟩:=h
 obtain⟨l5,el5,h⟩:=atm h
 simp[hh,f3,hb4,el5,-lenF]
 apply hk'
 refine Runs.cut (fun ρ H n=>∃ (v7:AVal),(ρ 0 = .list false (a.map (GNode.cells false))∧ρ 3=v7)∧Sep H n [oN v7 l5] []) (by refine⟨.arr (n1,7) len2.toNat 0 len2.toNat,by simp[hh,f3,hb4,el5,-lenF],(Sep.addRepE (z:=[int 0,int 0,.v (.slice none 0 0)]) (f:=(GNode.cells true)) (k:=len2.toNat) el5 sp (fun H=>by show Row H [.c,.c,.s [.c]] [int 0,int 0,.v (.slice none 0 0)] [int 0,int 0,.list true []] [];simp[Row,Tr]))⟩) ?_
 clear hh
 rintro ρ H n8 ⟨v7,hh,sp⟩
 refine Runs.seq ?_
 refine zE fun k' hk'=>?_
 simp[hh]
 apply hk'
 refine Runs.block ?_
 refine Runs.loopW h (fun (sJ:Int × (List GNode)) ρ H n=>match sJ with | (i16,l17)=>∃ (v18:AVal),(ρ 0 = .list false (a.map (GNode.cells false))∧ρ 3=v18∧ρ 4=int i16)∧Sep H n [oN v18 l17] []) (by refine⟨v7,by simp[hh],sp⟩) ?_
 clear hh
 rintro⟨i16,l17⟩ ρ H n19 K h ⟨v18,hh,sp⟩ IH20
 refine Runs.seq ?_
 refine zE fun k' hk'=>?_
 obtain⟨len22,elen22,h⟩:=atm h
 have f23:=fun H=>len_list (H:=H) (fr:=false) (f:=(GNode.cells false)) kd_23 elen22
 obtain⟨c24,ec24,h⟩:=atm h
 have f25:=ib_lss (k:=.i64) ec24
 simp[hh,f23,f25,-intBin,-lenF]
 apply hk'
 refine Runs.ite (b:=c24) (by simp[hh]) (fun dc24=>?_) (fun dc24=>?_)
 ·replace h:=h.1 dc24
  refine Runs.skip ?_
  refine Runs.seq ?_
  refine Runs.block ?_
  refine zF fun k' hk'=>?_
  obtain⟨hb26,h⟩:=h
  obtain⟨x27,ex27,h⟩:=atm h
  have f28:=fun H=>ix_list (H:=H) (fr:=false) (f:=(GNode.cells false)) (k:=.i64) kd_23 (fun _=>rfl) hb26 ex27
  obtain⟨hb29,h⟩:=h
  obtain⟨r30,er30,h⟩:=atm h
  simp[hh,f28,dc24,-indexAddrF]
  refine RunK.callW Ty_ok (toNode_ok x27 hb29) e87 (.cons (ArgOk.agg (.cons (.v _ _ _) (.cons (.v _ _ _) (.cons (argI false x27.links) .nil)))) .nil) sp (by decide) (by decide) rfl (by simp[hh,f28,dc24,-indexAddrF]) ?_
  rintro v31 H32 n33 _ sp rfl hle35 hfr34
  rw[← er30] at sp
  replace sp:=Sep.unpack sp
  obtain⟨L40,hv,hl41,sp⟩:=sp
  subst hv
  obtain⟨v37,v38,v39,hv⟩:=len3 (by simpa using hl41)
  subst hv
  simp only[zip3,List.cons_append,List.nil_append] at sp
  replace sp:=Sep.scalar sp
  obtain⟨hv,sp⟩:=sp
  subst hv
  replace sp:=Sep.scalar sp
  obtain⟨hv,sp⟩:=sp
  subst hv
  replace sp:=Sep.rot sp
  try simp only[List.cons_append,List.nil_append,List.append_assoc] at sp
  obtain⟨hb43,h⟩:=h
  obtain⟨x44,ex44,h⟩:=atm h
  obtain⟨id45,els46,row47,W48,hq49,mo50,moL51,moR52,hrl53,hW54,hsub55,hni56,spr57,hcl58⟩:=Sep.rowF (q:=i16.toNat) (f:=(GNode.cells true)) sp hb43 ex44 rfl
  subst hq49
  obtain⟨c59,c60,c61,hq49⟩:=len3 (by simpa using hrl53)
  subst hq49
  replace spr57:Sep _ _ [(.c,c59,int x44.control),(.c,c60,int x44.parent),(.s [.c],c61,.list true (x44.links.map intC))] W48:=spr57
  obtain rfl:=Sep.cAt (K1:=[]) (K2:=[(.c,c60,int x44.parent),(.s [.c],c61,.list true (x44.links.map intC))]) spr57
  obtain rfl:=Sep.cAt (K1:=[(.c,int x44.control,int x44.control)]) (K2:=[(.s [.c],c61,.list true (x44.links.map intC))]) spr57
  have f62:=ix_arr (k:=.i64) (off:=0) (len:=l17.length) kd_34 mo50 moL51 rfl hb43
  obtain⟨l63,el63,h⟩:=atm h
  simp[hh,mo50,moL51,moR52,f28,f62,dc24,-indexAddrF,-storeF]
  refine bind_store (q:=i16.toNat) (news:=(GNode.cells true) r30) [oI v39 r30.links] [] sp (by simp) (by simp;omega) (by simp) (by simp[-one1,o1x,Sep.one1 sp.dr]) (Fill.v _ (Fill.v _ (Fill.own Fill.nil))) ?_
  rintro H64 sp hfr65
  replace sp:Sep H64 n33 [oN (.arr id45 l17.length 0 l17.length) l63] []:=Sep.st el63 sp
  simp[hh,f28,f62,dc24,-indexAddrF]
  apply hk'
  refine Runs.cut (fun ρ H n=>∃ (v67:AVal),(ρ 0 = .list false (a.map (GNode.cells false))∧ρ 3=v67∧ρ 4=int i16)∧Sep H n [oN v67 l63] []) (by refine⟨.arr id45 l17.length 0 l17.length,by simp[hh,f28,f62,dc24,-indexAddrF],sp⟩) ?_
  clear hh
  rintro ρ H n68 ⟨v67,hh,sp⟩
  refine Runs.inBlock ?_
  refine zF fun k' hk'=>?_
  obtain⟨hb69,h⟩:=h
  obtain⟨v70,ev70,h⟩:=atm h
  have f71:=ib_add hb69 ev70
  simp[hh,f71,-intBin]
  apply hk'
  refine IH20 (v70,l63) _ _ _ h (by refine⟨v67,by simp[hh],sp⟩)
 replace h:=h.2 dc24
 refine Runs.exit rfl ?_
 refine zE fun k' hk'=>?_
 simp[hh,dc24]
 apply hk'
 exact Runs.ret1 (v:=v18) Tryz.func36 Tryz.results36 (by simp[hh,dc24]) (hQ _ _ _ _ (Sep.sub (ids':=[]) sp (by simp)) ⟨l17,h,rfl⟩)
theorem toNodeS_ok (a:List GNode) (hp:toNodeS_pre a):OwnS Tryz.prog 36 [.list false (a.map (GNode.cells false))] (.s [.c,.c,.s [.c]]) (fun r=>r = .list true ((toNodeS a).map (GNode.cells true))):=(toNodeS_walk a _ (toNodeS_vc a hp)).mono (by rintro _ ⟨_,rfl,rfl⟩;rfl)
theorem e11:Ent Tryz.prog 11:=Ent.of Tryz.func11 (by kernel_rfl) rfl
theorem toBigraph_walk (a:Big) (Z:Big→Prop) (h:toBigraph_wp a Z):OwnS Tryz.prog 11 [.agg (bC false a)] (.a [.c,.s [.c,.c,.s [.c]],.s [.c],.c,.s [.c],.s [.c,.c]]) (fun r=>∃ y:Big,Z y∧r = .agg (bC true y)):=by
 unfold toBigraph_wp at h
 have sp:Sep noHeap 0 [] []:=Sep.nil (by simp)
 refine OwnS.of Tryz.func11 rfl Tryz.ntmps11 (by simp) fun Q hQ=>?_
 refine Runs.cut (fun ρ H n=>ρ 0 = .agg (bC false a)∧Sep H n [] []) (by refine⟨by simp ,sp⟩) ?_
 rintro ρ H n1 ⟨hh,sp⟩
 refine zE fun k' hk'=>?_
 simp[hh]
 apply hk'
 refine Runs.cut (fun ρ H n=>((ρ 1=pA n1 1∧ρ 2=pA (n1+1) 2)∧H (n1,1)=some ⟨6,[bC false a]⟩∧H (n1+1,2)=some ⟨6,[zB]⟩)∧Sep H n [] [(n1+1,2),(n1,1)]) (by refine⟨by simp[hh],sp.var.var⟩) ?_
 clear hh
 rintro ρ H n4 ⟨⟨hh,m1_1,m2_2⟩,sp⟩
 refine zE fun k' hk'=>?_
 simp[hh,m1_1,m2_2]
 apply hk'
 refine Runs.cut (fun ρ H n=>((ρ 1=pA n1 1∧ρ 2=pA (n1+1) 2∧ρ 3=pA n4 3)∧H (n1,1)=some ⟨6,[bC false a]⟩∧H (n1+1,2)=some ⟨6,[zB]⟩∧H (n4,3)=some ⟨6,[zB]⟩)∧Sep H n [] [(n4,3),(n1+1,2),(n1,1)]) (by refine⟨by simp[hh,m1_1,m2_2],sp.var⟩) ?_
 clear hh m1_1 m2_2
 rintro ρ H n6 ⟨⟨hh,m1_1,m2_2,m3_4⟩,sp⟩
 refine zE fun k' hk'=>?_
 simp[hh,m1_1,m2_2,m3_4]
 apply hk'
 refine Runs.cut (fun ρ H n=>((ρ 1=pA n1 1∧ρ 2=pA (n1+1) 2∧ρ 3=pA n4 3)∧H (n1,1)=some ⟨6,[bC false a]⟩∧H (n1+1,2)=some ⟨6,[zB]⟩∧H (n4,3)=some ⟨6,[[int a.roots,.v (.slice none 0 0),.v (.slice none 0 0),int 0,.v (.slice none 0 0),.v (.slice none 0 0)]]⟩)∧Sep H n [] [(n4,3),(n1+1,2),(n1,1)]) (by refine⟨by simp[hh,m1_1,m2_2,m3_4],(Sep.setVar (w:=(n4,3)) sp (by simp))⟩) ?_
 clear hh m1_1 m2_2 m3_4
 rintro ρ H n7 ⟨⟨hh,m1_1,m2_2,m3_4⟩,sp⟩
 refine zE fun k' hk'=>?_
 obtain⟨hb8,h⟩:=h
 obtain⟨r9,er9,h⟩:=atm h
 simp[hh,m1_1,m2_2,m3_4]
 refine RunK.callW Ty_ok (toNodeS_ok a.nodes hb8) e36 (.cons (ArgOk.nest_Node false a.nodes) .nil) sp (by decide) (by decide) rfl (by simp[hh,m1_1,m2_2,m3_4]) ?_
 rintro v10 H11 n12 _ sp rfl hle14 hfr13
 rw[← er9] at sp
 have m1_1:=(hfr13 _ (by simp)).trans m1_1
 have m2_2:=(hfr13 _ (by simp)).trans m2_2
 have m3_4:=(hfr13 _ (by simp)).trans m3_4
 have f17:=Sep.oc sp
 simp[hh,m1_1,m2_2,m3_4,f17,-cellsA,-one1,cAx,o1x]
 apply hk'
 refine Runs.cut (fun ρ H n=>∃ (v18:AVal),((ρ 1=pA n1 1∧ρ 2=pA (n1+1) 2∧ρ 3=pA n4 3)∧H (n1,1)=some ⟨6,[bC false a]⟩∧H (n1+1,2)=some ⟨6,[zB]⟩∧H (n4,3)=some ⟨6,[[int a.roots,v18,.v (.slice none 0 0),int 0,.v (.slice none 0 0),.v (.slice none 0 0)]]⟩)∧Sep H n [oN v18 r9] [(n4,3),(n1+1,2),(n1,1)]) (by refine⟨v10,by simp[hh,m1_1,m2_2,m3_4,f17,-cellsA,-one1,cAx,o1x],(Sep.setVar (w:=(n4,3)) sp (by simp))⟩) ?_
 clear hh m1_1 m2_2 m3_4
 rintro ρ H n19 ⟨v18,⟨hh,m1_1,m2_2,m3_4⟩,sp⟩
 refine zE fun k' hk'=>?_
 obtain⟨hb20,h⟩:=h
 obtain⟨r21,er21,h⟩:=atm h
 simp[hh,m1_1,m2_2,m3_4]
 refine RunK.callW Ty_ok (toIntS_ok a.sites hb20) e37 (.cons (argI false a.sites) .nil) sp (by decide) (by decide) rfl (by simp[hh,m1_1,m2_2,m3_4]) ?_
 rintro v22 H23 n24 _ sp rfl hle26 hfr25
 rw[← er21] at sp
 have m1_1:=(hfr25 _ (by simp)).trans m1_1
 have m2_2:=(hfr25 _ (by simp)).trans m2_2
 have m3_4:=(hfr25 _ (by simp)).trans m3_4
 have f29:=Sep.oc sp
 simp[hh,m1_1,m2_2,m3_4,f29,-cellsA,-one1,cAx,o1x]
 apply hk'
 refine Runs.cut (fun ρ H n=>∃ (v30 v31:AVal),((ρ 1=pA n1 1∧ρ 2=pA (n1+1) 2∧ρ 3=pA n4 3)∧H (n1,1)=some ⟨6,[bC false a]⟩∧H (n1+1,2)=some ⟨6,[zB]⟩∧H (n4,3)=some ⟨6,[[int a.roots,v31,v30,int 0,.v (.slice none 0 0),.v (.slice none 0 0)]]⟩)∧Sep H n [oI v30 r21,oN v31 r9] [(n4,3),(n1+1,2),(n1,1)]) (by refine⟨v22,v18,by simp[hh,m1_1,m2_2,m3_4,f29,-cellsA,-one1,cAx,o1x],(Sep.setVar (w:=(n4,3)) sp (by simp))⟩) ?_
 clear hh m1_1 m2_2 m3_4
 rintro ρ H n32 ⟨v30,v31,⟨hh,m1_1,m2_2,m3_4⟩,sp⟩
 refine zE fun k' hk'=>?_
 simp[hh,m1_1,m2_2,m3_4]
 apply hk'
 refine Runs.cut (fun ρ H n=>∃ (v33 v34:AVal),((ρ 1=pA n1 1∧ρ 2=pA (n1+1) 2∧ρ 3=pA n4 3)∧H (n1,1)=some ⟨6,[bC false a]⟩∧H (n1+1,2)=some ⟨6,[zB]⟩∧H (n4,3)=some ⟨6,[[int a.roots,v34,v33,int a.edges,.v (.slice none 0 0),.v (.slice none 0 0)]]⟩)∧Sep H n [oI v33 r21,oN v34 r9] [(n4,3),(n1+1,2),(n1,1)]) (by refine⟨v30,v31,by simp[hh,m1_1,m2_2,m3_4],(Sep.setVar (w:=(n4,3)) sp (by simp))⟩) ?_
 clear hh m1_1 m2_2 m3_4
 rintro ρ H n35 ⟨v33,v34,⟨hh,m1_1,m2_2,m3_4⟩,sp⟩
 refine zE fun k' hk'=>?_
 obtain⟨hb36,h⟩:=h
 obtain⟨r37,er37,h⟩:=atm h
 simp[hh,m1_1,m2_2,m3_4]
 refine RunK.callW Ty_ok (toStringS_ok a.outer hb36) e38 (.cons (argS false a.outer) .nil) sp (by decide) (by decide) rfl (by simp[hh,m1_1,m2_2,m3_4]) ?_
 rintro v38 H39 n40 _ sp rfl hle42 hfr41
 rw[← er37] at sp
 have m1_1:=(hfr41 _ (by simp)).trans m1_1
 have m2_2:=(hfr41 _ (by simp)).trans m2_2
 have m3_4:=(hfr41 _ (by simp)).trans m3_4
 have f45:=Sep.oc sp
 simp[hh,m1_1,m2_2,m3_4,f45,-cellsA,-one1,cAx,o1x]
 apply hk'
 refine Runs.cut (fun ρ H n=>∃ (v46 v47 v48:AVal),((ρ 1=pA n1 1∧ρ 2=pA (n1+1) 2∧ρ 3=pA n4 3)∧H (n1,1)=some ⟨6,[bC false a]⟩∧H (n1+1,2)=some ⟨6,[zB]⟩∧H (n4,3)=some ⟨6,[[int a.roots,v48,v47,int a.edges,v46,.v (.slice none 0 0)]]⟩)∧Sep H n [oS v46 r37,oI v47 r21,oN v48 r9] [(n4,3),(n1+1,2),(n1,1)]) (by refine⟨v38,v33,v34,by simp[hh,m1_1,m2_2,m3_4,f45,-cellsA,-one1,cAx,o1x],(Sep.setVar (w:=(n4,3)) sp (by simp))⟩) ?_
 clear hh m1_1 m2_2 m3_4
 rintro ρ H n49 ⟨v46,v47,v48,⟨hh,m1_1,m2_2,m3_4⟩,sp⟩
 refine zE fun k' hk'=>?_
 obtain⟨hb50,h⟩:=h
 obtain⟨r51,er51,h⟩:=atm h
 simp[hh,m1_1,m2_2,m3_4]
 refine RunK.callW Ty_ok (toWireS_ok a.inner hb50) e39 (.cons (argW false a.inner) .nil) sp (by decide) (by decide) rfl (by simp[hh,m1_1,m2_2,m3_4]) ?_
 rintro v52 H53 n54 _ sp rfl hle56 hfr55
 rw[← er51] at sp
 have m1_1:=(hfr55 _ (by simp)).trans m1_1
 have m2_2:=(hfr55 _ (by simp)).trans m2_2
 have m3_4:=(hfr55 _ (by simp)).trans m3_4
 have f59:=Sep.oc sp
 simp[hh,m1_1,m2_2,m3_4,f59,-cellsA,-one1,cAx,o1x]
 apply hk'
 refine Runs.cut (fun ρ H n=>∃ (v60 v61 v62 v63:AVal),((ρ 2=pA (n1+1) 2∧ρ 3=pA n4 3)∧H (n1+1,2)=some ⟨6,[zB]⟩∧H (n4,3)=some ⟨6,[[int a.roots,v63,v62,int a.edges,v61,v60]]⟩)∧Sep H n [oW v60 r51,oS v61 r37,oI v62 r21,oN v63 r9] [(n4,3),(n1+1,2)]) (by refine⟨v52,v46,v47,v48,by simp[hh,m1_1,m2_2,m3_4,f59,-cellsA,-one1,cAx,o1x],(Sep.sub (Sep.setVar (w:=(n4,3)) sp (by simp)) (by simp +contextual))⟩) ?_
 clear hh m1_1 m2_2 m3_4
 rintro ρ H n64 ⟨v60,v61,v62,v63,⟨hh,m2_2,m3_4⟩,sp⟩
 refine zE fun k' hk'=>?_
 have f65:=Sep.oc sp.f3
 have f66:=Sep.oc sp.f2
 have f67:=Sep.oc sp.f1
 have f68:=Sep.oc sp
 simp[hh,m2_2,m3_4,f65,f66,f67,f68,-cellsA,-one1,cAx,o1x]
 apply hk'
 refine Runs.cut (fun ρ H n=>∃ (v69 v70 v71 v72:AVal),(ρ 2=pA (n1+1) 2∧H (n1+1,2)=some ⟨6,[[int a.roots,v72,v71,int a.edges,v70,v69]]⟩)∧Sep H n [oW v69 r51,oS v70 r37,oI v71 r21,oN v72 r9] [(n1+1,2)]) (by refine⟨v60,v61,v62,v63,by simp[hh,m2_2,m3_4,f65,f66,f67,f68,-cellsA,-one1,cAx,o1x],(Sep.sub (Sep.setVar (w:=(n1+1,2)) sp (by simp)) (by simp +contextual))⟩) ?_
 clear hh m2_2 m3_4
 rintro ρ H n73 ⟨v69,v70,v71,v72,⟨hh,m2_2⟩,sp⟩
 exact Runs.res1 Ty_ok (v:=.agg [int a.roots,v72,v71,int a.edges,v70,v69]) Tryz.func11 Tryz.results11 (by simp[hh,m2_2,resA]) (hQ _ _ _ _ (Sep.sub (ids':=[]) (Sep.pack (Fill.v _ (Fill.own (Fill.own (Fill.v _ (Fill.own (Fill.own Fill.nil)))))) sp.f1.f2.f3) (by simp)) ⟨(Big.mk a.roots r9 r21 a.edges r37 r51),h,rfl⟩)
theorem toBigraph_ok (a:Big) (hp:toBigraph_pre a):OwnS Tryz.prog 11 [.agg (bC false a)] (.a [.c,.s [.c,.c,.s [.c]],.s [.c],.c,.s [.c],.s [.c,.c]]) (fun r=>r = .agg [int ((toBigraph a).roots),.list true (((toBigraph a).nodes).map (GNode.cells true)),.list true (((toBigraph a).sites).map intC),int ((toBigraph a).edges),.list true (((toBigraph a).outer).map strC),.list true (((toBigraph a).inner).map Wire.cells)]):=(toBigraph_walk a _ (toBigraph_vc a hp)).mono (by rintro _ ⟨_,rfl,rfl⟩;rfl)
end Go.Ab.Vg
