/- Merged texts (13 of 18) of the proof that ends in Cuy: Lmw Nmw Mdw Muw Cow Mpw Emw. -/
import Derived.Test.YtbikfokhjdjfpaaGreatDoorAbQcu12
/- Walks by program for YtbikfokhjdjfpaaGreatDoorAbLm. -/
namespace Go.Ab.Vg
open Go.Proofs
set_option maxRecDepth 100000
set_option linter.unusedSimpArgs false
set_option linter.unusedVariables false
attribute [local simp] Control.cells GNode.cells Wire.cells intC sliceC strC bC pA zB
theorem e42:Ent Tryz.prog 42:=Ent.of Tryz.func42 (by kernel_rfl) rfl
theorem toIntS_walk (a:List Int) (Z:(List Int)→Prop) (h:toIntS_wp a Z):OwnS Tryz.prog 42 [.list false (a.map intC)] (.s [.c]) (fun r=>∃ y:List Int,Z y∧r = .list true (y.map intC)):=by
 unfold toIntS_wp at h
 have sp:Sep noHeap 0 [] []:=Sep.nil (by simp)
 refine OwnS.of Tryz.func42 rfl Tryz.ntmps42 (by simp) fun Q hQ=>?_
 refine Runs.cut (fun ρ H n=>ρ 0 = .list false (a.map intC)∧Sep H n [] []) (by refine⟨by simp ,sp⟩) ?_
 rintro ρ H n1 ⟨hh,sp⟩
 refine zE fun k' hk'=>?_
 simp[hh]
 apply hk'
 refine zE fun k' hk'=>?_
 obtain⟨len2,elen2,h⟩:=atm h
 have f3:=fun H=>len_list (H:=H) (fr:=false) (f:=intC) kd_24 elen2
 obtain⟨hb4,h⟩:=h
 obtain⟨l5,el5,h⟩:=atm h
 simp[hh,f3,hb4,el5,-lenF]
 apply hk'
 refine Runs.cut (fun ρ H n=>∃ (v7:AVal),(ρ 0 = .list false (a.map intC)∧ρ 3=v7)∧Sep H n [oI v7 l5] []) (by refine⟨.arr (n1,7) len2.toNat 0 len2.toNat,by simp[hh,f3,hb4,el5,-lenF],(by rw[el5];exact Sep.addRep (z:=[int 0]) (f:=intC) (k:=len2.toNat) sp (fun H=>by show Row H [.c] [int 0] [int 0] [];simp[Row,Tr]))⟩) ?_
 clear hh
 rintro ρ H n8 ⟨v7,hh,sp⟩
 refine Runs.seq ?_
 refine zE fun k' hk'=>?_
 simp[hh]
 apply hk'
 refine Runs.block ?_
 refine Runs.loopW h (fun (sJ:Int × (List Int)) ρ H n=>match sJ with | (i16,l17)=>∃ (v18:AVal),(ρ 0 = .list false (a.map intC)∧ρ 3=v18∧ρ 4=int i16)∧Sep H n [oI v18 l17] []) (by refine⟨v7,by simp[hh],sp⟩) ?_
 clear hh
 rintro⟨i16,l17⟩ ρ H n19 K h ⟨v18,hh,sp⟩ IH20
 refine Runs.seq ?_
 refine zE fun k' hk'=>?_
 obtain⟨len22,elen22,h⟩:=atm h
 have f23:=fun H=>len_list (H:=H) (fr:=false) (f:=intC) kd_24 elen22
 obtain⟨c24,ec24,h⟩:=atm h
 have f25:=ib_lss (k:=.i64) ec24
 simp[hh,f23,f25,-intBin,-lenF]
 apply hk'
 refine Runs.ite (b:=c24) (by simp[hh]) (fun dc24=>?_) (fun dc24=>?_)
 ·replace h:=h.1 dc24
  refine Runs.skip ?_
  refine Runs.seq ?_
  refine Runs.block ?_
  refine zF fun k' hk'=>?_
  obtain⟨hb26,h⟩:=h
  obtain⟨x27,ex27,h⟩:=atm h
  have f28:=fun H=>ix_list (H:=H) (fr:=false) (f:=intC) (k:=.i64) kd_24 (fun _=>rfl) hb26 ex27
  obtain⟨hb29,h⟩:=h
  obtain⟨id30,hv,mo31,ln32,ni33⟩:=Sep.openF sp (by simp) hb29
  subst hv
  obtain⟨x34,ex34,h⟩:=atm h
  have f35:=fun H (hm:H id30=some ⟨1,l17.map intC⟩)=>ix_arr (H:=H) (k:=.i64) (off:=0) (len:=l17.length) (g:=l17.length) kd_24 hm (by simp) rfl hb29
  have f36:=at_some (q:=i16.toNat) hb29 ex34 rfl
  obtain⟨l37,el37,h⟩:=atm h
  simp[hh,mo31,f28,f35,f36,dc24,-indexAddrF,-storeF]
  refine bind_store (q:=i16.toNat) (news:=intC x27) [] [] sp (by simp) (by simp;omega) (by simp) (by simp[-one1,o1x]) (Fill.v _ Fill.nil) ?_
  rintro H38 sp hfr39
  replace sp:Sep H38 n19 [oI (.arr id30 l17.length 0 l17.length) l37] []:=Sep.st el37 sp
  simp[hh,f28,f35,f36,dc24,-indexAddrF]
  apply hk'
  refine Runs.cut (fun ρ H n=>∃ (v41:AVal),(ρ 0 = .list false (a.map intC)∧ρ 3=v41∧ρ 4=int i16)∧Sep H n [oI v41 l37] []) (by refine⟨.arr id30 l17.length 0 l17.length,by simp[hh,f28,f35,f36,dc24,-indexAddrF],sp⟩) ?_
  clear hh
  rintro ρ H n42 ⟨v41,hh,sp⟩
  refine Runs.inBlock ?_
  refine zF fun k' hk'=>?_
  obtain⟨hb43,h⟩:=h
  obtain⟨v44,ev44,h⟩:=atm h
  have f45:=ib_add hb43 ev44
  simp[hh,f45,-intBin]
  apply hk'
  refine IH20 (v44,l37) _ _ _ h (by refine⟨v41,by simp[hh],sp⟩)
 replace h:=h.2 dc24
 refine Runs.exit rfl ?_
 refine zE fun k' hk'=>?_
 simp[hh,dc24]
 apply hk'
 exact Runs.ret1 (v:=v18) Tryz.func42 Tryz.results42 (by simp[hh,dc24]) (hQ _ _ _ _ (Sep.sub (ids':=[]) sp (by simp)) ⟨l17,h,rfl⟩)
theorem toIntS_ok (a:List Int) (hp:toIntS_pre a):OwnS Tryz.prog 42 [.list false (a.map intC)] (.s [.c]) (fun r=>r = .list true ((toIntS a).map intC)):=(toIntS_walk a _ (toIntS_vc a hp)).mono (by rintro _ ⟨_,rfl,rfl⟩;rfl)
theorem e43:Ent Tryz.prog 43:=Ent.of Tryz.func43 (by kernel_rfl) rfl
theorem toStringS_walk (a:List Str) (Z:(List Str)→Prop) (h:toStringS_wp a Z):OwnS Tryz.prog 43 [.list false (a.map strC)] (.s [.c]) (fun r=>∃ y:List Str,Z y∧r = .list true (y.map strC)):=by
 unfold toStringS_wp at h
 have sp:Sep noHeap 0 [] []:=Sep.nil (by simp)
 refine OwnS.of Tryz.func43 rfl Tryz.ntmps43 (by simp) fun Q hQ=>?_
 refine Runs.cut (fun ρ H n=>ρ 0 = .list false (a.map strC)∧Sep H n [] []) (by refine⟨by simp ,sp⟩) ?_
 rintro ρ H n1 ⟨hh,sp⟩
 refine zE fun k' hk'=>?_
 simp[hh]
 apply hk'
 refine zE fun k' hk'=>?_
 obtain⟨len2,elen2,h⟩:=atm h
 have f3:=fun H=>len_list (H:=H) (fr:=false) (f:=strC) kd_25 elen2
 obtain⟨hb4,h⟩:=h
 obtain⟨l5,el5,h⟩:=atm h
 simp[hh,f3,hb4,el5,-lenF]
 apply hk'
 refine Runs.cut (fun ρ H n=>∃ (v7:AVal),(ρ 0 = .list false (a.map strC)∧ρ 3=v7)∧Sep H n [oS v7 l5] []) (by refine⟨.arr (n1,7) len2.toNat 0 len2.toNat,by simp[hh,f3,hb4,el5,-lenF],(by rw[el5];exact Sep.addRep (z:=[str []]) (f:=strC) (k:=len2.toNat) sp (fun H=>by show Row H [.c] [str []] [str []] [];simp[Row,Tr]))⟩) ?_
 clear hh
 rintro ρ H n8 ⟨v7,hh,sp⟩
 refine Runs.seq ?_
 refine zE fun k' hk'=>?_
 simp[hh]
 apply hk'
 refine Runs.block ?_
 refine Runs.loopW h (fun (sJ:Int × (List Str)) ρ H n=>match sJ with | (i16,l17)=>∃ (v18:AVal),(ρ 0 = .list false (a.map strC)∧ρ 3=v18∧ρ 4=int i16)∧Sep H n [oS v18 l17] []) (by refine⟨v7,by simp[hh],sp⟩) ?_
 clear hh
 rintro⟨i16,l17⟩ ρ H n19 K h ⟨v18,hh,sp⟩ IH20
 refine Runs.seq ?_
 refine zE fun k' hk'=>?_
 obtain⟨len22,elen22,h⟩:=atm h
 have f23:=fun H=>len_list (H:=H) (fr:=false) (f:=strC) kd_25 elen22
 obtain⟨c24,ec24,h⟩:=atm h
 have f25:=ib_lss (k:=.i64) ec24
 simp[hh,f23,f25,-intBin,-lenF]
 apply hk'
 refine Runs.ite (b:=c24) (by simp[hh]) (fun dc24=>?_) (fun dc24=>?_)
 ·replace h:=h.1 dc24
  refine Runs.skip ?_
  refine Runs.seq ?_
  refine Runs.block ?_
  refine zF fun k' hk'=>?_
  obtain⟨hb26,h⟩:=h
  obtain⟨x27,ex27,h⟩:=atm h
  have f28:=fun H=>ix_list (H:=H) (fr:=false) (f:=strC) (k:=.i64) kd_25 (fun _=>rfl) hb26 ex27
  obtain⟨hb29,h⟩:=h
  obtain⟨id30,hv,mo31,ln32,ni33⟩:=Sep.openF sp (by simp) hb29
  subst hv
  obtain⟨x34,ex34,h⟩:=atm h
  have f35:=fun H (hm:H id30=some ⟨1,l17.map strC⟩)=>ix_arr (H:=H) (k:=.i64) (off:=0) (len:=l17.length) (g:=l17.length) kd_25 hm (by simp) rfl hb29
  have f36:=at_some (q:=i16.toNat) hb29 ex34 rfl
  obtain⟨l37,el37,h⟩:=atm h
  simp[hh,mo31,f28,f35,f36,dc24,-indexAddrF,-storeF]
  refine bind_store (q:=i16.toNat) (news:=strC x27) [] [] sp (by simp) (by simp;omega) (by simp) (by simp[-one1,o1x]) (Fill.v _ Fill.nil) ?_
  rintro H38 sp hfr39
  replace sp:Sep H38 n19 [oS (.arr id30 l17.length 0 l17.length) l37] []:=Sep.st el37 sp
  simp[hh,f28,f35,f36,dc24,-indexAddrF]
  apply hk'
  refine Runs.cut (fun ρ H n=>∃ (v41:AVal),(ρ 0 = .list false (a.map strC)∧ρ 3=v41∧ρ 4=int i16)∧Sep H n [oS v41 l37] []) (by refine⟨.arr id30 l17.length 0 l17.length,by simp[hh,f28,f35,f36,dc24,-indexAddrF],sp⟩) ?_
  clear hh
  rintro ρ H n42 ⟨v41,hh,sp⟩
  refine Runs.inBlock ?_
  refine zF fun k' hk'=>?_
  obtain⟨hb43,h⟩:=h
  obtain⟨v44,ev44,h⟩:=atm h
  have f45:=ib_add hb43 ev44
  simp[hh,f45,-intBin]
  apply hk'
  refine IH20 (v44,l37) _ _ _ h (by refine⟨v41,by simp[hh],sp⟩)
 replace h:=h.2 dc24
 refine Runs.exit rfl ?_
 refine zE fun k' hk'=>?_
 simp[hh,dc24]
 apply hk'
 exact Runs.ret1 (v:=v18) Tryz.func43 Tryz.results43 (by simp[hh,dc24]) (hQ _ _ _ _ (Sep.sub (ids':=[]) sp (by simp)) ⟨l17,h,rfl⟩)
theorem toStringS_ok (a:List Str) (hp:toStringS_pre a):OwnS Tryz.prog 43 [.list false (a.map strC)] (.s [.c]) (fun r=>r = .list true ((toStringS a).map strC)):=(toStringS_walk a _ (toStringS_vc a hp)).mono (by rintro _ ⟨_,rfl,rfl⟩;rfl)
theorem e40:Ent Tryz.prog 40:=Ent.of Tryz.func40 (by kernel_rfl) rfl
theorem toControl_walk (a:Control) (Z:Control→Prop) (h:toControl_wp a Z):PureC Tryz.prog 40 [.agg [str a.name,int a.ports,int a.kind]] (fun r=>∃ y:Control,Z y∧r = .agg [str y.name,int y.ports,int y.kind]):=by
 unfold toControl_wp at h
 refine PureC.of Tryz.func40 rfl Tryz.ntmps40 (by simp) fun Q hQ=>?_
 refine Runs.cut (fun ρ H n=>ρ 0 = .agg [str a.name,int a.ports,int a.kind]) (by simp[]) ?_
 rintro ρ H n1 hh
 refine zE fun k' hk'=>?_
 simp[hh]
 apply hk'
 refine Runs.cut (fun ρ H n=>(ρ 1=pA n1 1∧ρ 2=pA (n1+1) 2)∧H (n1,1)=some ⟨3,[[str a.name,int a.ports,int a.kind]]⟩∧H (n1+1,2)=some ⟨3,[[str [],int 0,int 0]]⟩) (by refine⟨?_,?_,?_⟩<;>simp[hh]) ?_
 clear hh
 rintro ρ H n4 ⟨hh,m1_1,m2_2⟩
 refine zE fun k' hk'=>?_
 simp[hh,m1_1,m2_2]
 apply hk'
 refine Runs.cut (fun ρ H n=>(ρ 1=pA n1 1∧ρ 2=pA (n1+1) 2∧ρ 3=pA n4 3)∧H (n1,1)=some ⟨3,[[str a.name,int a.ports,int a.kind]]⟩∧H (n1+1,2)=some ⟨3,[[str [],int 0,int 0]]⟩∧H (n4,3)=some ⟨3,[[str [],int 0,int 0]]⟩) (by refine⟨?_,?_,?_,?_⟩<;>simp[hh,m1_1,m2_2]) ?_
 clear hh m1_1 m2_2
 rintro ρ H n6 ⟨hh,m1_1,m2_2,m3_4⟩
 refine zE fun k' hk'=>?_
 simp[hh,m1_1,m2_2,m3_4]
 apply hk'
 refine Runs.cut (fun ρ H n=>(ρ 1=pA n1 1∧ρ 2=pA (n1+1) 2∧ρ 3=pA n4 3)∧H (n1,1)=some ⟨3,[[str a.name,int a.ports,int a.kind]]⟩∧H (n1+1,2)=some ⟨3,[[str [],int 0,int 0]]⟩∧H (n4,3)=some ⟨3,[[str a.name,int 0,int 0]]⟩) (by refine⟨?_,?_,?_,?_⟩<;>simp[hh,m1_1,m2_2,m3_4]) ?_
 clear hh m1_1 m2_2 m3_4
 rintro ρ H n7 ⟨hh,m1_1,m2_2,m3_4⟩
 refine zE fun k' hk'=>?_
 simp[hh,m1_1,m2_2,m3_4]
 apply hk'
 refine Runs.cut (fun ρ H n=>(ρ 1=pA n1 1∧ρ 2=pA (n1+1) 2∧ρ 3=pA n4 3)∧H (n1,1)=some ⟨3,[[str a.name,int a.ports,int a.kind]]⟩∧H (n1+1,2)=some ⟨3,[[str [],int 0,int 0]]⟩∧H (n4,3)=some ⟨3,[[str a.name,int a.ports,int 0]]⟩) (by refine⟨?_,?_,?_,?_⟩<;>simp[hh,m1_1,m2_2,m3_4]) ?_
 clear hh m1_1 m2_2 m3_4
 rintro ρ H n8 ⟨hh,m1_1,m2_2,m3_4⟩
 refine zE fun k' hk'=>?_
 simp[hh,m1_1,m2_2,m3_4]
 apply hk'
 refine Runs.cut (fun ρ H n=>(ρ 2=pA (n1+1) 2∧ρ 3=pA n4 3)∧H (n1+1,2)=some ⟨3,[[str [],int 0,int 0]]⟩∧H (n4,3)=some ⟨3,[[str a.name,int a.ports,int a.kind]]⟩) (by refine⟨?_,?_,?_⟩<;>simp[hh,m1_1,m2_2,m3_4]) ?_
 clear hh m1_1 m2_2 m3_4
 rintro ρ H n9 ⟨hh,m2_2,m3_4⟩
 refine zE fun k' hk'=>?_
 simp[hh,m2_2,m3_4]
 apply hk'
 refine Runs.cut (fun ρ H n=>ρ 2=pA (n1+1) 2∧H (n1+1,2)=some ⟨3,[[str a.name,int a.ports,int a.kind]]⟩) (by refine⟨?_,?_⟩<;>simp[hh,m2_2,m3_4]) ?_
 clear hh m2_2 m3_4
 rintro ρ H n10 ⟨hh,m2_2⟩
 exact Runs.res1 Ty_ok (v:=.agg [str a.name,int a.ports,int a.kind]) Tryz.func40 Tryz.results40 (by simp[hh,m2_2,resA]) (hQ _ _ _ _ (.of (.aggL (.cons (.v _) (.cons (.v _) (.cons (.v _) .nil))))) ⟨a,h,rfl⟩)
theorem toControl_ok (a:Control)  : PureC Tryz.prog 40 [.agg [str a.name,int a.ports,int a.kind]] (fun r=>r = .agg [str ((toControl a).name),int ((toControl a).ports),int ((toControl a).kind)]):=(toControl_walk a _ (toControl_vc a )).mono (by rintro _ ⟨_,rfl,rfl⟩;rfl)
theorem e10:Ent Tryz.prog 10:=Ent.of Tryz.func10 (by kernel_rfl) rfl
theorem toControlS_walk (a:List Control) (Z:(List Control)→Prop) (h:toControlS_wp a Z):OwnS Tryz.prog 10 [.list false (a.map Control.cells)] (.s [.c,.c,.c]) (fun r=>∃ y:List Control,Z y∧r = .list true (y.map Control.cells)):=by
 unfold toControlS_wp at h
 have sp:Sep noHeap 0 [] []:=Sep.nil (by simp)
 refine OwnS.of Tryz.func10 rfl Tryz.ntmps10 (by simp) fun Q hQ=>?_
 refine Runs.cut (fun ρ H n=>ρ 0 = .list false (a.map Control.cells)∧Sep H n [] []) (by refine⟨by simp ,sp⟩) ?_
 rintro ρ H n1 ⟨hh,sp⟩
 refine zE fun k' hk'=>?_
 simp[hh]
 apply hk'
 refine zE fun k' hk'=>?_
 obtain⟨len2,elen2,h⟩:=atm h
 have f3:=fun H=>len_list (H:=H) (fr:=false) (f:=Control.cells) kd_22 elen2
 obtain⟨hb4,h⟩:=h
 obtain⟨l5,el5,h⟩:=atm h
 simp[hh,f3,hb4,el5,-lenF]
 apply hk'
 refine Runs.cut (fun ρ H n=>∃ (v7:AVal),(ρ 0 = .list false (a.map Control.cells)∧ρ 3=v7)∧Sep H n [oE [.c,.c,.c] Control.cells v7 l5] []) (by refine⟨.arr (n1,7) len2.toNat 0 len2.toNat,by simp[hh,f3,hb4,el5,-lenF],(by rw[el5];exact Sep.addRep (z:=[str [],int 0,int 0]) (f:=Control.cells) (k:=len2.toNat) sp (fun H=>by show Row H [.c,.c,.c] [str [],int 0,int 0] [str [],int 0,int 0] [];simp[Row,Tr]))⟩) ?_
 clear hh
 rintro ρ H n8 ⟨v7,hh,sp⟩
 refine Runs.seq ?_
 refine zE fun k' hk'=>?_
 simp[hh]
 apply hk'
 refine Runs.block ?_
 refine Runs.loopW h (fun (sJ:Int × (List Control)) ρ H n=>match sJ with | (i16,l17)=>∃ (v18:AVal),(ρ 0 = .list false (a.map Control.cells)∧ρ 3=v18∧ρ 4=int i16)∧Sep H n [oE [.c,.c,.c] Control.cells v18 l17] []) (by refine⟨v7,by simp[hh],sp⟩) ?_
 clear hh
 rintro⟨i16,l17⟩ ρ H n19 K h ⟨v18,hh,sp⟩ IH20
 refine Runs.seq ?_
 refine zE fun k' hk'=>?_
 obtain⟨len22,elen22,h⟩:=atm h
 have f23:=fun H=>len_list (H:=H) (fr:=false) (f:=Control.cells) kd_22 elen22
 obtain⟨c24,ec24,h⟩:=atm h
 have f25:=ib_lss (k:=.i64) ec24
 simp[hh,f23,f25,-intBin,-lenF]
 apply hk'
 refine Runs.ite (b:=c24) (by simp[hh]) (fun dc24=>?_) (fun dc24=>?_)
 ·replace h:=h.1 dc24
  refine Runs.skip ?_
  refine Runs.seq ?_
  refine Runs.block ?_
  refine zF fun k' hk'=>?_
  obtain⟨hb26,h⟩:=h
  obtain⟨x27,ex27,h⟩:=atm h
  have f28:=fun H=>ix_list (H:=H) (fr:=false) (f:=Control.cells) (k:=.i64) kd_22 (fun _=>rfl) hb26 ex27
  obtain⟨r29,er29,h⟩:=atm h
  simp[hh,f28,dc24,-indexAddrF]
  refine RunK.callA Ty_ok (toControl_ok x27 ) e40 (.cons (ArgOk.agg (.cons (.v _ _ _) (.cons (.v _ _ _) (.cons (.v _ _ _) .nil)))) .nil) (by decide) (by decide) rfl (by simp[hh,f28,dc24,-indexAddrF]) ?_
  rintro _ rfl
  rw[← er29]
  obtain⟨hb30,h⟩:=h
  obtain⟨id31,hv,mo32,ln33,ni34⟩:=Sep.openF sp (by simp) hb30
  subst hv
  obtain⟨x35,ex35,h⟩:=atm h
  have f36:=fun H (hm:H id31=some ⟨3,l17.map Control.cells⟩)=>ix_arr (H:=H) (k:=.i64) (off:=0) (len:=l17.length) (g:=l17.length) kd_37 hm (by simp) rfl hb30
  have f37:=at_some (q:=i16.toNat) hb30 ex35 rfl
  obtain⟨l38,el38,h⟩:=atm h
  simp[hh,mo32,f28,f36,f37,dc24,-indexAddrF,-storeF]
  refine bind_store (q:=i16.toNat) (news:=Control.cells r29) [] [] sp (by simp) (by simp;omega) (by simp) (by simp[-one1,o1x]) (Fill.v _ (Fill.v _ (Fill.v _ Fill.nil))) ?_
  rintro H39 sp hfr40
  replace sp:Sep H39 n19 [oE [.c,.c,.c] Control.cells (.arr id31 l17.length 0 l17.length) l38] []:=Sep.st el38 sp
  simp[hh,f28,f36,f37,dc24,-indexAddrF]
  apply hk'
  refine Runs.cut (fun ρ H n=>∃ (v42:AVal),(ρ 0 = .list false (a.map Control.cells)∧ρ 3=v42∧ρ 4=int i16)∧Sep H n [oE [.c,.c,.c] Control.cells v42 l38] []) (by refine⟨.arr id31 l17.length 0 l17.length,by simp[hh,f28,f36,f37,dc24,-indexAddrF],sp⟩) ?_
  clear hh
  rintro ρ H n43 ⟨v42,hh,sp⟩
  refine Runs.inBlock ?_
  refine zF fun k' hk'=>?_
  obtain⟨hb44,h⟩:=h
  obtain⟨v45,ev45,h⟩:=atm h
  have f46:=ib_add hb44 ev45
  simp[hh,f46,-intBin]
  apply hk'
  refine IH20 (v45,l38) _ _ _ h (by refine⟨v42,by simp[hh],sp⟩)
 replace h:=h.2 dc24
 refine Runs.exit rfl ?_
 refine zE fun k' hk'=>?_
 simp[hh,dc24]
 apply hk'
 exact Runs.ret1 (v:=v18) Tryz.func10 Tryz.results10 (by simp[hh,dc24]) (hQ _ _ _ _ (Sep.sub (ids':=[]) sp (by simp)) ⟨l17,h,rfl⟩)
theorem toControlS_ok (a:List Control) (hp:toControlS_pre a):OwnS Tryz.prog 10 [.list false (a.map Control.cells)] (.s [.c,.c,.c]) (fun r=>r = .list true ((toControlS a).map Control.cells)):=(toControlS_walk a _ (toControlS_vc a hp)).mono (by rintro _ ⟨_,rfl,rfl⟩;rfl)
theorem e106:Ent Tryz.prog 106:=Ent.of Tryz.func106 (by kernel_rfl) rfl
theorem toWire_walk (a:Wire) (Z:Wire→Prop) (h:toWire_wp a Z):PureC Tryz.prog 106 [.agg [str a.name,int a.link]] (fun r=>∃ y:Wire,Z y∧r = .agg [str y.name,int y.link]):=by
 unfold toWire_wp at h
 refine PureC.of Tryz.func106 rfl Tryz.ntmps106 (by simp) fun Q hQ=>?_
 refine Runs.cut (fun ρ H n=>ρ 0 = .agg [str a.name,int a.link]) (by simp[]) ?_
 rintro ρ H n1 hh
 refine zE fun k' hk'=>?_
 simp[hh]
 apply hk'
 refine Runs.cut (fun ρ H n=>(ρ 1=pA n1 1∧ρ 2=pA (n1+1) 2)∧H (n1,1)=some ⟨2,[[str a.name,int a.link]]⟩∧H (n1+1,2)=some ⟨2,[[str [],int 0]]⟩) (by refine⟨?_,?_,?_⟩<;>simp[hh]) ?_
 clear hh
 rintro ρ H n4 ⟨hh,m1_1,m2_2⟩
 refine zE fun k' hk'=>?_
 simp[hh,m1_1,m2_2]
 apply hk'
 refine Runs.cut (fun ρ H n=>(ρ 1=pA n1 1∧ρ 2=pA (n1+1) 2∧ρ 3=pA n4 3)∧H (n1,1)=some ⟨2,[[str a.name,int a.link]]⟩∧H (n1+1,2)=some ⟨2,[[str [],int 0]]⟩∧H (n4,3)=some ⟨2,[[str [],int 0]]⟩) (by refine⟨?_,?_,?_,?_⟩<;>simp[hh,m1_1,m2_2]) ?_
 clear hh m1_1 m2_2
 rintro ρ H n6 ⟨hh,m1_1,m2_2,m3_4⟩
 refine zE fun k' hk'=>?_
 simp[hh,m1_1,m2_2,m3_4]
 apply hk'
 refine Runs.cut (fun ρ H n=>(ρ 1=pA n1 1∧ρ 2=pA (n1+1) 2∧ρ 3=pA n4 3)∧H (n1,1)=some ⟨2,[[str a.name,int a.link]]⟩∧H (n1+1,2)=some ⟨2,[[str [],int 0]]⟩∧H (n4,3)=some ⟨2,[[str a.name,int 0]]⟩) (by refine⟨?_,?_,?_,?_⟩<;>simp[hh,m1_1,m2_2,m3_4]) ?_
 clear hh m1_1 m2_2 m3_4
 rintro ρ H n7 ⟨hh,m1_1,m2_2,m3_4⟩
 refine zE fun k' hk'=>?_
 simp[hh,m1_1,m2_2,m3_4]
 apply hk'
 refine Runs.cut (fun ρ H n=>(ρ 2=pA (n1+1) 2∧ρ 3=pA n4 3)∧H (n1+1,2)=some ⟨2,[[str [],int 0]]⟩∧H (n4,3)=some ⟨2,[[str a.name,int a.link]]⟩) (by refine⟨?_,?_,?_⟩<;>simp[hh,m1_1,m2_2,m3_4]) ?_
 clear hh m1_1 m2_2 m3_4
 rintro ρ H n8 ⟨hh,m2_2,m3_4⟩
 refine zE fun k' hk'=>?_
 simp[hh,m2_2,m3_4]
 apply hk'
 refine Runs.cut (fun ρ H n=>ρ 2=pA (n1+1) 2∧H (n1+1,2)=some ⟨2,[[str a.name,int a.link]]⟩) (by refine⟨?_,?_⟩<;>simp[hh,m2_2,m3_4]) ?_
 clear hh m2_2 m3_4
 rintro ρ H n9 ⟨hh,m2_2⟩
 exact Runs.res1 Ty_ok (v:=.agg [str a.name,int a.link]) Tryz.func106 Tryz.results106 (by simp[hh,m2_2,resA]) (hQ _ _ _ _ (.of (.aggL (.cons (.v _) (.cons (.v _) .nil)))) ⟨a,h,rfl⟩)
theorem toWire_ok (a:Wire)  : PureC Tryz.prog 106 [.agg [str a.name,int a.link]] (fun r=>r = .agg [str ((toWire a).name),int ((toWire a).link)]):=(toWire_walk a _ (toWire_vc a )).mono (by rintro _ ⟨_,rfl,rfl⟩;rfl)
theorem e44:Ent Tryz.prog 44:=Ent.of Tryz.func44 (by kernel_rfl) rfl
theorem toWireS_walk (a:List Wire) (Z:(List Wire)→Prop) (h:toWireS_wp a Z):OwnS Tryz.prog 44 [.list false (a.map Wire.cells)] (.s [.c,.c]) (fun r=>∃ y:List Wire,Z y∧r = .list true (y.map Wire.cells)):=by
 unfold toWireS_wp at h
 have sp:Sep noHeap 0 [] []:=Sep.nil (by simp)
 refine OwnS.of Tryz.func44 rfl Tryz.ntmps44 (by simp) fun Q hQ=>?_
 refine Runs.cut (fun ρ H n=>ρ 0 = .list false (a.map Wire.cells)∧Sep H n [] []) (by refine⟨by simp ,sp⟩) ?_
 rintro ρ H n1 ⟨hh,sp⟩
 refine zE fun k' hk'=>?_
 simp[hh]
 apply hk'
 refine zE fun k' hk'=>?_
 obtain⟨len2,elen2,h⟩:=atm h
 have f3:=fun H=>len_list (H:=H) (fr:=false) (f:=Wire.cells) kd_26 elen2
 obtain⟨hb4,h⟩:=h
 obtain⟨l5,el5,h⟩:=atm h
 simp[hh,f3,hb4,el5,-lenF]
 apply hk'
 refine Runs.cut (fun ρ H n=>∃ (v7:AVal),(ρ 0 = .list false (a.map Wire.cells)∧ρ 3=v7)∧Sep H n [oW v7 l5] []) (by refine⟨.arr (n1,7) len2.toNat 0 len2.toNat,by simp[hh,f3,hb4,el5,-lenF],(by rw[el5];exact Sep.addRep (z:=[str [],int 0]) (f:=Wire.cells) (k:=len2.toNat) sp (fun H=>by show Row H [.c,.c] [str [],int 0] [str [],int 0] [];simp[Row,Tr]))⟩) ?_
 clear hh
 rintro ρ H n8 ⟨v7,hh,sp⟩
 refine Runs.seq ?_
 refine zE fun k' hk'=>?_
 simp[hh]
 apply hk'
 refine Runs.block ?_
 refine Runs.loopW h (fun (sJ:Int × (List Wire)) ρ H n=>match sJ with | (i16,l17)=>∃ (v18:AVal),(ρ 0 = .list false (a.map Wire.cells)∧ρ 3=v18∧ρ 4=int i16)∧Sep H n [oW v18 l17] []) (by refine⟨v7,by simp[hh],sp⟩) ?_
 clear hh
 rintro⟨i16,l17⟩ ρ H n19 K h ⟨v18,hh,sp⟩ IH20
 refine Runs.seq ?_
 refine zE fun k' hk'=>?_
 obtain⟨len22,elen22,h⟩:=atm h
 have f23:=fun H=>len_list (H:=H) (fr:=false) (f:=Wire.cells) kd_26 elen22
 obtain⟨c24,ec24,h⟩:=atm h
 have f25:=ib_lss (k:=.i64) ec24
 simp[hh,f23,f25,-intBin,-lenF]
 apply hk'
 refine Runs.ite (b:=c24) (by simp[hh]) (fun dc24=>?_) (fun dc24=>?_)
 ·replace h:=h.1 dc24
  refine Runs.skip ?_
  refine Runs.seq ?_
  refine Runs.block ?_
  refine zF fun k' hk'=>?_
  obtain⟨hb26,h⟩:=h
  obtain⟨x27,ex27,h⟩:=atm h
  have f28:=fun H=>ix_list (H:=H) (fr:=false) (f:=Wire.cells) (k:=.i64) kd_26 (fun _=>rfl) hb26 ex27
  obtain⟨r29,er29,h⟩:=atm h
  simp[hh,f28,dc24,-indexAddrF]
  refine RunK.callA Ty_ok (toWire_ok x27 ) e106 (.cons (ArgOk.agg (.cons (.v _ _ _) (.cons (.v _ _ _) .nil))) .nil) (by decide) (by decide) rfl (by simp[hh,f28,dc24,-indexAddrF]) ?_
  rintro _ rfl
  rw[← er29]
  obtain⟨hb30,h⟩:=h
  obtain⟨id31,hv,mo32,ln33,ni34⟩:=Sep.openF sp (by simp) hb30
  subst hv
  obtain⟨x35,ex35,h⟩:=atm h
  have f36:=fun H (hm:H id31=some ⟨2,l17.map Wire.cells⟩)=>ix_arr (H:=H) (k:=.i64) (off:=0) (len:=l17.length) (g:=l17.length) kd_32 hm (by simp) rfl hb30
  have f37:=at_some (q:=i16.toNat) hb30 ex35 rfl
  obtain⟨l38,el38,h⟩:=atm h
  simp[hh,mo32,f28,f36,f37,dc24,-indexAddrF,-storeF]
  refine bind_store (q:=i16.toNat) (news:=Wire.cells r29) [] [] sp (by simp) (by simp;omega) (by simp) (by simp[-one1,o1x]) (Fill.v _ (Fill.v _ Fill.nil)) ?_
  rintro H39 sp hfr40
  replace sp:Sep H39 n19 [oW (.arr id31 l17.length 0 l17.length) l38] []:=Sep.st el38 sp
  simp[hh,f28,f36,f37,dc24,-indexAddrF]
  apply hk'
  refine Runs.cut (fun ρ H n=>∃ (v42:AVal),(ρ 0 = .list false (a.map Wire.cells)∧ρ 3=v42∧ρ 4=int i16)∧Sep H n [oW v42 l38] []) (by refine⟨.arr id31 l17.length 0 l17.length,by simp[hh,f28,f36,f37,dc24,-indexAddrF],sp⟩) ?_
  clear hh
  rintro ρ H n43 ⟨v42,hh,sp⟩
  refine Runs.inBlock ?_
  refine zF fun k' hk'=>?_
  obtain⟨hb44,h⟩:=h
  obtain⟨v45,ev45,h⟩:=atm h
  have f46:=ib_add hb44 ev45
  simp[hh,f46,-intBin]
  apply hk'
  refine IH20 (v45,l38) _ _ _ h (by refine⟨v42,by simp[hh],sp⟩)
 replace h:=h.2 dc24
 refine Runs.exit rfl ?_
 refine zE fun k' hk'=>?_
 simp[hh,dc24]
 apply hk'
 exact Runs.ret1 (v:=v18) Tryz.func44 Tryz.results44 (by simp[hh,dc24]) (hQ _ _ _ _ (Sep.sub (ids':=[]) sp (by simp)) ⟨l17,h,rfl⟩)
theorem toWireS_ok (a:List Wire) (hp:toWireS_pre a):OwnS Tryz.prog 44 [.list false (a.map Wire.cells)] (.s [.c,.c]) (fun r=>r = .list true ((toWireS a).map Wire.cells)):=(toWireS_walk a _ (toWireS_vc a hp)).mono (by rintro _ ⟨_,rfl,rfl⟩;rfl)
theorem e105:Ent Tryz.prog 105:=Ent.of Tryz.func105 (by kernel_rfl) rfl
theorem toNode_walk (a:GNode) (Z:GNode→Prop) (h:toNode_wp a Z):OwnS Tryz.prog 105 [.agg [int a.control,int a.parent,.list false (a.links.map intC)]] (.a [.c,.c,.s [.c]]) (fun r=>∃ y:GNode,Z y∧r = .agg [int y.control,int y.parent,.list true (y.links.map intC)]):=by
 unfold toNode_wp at h
 have sp:Sep noHeap 0 [] []:=Sep.nil (by simp)
 refine OwnS.of Tryz.func105 rfl Tryz.ntmps105 (by simp) fun Q hQ=>?_
 refine Runs.cut (fun ρ H n=>ρ 0 = .agg [int a.control,int a.parent,.list false (a.links.map intC)]∧Sep H n [] []) (by refine⟨by simp ,sp⟩) ?_
 rintro ρ H n1 ⟨hh,sp⟩
 refine zE fun k' hk'=>?_
 simp[hh]
 apply hk'
 refine Runs.cut (fun ρ H n=>((ρ 1=pA n1 1∧ρ 2=pA (n1+1) 2)∧H (n1,1)=some ⟨3,[[int a.control,int a.parent,.list false (a.links.map intC)]]⟩∧H (n1+1,2)=some ⟨3,[[int 0,int 0,.v (.slice none 0 0)]]⟩)∧Sep H n [] [(n1+1,2),(n1,1)]) (by refine⟨by simp[hh],sp.var.var⟩) ?_
 clear hh
 rintro ρ H n4 ⟨⟨hh,m1_1,m2_2⟩,sp⟩
 refine zE fun k' hk'=>?_
 simp[hh,m1_1,m2_2]
 apply hk'
 refine Runs.cut (fun ρ H n=>((ρ 1=pA n1 1∧ρ 2=pA (n1+1) 2∧ρ 3=pA n4 3)∧H (n1,1)=some ⟨3,[[int a.control,int a.parent,.list false (a.links.map intC)]]⟩∧H (n1+1,2)=some ⟨3,[[int 0,int 0,.v (.slice none 0 0)]]⟩∧H (n4,3)=some ⟨3,[[int 0,int 0,.v (.slice none 0 0)]]⟩)∧Sep H n [] [(n4,3),(n1+1,2),(n1,1)]) (by refine⟨by simp[hh,m1_1,m2_2],sp.var⟩) ?_
 clear hh m1_1 m2_2
 rintro ρ H n6 ⟨⟨hh,m1_1,m2_2,m3_4⟩,sp⟩
 refine zE fun k' hk'=>?_
 simp[hh,m1_1,m2_2,m3_4]
 apply hk'
 refine Runs.cut (fun ρ H n=>((ρ 1=pA n1 1∧ρ 2=pA (n1+1) 2∧ρ 3=pA n4 3)∧H (n1,1)=some ⟨3,[[int a.control,int a.parent,.list false (a.links.map intC)]]⟩∧H (n1+1,2)=some ⟨3,[[int 0,int 0,.v (.slice none 0 0)]]⟩∧H (n4,3)=some ⟨3,[[int a.control,int 0,.v (.slice none 0 0)]]⟩)∧Sep H n [] [(n4,3),(n1+1,2),(n1,1)]) (by refine⟨by simp[hh,m1_1,m2_2,m3_4],(Sep.setVar (w:=(n4,3)) sp (by simp))⟩) ?_
 clear hh m1_1 m2_2 m3_4
 rintro ρ H n7 ⟨⟨hh,m1_1,m2_2,m3_4⟩,sp⟩
 refine zE fun k' hk'=>?_
 simp[hh,m1_1,m2_2,m3_4]
 apply hk'
 refine Runs.cut (fun ρ H n=>((ρ 1=pA n1 1∧ρ 2=pA (n1+1) 2∧ρ 3=pA n4 3)∧H (n1,1)=some ⟨3,[[int a.control,int a.parent,.list false (a.links.map intC)]]⟩∧H (n1+1,2)=some ⟨3,[[int 0,int 0,.v (.slice none 0 0)]]⟩∧H (n4,3)=some ⟨3,[[int a.control,int a.parent,.v (.slice none 0 0)]]⟩)∧Sep H n [] [(n4,3),(n1+1,2),(n1,1)]) (by refine⟨by simp[hh,m1_1,m2_2,m3_4],(Sep.setVar (w:=(n4,3)) sp (by simp))⟩) ?_
 clear hh m1_1 m2_2 m3_4
 rintro ρ H n8 ⟨⟨hh,m1_1,m2_2,m3_4⟩,sp⟩
 refine zE fun k' hk'=>?_
 obtain⟨hb9,h⟩:=h
 obtain⟨r10,er10,h⟩:=atm h
 simp[hh,m1_1,m2_2,m3_4]
 refine RunK.callW Ty_ok (toIntS_ok a.links hb9) e42 (.cons (argI false a.links) .nil) sp (by decide) (by decide) rfl (by simp[hh,m1_1,m2_2,m3_4]) ?_
 rintro v11 H12 n13 _ sp rfl hle15 hfr14
 rw[← er10] at sp
 have m1_1:=(hfr14 _ (by simp)).trans m1_1
 have m2_2:=(hfr14 _ (by simp)).trans m2_2
 have m3_4:=(hfr14 _ (by simp)).trans m3_4
 have f18:=Sep.oc sp
 simp[hh,m1_1,m2_2,m3_4,f18,-cellsA,-one1,cAx,o1x]
 apply hk'
 refine Runs.cut (fun ρ H n=>∃ (v19:AVal),((ρ 2=pA (n1+1) 2∧ρ 3=pA n4 3)∧H (n1+1,2)=some ⟨3,[[int 0,int 0,.v (.slice none 0 0)]]⟩∧H (n4,3)=some ⟨3,[[int a.control,int a.parent,v19]]⟩)∧Sep H n [oI v19 r10] [(n4,3),(n1+1,2)]) (by refine⟨v11,by simp[hh,m1_1,m2_2,m3_4,f18,-cellsA,-one1,cAx,o1x],(Sep.sub (Sep.setVar (w:=(n4,3)) sp (by simp)) (by simp +contextual))⟩) ?_
 clear hh m1_1 m2_2 m3_4
 rintro ρ H n20 ⟨v19,⟨hh,m2_2,m3_4⟩,sp⟩
 refine zE fun k' hk'=>?_
 have f21:=Sep.oc sp
 simp[hh,m2_2,m3_4,f21,-cellsA,-one1,cAx,o1x]
 apply hk'
 refine Runs.cut (fun ρ H n=>∃ (v22:AVal),(ρ 2=pA (n1+1) 2∧H (n1+1,2)=some ⟨3,[[int a.control,int a.parent,v22]]⟩)∧Sep H n [oI v22 r10] [(n1+1,2)]) (by refine⟨v19,by simp[hh,m2_2,m3_4,f21,-cellsA,-one1,cAx,o1x],(Sep.sub (Sep.setVar (w:=(n1+1,2)) sp (by simp)) (by simp +contextual))⟩) ?_
 clear hh m2_2 m3_4
 rintro ρ H n23 ⟨v22,⟨hh,m2_2⟩,sp⟩
 exact Runs.res1 Ty_ok (v:=.agg [int a.control,int a.parent,v22]) Tryz.func105 Tryz.results105 (by simp[hh,m2_2,resA]) (hQ _ _ _ _ (Sep.sub (ids':=[]) (Sep.pack (Fill.v _ (Fill.v _ (Fill.own Fill.nil))) sp) (by simp)) ⟨(GNode.mk a.control a.parent r10),h,rfl⟩)
theorem toNode_ok (a:GNode) (hp:toNode_pre a):OwnS Tryz.prog 105 [.agg [int a.control,int a.parent,.list false (a.links.map intC)]] (.a [.c,.c,.s [.c]]) (fun r=>r = .agg [int ((toNode a).control),int ((toNode a).parent),.list true (((toNode a).links).map intC)]):=(toNode_walk a _ (toNode_vc a hp)).mono (by rintro _ ⟨_,rfl,rfl⟩;rfl)
theorem e41:Ent Tryz.prog 41:=Ent.of Tryz.func41 (by kernel_rfl) rfl
theorem toNodeS_walk (a:List GNode) (Z:(List GNode)→Prop) (h:toNodeS_wp a Z):OwnS Tryz.prog 41 [.list false (a.map (GNode.cells false))] (.s [.c,.c,.s [.c]]) (fun r=>∃ y:List GNode,Z y∧r = .list true (y.map (GNode.cells true))):=by
 unfold toNodeS_wp at h
 have sp:Sep noHeap 0 [] []:=Sep.nil (by simp)
 refine OwnS.of Tryz.func41 rfl Tryz.ntmps41 (by simp) fun Q hQ=>?_
 refine Runs.cut (fun ρ H n=>ρ 0 = .list false (a.map (GNode.cells false))∧Sep H n [] []) (by refine⟨by simp ,sp⟩) ?_
 rintro ρ H n1 ⟨hh,sp⟩
 refine zE fun k' hk'=>?_
 simp[hh]
 apply hk'
 refine zE fun k' hk'=>?_
 obtain⟨len2,elen2,h⟩:=atm h
 have f3:=fun H=>len_list (H:=H) (fr:=false) (f:=(GNode.cells false)) kd_23 elen2
 obtain⟨hb4,h⟩:=h
 obtain⟨l5,el5,h⟩:=atm h
 simp[hh,f3,hb4,el5,-lenF]
 apply hk'
 refine Runs.cut (fun ρ H n=>∃ (v7:AVal),(ρ 0 = .list false (a.map (GNode.cells false))∧ρ 3=v7)∧Sep H n [oN v7 l5] []) (by refine⟨.arr (n1,7) len2.toNat 0 len2.toNat,by simp[hh,f3,hb4,el5,-lenF],(by rw[el5];exact Sep.addRep (z:=[int 0,int 0,.v (.slice none 0 0)]) (f:=(GNode.cells true)) (k:=len2.toNat) sp (fun H=>by show Row H [.c,.c,.s [.c]] [int 0,int 0,.v (.slice none 0 0)] [int 0,int 0,.list true []] [];simp[Row,Tr]))⟩) ?_
 clear hh
 rintro ρ H n8 ⟨v7,hh,sp⟩
 refine Runs.seq ?_
 refine zE fun k' hk'=>?_
 simp[hh]
 apply hk'
 refine Runs.block ?_
 refine Runs.loopW h (fun (sJ:Int × (List GNode)) ρ H n=>match sJ with | (i16,l17)=>∃ (v18:AVal),(ρ 0 = .list false (a.map (GNode.cells false))∧ρ 3=v18∧ρ 4=int i16)∧Sep H n [oN v18 l17] []) (by refine⟨v7,by simp[hh],sp⟩) ?_
 clear hh
 rintro⟨i16,l17⟩ ρ H n19 K h ⟨v18,hh,sp⟩ IH20
 refine Runs.seq ?_
 refine zE fun k' hk'=>?_
 obtain⟨len22,elen22,h⟩:=atm h
 have f23:=fun H=>len_list (H:=H) (fr:=false) (f:=(GNode.cells false)) kd_23 elen22
 obtain⟨c24,ec24,h⟩:=atm h
 have f25:=ib_lss (k:=.i64) ec24
 simp[hh,f23,f25,-intBin,-lenF]
 apply hk'
 refine Runs.ite (b:=c24) (by simp[hh]) (fun dc24=>?_) (fun dc24=>?_)
 ·replace h:=h.1 dc24
  refine Runs.skip ?_
  refine Runs.seq ?_
  refine Runs.block ?_
  refine zF fun k' hk'=>?_
  obtain⟨hb26,h⟩:=h
  obtain⟨x27,ex27,h⟩:=atm h
  have f28:=fun H=>ix_list (H:=H) (fr:=false) (f:=(GNode.cells false)) (k:=.i64) kd_23 (fun _=>rfl) hb26 ex27
  obtain⟨hb29,h⟩:=h
  obtain⟨r30,er30,h⟩:=atm h
  simp[hh,f28,dc24,-indexAddrF]
  refine RunK.callW Ty_ok (toNode_ok x27 hb29) e105 (.cons (ArgOk.agg (.cons (.v _ _ _) (.cons (.v _ _ _) (.cons (argI false x27.links) .nil)))) .nil) sp (by decide) (by decide) rfl (by simp[hh,f28,dc24,-indexAddrF]) ?_
  rintro v31 H32 n33 _ sp rfl hle35 hfr34
  rw[← er30] at sp
  replace sp:=Sep.unpack sp
  obtain⟨L40,hv,hl41,sp⟩:=sp
  subst hv
  obtain⟨v37,v38,v39,hv⟩:=len3 (by simpa using hl41)
  subst hv
  simp only[zip3,List.cons_append,List.nil_append] at sp
  replace sp:=Sep.scalar sp
  obtain⟨hv,sp⟩:=sp
  subst hv
  replace sp:=Sep.scalar sp
  obtain⟨hv,sp⟩:=sp
  subst hv
  replace sp:=Sep.rot sp
  try simp only[List.cons_append,List.nil_append,List.append_assoc] at sp
  obtain⟨hb43,h⟩:=h
  obtain⟨x44,ex44,h⟩:=atm h
  obtain⟨id45,els46,row47,W48,hq49,mo50,moL51,moR52,hrl53,hW54,hsub55,hni56,spr57,hcl58⟩:=Sep.rowF (q:=i16.toNat) (f:=(GNode.cells true)) sp hb43 ex44 rfl
  subst hq49
  obtain⟨c59,c60,c61,hq49⟩:=len3 (by simpa using hrl53)
  subst hq49
  replace spr57:Sep _ _ [(.c,c59,int x44.control),(.c,c60,int x44.parent),(.s [.c],c61,.list true (x44.links.map intC))] W48:=spr57
  obtain rfl:=Sep.cAt (K1:=[]) (K2:=[(.c,c60,int x44.parent),(.s [.c],c61,.list true (x44.links.map intC))]) spr57
  obtain rfl:=Sep.cAt (K1:=[(.c,int x44.control,int x44.control)]) (K2:=[(.s [.c],c61,.list true (x44.links.map intC))]) spr57
  have f62:=ix_arr (k:=.i64) (off:=0) (len:=l17.length) kd_31 mo50 moL51 rfl hb43
  obtain⟨l63,el63,h⟩:=atm h
  simp[hh,mo50,moL51,moR52,f28,f62,dc24,-indexAddrF,-storeF]
  refine bind_store (q:=i16.toNat) (news:=(GNode.cells true) r30) [oI v39 r30.links] [] sp (by simp) (by simp;omega) (by simp) (by simp[-one1,o1x,Sep.one1 sp.dr]) (Fill.v _ (Fill.v _ (Fill.own Fill.nil))) ?_
  rintro H64 sp hfr65
  replace sp:Sep H64 n33 [oN (.arr id45 l17.length 0 l17.length) l63] []:=Sep.st el63 sp
  simp[hh,f28,f62,dc24,-indexAddrF]
  apply hk'
  refine Runs.cut (fun ρ H n=>∃ (v67:AVal),(ρ 0 = .list false (a.map (GNode.cells false))∧ρ 3=v67∧ρ 4=int i16)∧Sep H n [oN v67 l63] []) (by refine⟨.arr id45 l17.length 0 l17.length,by simp[hh,f28,f62,dc24,-indexAddrF],sp⟩) ?_
  clear hh
  rintro ρ H n68 ⟨v67,hh,sp⟩
  refine Runs.inBlock ?_
  refine zF fun k' hk'=>?_
  obtain⟨hb69,h⟩:=h
  obtain⟨v70,ev70,h⟩:=atm h
  have f71:=ib_add hb69 ev70
  simp[hh,f71,-intBin]
  apply hk'
  refine IH20 (v70,l63) _ _ _ h (by refine⟨v67,by simp[hh],sp⟩)
 replace h:=h.2 dc24
 refine Runs.exit rfl ?_
 refine zE fun k' hk'=>?_
 simp[hh,dc24]
 apply hk'
 exact Runs.ret1 (v:=v18) Tryz.func41 Tryz.results41 (by simp[hh,dc24]) (hQ _ _ _ _ (Sep.sub (ids':=[]) sp (by simp)) ⟨l17,h,rfl⟩)
theorem toNodeS_ok (a:List GNode) (hp:toNodeS_pre a):OwnS Tryz.prog 41 [.list false (a.map (GNode.cells false))] (.s [.c,.c,.s [.c]]) (fun r=>r = .list true ((toNodeS a).map (GNode.cells true))):=(toNodeS_walk a _ (toNodeS_vc a hp)).mono (by rintro _ ⟨_,rfl,rfl⟩;rfl)
theorem e11:Ent Tryz.prog 11:=Ent.of Tryz.func11 (by kernel_rfl) rfl
theorem toBigraph_walk (a:Big) (Z:Big→Prop) (h:toBigraph_wp a Z):OwnS Tryz.prog 11 [.agg (bC false a)] (.a [.c,.s [.c,.c,.s [.c]],.s [.c],.c,.s [.c],.s [.c,.c]]) (fun r=>∃ y:Big,Z y∧r = .agg (bC true y)):=by
 unfold toBigraph_wp at h
 have sp:Sep noHeap 0 [] []:=Sep.nil (by simp)
 refine OwnS.of Tryz.func11 rfl Tryz.ntmps11 (by simp) fun Q hQ=>?_
 refine Runs.cut (fun ρ H n=>ρ 0 = .agg (bC false a)∧Sep H n [] []) (by refine⟨by simp ,sp⟩) ?_
 rintro ρ H n1 ⟨hh,sp⟩
 refine zE fun k' hk'=>?_
 simp[hh]
 apply hk'
 refine Runs.cut (fun ρ H n=>((ρ 1=pA n1 1∧ρ 2=pA (n1+1) 2)∧H (n1,1)=some ⟨6,[bC false a]⟩∧H (n1+1,2)=some ⟨6,[zB]⟩)∧Sep H n [] [(n1+1,2),(n1,1)]) (by refine⟨by simp[hh],sp.var.var⟩) ?_
 clear hh
 rintro ρ H n4 ⟨⟨hh,m1_1,m2_2⟩,sp⟩
 refine zE fun k' hk'=>?_
 simp[hh,m1_1,m2_2]
 apply hk'
 refine Runs.cut (fun ρ H n=>((ρ 1=pA n1 1∧ρ 2=pA (n1+1) 2∧ρ 3=pA n4 3)∧H (n1,1)=some ⟨6,[bC false a]⟩∧H (n1+1,2)=some ⟨6,[zB]⟩∧H (n4,3)=some ⟨6,[zB]⟩)∧Sep H n [] [(n4,3),(n1+1,2),(n1,1)]) (by refine⟨by simp[hh,m1_1,m2_2],sp.var⟩) ?_
 clear hh m1_1 m2_2
 rintro ρ H n6 ⟨⟨hh,m1_1,m2_2,m3_4⟩,sp⟩
 refine zE fun k' hk'=>?_
 simp[hh,m1_1,m2_2,m3_4]
 apply hk'
 refine Runs.cut (fun ρ H n=>((ρ 1=pA n1 1∧ρ 2=pA (n1+1) 2∧ρ 3=pA n4 3)∧H (n1,1)=some ⟨6,[bC false a]⟩∧H (n1+1,2)=some ⟨6,[zB]⟩∧H (n4,3)=some ⟨6,[[int a.roots,.v (.slice none 0 0),.v (.slice none 0 0),int 0,.v (.slice none 0 0),.v (.slice none 0 0)]]⟩)∧Sep H n [] [(n4,3),(n1+1,2),(n1,1)]) (by refine⟨by simp[hh,m1_1,m2_2,m3_4],(Sep.setVar (w:=(n4,3)) sp (by simp))⟩) ?_
 clear hh m1_1 m2_2 m3_4
 rintro ρ H n7 ⟨⟨hh,m1_1,m2_2,m3_4⟩,sp⟩
 refine zE fun k' hk'=>?_
 obtain⟨hb8,h⟩:=h
 obtain⟨r9,er9,h⟩:=atm h
 simp[hh,m1_1,m2_2,m3_4]
 refine RunK.callW Ty_ok (toNodeS_ok a.nodes hb8) e41 (.cons (ArgOk.nest_Node false a.nodes) .nil) sp (by decide) (by decide) rfl (by simp[hh,m1_1,m2_2,m3_4]) ?_
 rintro v10 H11 n12 _ sp rfl hle14 hfr13
 rw[← er9] at sp
 have m1_1:=(hfr13 _ (by simp)).trans m1_1
 have m2_2:=(hfr13 _ (by simp)).trans m2_2
 have m3_4:=(hfr13 _ (by simp)).trans m3_4
 have f17:=Sep.oc sp
 simp[hh,m1_1,m2_2,m3_4,f17,-cellsA,-one1,cAx,o1x]
 apply hk'
 refine Runs.cut (fun ρ H n=>∃ (v18:AVal),((ρ 1=pA n1 1∧ρ 2=pA (n1+1) 2∧ρ 3=pA n4 3)∧H (n1,1)=some ⟨6,[bC false a]⟩∧H (n1+1,2)=some ⟨6,[zB]⟩∧H (n4,3)=some ⟨6,[[int a.roots,v18,.v (.slice none 0 0),int 0,.v (.slice none 0 0),.v (.slice none 0 0)]]⟩)∧Sep H n [oN v18 r9] [(n4,3),(n1+1,2),(n1,1)]) (by refine⟨v10,by simp[hh,m1_1,m2_2,m3_4,f17,-cellsA,-one1,cAx,o1x],(Sep.setVar (w:=(n4,3)) sp (by simp))⟩) ?_
 clear hh m1_1 m2_2 m3_4
 rintro ρ H n19 ⟨v18,⟨hh,m1_1,m2_2,m3_4⟩,sp⟩
 refine zE fun k' hk'=>?_
 obtain⟨hb20,h⟩:=h
 obtain⟨r21,er21,h⟩:=atm h
 simp[hh,m1_1,m2_2,m3_4]
 refine RunK.callW Ty_ok (toIntS_ok a.sites hb20) e42 (.cons (argI false a.sites) .nil) sp (by decide) (by decide) rfl (by simp[hh,m1_1,m2_2,m3_4]) ?_
 rintro v22 H23 n24 _ sp rfl hle26 hfr25
 rw[← er21] at sp
 have m1_1:=(hfr25 _ (by simp)).trans m1_1
 have m2_2:=(hfr25 _ (by simp)).trans m2_2
 have m3_4:=(hfr25 _ (by simp)).trans m3_4
 have f29:=Sep.oc sp
 simp[hh,m1_1,m2_2,m3_4,f29,-cellsA,-one1,cAx,o1x]
 apply hk'
 refine Runs.cut (fun ρ H n=>∃ (v30 v31:AVal),((ρ 1=pA n1 1∧ρ 2=pA (n1+1) 2∧ρ 3=pA n4 3)∧H (n1,1)=some ⟨6,[bC false a]⟩∧H (n1+1,2)=some ⟨6,[zB]⟩∧H (n4,3)=some ⟨6,[[int a.roots,v31,v30,int 0,.v (.slice none 0 0),.v (.slice none 0 0)]]⟩)∧Sep H n [oI v30 r21,oN v31 r9] [(n4,3),(n1+1,2),(n1,1)]) (by refine⟨v22,v18,by simp[hh,m1_1,m2_2,m3_4,f29,-cellsA,-one1,cAx,o1x],(Sep.setVar (w:=(n4,3)) sp (by simp))⟩) ?_
 clear hh m1_1 m2_2 m3_4
 rintro ρ H n32 ⟨v30,v31,⟨hh,m1_1,m2_2,m3_4⟩,sp⟩
 refine zE fun k' hk'=>?_
 simp[hh,m1_1,m2_2,m3_4]
 apply hk'
 refine Runs.cut (fun ρ H n=>∃ (v33 v34:AVal),((ρ 1=pA n1 1∧ρ 2=pA (n1+1) 2∧ρ 3=pA n4 3)∧H (n1,1)=some ⟨6,[bC false a]⟩∧H (n1+1,2)=some ⟨6,[zB]⟩∧H (n4,3)=some ⟨6,[[int a.roots,v34,v33,int a.edges,.v (.slice none 0 0),.v (.slice none 0 0)]]⟩)∧Sep H n [oI v33 r21,oN v34 r9] [(n4,3),(n1+1,2),(n1,1)]) (by refine⟨v30,v31,by simp[hh,m1_1,m2_2,m3_4],(Sep.setVar (w:=(n4,3)) sp (by simp))⟩) ?_
 clear hh m1_1 m2_2 m3_4
 rintro ρ H n35 ⟨v33,v34,⟨hh,m1_1,m2_2,m3_4⟩,sp⟩
 refine zE fun k' hk'=>?_
 obtain⟨hb36,h⟩:=h
 obtain⟨r37,er37,h⟩:=atm h
 simp[hh,m1_1,m2_2,m3_4]
 refine RunK.callW Ty_ok (toStringS_ok a.outer hb36) e43 (.cons (argS false a.outer) .nil) sp (by decide) (by decide) rfl (by simp[hh,m1_1,m2_2,m3_4]) ?_
 rintro v38 H39 n40 _ sp rfl hle42 hfr41
 rw[← er37] at sp
 have m1_1:=(hfr41 _ (by simp)).trans m1_1
 have m2_2:=(hfr41 _ (by simp)).trans m2_2
 have m3_4:=(hfr41 _ (by simp)).trans m3_4
 have f45:=Sep.oc sp
 simp[hh,m1_1,m2_2,m3_4,f45,-cellsA,-one1,cAx,o1x]
 apply hk'
 refine Runs.cut (fun ρ H n=>∃ (v46 v47 v48:AVal),((ρ 1=pA n1 1∧ρ 2=pA (n1+1) 2∧ρ 3=pA n4 3)∧H (n1,1)=some ⟨6,[bC false a]⟩∧H (n1+1,2)=some ⟨6,[zB]⟩∧H (n4,3)=some ⟨6,[[int a.roots,v48,v47,int a.edges,v46,.v (.slice none 0 0)]]⟩)∧Sep H n [oS v46 r37,oI v47 r21,oN v48 r9] [(n4,3),(n1+1,2),(n1,1)]) (by refine⟨v38,v33,v34,by simp[hh,m1_1,m2_2,m3_4,f45,-cellsA,-one1,cAx,o1x],(Sep.setVar (w:=(n4,3)) sp (by simp))⟩) ?_
 clear hh m1_1 m2_2 m3_4
 rintro ρ H n49 ⟨v46,v47,v48,⟨hh,m1_1,m2_2,m3_4⟩,sp⟩
 refine zE fun k' hk'=>?_
 obtain⟨hb50,h⟩:=h
 obtain⟨r51,er51,h⟩:=atm h
 simp[hh,m1_1,m2_2,m3_4]
 refine RunK.callW Ty_ok (toWireS_ok a.inner hb50) e44 (.cons (argW false a.inner) .nil) sp (by decide) (by decide) rfl (by simp[hh,m1_1,m2_2,m3_4]) ?_
 rintro v52 H53 n54 _ sp rfl hle56 hfr55
 rw[← er51] at sp
 have m1_1:=(hfr55 _ (by simp)).trans m1_1
 have m2_2:=(hfr55 _ (by simp)).trans m2_2
 have m3_4:=(hfr55 _ (by simp)).trans m3_4
 have f59:=Sep.oc sp
 simp[hh,m1_1,m2_2,m3_4,f59,-cellsA,-one1,cAx,o1x]
 apply hk'
 refine Runs.cut (fun ρ H n=>∃ (v60 v61 v62 v63:AVal),((ρ 2=pA (n1+1) 2∧ρ 3=pA n4 3)∧H (n1+1,2)=some ⟨6,[zB]⟩∧H (n4,3)=some ⟨6,[[int a.roots,v63,v62,int a.edges,v61,v60]]⟩)∧Sep H n [oW v60 r51,oS v61 r37,oI v62 r21,oN v63 r9] [(n4,3),(n1+1,2)]) (by refine⟨v52,v46,v47,v48,by simp[hh,m1_1,m2_2,m3_4,f59,-cellsA,-one1,cAx,o1x],(Sep.sub (Sep.setVar (w:=(n4,3)) sp (by simp)) (by simp +contextual))⟩) ?_
 clear hh m1_1 m2_2 m3_4
 rintro ρ H n64 ⟨v60,v61,v62,v63,⟨hh,m2_2,m3_4⟩,sp⟩
 refine zE fun k' hk'=>?_
 have f65:=Sep.oc sp.f3
 have f66:=Sep.oc sp.f2
 have f67:=Sep.oc sp.f1
 have f68:=Sep.oc sp
 simp[hh,m2_2,m3_4,f65,f66,f67,f68,-cellsA,-one1,cAx,o1x]
 apply hk'
 refine Runs.cut (fun ρ H n=>∃ (v69 v70 v71 v72:AVal),(ρ 2=pA (n1+1) 2∧H (n1+1,2)=some ⟨6,[[int a.roots,v72,v71,int a.edges,v70,v69]]⟩)∧Sep H n [oW v69 r51,oS v70 r37,oI v71 r21,oN v72 r9] [(n1+1,2)]) (by refine⟨v60,v61,v62,v63,by simp[hh,m2_2,m3_4,f65,f66,f67,f68,-cellsA,-one1,cAx,o1x],(Sep.sub (Sep.setVar (w:=(n1+1,2)) sp (by simp)) (by simp +contextual))⟩) ?_
 clear hh m2_2 m3_4
 rintro ρ H n73 ⟨v69,v70,v71,v72,⟨hh,m2_2⟩,sp⟩
 exact Runs.res1 Ty_ok (v:=.agg [int a.roots,v72,v71,int a.edges,v70,v69]) Tryz.func11 Tryz.results11 (by simp[hh,m2_2,resA]) (hQ _ _ _ _ (Sep.sub (ids':=[]) (Sep.pack (Fill.v _ (Fill.own (Fill.own (Fill.v _ (Fill.own (Fill.own Fill.nil)))))) sp.f1.f2.f3) (by simp)) ⟨(Big.mk a.roots r9 r21 a.edges r37 r51),h,rfl⟩)
theorem toBigraph_ok (a:Big) (hp:toBigraph_pre a):OwnS Tryz.prog 11 [.agg (bC false a)] (.a [.c,.s [.c,.c,.s [.c]],.s [.c],.c,.s [.c],.s [.c,.c]]) (fun r=>r = .agg [int ((toBigraph a).roots),.list true (((toBigraph a).nodes).map (GNode.cells true)),.list true (((toBigraph a).sites).map intC),int ((toBigraph a).edges),.list true (((toBigraph a).outer).map strC),.list true (((toBigraph a).inner).map Wire.cells)]):=(toBigraph_walk a _ (toBigraph_vc a hp)).mono (by rintro _ ⟨_,rfl,rfl⟩;rfl)
theorem e64:Ent Tryz.prog 64:=Ent.of Tryz.func64 (by kernel_rfl) rfl
theorem markIntS_walk (a:List Int) (k_:Int) (Z:((List Int) × Int)→Prop) (h:markIntS_wp a k_ Z):MutS Tryz.prog 64 (fun v=>[v,int k_]) (.s [.c]) (.list true (a.map intC)) (fun e' r=>∃ y:(List Int) × Int,Z y∧e' = .list true (y.1.map intC)∧r=int y.2):=by
 unfold markIntS_wp at h
 refine MutS.of Tryz.func64 rfl Tryz.ntmps64 (fun _=>by simp) fun H0 n0 v0 K0 ids0 sp Q hQ=>?_
 have h00:=sp.1
 have hid:∀ i ∈ ids0,H0 i=H0 i:=fun _ _=>rfl
 have hnn:n0≤n0:=Nat.le_refl _
 refine Runs.cut (fun ρ H n=>(ρ 0=v0∧ρ 1=int k_)∧n0≤n∧(∀ i ∈ ids0,H i=H0 i)∧Sep H n (oI v0 a::K0) (ids0)) (by refine⟨?_,(by omega),hid,sp⟩<;>simp ) ?_
 rintro ρ H n2 ⟨hh,hnn,hid,sp⟩
 have hq_n2:=hnn
 refine zE fun k' hk'=>?_
 simp[hh]
 apply hk'
 refine Runs.seq ?_
 refine zE fun k' hk'=>?_
 simp[hh]
 apply hk'
 refine Runs.block ?_
 refine Runs.loopW h (fun (sJ:Int × Int × (List Int)) ρ H n=>match sJ with | (k10,i11,l12)=>(ρ 0=v0∧ρ 1=int k10∧ρ 5=int i11)∧n0≤n∧(∀ i ∈ ids0,H i=H0 i)∧Sep H n (oI v0 l12::K0) (ids0)) (by refine⟨?_,(by omega),hid,sp⟩<;>simp[hh]) ?_
 clear hh
 rintro⟨k10,i11,l12⟩ ρ H n13 K h ⟨hh,hnn,hid,sp⟩ IH14
 have hq_n13:=hnn
 refine Runs.seq ?_
 refine zE fun k' hk'=>?_
 obtain⟨len16,elen16,h⟩:=atm h
 have f17:=len_own (Sep.len (m:=len16) sp kd_24 (by rw[elen16,List.length_map]))
 obtain⟨c18,ec18,h⟩:=atm h
 have f19:=ib_lss (k:=.i64) ec18
 simp[hh,f17,f19,-intBin,-lenF]
 apply hk'
 refine Runs.ite (b:=c18) (by simp[hh]) (fun dc18=>?_) (fun dc18=>?_)
 ·replace h:=h.1 dc18
  refine Runs.skip ?_
  refine Runs.seq ?_
  refine Runs.block ?_
  refine zE fun k' hk'=>?_
  obtain⟨hb20,h⟩:=h
  obtain⟨id21,hv,mo22,ln23,ni24⟩:=Sep.openF sp (by simp) hb20
  subst hv
  obtain⟨x25,ex25,h⟩:=atm h
  have f26:=fun H (hm:H id21=some ⟨1,l12.map intC⟩)=>ix_arr (H:=H) (k:=.i64) (off:=0) (len:=l12.length) (g:=l12.length) kd_24 hm (by simp) rfl hb20
  have f27:=at_some (q:=i11.toNat) hb20 ex25 rfl
  obtain⟨l28,el28,h⟩:=atm h
  simp[hh,mo22,f26,f27,dc18,-indexAddrF,-storeF]
  refine bind_store (q:=i11.toNat) (news:=intC k10) [] (K0) sp (by simp) (by simp;omega) (by simp) (by simp[-one1,o1x]) (Fill.v _ Fill.nil) ?_
  rintro H29 sp hfr30
  replace sp:Sep H29 n13 (oI (.arr id21 l12.length 0 l12.length) l28::K0) (ids0):=Sep.st el28 sp
  have hid:∀ i ∈ ids0,H29 i=H0 i:=fun i hi=>(hfr30 i (by simp[hi])).trans (hid i hi)
  simp[hh,f26,f27,dc18,-indexAddrF]
  apply hk'
  refine Runs.cut (fun ρ H n=>(ρ 0 = .arr id21 l12.length 0 l12.length∧ρ 1=int k10∧ρ 5=int i11)∧n0≤n∧(∀ i ∈ ids0,H i=H0 i)∧Sep H n (oI (.arr id21 l12.length 0 l12.length) l28::K0) (ids0)) (by refine⟨?_,(by omega),hid,sp⟩<;>simp[hh,f26,f27,dc18,-indexAddrF]) ?_
  clear hh
  rintro ρ H n32 ⟨hh,hnn,hid,sp⟩
  have hq_n32:=hnn
  refine zF fun k' hk'=>?_
  obtain⟨hb33,h⟩:=h
  obtain⟨v34,ev34,h⟩:=atm h
  have f35:=ib_add hb33 ev34
  simp[hh,f35,-intBin]
  apply hk'
  refine Runs.inBlock ?_
  refine zF fun k' hk'=>?_
  obtain⟨hb36,h⟩:=h
  obtain⟨v37,ev37,h⟩:=atm h
  have f38:=ib_add hb36 ev37
  simp[hh,f38,-intBin]
  apply hk'
  refine IH14 (v34,v37,l28) _ _ _ h (by refine⟨?_,(by omega),hid,sp⟩<;>simp[hh])
 replace h:=h.2 dc18
 refine Runs.exit rfl ?_
 refine zE fun k' hk'=>?_
 simp[hh,dc18]
 apply hk'
 exact Runs.ret1 (v:=int k10) Tryz.func64 Tryz.results64 (by simp[hh,dc18]) (hQ _ _ _ _ (Sep.sub sp (by simp +contextual)) hid (by omega) ⟨(l12,k10),h,rfl,rfl⟩)
theorem markIntS_ok (a:List Int) (k_:Int) (hp:markIntS_pre a k_):MutS Tryz.prog 64 (fun v=>[v,int k_]) (.s [.c]) (.list true (a.map intC)) (fun e' r=>e' = .list true (((markIntS a k_).1).map intC)∧r=int ((markIntS a k_).2)):=(markIntS_walk a k_ _ (markIntS_vc a k_ hp)).mono (by rintro _ _ ⟨_,rfl,rfl,rfl⟩;exact⟨rfl,rfl⟩)
theorem e65:Ent Tryz.prog 65:=Ent.of Tryz.func65 (by kernel_rfl) rfl
theorem markStringS_walk (a:List Str) (k_:Int) (Z:((List Str) × Int)→Prop) (h:markStringS_wp a k_ Z):MutS Tryz.prog 65 (fun v=>[v,int k_]) (.s [.c]) (.list true (a.map strC)) (fun e' r=>∃ y:(List Str) × Int,Z y∧e' = .list true (y.1.map strC)∧r=int y.2):=by
 unfold markStringS_wp at h
 refine MutS.of Tryz.func65 rfl Tryz.ntmps65 (fun _=>by simp) fun H0 n0 v0 K0 ids0 sp Q hQ=>?_
 have h00:=sp.1
 have hid:∀ i ∈ ids0,H0 i=H0 i:=fun _ _=>rfl
 have hnn:n0≤n0:=Nat.le_refl _
 refine Runs.cut (fun ρ H n=>(ρ 0=v0∧ρ 1=int k_)∧n0≤n∧(∀ i ∈ ids0,H i=H0 i)∧Sep H n (oS v0 a::K0) (ids0)) (by refine⟨?_,(by omega),hid,sp⟩<;>simp ) ?_
 rintro ρ H n2 ⟨hh,hnn,hid,sp⟩
 have hq_n2:=hnn
 refine zE fun k' hk'=>?_
 simp[hh]
 apply hk'
 refine Runs.seq ?_
 refine zE fun k' hk'=>?_
 simp[hh]
 apply hk'
 refine Runs.block ?_
 refine Runs.loopW h (fun (sJ:Int × Int × (List Str)) ρ H n=>match sJ with | (k10,i11,l12)=>(ρ 0=v0∧ρ 1=int k10∧ρ 5=int i11)∧n0≤n∧(∀ i ∈ ids0,H i=H0 i)∧Sep H n (oS v0 l12::K0) (ids0)) (by refine⟨?_,(by omega),hid,sp⟩<;>simp[hh]) ?_
 clear hh
 rintro⟨k10,i11,l12⟩ ρ H n13 K h ⟨hh,hnn,hid,sp⟩ IH14
 have hq_n13:=hnn
 refine Runs.seq ?_
 refine zE fun k' hk'=>?_
 obtain⟨len16,elen16,h⟩:=atm h
 have f17:=len_own (Sep.len (m:=len16) sp kd_25 (by rw[elen16,List.length_map]))
 obtain⟨c18,ec18,h⟩:=atm h
 have f19:=ib_lss (k:=.i64) ec18
 simp[hh,f17,f19,-intBin,-lenF]
 apply hk'
 refine Runs.ite (b:=c18) (by simp[hh]) (fun dc18=>?_) (fun dc18=>?_)
 ·replace h:=h.1 dc18
  refine Runs.skip ?_
  refine Runs.seq ?_
  refine Runs.block ?_
  refine zE fun k' hk'=>?_
  obtain⟨hb20,h⟩:=h
  obtain⟨r21,er21,h⟩:=atm h
  simp[hh,dc18]
  refine RunK.callA Ty_ok (markTxt_ok k10 hb20) e62 (.cons (.v _ _ _) .nil) (by decide) (by decide) rfl (by simp[hh,dc18]) ?_
  rintro _ rfl
  rw[← er21]
  obtain⟨hb22,h⟩:=h
  obtain⟨id23,hv,mo24,ln25,ni26⟩:=Sep.openF sp (by simp) hb22
  subst hv
  obtain⟨x27,ex27,h⟩:=atm h
  have f28:=fun H (hm:H id23=some ⟨1,l12.map strC⟩)=>ix_arr (H:=H) (k:=.i64) (off:=0) (len:=l12.length) (g:=l12.length) kd_25 hm (by simp) rfl hb22
  have f29:=at_some (q:=i11.toNat) hb22 ex27 rfl
  obtain⟨l30,el30,h⟩:=atm h
  simp[hh,mo24,f28,f29,dc18,-indexAddrF,-storeF]
  refine bind_store (q:=i11.toNat) (news:=strC r21) [] (K0) sp (by simp) (by simp;omega) (by simp) (by simp[-one1,o1x]) (Fill.v _ Fill.nil) ?_
  rintro H31 sp hfr32
  replace sp:Sep H31 n13 (oS (.arr id23 l12.length 0 l12.length) l30::K0) (ids0):=Sep.st el30 sp
  have hid:∀ i ∈ ids0,H31 i=H0 i:=fun i hi=>(hfr32 i (by simp[hi])).trans (hid i hi)
  simp[hh,f28,f29,dc18,-indexAddrF]
  apply hk'
  refine Runs.cut (fun ρ H n=>(ρ 0 = .arr id23 l12.length 0 l12.length∧ρ 1=int k10∧ρ 5=int i11)∧n0≤n∧(∀ i ∈ ids0,H i=H0 i)∧Sep H n (oS (.arr id23 l12.length 0 l12.length) l30::K0) (ids0)) (by refine⟨?_,(by omega),hid,sp⟩<;>simp[hh,f28,f29,dc18,-indexAddrF]) ?_
  clear hh
  rintro ρ H n34 ⟨hh,hnn,hid,sp⟩
  have hq_n34:=hnn
  refine zF fun k' hk'=>?_
  obtain⟨hb35,h⟩:=h
  obtain⟨v36,ev36,h⟩:=atm h
  have f37:=ib_add hb35 ev36
  simp[hh,f37,-intBin]
  apply hk'
  refine Runs.inBlock ?_
  refine zF fun k' hk'=>?_
  obtain⟨hb38,h⟩:=h
  obtain⟨v39,ev39,h⟩:=atm h
  have f40:=ib_add hb38 ev39
  simp[hh,f40,-intBin]
  apply hk'
  refine IH14 (v36,v39,l30) _ _ _ h (by refine⟨?_,(by omega),hid,sp⟩<;>simp[hh])
 replace h:=h.2 dc18
 refine Runs.exit rfl ?_
 refine zE fun k' hk'=>?_
 simp[hh,dc18]
 apply hk'
 exact Runs.ret1 (v:=int k10) Tryz.func65 Tryz.results65 (by simp[hh,dc18]) (hQ _ _ _ _ (Sep.sub sp (by simp +contextual)) hid (by omega) ⟨(l12,k10),h,rfl,rfl⟩)
theorem markStringS_ok (a:List Str) (k_:Int) (hp:markStringS_pre a k_):MutS Tryz.prog 65 (fun v=>[v,int k_]) (.s [.c]) (.list true (a.map strC)) (fun e' r=>e' = .list true (((markStringS a k_).1).map strC)∧r=int ((markStringS a k_).2)):=(markStringS_walk a k_ _ (markStringS_vc a k_ hp)).mono (by rintro _ _ ⟨_,rfl,rfl,rfl⟩;exact⟨rfl,rfl⟩)
theorem e66:Ent Tryz.prog 66:=Ent.of Tryz.func66 (by kernel_rfl) rfl
theorem markWireS_walk (a:List Wire) (k_:Int) (Z:((List Wire) × Int)→Prop) (h:markWireS_wp a k_ Z):MutS Tryz.prog 66 (fun v=>[v,int k_]) (.s [.c,.c]) (.list true (a.map Wire.cells)) (fun e' r=>∃ y:(List Wire) × Int,Z y∧e' = .list true (y.1.map Wire.cells)∧r=int y.2):=by
 unfold markWireS_wp at h
 refine MutS.of Tryz.func66 rfl Tryz.ntmps66 (fun _=>by simp) fun H0 n0 v0 K0 ids0 sp Q hQ=>?_
 have h00:=sp.1
 have hid:∀ i ∈ ids0,H0 i=H0 i:=fun _ _=>rfl
 have hnn:n0≤n0:=Nat.le_refl _
 refine Runs.cut (fun ρ H n=>(ρ 0=v0∧ρ 1=int k_)∧n0≤n∧(∀ i ∈ ids0,H i=H0 i)∧Sep H n (oW v0 a::K0) (ids0)) (by refine⟨?_,(by omega),hid,sp⟩<;>simp ) ?_
 rintro ρ H n2 ⟨hh,hnn,hid,sp⟩
 have hq_n2:=hnn
 refine zE fun k' hk'=>?_
 simp[hh]
 apply hk'
 refine Runs.seq ?_
 refine zE fun k' hk'=>?_
 simp[hh]
 apply hk'
 refine Runs.block ?_
 refine Runs.loopW h (fun (sJ:Int × Int × (List Wire)) ρ H n=>match sJ with | (k10,i11,l12)=>(ρ 0=v0∧ρ 1=int k10∧ρ 5=int i11)∧n0≤n∧(∀ i ∈ ids0,H i=H0 i)∧Sep H n (oW v0 l12::K0) (ids0)) (by refine⟨?_,(by omega),hid,sp⟩<;>simp[hh]) ?_
 clear hh
 rintro⟨k10,i11,l12⟩ ρ H n13 K h ⟨hh,hnn,hid,sp⟩ IH14
 have hq_n13:=hnn
 refine Runs.seq ?_
 refine zE fun k' hk'=>?_
 obtain⟨len16,elen16,h⟩:=atm h
 have f17:=len_own (Sep.len (m:=len16) sp kd_32 (by rw[elen16,List.length_map]))
 obtain⟨c18,ec18,h⟩:=atm h
 have f19:=ib_lss (k:=.i64) ec18
 simp[hh,f17,f19,-intBin,-lenF]
 apply hk'
 refine Runs.ite (b:=c18) (by simp[hh]) (fun dc18=>?_) (fun dc18=>?_)
 ·replace h:=h.1 dc18
  refine Runs.skip ?_
  refine Runs.seq ?_
  refine Runs.block ?_
  refine zE fun k' hk'=>?_
  obtain⟨hb20,h⟩:=h
  obtain⟨r21,er21,h⟩:=atm h
  simp[hh,dc18]
  refine RunK.callA Ty_ok (markTxt_ok k10 hb20) e62 (.cons (.v _ _ _) .nil) (by decide) (by decide) rfl (by simp[hh,dc18]) ?_
  rintro _ rfl
  rw[← er21]
  obtain⟨hb22,h⟩:=h
  obtain⟨id23,hv,mo24,ln25,ni26⟩:=Sep.openF sp (by simp) hb22
  subst hv
  obtain⟨x27,ex27,h⟩:=atm h
  have f28:=fun H (hm:H id23=some ⟨2,l12.map Wire.cells⟩)=>ix_arr (H:=H) (k:=.i64) (off:=0) (len:=l12.length) (g:=l12.length) kd_32 hm (by simp) rfl hb22
  have f29:=at_some (q:=i11.toNat) hb22 ex27 rfl
  obtain⟨l30,el30,h⟩:=atm h
  simp[hh,mo24,f28,f29,dc18,-indexAddrF,-storeF]
  refine bind_field (i:=ty9) (q:=i11.toNat) (off:=0) (new:=[str r21]) (ix:=i11) (x:=x27) (y:=(Wire.mk r21 x27.link)) (f:=Wire.cells) sp (by simp) (by simp) hb22 ex27 rfl rfl (fun _=>rfl) (by simp) (by simp) (by simp[splice]) (by simp) ?_
  rintro H31 sp hfr32
  replace sp:Sep H31 n13 (oW (.arr id23 l12.length 0 l12.length) l30::K0) (ids0):=by rw[el30];exact sp
  have hid:∀ i ∈ ids0,H31 i=H0 i:=fun i hi=>(hfr32 i (by simp[hi])).trans (hid i hi)
  simp[hh,f28,f29,dc18,-indexAddrF]
  apply hk'
  refine Runs.cut (fun ρ H n=>(ρ 0 = .arr id23 l12.length 0 l12.length∧ρ 1=int k10∧ρ 5=int i11)∧n0≤n∧(∀ i ∈ ids0,H i=H0 i)∧Sep H n (oW (.arr id23 l12.length 0 l12.length) l30::K0) (ids0)) (by refine⟨?_,(by omega),hid,sp⟩<;>simp[hh,f28,f29,dc18,-indexAddrF]) ?_
  clear hh
  rintro ρ H n34 ⟨hh,hnn,hid,sp⟩
  have hq_n34:=hnn
  refine zE fun k' hk'=>?_
  obtain⟨hb35,h⟩:=h
  obtain⟨v36,ev36,h⟩:=atm h
  have f37:=ib_add hb35 ev36
  simp[hh,f37,-intBin]
  apply hk'
  refine zE fun k' hk'=>?_
  obtain⟨hb38,h⟩:=h
  obtain⟨id39,hv,mo40,ln41,ni42⟩:=Sep.openF sp (by simp) hb38
  simp only[AVal.arr.injEq] at hv
  obtain⟨hv,hln43,-⟩:=hv
  subst hv
  have hlshln43:=hln43.symm
  obtain⟨x44,ex44,h⟩:=atm h
  have f45:=fun H (hm:H id23=some ⟨2,l30.map Wire.cells⟩)=>ix_arr (H:=H) (k:=.i64) (off:=0) (len:=l12.length) (g:=l12.length) kd_32 hm (by simp[hln43]) rfl (by rw[hln43];exact hb38)
  have f46:=at_some (q:=i11.toNat) hb38 ex44 rfl
  obtain⟨l47,el47,h⟩:=atm h
  simp[hh,hlshln43,mo40,f45,f46,-indexAddrF,-storeF]
  refine bind_field (i:=ty3) (q:=i11.toNat) (off:=1) (new:=[int v36]) (ix:=i11) (x:=x44) (y:=(Wire.mk x44.name v36)) (f:=Wire.cells) sp (by simp) (by simp) hb38 ex44 rfl hln43 (fun _=>rfl) (by simp) (by simp) (by simp[splice]) (by simp) ?_
  rintro H48 sp hfr49
  replace sp:Sep H48 n34 (oW (.arr id23 l12.length 0 l12.length) l47::K0) (ids0):=by rw[el47];exact sp
  have hid:∀ i ∈ ids0,H48 i=H0 i:=fun i hi=>(hfr49 i (by simp[hi])).trans (hid i hi)
  simp[hh,hlshln43,f45,f46,-indexAddrF]
  apply hk'
  refine Runs.cut (fun ρ H n=>(ρ 0 = .arr id23 l12.length 0 l12.length∧ρ 1=int v36∧ρ 5=int i11)∧n0≤n∧(∀ i ∈ ids0,H i=H0 i)∧Sep H n (oW (.arr id23 l12.length 0 l12.length) l47::K0) (ids0)) (by refine⟨?_,(by omega),hid,sp⟩<;>simp[hh,hlshln43,f45,f46,-indexAddrF]) ?_
  clear hh hlshln43
  rintro ρ H n51 ⟨hh,hnn,hid,sp⟩
  have hq_n51:=hnn
  refine zF fun k' hk'=>?_
  obtain⟨hb52,h⟩:=h
  obtain⟨v53,ev53,h⟩:=atm h
  have f54:=ib_add hb52 ev53
  simp[hh,f54,-intBin]
  apply hk'
  refine Runs.inBlock ?_
  refine zF fun k' hk'=>?_
  obtain⟨hb55,h⟩:=h
  obtain⟨v56,ev56,h⟩:=atm h
  have f57:=ib_add hb55 ev56
  simp[hh,f57,-intBin]
  apply hk'
  refine IH14 (v53,v56,l47) _ _ _ h (by refine⟨?_,(by omega),hid,sp⟩<;>simp[hh])
 replace h:=h.2 dc18
 refine Runs.exit rfl ?_
 refine zE fun k' hk'=>?_
 simp[hh,dc18]
 apply hk'
 exact Runs.ret1 (v:=int k10) Tryz.func66 Tryz.results66 (by simp[hh,dc18]) (hQ _ _ _ _ (Sep.sub sp (by simp +contextual)) hid (by omega) ⟨(l12,k10),h,rfl,rfl⟩)
theorem markWireS_ok (a:List Wire) (k_:Int) (hp:markWireS_pre a k_):MutS Tryz.prog 66 (fun v=>[v,int k_]) (.s [.c,.c]) (.list true (a.map Wire.cells)) (fun e' r=>e' = .list true (((markWireS a k_).1).map Wire.cells)∧r=int ((markWireS a k_).2)):=(markWireS_walk a k_ _ (markWireS_vc a k_ hp)).mono (by rintro _ _ ⟨_,rfl,rfl,rfl⟩;exact⟨rfl,rfl⟩)
theorem e15:Ent Tryz.prog 15:=Ent.of Tryz.func15 (by kernel_rfl) rfl
theorem markControlS_walk (a:List Control) (k_:Int) (Z:((List Control) × Int)→Prop) (h:markControlS_wp a k_ Z):MutS Tryz.prog 15 (fun v=>[v,int k_]) (.s [.c,.c,.c]) (.list true (a.map Control.cells)) (fun e' r=>∃ y:(List Control) × Int,Z y∧e' = .list true (y.1.map Control.cells)∧r=int y.2):=by
 unfold markControlS_wp at h
 refine MutS.of Tryz.func15 rfl Tryz.ntmps15 (fun _=>by simp) fun H0 n0 v0 K0 ids0 sp Q hQ=>?_
 have h00:=sp.1
 have hid:∀ i ∈ ids0,H0 i=H0 i:=fun _ _=>rfl
 have hnn:n0≤n0:=Nat.le_refl _
 refine Runs.cut (fun ρ H n=>(ρ 0=v0∧ρ 1=int k_)∧n0≤n∧(∀ i ∈ ids0,H i=H0 i)∧Sep H n (oE [.c,.c,.c] Control.cells v0 a::K0) (ids0)) (by refine⟨?_,(by omega),hid,sp⟩<;>simp ) ?_
 rintro ρ H n2 ⟨hh,hnn,hid,sp⟩
 have hq_n2:=hnn
 refine zE fun k' hk'=>?_
 simp[hh]
 apply hk'
 refine Runs.seq ?_
 refine zE fun k' hk'=>?_
 simp[hh]
 apply hk'
 refine Runs.block ?_
 refine Runs.loopW h (fun (sJ:Int × Int × (List Control)) ρ H n=>match sJ with | (k10,i11,l12)=>(ρ 0=v0∧ρ 1=int k10∧ρ 5=int i11)∧n0≤n∧(∀ i ∈ ids0,H i=H0 i)∧Sep H n (oE [.c,.c,.c] Control.cells v0 l12::K0) (ids0)) (by refine⟨?_,(by omega),hid,sp⟩<;>simp[hh]) ?_
 clear hh
 rintro⟨k10,i11,l12⟩ ρ H n13 K h ⟨hh,hnn,hid,sp⟩ IH14
 have hq_n13:=hnn
 refine Runs.seq ?_
 refine zE fun k' hk'=>?_
 obtain⟨len16,elen16,h⟩:=atm h
 have f17:=len_own (Sep.len (m:=len16) sp kd_37 (by rw[elen16,List.length_map]))
 obtain⟨c18,ec18,h⟩:=atm h
 have f19:=ib_lss (k:=.i64) ec18
 simp[hh,f17,f19,-intBin,-lenF]
 apply hk'
 refine Runs.ite (b:=c18) (by simp[hh]) (fun dc18=>?_) (fun dc18=>?_)
 ·replace h:=h.1 dc18
  refine Runs.skip ?_
  refine Runs.seq ?_
  refine Runs.block ?_
  refine zE fun k' hk'=>?_
  obtain⟨hb20,h⟩:=h
  obtain⟨r21,er21,h⟩:=atm h
  simp[hh,dc18]
  refine RunK.callA Ty_ok (markTxt_ok k10 hb20) e62 (.cons (.v _ _ _) .nil) (by decide) (by decide) rfl (by simp[hh,dc18]) ?_
  rintro _ rfl
  rw[← er21]
  obtain⟨hb22,h⟩:=h
  obtain⟨id23,hv,mo24,ln25,ni26⟩:=Sep.openF sp (by simp) hb22
  subst hv
  obtain⟨x27,ex27,h⟩:=atm h
  have f28:=fun H (hm:H id23=some ⟨3,l12.map Control.cells⟩)=>ix_arr (H:=H) (k:=.i64) (off:=0) (len:=l12.length) (g:=l12.length) kd_37 hm (by simp) rfl hb22
  have f29:=at_some (q:=i11.toNat) hb22 ex27 rfl
  obtain⟨l30,el30,h⟩:=atm h
  simp[hh,mo24,f28,f29,dc18,-indexAddrF,-storeF]
  refine bind_field (i:=ty9) (q:=i11.toNat) (off:=0) (new:=[str r21]) (ix:=i11) (x:=x27) (y:=(Control.mk r21 x27.ports x27.kind)) (f:=Control.cells) sp (by simp) (by simp) hb22 ex27 rfl rfl (fun _=>rfl) (by simp) (by simp) (by simp[splice]) (by simp) ?_
  rintro H31 sp hfr32
  replace sp:Sep H31 n13 (oE [.c,.c,.c] Control.cells (.arr id23 l12.length 0 l12.length) l30::K0) (ids0):=by rw[el30];exact sp
  have hid:∀ i ∈ ids0,H31 i=H0 i:=fun i hi=>(hfr32 i (by simp[hi])).trans (hid i hi)
  simp[hh,f28,f29,dc18,-indexAddrF]
  apply hk'
  refine Runs.cut (fun ρ H n=>(ρ 0 = .arr id23 l12.length 0 l12.length∧ρ 1=int k10∧ρ 5=int i11)∧n0≤n∧(∀ i ∈ ids0,H i=H0 i)∧Sep H n (oE [.c,.c,.c] Control.cells (.arr id23 l12.length 0 l12.length) l30::K0) (ids0)) (by refine⟨?_,(by omega),hid,sp⟩<;>simp[hh,f28,f29,dc18,-indexAddrF]) ?_
  clear hh
  rintro ρ H n34 ⟨hh,hnn,hid,sp⟩
  have hq_n34:=hnn
  refine zE fun k' hk'=>?_
  obtain⟨hb35,h⟩:=h
  obtain⟨v36,ev36,h⟩:=atm h
  have f37:=ib_add hb35 ev36
  simp[hh,f37,-intBin]
  apply hk'
  refine zE fun k' hk'=>?_
  obtain⟨hb38,h⟩:=h
  obtain⟨id39,hv,mo40,ln41,ni42⟩:=Sep.openF sp (by simp) hb38
  simp only[AVal.arr.injEq] at hv
  obtain⟨hv,hln43,-⟩:=hv
  subst hv
  have hlshln43:=hln43.symm
  obtain⟨x44,ex44,h⟩:=atm h
  have f45:=fun H (hm:H id23=some ⟨3,l30.map Control.cells⟩)=>ix_arr (H:=H) (k:=.i64) (off:=0) (len:=l12.length) (g:=l12.length) kd_37 hm (by simp[hln43]) rfl (by rw[hln43];exact hb38)
  have f46:=at_some (q:=i11.toNat) hb38 ex44 rfl
  obtain⟨l47,el47,h⟩:=atm h
  simp[hh,hlshln43,mo40,f45,f46,-indexAddrF,-storeF]
  refine bind_field (i:=ty3) (q:=i11.toNat) (off:=1) (new:=[int v36]) (ix:=i11) (x:=x44) (y:=(Control.mk x44.name v36 x44.kind)) (f:=Control.cells) sp (by simp) (by simp) hb38 ex44 rfl hln43 (fun _=>rfl) (by simp) (by simp) (by simp[splice]) (by simp) ?_
  rintro H48 sp hfr49
  replace sp:Sep H48 n34 (oE [.c,.c,.c] Control.cells (.arr id23 l12.length 0 l12.length) l47::K0) (ids0):=by rw[el47];exact sp
  have hid:∀ i ∈ ids0,H48 i=H0 i:=fun i hi=>(hfr49 i (by simp[hi])).trans (hid i hi)
  simp[hh,hlshln43,f45,f46,-indexAddrF]
  apply hk'
  refine Runs.cut (fun ρ H n=>(ρ 0 = .arr id23 l12.length 0 l12.length∧ρ 1=int v36∧ρ 5=int i11)∧n0≤n∧(∀ i ∈ ids0,H i=H0 i)∧Sep H n (oE [.c,.c,.c] Control.cells (.arr id23 l12.length 0 l12.length) l47::K0) (ids0)) (by refine⟨?_,(by omega),hid,sp⟩<;>simp[hh,hlshln43,f45,f46,-indexAddrF]) ?_
  clear hh hlshln43
  rintro ρ H n51 ⟨hh,hnn,hid,sp⟩
  have hq_n51:=hnn
  refine zE fun k' hk'=>?_
  obtain⟨hb52,h⟩:=h
  obtain⟨v53,ev53,h⟩:=atm h
  have f54:=ib_add hb52 ev53
  simp[hh,f54,-intBin]
  apply hk'
  refine zE fun k' hk'=>?_
  obtain⟨hb55,h⟩:=h
  obtain⟨id56,hv,mo57,ln58,ni59⟩:=Sep.openF sp (by simp) hb55
  simp only[AVal.arr.injEq] at hv
  obtain⟨hv,hln60,-⟩:=hv
  subst hv
  have hlshln60:=hln60.symm
  obtain⟨x61,ex61,h⟩:=atm h
  have f62:=fun H (hm:H id23=some ⟨3,l47.map Control.cells⟩)=>ix_arr (H:=H) (k:=.i64) (off:=0) (len:=l12.length) (g:=l12.length) kd_37 hm (by simp[hln60]) rfl (by rw[hln60];exact hb55)
  have f63:=at_some (q:=i11.toNat) hb55 ex61 rfl
  obtain⟨l64,el64,h⟩:=atm h
  simp[hh,hlshln60,mo57,f62,f63,-indexAddrF,-storeF]
  refine bind_field (i:=ty3) (q:=i11.toNat) (off:=2) (new:=[int v53]) (ix:=i11) (x:=x61) (y:=(Control.mk x61.name x61.ports v53)) (f:=Control.cells) sp (by simp) (by simp) hb55 ex61 rfl hln60 (fun _=>rfl) (by simp) (by simp) (by simp[splice]) (by simp) ?_
  rintro H65 sp hfr66
  replace sp:Sep H65 n51 (oE [.c,.c,.c] Control.cells (.arr id23 l12.length 0 l12.length) l64::K0) (ids0):=by rw[el64];exact sp
  have hid:∀ i ∈ ids0,H65 i=H0 i:=fun i hi=>(hfr66 i (by simp[hi])).trans (hid i hi)
  simp[hh,hlshln60,f62,f63,-indexAddrF]
  apply hk'
  refine Runs.cut (fun ρ H n=>(ρ 0 = .arr id23 l12.length 0 l12.length∧ρ 1=int v53∧ρ 5=int i11)∧n0≤n∧(∀ i ∈ ids0,H i=H0 i)∧Sep H n (oE [.c,.c,.c] Control.cells (.arr id23 l12.length 0 l12.length) l64::K0) (ids0)) (by refine⟨?_,(by omega),hid,sp⟩<;>simp[hh,hlshln60,f62,f63,-indexAddrF]) ?_
  clear hh hlshln60
  rintro ρ H n68 ⟨hh,hnn,hid,sp⟩
  have hq_n68:=hnn
  refine zF fun k' hk'=>?_
  obtain⟨hb69,h⟩:=h
  obtain⟨v70,ev70,h⟩:=atm h
  have f71:=ib_add hb69 ev70
  simp[hh,f71,-intBin]
  apply hk'
  refine Runs.inBlock ?_
  refine zF fun k' hk'=>?_
  obtain⟨hb72,h⟩:=h
  obtain⟨v73,ev73,h⟩:=atm h
  have f74:=ib_add hb72 ev73
  simp[hh,f74,-intBin]
  apply hk'
  refine IH14 (v70,v73,l64) _ _ _ h (by refine⟨?_,(by omega),hid,sp⟩<;>simp[hh])
 replace h:=h.2 dc18
 refine Runs.exit rfl ?_
 refine zE fun k' hk'=>?_
 simp[hh,dc18]
 apply hk'
 exact Runs.ret1 (v:=int k10) Tryz.func15 Tryz.results15 (by simp[hh,dc18]) (hQ _ _ _ _ (Sep.sub sp (by simp +contextual)) hid (by omega) ⟨(l12,k10),h,rfl,rfl⟩)
theorem markControlS_ok (a:List Control) (k_:Int) (hp:markControlS_pre a k_):MutS Tryz.prog 15 (fun v=>[v,int k_]) (.s [.c,.c,.c]) (.list true (a.map Control.cells)) (fun e' r=>e' = .list true (((markControlS a k_).1).map Control.cells)∧r=int ((markControlS a k_).2)):=(markControlS_walk a k_ _ (markControlS_vc a k_ hp)).mono (by rintro _ _ ⟨_,rfl,rfl,rfl⟩;exact⟨rfl,rfl⟩)
theorem e68:Ent Tryz.prog 68:=Ent.of Tryz.func68 (by kernel_rfl) rfl
theorem heldIntS_walk (a:List Int) (k_:Int) (Z:Int→Prop) (h:heldIntS_wp a k_ Z):PureC Tryz.prog 68 [.list false (a.map intC),int k_] (fun r=>∃ y:Int,Z y∧r=int y):=by
 unfold heldIntS_wp at h
 refine PureC.of Tryz.func68 rfl Tryz.ntmps68 (by simp) fun Q hQ=>?_
 refine Runs.cut (fun ρ H n=>(ρ 0 = .list false (a.map intC)∧ρ 1=int k_)) (by simp) ?_
 rintro ρ H n1 hh
 refine zE fun k' hk'=>?_
 simp[hh]
 apply hk'
 refine Runs.seq ?_
 refine zE fun k' hk'=>?_
 simp[hh]
 apply hk'
 refine Runs.block ?_
 refine Runs.loopW h (fun (sJ:Int × Int) ρ H n=>match sJ with | (k5,i6)=>(ρ 0 = .list false (a.map intC)∧ρ 1=int k5∧ρ 5=int i6)) (by simp[hh]) ?_
 clear hh
 rintro⟨k5,i6⟩ ρ H n7 K h hh IH8
 refine Runs.seq ?_
 refine zE fun k' hk'=>?_
 obtain⟨len10,elen10,h⟩:=atm h
 have f11:=fun H=>len_list (H:=H) (fr:=false) (f:=intC) kd_24 elen10
 obtain⟨c12,ec12,h⟩:=atm h
 have f13:=ib_lss (k:=.i64) ec12
 simp[hh,f11,f13,-intBin,-lenF]
 apply hk'
 refine Runs.ite (b:=c12) (by simp[hh]) (fun dc12=>?_) (fun dc12=>?_)
 ·replace h:=h.1 dc12
  refine Runs.skip ?_
  refine Runs.seq ?_
  refine Runs.block ?_
  refine Runs.seq ?_
  refine zE fun k' hk'=>?_
  obtain⟨hb14,h⟩:=h
  obtain⟨x15,ex15,h⟩:=atm h
  have f16:=fun H=>ix_list (H:=H) (fr:=false) (f:=intC) (k:=.i64) kd_24 (fun _=>rfl) hb14 ex15
  obtain⟨c17,ec17,h⟩:=atm h
  have f18:=ib_neq (k:=.i64) ec17
  simp[hh,f16,f18,dc12,-indexAddrF,-intBin]
  apply hk'
  refine Runs.ite (b:=c17) (by simp[hh,dc12]) (fun dc17=>?_) (fun dc17=>?_)
  ·replace h:=h.1 dc17
   refine zE fun k' hk'=>?_
   simp[hh,dc12,dc17]
   apply hk'
   exact Runs.ret1 (v:=int (-1)) Tryz.func68 Tryz.results68 (by simp[hh,dc12,dc17]) (hQ _ _ _ _ (.of (.v _)) ⟨(-1),h,rfl⟩)
  replace h:=h.2 dc17
  refine Runs.skip ?_
  refine zF fun k' hk'=>?_
  obtain⟨hb19,h⟩:=h
  obtain⟨v20,ev20,h⟩:=atm h
  have f21:=ib_add hb19 ev20
  simp[hh,f21,dc12,dc17,-intBin]
  apply hk'
  refine Runs.inBlock ?_
  refine zF fun k' hk'=>?_
  obtain⟨hb22,h⟩:=h
  obtain⟨v23,ev23,h⟩:=atm h
  have f24:=ib_add hb22 ev23
  simp[hh,f24,dc12,dc17,-intBin]
  apply hk'
  refine Runs.cut (fun ρ H n=>(ρ 0 = .list false (a.map intC)∧ρ 1=int v20∧ρ 5=int v23)) (by simp[hh,f24,dc12,dc17,-intBin]) ?_
  clear hh
  rintro ρ H n25 hh
  refine IH8 (v20,v23) _ _ _ h (by simp[hh])
 replace h:=h.2 dc12
 refine Runs.exit rfl ?_
 refine zE fun k' hk'=>?_
 simp[hh,dc12]
 apply hk'
 exact Runs.ret1 (v:=int k5) Tryz.func68 Tryz.results68 (by simp[hh,dc12]) (hQ _ _ _ _ (.of (.v _)) ⟨k5,h,rfl⟩)
theorem heldIntS_ok (a:List Int) (k_:Int) (hp:heldIntS_pre a k_):PureC Tryz.prog 68 [.list false (a.map intC),int k_] (fun r=>r=int (heldIntS a k_)):=(heldIntS_walk a k_ _ (heldIntS_vc a k_ hp)).mono (by rintro _ ⟨_,rfl,rfl⟩;rfl)
end Go.Ab.Vg
/- Walks by program for YtbikfokhjdjfpaaGreatDoorAbNm. -/
namespace Go.Ab.Vg
open Go.Proofs
set_option maxRecDepth 100000
set_option linter.unusedSimpArgs false
set_option linter.unusedVariables false
attribute [local simp] GNode.cells Wire.cells intC sliceC strC bC pA
theorem e63:Ent Tryz.prog 63:=Ent.of Tryz.func63 (by kernel_rfl) rfl
theorem markNodeS_walk (a:List GNode) (k_:Int) (Z:((List GNode) × Int)→Prop) (h:markNodeS_wp a k_ Z):MutS Tryz.prog 63 (fun v=>[v,int k_]) (.s [.c,.c,.s [.c]]) (.list true (a.map (GNode.cells true))) (fun e' r=>∃ y:(List GNode) × Int,Z y∧e' = .list true (y.1.map (GNode.cells true))∧r=int y.2):=by
 unfold markNodeS_wp at h
 refine MutS.of Tryz.func63 rfl Tryz.ntmps63 (fun _=>by simp) fun H0 n0 v0 K0 ids0 sp Q hQ=>?_
 have h00:=sp.1
 have hid:∀ i ∈ ids0,H0 i=H0 i:=fun _ _=>rfl
 have hnn:n0≤n0:=Nat.le_refl _
 refine Runs.cut (fun ρ H n=>(ρ 0=v0∧ρ 1=int k_)∧n0≤n∧(∀ i ∈ ids0,H i=H0 i)∧Sep H n (oN v0 a::K0) (ids0)) (by refine⟨?_,(by omega),hid,sp⟩<;>simp ) ?_
 rintro ρ H n2 ⟨hh,hnn,hid,sp⟩
 have hq_n2:=hnn
 refine zE fun k' hk'=>?_
 simp[hh]
 apply hk'
 refine Runs.seq ?_
 refine zE fun k' hk'=>?_
 simp[hh]
 apply hk'
 refine Runs.block ?_
 refine Runs.loopW h (fun (sJ:Int × Int × (List GNode)) ρ H n=>match sJ with | (k10,i11,l12)=>(ρ 0=v0∧ρ 1=int k10∧ρ 5=int i11)∧n0≤n∧(∀ i ∈ ids0,H i=H0 i)∧Sep H n (oN v0 l12::K0) (ids0)) (by refine⟨?_,(by omega),hid,sp⟩<;>simp[hh]) ?_
 clear hh
 rintro⟨k10,i11,l12⟩ ρ H n13 K h ⟨hh,hnn,hid,sp⟩ IH14
 have hq_n13:=hnn
 refine Runs.seq ?_
 refine zE fun k' hk'=>?_
 obtain⟨len16,elen16,h⟩:=atm h
 have f17:=len_own (Sep.len (m:=len16) sp kd_31 (by rw[elen16,List.length_map]))
 obtain⟨c18,ec18,h⟩:=atm h
 have f19:=ib_lss (k:=.i64) ec18
 simp[hh,f17,f19,-intBin,-lenF]
 apply hk'
 refine Runs.ite (b:=c18) (by simp[hh]) (fun dc18=>?_) (fun dc18=>?_)
 ·replace h:=h.1 dc18
  refine Runs.skip ?_
  refine Runs.seq ?_
  refine Runs.block ?_
  refine zE fun k' hk'=>?_
  obtain⟨hb20,h⟩:=h
  obtain⟨x21,ex21,h⟩:=atm h
  obtain⟨id22,els23,row24,W25,hq26,mo27,moL28,moR29,hrl30,hW31,hsub32,hni33,spr34,hcl35⟩:=Sep.rowF (q:=i11.toNat) (f:=(GNode.cells true)) sp hb20 ex21 rfl
  subst hq26
  obtain⟨c36,c37,c38,hq26⟩:=len3 (by simpa using hrl30)
  subst hq26
  replace spr34:Sep _ _ [(.c,c36,int x21.control),(.c,c37,int x21.parent),(.s [.c],c38,.list true (x21.links.map intC))] W25:=spr34
  obtain rfl:=Sep.cAt (K1:=[]) (K2:=[(.c,c37,int x21.parent),(.s [.c],c38,.list true (x21.links.map intC))]) spr34
  obtain rfl:=Sep.cAt (K1:=[(.c,int x21.control,int x21.control)]) (K2:=[(.s [.c],c38,.list true (x21.links.map intC))]) spr34
  have f39:=ix_arr (k:=.i64) (off:=0) (len:=l12.length) kd_31 mo27 moL28 rfl hb20
  obtain⟨l40,el40,h⟩:=atm h
  simp[hh,mo27,moL28,moR29,f39,dc18,-indexAddrF,-storeF]
  refine bind_cell (i:=ty3) (q:=i11.toNat) (off:=0) (ix:=i11) (x:=x21) (y:=(GNode.mk k10 x21.parent x21.links)) (f:=(GNode.cells true)) [] [.c,.s [.c]] [] [int x21.parent,.list true (x21.links.map intC)] sp rfl rfl hb20 ex21 rfl rfl rfl rfl rfl rfl rfl ?_
  rintro H41 sp hfr42
  replace sp:Sep H41 n13 (oN (.arr id22 l12.length 0 l12.length) l40::K0) (ids0):=by rw[el40];exact sp
  have hid:∀ i ∈ ids0,H41 i=H0 i:=fun i hi=>(hfr42 i (by simp[hi])).trans (hid i hi)
  simp[hh,f39,dc18,-indexAddrF]
  apply hk'
  refine Runs.cut (fun ρ H n=>(ρ 0 = .arr id22 l12.length 0 l12.length∧ρ 1=int k10∧ρ 5=int i11)∧n0≤n∧(∀ i ∈ ids0,H i=H0 i)∧Sep H n (oN (.arr id22 l12.length 0 l12.length) l40::K0) (ids0)) (by refine⟨?_,(by omega),hid,sp⟩<;>simp[hh,f39,dc18,-indexAddrF]) ?_
  clear hh
  rintro ρ H n44 ⟨hh,hnn,hid,sp⟩
  have hq_n44:=hnn
  refine zE fun k' hk'=>?_
  obtain⟨hb45,h⟩:=h
  obtain⟨v46,ev46,h⟩:=atm h
  have f47:=ib_add hb45 ev46
  simp[hh,f47,-intBin]
  apply hk'
  refine zE fun k' hk'=>?_
  obtain⟨hb48,h⟩:=h
  obtain⟨x49,ex49,h⟩:=atm h
  obtain⟨id50,els51,row52,W53,hq54,mo55,moL56,moR57,hrl58,hW59,hsub60,hni61,spr62,hcl63⟩:=Sep.rowF (q:=i11.toNat) (f:=(GNode.cells true)) sp hb48 ex49 rfl
  simp only[AVal.arr.injEq] at hq54
  obtain⟨hq54,hln64,-⟩:=hq54
  subst hq54
  replace moL56:=moL56.trans hln64.symm
  obtain⟨c65,c66,c67,hq54⟩:=len3 (by simpa using hrl58)
  subst hq54
  replace spr62:Sep _ _ [(.c,c65,int x49.control),(.c,c66,int x49.parent),(.s [.c],c67,.list true (x49.links.map intC))] W53:=spr62
  obtain rfl:=Sep.cAt (K1:=[]) (K2:=[(.c,c66,int x49.parent),(.s [.c],c67,.list true (x49.links.map intC))]) spr62
  obtain rfl:=Sep.cAt (K1:=[(.c,int x49.control,int x49.control)]) (K2:=[(.s [.c],c67,.list true (x49.links.map intC))]) spr62
  have f68:=ix_arr (k:=.i64) (off:=0) (len:=l12.length) kd_31 mo55 moL56 rfl (by rw[hln64];exact hb48)
  obtain⟨l69,el69,h⟩:=atm h
  simp[hh,mo55,moL56,moR57,f68,-indexAddrF,-storeF]
  refine bind_cell (i:=ty3) (q:=i11.toNat) (off:=1) (ix:=i11) (x:=x49) (y:=(GNode.mk x49.control v46 x49.links)) (f:=(GNode.cells true)) [.c] [.s [.c]] [int x49.control] [.list true (x49.links.map intC)] sp rfl rfl hb48 ex49 rfl hln64 rfl rfl rfl rfl rfl ?_
  rintro H70 sp hfr71
  replace sp:Sep H70 n44 (oN (.arr id22 l12.length 0 l12.length) l69::K0) (ids0):=by rw[el69];exact sp
  have hid:∀ i ∈ ids0,H70 i=H0 i:=fun i hi=>(hfr71 i (by simp[hi])).trans (hid i hi)
  simp[hh,f68,-indexAddrF]
  apply hk'
  refine Runs.cut (fun ρ H n=>(ρ 0 = .arr id22 l12.length 0 l12.length∧ρ 1=int v46∧ρ 5=int i11)∧n0≤n∧(∀ i ∈ ids0,H i=H0 i)∧Sep H n (oN (.arr id22 l12.length 0 l12.length) l69::K0) (ids0)) (by refine⟨?_,(by omega),hid,sp⟩<;>simp[hh,f68,-indexAddrF]) ?_
  clear hh
  rintro ρ H n73 ⟨hh,hnn,hid,sp⟩
  have hq_n73:=hnn
  refine zE fun k' hk'=>?_
  obtain⟨hb74,h⟩:=h
  obtain⟨v75,ev75,h⟩:=atm h
  have f76:=ib_add hb74 ev75
  simp[hh,f76,-intBin]
  apply hk'
  refine zF fun k' hk'=>?_
  obtain⟨hb77,h⟩:=h
  obtain⟨x78,ex78,h⟩:=atm h
  obtain⟨id79,els80,row81,W82,hq83,mo84,moL85,moR86,hrl87,hW88,hsub89,hni90,spr91,hcl92⟩:=Sep.rowF (q:=i11.toNat) (f:=(GNode.cells true)) sp hb77 ex78 rfl
  simp only[AVal.arr.injEq] at hq83
  obtain⟨hq83,hln93,-⟩:=hq83
  subst hq83
  replace moL85:=moL85.trans hln93.symm
  obtain⟨c94,c95,c96,hq83⟩:=len3 (by simpa using hrl87)
  subst hq83
  replace spr91:Sep _ _ [(.c,c94,int x78.control),(.c,c95,int x78.parent),(.s [.c],c96,.list true (x78.links.map intC))] W82:=spr91
  obtain rfl:=Sep.cAt (K1:=[]) (K2:=[(.c,c95,int x78.parent),(.s [.c],c96,.list true (x78.links.map intC))]) spr91
  obtain rfl:=Sep.cAt (K1:=[(.c,int x78.control,int x78.control)]) (K2:=[(.s [.c],c96,.list true (x78.links.map intC))]) spr91
  have f97:=ix_arr (k:=.i64) (off:=0) (len:=l12.length) kd_31 mo84 moL85 rfl (by rw[hln93];exact hb77)
  obtain⟨hb98,h⟩:=h
  obtain⟨r99,er99,h⟩:=atm h
  simp[hh,mo84,moL85,moR86,f97,-indexAddrF]
  refine RunK.callM (v:=c96) Ty_ok (markIntS_ok x78.links v75 hb98) e64 (Sep.front (K1:=[(.c,int x78.control,int x78.control),(.c,int x78.parent,int x78.parent)]) (K2:=[]) spr91) (by decide) (by decide) rfl (by simp[hh,mo84,moL85,moR86,f97,-indexAddrF]) ?_
  rintro _ H100 n101 _ ⟨rfl,rfl⟩ spx hle103 hfrW102
  rw[← er99] at spx
  rw[← er99]
  obtain⟨l105,el105,h⟩:=atm h
  replace sp:=hcl92 H100 n101 (GNode.mk x78.control x78.parent r99.1) (Sep.unfront (K1:=[(.c,int x78.control,int x78.control),(.c,int x78.parent,int x78.parent)]) (K2:=[]) spx) rfl hfrW102 hle103
  have hfr104:=fun i hi=>hfrW102 i (hsub89 i hi)
  replace sp:Sep H100 n101 (oN (.arr id22 l12.length 0 l12.length) l105::K0) (ids0):=by rw[el105];exact sp
  have hid:∀ i ∈ ids0,H100 i=H0 i:=fun i hi=>(hfr104 i (by simp[hi])).trans (hid i hi)
  have hnn:n0≤n101:=by omega
  have hq_n101:=hnn
  simp[hh,f97,-indexAddrF]
  apply hk'
  refine Runs.cut (fun ρ H n=>(ρ 0 = .arr id22 l12.length 0 l12.length∧ρ 1=int r99.2∧ρ 5=int i11)∧n0≤n∧(∀ i ∈ ids0,H i=H0 i)∧Sep H n (oN (.arr id22 l12.length 0 l12.length) l105::K0) (ids0)) (by refine⟨?_,(by omega),hid,sp⟩<;>simp[hh,f97,-indexAddrF]) ?_
  clear hh
  rintro ρ H n107 ⟨hh,hnn,hid,sp⟩
  have hq_n107:=hnn
  refine Runs.inBlock ?_
  refine zF fun k' hk'=>?_
  obtain⟨hb108,h⟩:=h
  obtain⟨v109,ev109,h⟩:=atm h
  have f110:=ib_add hb108 ev109
  simp[hh,f110,-intBin]
  apply hk'
  refine IH14 (r99.2,v109,l105) _ _ _ h (by refine⟨?_,(by omega),hid,sp⟩<;>simp[hh])
 replace h:=h.2 dc18
 refine Runs.exit rfl ?_
 refine zE fun k' hk'=>?_
 simp[hh,dc18]
 apply hk'
 exact Runs.ret1 (v:=int k10) Tryz.func63 Tryz.results63 (by simp[hh,dc18]) (hQ _ _ _ _ (Sep.sub sp (by simp +contextual)) hid (by omega) ⟨(l12,k10),h,rfl,rfl⟩)
theorem markNodeS_ok (a:List GNode) (k_:Int) (hp:markNodeS_pre a k_):MutS Tryz.prog 63 (fun v=>[v,int k_]) (.s [.c,.c,.s [.c]]) (.list true (a.map (GNode.cells true))) (fun e' r=>e' = .list true (((markNodeS a k_).1).map (GNode.cells true))∧r=int ((markNodeS a k_).2)):=(markNodeS_walk a k_ _ (markNodeS_vc a k_ hp)).mono (by rintro _ _ ⟨_,rfl,rfl,rfl⟩;exact⟨rfl,rfl⟩)
theorem e69:Ent Tryz.prog 69:=Ent.of Tryz.func69 (by kernel_rfl) rfl
theorem heldStringS_walk (a:List Str) (k_:Int) (Z:Int→Prop) (h:heldStringS_wp a k_ Z):PureC Tryz.prog 69 [.list false (a.map strC),int k_] (fun r=>∃ y:Int,Z y∧r=int y):=by
 unfold heldStringS_wp at h
 refine PureC.of Tryz.func69 rfl Tryz.ntmps69 (by simp) fun Q hQ=>?_
 refine Runs.cut (fun ρ H n=>(ρ 0 = .list false (a.map strC)∧ρ 1=int k_)) (by simp) ?_
 rintro ρ H n1 hh
 refine zE fun k' hk'=>?_
 simp[hh]
 apply hk'
 refine Runs.seq ?_
 refine zE fun k' hk'=>?_
 simp[hh]
 apply hk'
 refine Runs.block ?_
 refine Runs.loopW h (fun (sJ:Int × Int) ρ H n=>match sJ with | (k5,i6)=>(ρ 0 = .list false (a.map strC)∧ρ 1=int k5∧ρ 5=int i6)) (by simp[hh]) ?_
 clear hh
 rintro⟨k5,i6⟩ ρ H n7 K h hh IH8
 refine Runs.seq ?_
 refine zE fun k' hk'=>?_
 obtain⟨len10,elen10,h⟩:=atm h
 have f11:=fun H=>len_list (H:=H) (fr:=false) (f:=strC) kd_25 elen10
 obtain⟨c12,ec12,h⟩:=atm h
 have f13:=ib_lss (k:=.i64) ec12
 simp[hh,f11,f13,-intBin,-lenF]
 apply hk'
 refine Runs.ite (b:=c12) (by simp[hh]) (fun dc12=>?_) (fun dc12=>?_)
 ·replace h:=h.1 dc12
  refine Runs.skip ?_
  refine Runs.seq ?_
  refine Runs.block ?_
  refine Runs.seq ?_
  refine Runs.seqD Ty_ok kindOp_ok draws (by decide) (by kernel_rfl) fun k' hk'=>?_
  obtain⟨hb14,h⟩:=h
  obtain⟨x15,ex15,h⟩:=atm h
  have f16:=fun H=>ix_list (H:=H) (fr:=false) (f:=strC) (k:=.i64) kd_25 (fun _=>rfl) hb14 ex15
  obtain⟨hb17,h⟩:=h
  obtain⟨r18,er18,h⟩:=atm h
  simp[hh,f16,dc12,-indexAddrF]
  refine RunDK.callA Ty_ok kindOp_ok (markTxt_ok k5 hb17) e62 (.cons (.v _ _ _) .nil) (by decide) rfl (by simp[hh,f16,dc12,-indexAddrF]) ?_
  rw[← er18]
  obtain⟨c19,ec19,h⟩:=atm h
  have f20:=sb_neq ec19
  simp[hh,f16,f20,dc12,-indexAddrF,-strBin]
  apply hk'
  refine Runs.ite (b:=c19) (by simp[hh,dc12]) (fun dc19=>?_) (fun dc19=>?_)
  ·replace h:=h.1 dc19
   refine zE fun k' hk'=>?_
   simp[hh,dc12,dc19]
   apply hk'
   exact Runs.ret1 (v:=int (-1)) Tryz.func69 Tryz.results69 (by simp[hh,dc12,dc19]) (hQ _ _ _ _ (.of (.v _)) ⟨(-1),h,rfl⟩)
  replace h:=h.2 dc19
  refine Runs.skip ?_
  refine zF fun k' hk'=>?_
  obtain⟨hb21,h⟩:=h
  obtain⟨v22,ev22,h⟩:=atm h
  have f23:=ib_add hb21 ev22
  simp[hh,f23,dc12,dc19,-intBin]
  apply hk'
  refine Runs.inBlock ?_
  refine zF fun k' hk'=>?_
  obtain⟨hb24,h⟩:=h
  obtain⟨v25,ev25,h⟩:=atm h
  have f26:=ib_add hb24 ev25
  simp[hh,f26,dc12,dc19,-intBin]
  apply hk'
  refine Runs.cut (fun ρ H n=>(ρ 0 = .list false (a.map strC)∧ρ 1=int v22∧ρ 5=int v25)) (by simp[hh,f26,dc12,dc19,-intBin]) ?_
  clear hh
  rintro ρ H n27 hh
  refine IH8 (v22,v25) _ _ _ h (by simp[hh])
 replace h:=h.2 dc12
 refine Runs.exit rfl ?_
 refine zE fun k' hk'=>?_
 simp[hh,dc12]
 apply hk'
 exact Runs.ret1 (v:=int k5) Tryz.func69 Tryz.results69 (by simp[hh,dc12]) (hQ _ _ _ _ (.of (.v _)) ⟨k5,h,rfl⟩)
theorem heldStringS_ok (a:List Str) (k_:Int) (hp:heldStringS_pre a k_):PureC Tryz.prog 69 [.list false (a.map strC),int k_] (fun r=>r=int (heldStringS a k_)):=(heldStringS_walk a k_ _ (heldStringS_vc a k_ hp)).mono (by rintro _ ⟨_,rfl,rfl⟩;rfl)
theorem e70:Ent Tryz.prog 70:=Ent.of Tryz.func70 (by kernel_rfl) rfl
theorem heldWireS_walk (a:List Wire) (k_:Int) (Z:Int→Prop) (h:heldWireS_wp a k_ Z):PureC Tryz.prog 70 [.list false (a.map Wire.cells),int k_] (fun r=>∃ y:Int,Z y∧r=int y):=by
 unfold heldWireS_wp at h
 refine PureC.of Tryz.func70 rfl Tryz.ntmps70 (by simp) fun Q hQ=>?_
 refine Runs.cut (fun ρ H n=>(ρ 0 = .list false (a.map Wire.cells)∧ρ 1=int k_)) (by simp) ?_
 rintro ρ H n1 hh
 refine zE fun k' hk'=>?_
 simp[hh]
 apply hk'
 refine Runs.seq ?_
 refine zE fun k' hk'=>?_
 simp[hh]
 apply hk'
 refine Runs.block ?_
 refine Runs.loopW h (fun (sJ:Int × Int) ρ H n=>match sJ with | (k5,i6)=>(ρ 0 = .list false (a.map Wire.cells)∧ρ 1=int k5∧ρ 5=int i6)) (by simp[hh]) ?_
 clear hh
 rintro⟨k5,i6⟩ ρ H n7 K h hh IH8
 refine Runs.seq ?_
 refine zE fun k' hk'=>?_
 obtain⟨len10,elen10,h⟩:=atm h
 have f11:=fun H=>len_list (H:=H) (fr:=false) (f:=Wire.cells) kd_32 elen10
 obtain⟨c12,ec12,h⟩:=atm h
 have f13:=ib_lss (k:=.i64) ec12
 simp[hh,f11,f13,-intBin,-lenF]
 apply hk'
 refine Runs.ite (b:=c12) (by simp[hh]) (fun dc12=>?_) (fun dc12=>?_)
 ·replace h:=h.1 dc12
  refine Runs.skip ?_
  refine Runs.seq ?_
  refine Runs.block ?_
  refine Runs.seq ?_
  refine Runs.seqD Ty_ok kindOp_ok draws (by decide) (by kernel_rfl) fun k' hk'=>?_
  obtain⟨hb14,h⟩:=h
  obtain⟨x15,ex15,h⟩:=atm h
  have f16:=fun H=>ix_list (H:=H) (fr:=false) (f:=Wire.cells) (k:=.i64) kd_32 (fun _=>rfl) hb14 ex15
  obtain⟨hb17,h⟩:=h
  obtain⟨r18,er18,h⟩:=atm h
  simp[hh,f16,dc12,-indexAddrF]
  refine RunDK.callA Ty_ok kindOp_ok (markTxt_ok k5 hb17) e62 (.cons (.v _ _ _) .nil) (by decide) rfl (by simp[hh,f16,dc12,-indexAddrF]) ?_
  rw[← er18]
  obtain⟨c19,ec19,h⟩:=atm h
  have f20:=sb_neq ec19
  simp[hh,f16,f20,dc12,-indexAddrF,-strBin]
  apply hk'
  refine Runs.ite (b:=c19) (by simp[hh,dc12]) (fun dc19=>?_) (fun dc19=>?_)
  ·replace h:=h.1 dc19
   refine zE fun k' hk'=>?_
   simp[hh,dc12,dc19]
   apply hk'
   exact Runs.ret1 (v:=int (-1)) Tryz.func70 Tryz.results70 (by simp[hh,dc12,dc19]) (hQ _ _ _ _ (.of (.v _)) ⟨(-1),h,rfl⟩)
  replace h:=h.2 dc19
  refine Runs.skip ?_
  refine zE fun k' hk'=>?_
  obtain⟨hb21,h⟩:=h
  obtain⟨v22,ev22,h⟩:=atm h
  have f23:=ib_add hb21 ev22
  simp[hh,f23,dc12,dc19,-intBin]
  apply hk'
  refine Runs.cut (fun ρ H n=>(ρ 0 = .list false (a.map Wire.cells)∧ρ 1=int v22∧ρ 5=int i6)) (by simp[hh,f23,dc12,dc19,-intBin]) ?_
  clear hh
  rintro ρ H n24 hh
  refine Runs.seq ?_
  refine zE fun k' hk'=>?_
  obtain⟨hb25,h⟩:=h
  obtain⟨x26,ex26,h⟩:=atm h
  have f27:=fun H=>ix_list (H:=H) (fr:=false) (f:=Wire.cells) (k:=.i64) kd_32 (fun _=>rfl) hb25 ex26
  obtain⟨c28,ec28,h⟩:=atm h
  have f29:=ib_neq (k:=.i64) ec28
  simp[hh,f27,f29,-indexAddrF,-intBin]
  apply hk'
  refine Runs.ite (b:=c28) (by simp[hh]) (fun dc28=>?_) (fun dc28=>?_)
  ·replace h:=h.1 dc28
   refine zE fun k' hk'=>?_
   simp[hh,dc28]
   apply hk'
   exact Runs.ret1 (v:=int (-1)) Tryz.func70 Tryz.results70 (by simp[hh,dc28]) (hQ _ _ _ _ (.of (.v _)) ⟨(-1),h,rfl⟩)
  replace h:=h.2 dc28
  refine Runs.skip ?_
  refine zF fun k' hk'=>?_
  obtain⟨hb30,h⟩:=h
  obtain⟨v31,ev31,h⟩:=atm h
  have f32:=ib_add hb30 ev31
  simp[hh,f32,dc28,-intBin]
  apply hk'
  refine Runs.inBlock ?_
  refine zF fun k' hk'=>?_
  obtain⟨hb33,h⟩:=h
  obtain⟨v34,ev34,h⟩:=atm h
  have f35:=ib_add hb33 ev34
  simp[hh,f35,dc28,-intBin]
  apply hk'
  refine IH8 (v31,v34) _ _ _ h (by simp[hh,dc28])
 replace h:=h.2 dc12
 refine Runs.exit rfl ?_
 refine zE fun k' hk'=>?_
 simp[hh,dc12]
 apply hk'
 exact Runs.ret1 (v:=int k5) Tryz.func70 Tryz.results70 (by simp[hh,dc12]) (hQ _ _ _ _ (.of (.v _)) ⟨k5,h,rfl⟩)
theorem heldWireS_ok (a:List Wire) (k_:Int) (hp:heldWireS_pre a k_):PureC Tryz.prog 70 [.list false (a.map Wire.cells),int k_] (fun r=>r=int (heldWireS a k_)):=(heldWireS_walk a k_ _ (heldWireS_vc a k_ hp)).mono (by rintro _ ⟨_,rfl,rfl⟩;rfl)
theorem e67:Ent Tryz.prog 67:=Ent.of Tryz.func67 (by kernel_rfl) rfl
theorem heldNodeS_walk (a:List GNode) (k_:Int) (Z:Int→Prop) (h:heldNodeS_wp a k_ Z):PureC Tryz.prog 67 [.list false (a.map (GNode.cells false)),int k_] (fun r=>∃ y:Int,Z y∧r=int y):=by
 unfold heldNodeS_wp at h
 refine PureC.of Tryz.func67 rfl Tryz.ntmps67 (by simp) fun Q hQ=>?_
 refine Runs.cut (fun ρ H n=>(ρ 0 = .list false (a.map (GNode.cells false))∧ρ 1=int k_)) (by simp) ?_
 rintro ρ H n1 hh
 refine zE fun k' hk'=>?_
 simp[hh]
 apply hk'
 refine Runs.seq ?_
 refine zE fun k' hk'=>?_
 simp[hh]
 apply hk'
 refine Runs.block ?_
 refine Runs.loopW h (fun (sJ:Int × Int) ρ H n=>match sJ with | (k5,i6)=>(ρ 0 = .list false (a.map (GNode.cells false))∧ρ 1=int k5∧ρ 5=int i6)) (by simp[hh]) ?_
 clear hh
 rintro⟨k5,i6⟩ ρ H n7 K h hh IH8
 refine Runs.seq ?_
 refine zE fun k' hk'=>?_
 obtain⟨len10,elen10,h⟩:=atm h
 have f11:=fun H=>len_list (H:=H) (fr:=false) (f:=(GNode.cells false)) kd_31 elen10
 obtain⟨c12,ec12,h⟩:=atm h
 have f13:=ib_lss (k:=.i64) ec12
 simp[hh,f11,f13,-intBin,-lenF]
 apply hk'
 refine Runs.ite (b:=c12) (by simp[hh]) (fun dc12=>?_) (fun dc12=>?_)
 ·replace h:=h.1 dc12
  refine Runs.skip ?_
  refine Runs.seq ?_
  refine Runs.block ?_
  refine Runs.seq ?_
  refine zE fun k' hk'=>?_
  obtain⟨hb14,h⟩:=h
  obtain⟨x15,ex15,h⟩:=atm h
  have f16:=fun H=>ix_list (H:=H) (fr:=false) (f:=(GNode.cells false)) (k:=.i64) kd_31 (fun _=>rfl) hb14 ex15
  obtain⟨c17,ec17,h⟩:=atm h
  have f18:=ib_neq (k:=.i64) ec17
  simp[hh,f16,f18,dc12,-indexAddrF,-intBin]
  apply hk'
  refine Runs.ite (b:=c17) (by simp[hh,dc12]) (fun dc17=>?_) (fun dc17=>?_)
  ·replace h:=h.1 dc17
   refine zE fun k' hk'=>?_
   simp[hh,dc12,dc17]
   apply hk'
   exact Runs.ret1 (v:=int (-1)) Tryz.func67 Tryz.results67 (by simp[hh,dc12,dc17]) (hQ _ _ _ _ (.of (.v _)) ⟨(-1),h,rfl⟩)
  replace h:=h.2 dc17
  refine Runs.skip ?_
  refine zE fun k' hk'=>?_
  obtain⟨hb19,h⟩:=h
  obtain⟨v20,ev20,h⟩:=atm h
  have f21:=ib_add hb19 ev20
  simp[hh,f21,dc12,dc17,-intBin]
  apply hk'
  refine Runs.seq ?_
  refine zE fun k' hk'=>?_
  obtain⟨hb22,h⟩:=h
  obtain⟨x23,ex23,h⟩:=atm h
  have hq24:=ex15.trans ex23.symm
  subst hq24
  have f25:=fun H=>ix_list (H:=H) (fr:=false) (f:=(GNode.cells false)) (k:=.i64) kd_31 (fun _=>rfl) hb22 ex15
  obtain⟨c26,ec26,h⟩:=atm h
  have f27:=ib_neq (k:=.i64) ec26
  simp[hh,f25,f27,dc12,dc17,-indexAddrF,-intBin]
  apply hk'
  refine Runs.cut (fun ρ H n=>(ρ 0 = .list false (a.map (GNode.cells false))∧ρ 1=int v20∧ρ 5=int i6∧ρ 27=bool c26)) (by simp[hh,f25,f27,dc12,dc17,-indexAddrF,-intBin]) ?_
  clear hh
  rintro ρ H n28 hh
  refine Runs.ite (b:=c26) (by simp[hh]) (fun dc26=>?_) (fun dc26=>?_)
  ·replace h:=h.1 dc26
   refine zE fun k' hk'=>?_
   simp[hh,dc26]
   apply hk'
   exact Runs.ret1 (v:=int (-1)) Tryz.func67 Tryz.results67 (by simp[hh,dc26]) (hQ _ _ _ _ (.of (.v _)) ⟨(-1),h,rfl⟩)
  replace h:=h.2 dc26
  refine Runs.skip ?_
  refine zE fun k' hk'=>?_
  obtain⟨hb29,h⟩:=h
  obtain⟨v30,ev30,h⟩:=atm h
  have f31:=ib_add hb29 ev30
  simp[hh,f31,dc26,-intBin]
  apply hk'
  refine zE fun k' hk'=>?_
  obtain⟨hb32,h⟩:=h
  obtain⟨x33,ex33,h⟩:=atm h
  have f34:=fun H=>ix_list (H:=H) (fr:=false) (f:=(GNode.cells false)) (k:=.i64) kd_31 (fun _=>rfl) hb32 ex33
  obtain⟨hb35,h⟩:=h
  obtain⟨r36,er36,h⟩:=atm h
  simp[hh,f34,dc26,-indexAddrF]
  refine RunK.callA Ty_ok (heldIntS_ok x33.links v30 hb35) e68 (.cons (argI false x33.links) (.cons (.v _ _ _) .nil)) (by decide) (by decide) rfl (by simp[hh,f34,dc26,-indexAddrF]) ?_
  rintro _ rfl
  rw[← er36]
  simp[hh,f34,dc26,-indexAddrF]
  apply hk'
  refine zE fun k' hk'=>?_
  obtain⟨c37,ec37,h⟩:=atm h
  have f38:=ib_lss (k:=.i64) ec37
  simp[hh,f38,dc26,-intBin]
  apply hk'
  refine Runs.ite (b:=c37) (by simp[hh,dc26]) (fun dc37=>?_) (fun dc37=>?_)
  ·replace h:=h.1 dc37
   refine zE fun k' hk'=>?_
   simp[hh,dc26,dc37]
   apply hk'
   exact Runs.ret1 (v:=int (-1)) Tryz.func67 Tryz.results67 (by simp[hh,dc26,dc37]) (hQ _ _ _ _ (.of (.v _)) ⟨(-1),h,rfl⟩)
  replace h:=h.2 dc37
  refine Runs.skip ?_
  refine Runs.inBlock ?_
  refine zF fun k' hk'=>?_
  obtain⟨hb39,h⟩:=h
  obtain⟨v40,ev40,h⟩:=atm h
  have f41:=ib_add hb39 ev40
  simp[hh,f41,dc26,dc37,-intBin]
  apply hk'
  refine Runs.cut (fun ρ H n=>(ρ 0 = .list false (a.map (GNode.cells false))∧ρ 1=int r36∧ρ 5=int v40)) (by simp[hh,f41,dc26,dc37,-intBin]) ?_
  clear hh
  rintro ρ H n42 hh
  refine IH8 (r36,v40) _ _ _ h (by simp[hh])
 replace h:=h.2 dc12
 refine Runs.exit rfl ?_
 refine zE fun k' hk'=>?_
 simp[hh,dc12]
 apply hk'
 exact Runs.ret1 (v:=int k5) Tryz.func67 Tryz.results67 (by simp[hh,dc12]) (hQ _ _ _ _ (.of (.v _)) ⟨k5,h,rfl⟩)
theorem heldNodeS_ok (a:List GNode) (k_:Int) (hp:heldNodeS_pre a k_):PureC Tryz.prog 67 [.list false (a.map (GNode.cells false)),int k_] (fun r=>r=int (heldNodeS a k_)):=(heldNodeS_walk a k_ _ (heldNodeS_vc a k_ hp)).mono (by rintro _ ⟨_,rfl,rfl⟩;rfl)
theorem e16:Ent Tryz.prog 16:=Ent.of Tryz.func16 (by kernel_rfl) rfl
theorem markBig_walk (a:Big) (k_:Int) (Z:(Big × Int)→Prop) (h:markBig_wp a k_ Z):MutS Tryz.prog 16 (fun v=>[v,int k_]) (.a [.c,.s [.c,.c,.s [.c]],.s [.c],.c,.s [.c],.s [.c,.c]]) (.agg (bC true a)) (fun e' r=>∃ y:Big × Int,Z y∧e' = .agg (bC true y.1)∧r=int y.2):=by
 unfold markBig_wp at h
 refine MutS.of Tryz.func16 rfl Tryz.ntmps16 (fun _=>by simp) fun H0 n0 v0 K0 ids0 sp Q hQ=>?_
 have h00:=sp.1
 have hid:∀ i ∈ ids0,H0 i=H0 i:=fun _ _=>rfl
 have hnn:n0≤n0:=Nat.le_refl _
 replace sp:=Sep.unpack sp
 obtain⟨L0,hv,hl0,sp⟩:=sp
 subst hv
 obtain⟨a0_,a1_,a2_,a3_,a4_,a5_,hv⟩:=len6 (by simpa using hl0)
 subst hv
 simp only[zip3,List.cons_append,List.nil_append] at sp
 replace sp:=Sep.scalar sp
 obtain⟨hv,sp⟩:=sp
 subst hv
 replace sp:=Sep.rot sp
 try simp only[List.cons_append,List.nil_append,List.append_assoc] at sp
 replace sp:=Sep.rot sp
 try simp only[List.cons_append,List.nil_append,List.append_assoc] at sp
 replace sp:=Sep.scalar sp
 obtain⟨hv,sp⟩:=sp
 subst hv
 replace sp:=Sep.rot sp
 try simp only[List.cons_append,List.nil_append,List.append_assoc] at sp
 replace sp:=Sep.rot sp
 try simp only[List.cons_append,List.nil_append,List.append_assoc] at sp
 replace sp:=Sep.swap (K1:=K0) sp
 simp only[List.cons_append,List.nil_append] at sp
 refine Runs.cut (fun ρ H n=>(ρ 0 = .agg [int a.roots,a1_,a2_,int a.edges,a4_,a5_]∧ρ 1=int k_)∧n0≤n∧(∀ i ∈ ids0,H i=H0 i)∧Sep H n (oN a1_ a.nodes::oI a2_ a.sites::oS a4_ a.outer::oW a5_ a.inner::K0) (ids0)) (by refine⟨?_,(by omega),hid,sp⟩<;>simp ) ?_
 rintro ρ H n5 ⟨hh,hnn,hid,sp⟩
 have hq_n5:=hnn
 refine zE fun k' hk'=>?_
 have f6:=Sep.oc sp
 have f7:=Sep.oc sp.f1
 have f8:=Sep.oc sp.f2
 have f9:=Sep.oc sp.f3
 simp[hh,f6,f7,f8,f9,-cellsA,-one1,cAx,o1x]
 apply hk'
 refine Runs.cut (fun ρ H n=>(ρ 1=int k_∧ρ 2=pA n5 2)∧H (n5,2)=some ⟨6,[[int a.roots,a1_,a2_,int a.edges,a4_,a5_]]⟩∧n0≤n∧(∀ i ∈ ids0,H i=H0 i)∧Sep H n (oN a1_ a.nodes::oI a2_ a.sites::oS a4_ a.outer::oW a5_ a.inner::K0) ((n5,2)::ids0)) (by refine⟨?_,?_,(by omega),(by intro i hi;have hlt:=h00 i (by simp[hi]);repeat (first | exact hid i hi | rw[Heap.get_set_ne _ _ (by rintro rfl;simp at hlt;omega)])),sp.var⟩<;>simp[hh,f6,f7,f8,f9,-cellsA,-one1,cAx,o1x]) ?_
 clear hh
 rintro ρ H n11 ⟨hh,m2_9,hnn,hid,sp⟩
 have hq_n11:=hnn
 refine zE fun k' hk'=>?_
 obtain⟨hb12,h⟩:=h
 obtain⟨r13,er13,h⟩:=atm h
 have f14:=Sep.oc sp
 simp[hh,m2_9,f14,-cellsA,-one1,cAx,o1x]
 refine RunK.callM (v:=a1_) Ty_ok (markNodeS_ok a.nodes k_ hb12) e63 sp (by decide) (by decide) rfl (by simp[hh,m2_9,f14,-cellsA,-one1,cAx,o1x]) ?_
 rintro _ H15 n16 _ ⟨rfl,rfl⟩ sp hle18 hfr17
 rw[← er13] at sp
 rw[← er13]
 replace sp:Sep H15 n16 (oN a1_ r13.1::oI a2_ a.sites::oS a4_ a.outer::oW a5_ a.inner::K0) ((n5,2)::ids0):=sp
 have hid:∀ i ∈ ids0,H15 i=H0 i:=fun i hi=>(hfr17 i (by simp[hi])).trans (hid i hi)
 have hnn:n0≤n16:=by omega
 have hq_n16:=hnn
 have m2_9:=(hfr17 _ (by simp)).trans m2_9
 simp[hh,m2_9,f14,-cellsA,-one1,cAx,o1x]
 apply hk'
 refine Runs.cut (fun ρ H n=>(ρ 1=int r13.2∧ρ 2=pA n5 2)∧H (n5,2)=some ⟨6,[[int a.roots,a1_,a2_,int a.edges,a4_,a5_]]⟩∧n0≤n∧(∀ i ∈ ids0,H i=H0 i)∧Sep H n (oN a1_ r13.1::oI a2_ a.sites::oS a4_ a.outer::oW a5_ a.inner::K0) ((n5,2)::ids0)) (by refine⟨?_,?_,(by omega),hid,sp⟩<;>simp[hh,m2_9,f14,-cellsA,-one1,cAx,o1x]) ?_
 clear hh m2_9
 rintro ρ H n20 ⟨hh,m2_9,hnn,hid,sp⟩
 have hq_n20:=hnn
 refine zE fun k' hk'=>?_
 obtain⟨hb21,h⟩:=h
 obtain⟨r22,er22,h⟩:=atm h
 have f23:=Sep.oc sp.f1
 simp[hh,m2_9,f23,-cellsA,-one1,cAx,o1x]
 refine RunK.callM (v:=a2_) Ty_ok (markIntS_ok a.sites r13.2 hb21) e64 sp.f1 (by decide) (by decide) rfl (by simp[hh,m2_9,f23,-cellsA,-one1,cAx,o1x]) ?_
 rintro _ H24 n25 _ ⟨rfl,rfl⟩ sp hle27 hfr26
 rw[← er22] at sp
 rw[← er22]
 replace sp:Sep H24 n25 (oI a2_ r22.1::oN a1_ r13.1::oS a4_ a.outer::oW a5_ a.inner::K0) ((n5,2)::ids0):=sp
 have hid:∀ i ∈ ids0,H24 i=H0 i:=fun i hi=>(hfr26 i (by simp[hi])).trans (hid i hi)
 have hnn:n0≤n25:=by omega
 have hq_n25:=hnn
 have m2_9:=(hfr26 _ (by simp)).trans m2_9
 simp[hh,m2_9,f23,-cellsA,-one1,cAx,o1x]
 apply hk'
 refine Runs.cut (fun ρ H n=>(ρ 1=int r22.2∧ρ 2=pA n5 2)∧H (n5,2)=some ⟨6,[[int a.roots,a1_,a2_,int a.edges,a4_,a5_]]⟩∧n0≤n∧(∀ i ∈ ids0,H i=H0 i)∧Sep H n (oI a2_ r22.1::oN a1_ r13.1::oS a4_ a.outer::oW a5_ a.inner::K0) ((n5,2)::ids0)) (by refine⟨?_,?_,(by omega),hid,sp⟩<;>simp[hh,m2_9,f23,-cellsA,-one1,cAx,o1x]) ?_
 clear hh m2_9
 rintro ρ H n29 ⟨hh,m2_9,hnn,hid,sp⟩
 have hq_n29:=hnn
 refine zE fun k' hk'=>?_
 obtain⟨hb30,h⟩:=h
 obtain⟨r31,er31,h⟩:=atm h
 have f32:=Sep.oc sp.f2
 simp[hh,m2_9,f32,-cellsA,-one1,cAx,o1x]
 refine RunK.callM (v:=a4_) Ty_ok (markStringS_ok a.outer r22.2 hb30) e65 sp.f2 (by decide) (by decide) rfl (by simp[hh,m2_9,f32,-cellsA,-one1,cAx,o1x]) ?_
 rintro _ H33 n34 _ ⟨rfl,rfl⟩ sp hle36 hfr35
 rw[← er31] at sp
 rw[← er31]
 replace sp:Sep H33 n34 (oS a4_ r31.1::oI a2_ r22.1::oN a1_ r13.1::oW a5_ a.inner::K0) ((n5,2)::ids0):=sp
 have hid:∀ i ∈ ids0,H33 i=H0 i:=fun i hi=>(hfr35 i (by simp[hi])).trans (hid i hi)
 have hnn:n0≤n34:=by omega
 have hq_n34:=hnn
 have m2_9:=(hfr35 _ (by simp)).trans m2_9
 simp[hh,m2_9,f32,-cellsA,-one1,cAx,o1x]
 apply hk'
 refine Runs.cut (fun ρ H n=>(ρ 1=int r31.2∧ρ 2=pA n5 2)∧H (n5,2)=some ⟨6,[[int a.roots,a1_,a2_,int a.edges,a4_,a5_]]⟩∧n0≤n∧(∀ i ∈ ids0,H i=H0 i)∧Sep H n (oS a4_ r31.1::oI a2_ r22.1::oN a1_ r13.1::oW a5_ a.inner::K0) ((n5,2)::ids0)) (by refine⟨?_,?_,(by omega),hid,sp⟩<;>simp[hh,m2_9,f32,-cellsA,-one1,cAx,o1x]) ?_
 clear hh m2_9
 rintro ρ H n38 ⟨hh,m2_9,hnn,hid,sp⟩
 have hq_n38:=hnn
 refine zE fun k' hk'=>?_
 obtain⟨hb39,h⟩:=h
 obtain⟨r40,er40,h⟩:=atm h
 have f41:=Sep.oc sp.f3
 simp[hh,m2_9,f41,-cellsA,-one1,cAx,o1x]
 refine RunK.callM (v:=a5_) Ty_ok (markWireS_ok a.inner r31.2 hb39) e66 sp.f3 (by decide) (by decide) rfl (by simp[hh,m2_9,f41,-cellsA,-one1,cAx,o1x]) ?_
 rintro _ H42 n43 _ ⟨rfl,rfl⟩ sp hle45 hfr44
 rw[← er40] at sp
 rw[← er40]
 replace sp:Sep H42 n43 (oW a5_ r40.1::oS a4_ r31.1::oI a2_ r22.1::oN a1_ r13.1::K0) ((n5,2)::ids0):=sp
 have hid:∀ i ∈ ids0,H42 i=H0 i:=fun i hi=>(hfr44 i (by simp[hi])).trans (hid i hi)
 have hnn:n0≤n43:=by omega
 have hq_n43:=hnn
 have m2_9:=(hfr44 _ (by simp)).trans m2_9
 simp[hh,m2_9,f41,-cellsA,-one1,cAx,o1x]
 apply hk'
 refine Runs.cut (fun ρ H n=>ρ 1=int r40.2∧n0≤n∧(∀ i ∈ ids0,H i=H0 i)∧Sep H n (oW a5_ r40.1::oS a4_ r31.1::oI a2_ r22.1::oN a1_ r13.1::K0) (ids0)) (by refine⟨?_,(by omega),hid,(Sep.sub sp (by simp +contextual))⟩<;>simp[hh,m2_9,f41,-cellsA,-one1,cAx,o1x]) ?_
 clear hh m2_9
 rintro ρ H n47 ⟨hh,hnn,hid,sp⟩
 have hq_n47:=hnn
 refine zE fun k' hk'=>?_
 simp[hh]
 apply hk'
 exact Runs.ret1 (v:=int r40.2) Tryz.func16 Tryz.results16 (by simp[hh]) (hQ _ _ _ _ (Sep.sub (Sep.pack (Fill.v _ (Fill.own (Fill.own (Fill.v _ (Fill.own (Fill.own Fill.nil)))))) sp.f1.f2.f3) (by simp +contextual)) hid (by omega) ⟨((Big.mk a.roots r13.1 r22.1 a.edges r31.1 r40.1),r40.2),h,rfl,rfl⟩)
theorem markBig_ok (a:Big) (k_:Int) (hp:markBig_pre a k_):MutS Tryz.prog 16 (fun v=>[v,int k_]) (.a [.c,.s [.c,.c,.s [.c]],.s [.c],.c,.s [.c],.s [.c,.c]]) (.agg (bC true a)) (fun e' r=>e' = .agg [int (((markBig a k_).1).roots),.list true ((((markBig a k_).1).nodes).map (GNode.cells true)),.list true ((((markBig a k_).1).sites).map intC),int (((markBig a k_).1).edges),.list true ((((markBig a k_).1).outer).map strC),.list true ((((markBig a k_).1).inner).map Wire.cells)]∧r=int ((markBig a k_).2)):=(markBig_walk a k_ _ (markBig_vc a k_ hp)).mono (by rintro _ _ ⟨_,rfl,rfl,rfl⟩;exact⟨rfl,rfl⟩)
theorem e17:Ent Tryz.prog 17:=Ent.of Tryz.func17 (by kernel_rfl) rfl
theorem heldBig_walk (a:Big) (k_:Int) (Z:Int→Prop) (h:heldBig_wp a k_ Z):PureC Tryz.prog 17 [.agg (bC false a),int k_] (fun r=>∃ y:Int,Z y∧r=int y):=by
 unfold heldBig_wp at h
 refine PureC.of Tryz.func17 rfl Tryz.ntmps17 (by simp) fun Q hQ=>?_
 refine Runs.cut (fun ρ H n=>(ρ 0 = .agg (bC false a)∧ρ 1=int k_)) (by simp) ?_
 rintro ρ H n1 hh
 refine zE fun k' hk'=>?_
 simp[hh]
 apply hk'
 refine Runs.cut (fun ρ H n=>(ρ 1=int k_∧ρ 2=pA n1 2)∧H (n1,2)=some ⟨6,[bC false a]⟩) (by refine⟨?_,?_⟩<;>simp[hh]) ?_
 clear hh
 rintro ρ H n3 ⟨hh,m2_1⟩
 refine zE fun k' hk'=>?_
 obtain⟨hb4,h⟩:=h
 obtain⟨r5,er5,h⟩:=atm h
 simp[hh,m2_1]
 refine RunK.callA Ty_ok (heldNodeS_ok a.nodes k_ hb4) e67 (.cons (ArgOk.nest_Node false a.nodes) (.cons (.v _ _ _) .nil)) (by decide) (by decide) rfl (by simp[hh,m2_1]) ?_
 rintro _ rfl
 rw[← er5]
 simp[hh,m2_1]
 apply hk'
 refine Runs.seq ?_
 refine zE fun k' hk'=>?_
 obtain⟨c6,ec6,h⟩:=atm h
 have f7:=ib_lss (k:=.i64) ec6
 simp[hh,m2_1,f7,-intBin]
 apply hk'
 refine Runs.ite (b:=c6) (by simp[hh,m2_1]) (fun dc6=>?_) (fun dc6=>?_)
 ·replace h:=h.1 dc6
  refine zE fun k' hk'=>?_
  simp[hh,m2_1,dc6]
  apply hk'
  exact Runs.ret1 (v:=int (-1)) Tryz.func17 Tryz.results17 (by simp[hh,m2_1,dc6]) (hQ _ _ _ _ (.of (.v _)) ⟨(-1),h,rfl⟩)
 replace h:=h.2 dc6
 refine Runs.skip ?_
 refine zE fun k' hk'=>?_
 obtain⟨hb8,h⟩:=h
 obtain⟨r9,er9,h⟩:=atm h
 simp[hh,m2_1,dc6]
 refine RunK.callA Ty_ok (heldIntS_ok a.sites r5 hb8) e68 (.cons (argI false a.sites) (.cons (.v _ _ _) .nil)) (by decide) (by decide) rfl (by simp[hh,m2_1,dc6]) ?_
 rintro _ rfl
 rw[← er9]
 simp[hh,m2_1,dc6]
 apply hk'
 refine Runs.seq ?_
 refine zE fun k' hk'=>?_
 obtain⟨c10,ec10,h⟩:=atm h
 have f11:=ib_lss (k:=.i64) ec10
 simp[hh,m2_1,f11,dc6,-intBin]
 apply hk'
 refine Runs.ite (b:=c10) (by simp[hh,m2_1,dc6]) (fun dc10=>?_) (fun dc10=>?_)
 ·replace h:=h.1 dc10
  refine zE fun k' hk'=>?_
  simp[hh,m2_1,dc6,dc10]
  apply hk'
  refine Runs.cut (fun ρ H n=>ρ 4=int (-1)) (by simp[hh,m2_1,dc6,dc10]) ?_
  clear hh m2_1
  rintro ρ H n12 hh
  exact Runs.ret1 (v:=int (-1)) Tryz.func17 Tryz.results17 (by simp[hh]) (hQ _ _ _ _ (.of (.v _)) ⟨(-1),h,rfl⟩)
 replace h:=h.2 dc10
 refine Runs.skip ?_
 refine zE fun k' hk'=>?_
 obtain⟨hb13,h⟩:=h
 obtain⟨r14,er14,h⟩:=atm h
 simp[hh,m2_1,dc6,dc10]
 refine RunK.callA Ty_ok (heldStringS_ok a.outer r9 hb13) e69 (.cons (argS false a.outer) (.cons (.v _ _ _) .nil)) (by decide) (by decide) rfl (by simp[hh,m2_1,dc6,dc10]) ?_
 rintro _ rfl
 rw[← er14]
 simp[hh,m2_1,dc6,dc10]
 apply hk'
 refine Runs.cut (fun ρ H n=>(ρ 1=int r14∧ρ 2=pA n1 2)∧H (n1,2)=some ⟨6,[bC false a]⟩) (by refine⟨?_,?_⟩<;>simp[hh,m2_1,dc6,dc10]) ?_
 clear hh m2_1
 rintro ρ H n15 ⟨hh,m2_1⟩
 refine Runs.seq ?_
 refine zE fun k' hk'=>?_
 obtain⟨c16,ec16,h⟩:=atm h
 have f17:=ib_lss (k:=.i64) ec16
 simp[hh,m2_1,f17,-intBin]
 apply hk'
 refine Runs.ite (b:=c16) (by simp[hh,m2_1]) (fun dc16=>?_) (fun dc16=>?_)
 ·replace h:=h.1 dc16
  refine zE fun k' hk'=>?_
  simp[hh,m2_1,dc16]
  apply hk'
  exact Runs.ret1 (v:=int (-1)) Tryz.func17 Tryz.results17 (by simp[hh,m2_1,dc16]) (hQ _ _ _ _ (.of (.v _)) ⟨(-1),h,rfl⟩)
 replace h:=h.2 dc16
 refine Runs.skip ?_
 refine zE fun k' hk'=>?_
 obtain⟨hb18,h⟩:=h
 obtain⟨r19,er19,h⟩:=atm h
 simp[hh,m2_1,dc16]
 refine RunK.callA Ty_ok (heldWireS_ok a.inner r14 hb18) e70 (.cons (argW false a.inner) (.cons (.v _ _ _) .nil)) (by decide) (by decide) rfl (by simp[hh,m2_1,dc16]) ?_
 rintro _ rfl
 rw[← er19]
 simp[hh,m2_1,dc16]
 apply hk'
 refine Runs.seq ?_
 refine zE fun k' hk'=>?_
 obtain⟨c20,ec20,h⟩:=atm h
 have f21:=ib_lss (k:=.i64) ec20
 simp[hh,m2_1,f21,dc16,-intBin]
 apply hk'
 refine Runs.ite (b:=c20) (by simp[hh,m2_1,dc16]) (fun dc20=>?_) (fun dc20=>?_)
 ·replace h:=h.1 dc20
  refine zE fun k' hk'=>?_
  simp[hh,m2_1,dc16,dc20]
  apply hk'
  exact Runs.ret1 (v:=int (-1)) Tryz.func17 Tryz.results17 (by simp[hh,m2_1,dc16,dc20]) (hQ _ _ _ _ (.of (.v _)) ⟨(-1),h,rfl⟩)
 replace h:=h.2 dc20
 refine Runs.skip ?_
 refine zE fun k' hk'=>?_
 simp[hh,m2_1,dc16,dc20]
 apply hk'
 exact Runs.ret1 (v:=int r19) Tryz.func17 Tryz.results17 (by simp[hh,m2_1,dc16,dc20]) (hQ _ _ _ _ (.of (.v _)) ⟨r19,h,rfl⟩)
theorem heldBig_ok (a:Big) (k_:Int) (hp:heldBig_pre a k_):PureC Tryz.prog 17 [.agg (bC false a),int k_] (fun r=>r=int (heldBig a k_)):=(heldBig_walk a k_ _ (heldBig_vc a k_ hp)).mono (by rintro _ ⟨_,rfl,rfl⟩;rfl)
end Go.Ab.Vg
/- Walks by program for YtbikfokhjdjfpaaGreatDoorAbMd. -/
namespace Go.Ab.Vg
open Go.Proofs
set_option maxRecDepth 100000
set_option linter.unusedSimpArgs false
set_option linter.unusedVariables false
attribute [local simp] intC mC pA
end Go.Ab.Vg
/- Walks by program for YtbikfokhjdjfpaaGreatDoorAbMu. -/
namespace Go.Ab.Vg
open Go.Proofs
set_option maxRecDepth 100000
set_option linter.unusedSimpArgs false
set_option linter.unusedVariables false
attribute [local simp] GNode.cells Wire.cells intC sliceC strC bC mC pA
end Go.Ab.Vg
/- Walks by program for YtbikfokhjdjfpaaGreatDoorAbCo. -/
namespace Go.Ab.Vg
open Go.Proofs
set_option maxRecDepth 100000
set_option linter.unusedSimpArgs false
set_option linter.unusedVariables false
theorem e159:Ent Tryz.prog 159:=Ent.of Tryz.func159 (by kernel_rfl) rfl
theorem sortStr_ok (l:List Str) (h:l.length≤1073741824):MutS Tryz.prog 159 (fun v=>[v]) (.s [.c]) (.list true (l.map strC)) (fun e r=>e = .list true ((sortT l).1.map strC)∧r = .tup []):=MutS.sort (by omega) (fun blk off cap w hH hb=>Tryz.slices_Sort_string blk off cap l w hH hb (by omega)) (fun w=>(Tryz.slices_Sort_string_none none 0 w).mono (by rintro e w' ⟨h1,h2⟩;exact⟨h1,h2 ▸ Go.RowKit.Below.refl _ _⟩))
end Go.Ab.Vg
/- Walks by program for YtbikfokhjdjfpaaGreatDoorAbMp. -/
namespace Go.Ab.Vg
open Go.Proofs
set_option maxRecDepth 100000
set_option linter.unusedSimpArgs false
set_option linter.unusedVariables false
end Go.Ab.Vg
/- Walks by program for YtbikfokhjdjfpaaGreatDoorAbEm. -/
namespace Go.Ab.Vg
open Go.Proofs
set_option maxRecDepth 100000
set_option linter.unusedSimpArgs false
set_option linter.unusedVariables false
attribute [local simp] strC
theorem e158:Ent Tryz.prog 158:=Ent.of Tryz.func158 (by kernel_rfl) rfl
theorem cloneS_walk (s:List Str) (Z:(List Str)→Prop) (h:cloneS_wp s Z):OwnS Tryz.prog 158 [.list false (s.map strC)] (.s [.c]) (fun r=>∃ y:List Str,Z y∧r = .list true (y.map strC)):=by
 unfold cloneS_wp at h
 have sp:Sep noHeap 0 [] []:=Sep.nil (by simp)
 refine OwnS.of Tryz.func158 rfl Tryz.ntmps158 (by simp) fun Q hQ=>?_
 refine Runs.cut (fun ρ H n=>ρ 0 = .list false (s.map strC)∧Sep H n [] []) (by refine⟨by simp ,sp⟩) ?_
 rintro ρ H n1 ⟨hh,sp⟩
 refine zE fun k' hk'=>?_
 simp[hh]
 apply hk'
 refine Runs.seq ?_
 refine zE fun k' hk'=>?_
 simp[hh]
 refine RunK.isNil (fr:=false) (els:=s.map strC) Ty_ok (by decide) (by decide) kd_25 (by simp[hh]) (by simp[hh]) ?_
 rintro c2 hc3
 replace h:=h c2 (fun hq=>by simpa using hc3 hq)
 simp[hh]
 apply hk'
 refine Runs.ite (b:=c2) (by simp[hh]) (fun dc2=>?_) (fun dc2=>?_)
 ·replace h:=h.1 dc2
  refine zE fun k' hk'=>?_
  simp[hh,dc2]
  apply hk'
  exact Runs.ret1 (v:=.v (.slice none 0 0)) Tryz.func158 Tryz.results158 (by simp[hh,dc2]) (hQ _ _ _ _ (Sep.sub (ids':=[]) (Sep.addNil sp) (by simp)) ⟨[],h,rfl⟩)
 replace h:=h.2 dc2
 refine Runs.skip ?_
 refine zE fun k' hk'=>?_
 obtain⟨hb6,h⟩:=h
 obtain⟨l7,el7,h⟩:=atm h
 simp[hh,dc2,-appendF]
 refine bind_append0 (s.map strC) (Sep.addEmpty (l:=[.c]) sp) (by simp) kd_25 (by simp) (by simp) (by simp[srcOf]) (by simp[-one1,o1x]) (by simpa using hb6) ?_
 rintro v8 H9 n10 sp hfr11 hle12
 replace sp:Sep H9 n10 [oS v8 l7] []:=by refine Sep.ap el7 ?_;exact sp
 simp[hh,dc2]
 apply hk'
 refine Runs.cut (fun ρ H n=>∃ (v14:AVal),ρ 2=v14∧Sep H n [oS v14 l7] []) (by refine⟨v8,by simp[hh,dc2],sp⟩) ?_
 clear hh
 rintro ρ H n15 ⟨v14,hh,sp⟩
 exact Runs.ret1 (v:=v14) Tryz.func158 Tryz.results158 (by simp[hh]) (hQ _ _ _ _ (Sep.sub (ids':=[]) sp (by simp)) ⟨l7,h,rfl⟩)
theorem cloneS_ok (s:List Str) (hp:cloneS_pre s):OwnS Tryz.prog 158 [.list false (s.map strC)] (.s [.c]) (fun r=>r = .list true ((cloneS s).map strC)):=(cloneS_walk s _ (cloneS_vc s hp)).mono (by rintro _ ⟨_,rfl,rfl⟩;rfl)
theorem e160:Ent Tryz.prog 160:=Ent.of Tryz.func160 (by kernel_rfl) rfl
theorem compactStr_ok (l:List Str) (h:l.length≤1073741824):TakeS Tryz.prog 160 (fun v=>[v]) (.s [.c]) (.list true (l.map strC)) (.s [.c]) (fun e=>e = .list true ((compactT l).map strC)):=TakeS.compact (compact_le l) (fun blk off cap w hH hc=>Tryz.slices_Compact_string blk off cap l w hH (by omega) hc) (fun _ w=>Tryz.slices_Compact_string_empty none 0 w)
theorem e110:Ent Tryz.prog 110:=Ent.of Tryz.func110 (by kernel_rfl) rfl
theorem sortedNames_walk (l:List Str) (Z:(List Str)→Prop) (h:sortedNames_wp l Z):OwnS Tryz.prog 110 [.list false (l.map strC)] (.s [.c]) (fun r=>∃ y:List Str,Z y∧r = .list true (y.map strC)):=by
 unfold sortedNames_wp at h
 have sp:Sep noHeap 0 [] []:=Sep.nil (by simp)
 refine OwnS.of Tryz.func110 rfl Tryz.ntmps110 (by simp) fun Q hQ=>?_
 refine Runs.cut (fun ρ H n=>ρ 0 = .list false (l.map strC)∧Sep H n [] []) (by refine⟨by simp ,sp⟩) ?_
 rintro ρ H n1 ⟨hh,sp⟩
 refine zE fun k' hk'=>?_
 simp[hh]
 apply hk'
 refine zE fun k' hk'=>?_
 obtain⟨hb2,h⟩:=h
 obtain⟨r3,er3,h⟩:=atm h
 simp[hh]
 refine RunK.callW Ty_ok (cloneS_ok l hb2) e158 (.cons (argS false l) .nil) sp (by decide) (by decide) rfl (by simp[hh]) ?_
 rintro v4 H5 n6 _ sp rfl hle8 hfr7
 rw[← er3] at sp
 simp[hh]
 apply hk'
 refine Runs.cut (fun ρ H n=>∃ (v11:AVal),ρ 3=v11∧Sep H n [oS v11 r3] []) (by refine⟨v4,by simp[hh],sp⟩) ?_
 clear hh
 rintro ρ H n12 ⟨v11,hh,sp⟩
 refine zE fun k' hk'=>?_
 obtain⟨hb13,h⟩:=h
 obtain⟨r14,er14,h⟩:=atm h
 have f15:=Sep.oc sp
 simp[hh,f15,-cellsA,-one1,cAx,o1x]
 refine RunK.callM (v:=v11) Ty_ok (sortStr_ok r3 hb13) e159 sp (by decide) (by decide) rfl (by simp[hh,f15,-cellsA,-one1,cAx,o1x]) ?_
 rintro _ H16 n17 _ ⟨rfl,rfl⟩ sp hle19 hfr18
 rw[← er14] at sp
 replace sp:Sep H16 n17 [oS v11 r14.1] []:=sp
 simp[hh,f15,-cellsA,-one1,cAx,o1x]
 apply hk'
 refine Runs.cut (fun ρ H n=>∃ (v21:AVal),ρ 3=v21∧Sep H n [oS v21 r14.1] []) (by refine⟨v11,by simp[hh,f15,-cellsA,-one1,cAx,o1x],sp⟩) ?_
 clear hh
 rintro ρ H n22 ⟨v21,hh,sp⟩
 refine zE fun k' hk'=>?_
 obtain⟨hb23,h⟩:=h
 obtain⟨r24,er24,h⟩:=atm h
 simp[hh]
 refine RunK.callT' (v:=v21) Ty_ok (compactStr_ok r14.1 hb23) e160 sp (by decide) (by decide) rfl (by simp[hh]) ?_
 rintro v25 H26 n27 _ rfl sp hle29 hfr28
 rw[← er24] at sp
 replace sp:Sep H26 n27 [oS v25 r24] []:=sp
 simp[hh]
 apply hk'
 refine Runs.cut (fun ρ H n=>∃ (v32:AVal),ρ 2=v32∧Sep H n [oS v32 r24] []) (by refine⟨v25,by simp[hh],sp⟩) ?_
 clear hh
 rintro ρ H n33 ⟨v32,hh,sp⟩
 exact Runs.ret1 (v:=v32) Tryz.func110 Tryz.results110 (by simp[hh]) (hQ _ _ _ _ (Sep.sub (ids':=[]) sp (by simp)) ⟨r24,h,rfl⟩)
theorem sortedNames_ok (l:List Str) (hp:sortedNames_pre l):OwnS Tryz.prog 110 [.list false (l.map strC)] (.s [.c]) (fun r=>r = .list true ((sortedNames l).map strC)):=(sortedNames_walk l _ (sortedNames_vc l hp)).mono (by rintro _ ⟨_,rfl,rfl⟩;rfl)
theorem e111:Ent Tryz.prog 111:=Ent.of Tryz.func111 (by kernel_rfl) rfl
theorem indexS_walk (s:List Str) (v_:Str) (Z:Int→Prop) (h:indexS_wp s v_ Z):PureC Tryz.prog 111 [.list false (s.map strC),str v_] (fun r=>∃ y:Int,Z y∧r=int y):=by
 unfold indexS_wp at h
 refine PureC.of Tryz.func111 rfl Tryz.ntmps111 (by simp) fun Q hQ=>?_
 refine Runs.cut (fun ρ H n=>(ρ 0 = .list false (s.map strC)∧ρ 1=str v_)) (by simp) ?_
 rintro ρ H n1 hh
 refine zE fun k' hk'=>?_
 simp[hh]
 apply hk'
 refine Runs.seq ?_
 refine zE fun k' hk'=>?_
 obtain⟨len2,elen2,h⟩:=atm h
 have f3:=fun H=>len_list (H:=H) (fr:=false) (f:=strC) kd_25 elen2
 simp[hh,f3,-lenF]
 apply hk'
 refine Runs.block ?_
 refine Runs.loopW h (fun (sJ:Int) ρ H n=>match sJ with | v6=>(ρ 0 = .list false (s.map strC)∧ρ 1=str v_∧ρ 7=int len2∧ρ 8=int v6)) (by simp[hh]) ?_
 clear hh
 rintro v6 ρ H n7 K h hh IH8
 refine zE fun k' hk'=>?_
 obtain⟨c10,ec10,h⟩:=atm h
 have f11:=ib_lss (k:=.i64) ec10
 simp[hh,f11,-intBin]
 apply hk'
 refine Runs.seq ?_
 refine Runs.ite (b:=c10) (by simp[hh]) (fun dc10=>?_) (fun dc10=>?_)
 ·replace h:=h.1 dc10
  refine Runs.skip ?_
  refine Runs.seq ?_
  refine Runs.block ?_
  refine zE fun k' hk'=>?_
  simp[hh,dc10]
  apply hk'
  refine zE fun k' hk'=>?_
  obtain⟨hb12,h⟩:=h
  obtain⟨x13,ex13,h⟩:=atm h
  have f14:=fun H=>ix_list (H:=H) (fr:=false) (f:=strC) (k:=.i64) kd_25 (fun _=>rfl) hb12 ex13
  obtain⟨c15,ec15,h⟩:=atm h
  have f16:=sb_eql ec15
  simp[hh,f14,f16,dc10,-indexAddrF,-strBin]
  apply hk'
  refine Runs.ite (b:=c15) (by simp[hh,dc10]) (fun dc15=>?_) (fun dc15=>?_)
  ·replace h:=h.1 dc15
   refine zE fun k' hk'=>?_
   simp[hh,dc10,dc15]
   apply hk'
   exact Runs.ret1 (v:=int v6) Tryz.func111 Tryz.results111 (by simp[hh,dc10,dc15]) (hQ _ _ _ _ (.of (.v _)) ⟨v6,h,rfl⟩)
  replace h:=h.2 dc15
  refine Runs.skip ?_
  refine Runs.inBlock ?_
  refine zF fun k' hk'=>?_
  obtain⟨hb17,h⟩:=h
  obtain⟨v18,ev18,h⟩:=atm h
  have f19:=ib_add hb17 ev18
  simp[hh,f19,dc10,dc15,-intBin]
  apply hk'
  refine IH8 (v18) _ _ _ h (by simp[hh,dc10,dc15])
 replace h:=h.2 dc10
 refine Runs.exit rfl ?_
 refine zE fun k' hk'=>?_
 simp[hh,dc10]
 apply hk'
 exact Runs.ret1 (v:=int (-1)) Tryz.func111 Tryz.results111 (by simp[hh,dc10]) (hQ _ _ _ _ (.of (.v _)) ⟨(-1),h,rfl⟩)
theorem indexS_ok (s:List Str) (v_:Str) (hp:indexS_pre s v_):PureC Tryz.prog 111 [.list false (s.map strC),str v_] (fun r=>r=int (indexS s v_)):=(indexS_walk s v_ _ (indexS_vc s v_ hp)).mono (by rintro _ ⟨_,rfl,rfl⟩;rfl)
theorem e97:Ent Tryz.prog 97:=Ent.of Tryz.func97 (by kernel_rfl) rfl
theorem l2At_walk (list:List Str) (name:Str) (Z:Int→Prop) (h:l2At_wp list name Z):PureC Tryz.prog 97 [.list false (list.map strC),str name] (fun r=>∃ y:Int,Z y∧r=int y):=by
 unfold l2At_wp at h
 refine PureC.of Tryz.func97 rfl Tryz.ntmps97 (by simp) fun Q hQ=>?_
 refine Runs.cut (fun ρ H n=>(ρ 0 = .list false (list.map strC)∧ρ 1=str name)) (by simp) ?_
 rintro ρ H n1 hh
 refine zE fun k' hk'=>?_
 simp[hh]
 apply hk'
 refine Runs.seq ?_
 refine zE fun k' hk'=>?_
 simp[hh]
 apply hk'
 refine Runs.block ?_
 refine Runs.loopW h (fun (sJ:Int) ρ H n=>match sJ with | i4=>(ρ 0 = .list false (list.map strC)∧ρ 1=str name∧ρ 5=int i4)) (by simp[hh]) ?_
 clear hh
 rintro i4 ρ H n5 K h hh IH6
 refine Runs.seq ?_
 refine zE fun k' hk'=>?_
 obtain⟨len8,elen8,h⟩:=atm h
 have f9:=fun H=>len_list (H:=H) (fr:=false) (f:=strC) kd_25 elen8
 obtain⟨c10,ec10,h⟩:=atm h
 have f11:=ib_lss (k:=.i64) ec10
 simp[hh,f9,f11,-intBin,-lenF]
 apply hk'
 refine Runs.ite (b:=c10) (by simp[hh]) (fun dc10=>?_) (fun dc10=>?_)
 ·replace h:=h.1 dc10
  refine Runs.skip ?_
  refine Runs.seq ?_
  refine Runs.block ?_
  refine zE fun k' hk'=>?_
  obtain⟨hb12,h⟩:=h
  obtain⟨x13,ex13,h⟩:=atm h
  have f14:=fun H=>ix_list (H:=H) (fr:=false) (f:=strC) (k:=.i64) kd_25 (fun _=>rfl) hb12 ex13
  obtain⟨c15,ec15,h⟩:=atm h
  have f16:=sb_eql ec15
  simp[hh,f14,f16,dc10,-indexAddrF,-strBin]
  apply hk'
  refine Runs.ite (b:=c15) (by simp[hh,dc10]) (fun dc15=>?_) (fun dc15=>?_)
  ·replace h:=h.1 dc15
   refine zE fun k' hk'=>?_
   simp[hh,dc10,dc15]
   apply hk'
   exact Runs.ret1 (v:=int i4) Tryz.func97 Tryz.results97 (by simp[hh,dc10,dc15]) (hQ _ _ _ _ (.of (.v _)) ⟨i4,h,rfl⟩)
  replace h:=h.2 dc15
  refine Runs.skip ?_
  refine Runs.inBlock ?_
  refine zF fun k' hk'=>?_
  obtain⟨hb17,h⟩:=h
  obtain⟨v18,ev18,h⟩:=atm h
  have f19:=ib_add hb17 ev18
  simp[hh,f19,dc10,dc15,-intBin]
  apply hk'
  refine IH6 (v18) _ _ _ h (by simp[hh,dc10,dc15])
 replace h:=h.2 dc10
 refine Runs.exit rfl ?_
 refine zE fun k' hk'=>?_
 simp[hh,dc10]
 apply hk'
 exact Runs.ret1 (v:=int (-1)) Tryz.func97 Tryz.results97 (by simp[hh,dc10]) (hQ _ _ _ _ (.of (.v _)) ⟨(-1),h,rfl⟩)
theorem l2At_ok (list:List Str) (name:Str) (hp:l2At_pre list name):PureC Tryz.prog 97 [.list false (list.map strC),str name] (fun r=>r=int (l2At list name)):=(l2At_walk list name _ (l2At_vc list name hp)).mono (by rintro _ ⟨_,rfl,rfl⟩;rfl)
end Go.Ab.Vg
