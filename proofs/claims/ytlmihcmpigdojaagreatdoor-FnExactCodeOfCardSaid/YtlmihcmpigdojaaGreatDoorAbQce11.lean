/- Merged texts (11 of 12) of the proof that ends in Cey: Lmw Nmw Mdw Kjw Cez. -/
import Derived.Test.YtlmihcmpigdojaaGreatDoorAbQce10
/- Walks by program for YtlmihcmpigdojaaGreatDoorAbLm. -/
namespace Go.Ab.Vg
open Go.Proofs
set_option maxRecDepth 100000
set_option linter.unusedSimpArgs false
set_option linter.unusedVariables false
attribute [local simp] Control.cells GNode.cells Wire.cells intC sliceC strC bC pA zB
theorem e40:Ent Tryz.prog 40:=Ent.of Tryz.func40 (by kernel_rfl) rfl
theorem toIntS_walk (a:List Int) (Z:(List Int)→Prop) (h:toIntS_wp a Z):OwnS Tryz.prog 40 [.list false (a.map intC)] (.s [.c]) (fun r=>∃ y:List Int,Z y∧r = .list true (y.map intC)):=by
 unfold toIntS_wp at h
 have sp:Sep noHeap 0 [] []:=Sep.nil (by simp)
 refine OwnS.of Tryz.func40 rfl Tryz.ntmps40 (by simp) fun Q hQ=>?_
 refine Runs.cut (fun ρ H n=>ρ 0 = .list false (a.map intC)∧Sep H n [] []) (by refine⟨by simp ,sp⟩) ?_
 rintro ρ H n1 ⟨hh,sp⟩
 refine zE fun k' hk'=>?_
 simp[hh]
 apply hk'
 refine zE fun k' hk'=>?_
 obtain⟨len2,elen2,h⟩:=atm h
 have f3:=fun H=>len_list (H:=H) (fr:=false) (f:=intC) kd_24 elen2
 obtain⟨hb4,h⟩:=h
 obtain⟨l5,el5,h⟩:=atm h
 simp[hh,f3,hb4,el5,-lenF]
 apply hk'
 refine Runs.cut (fun ρ H n=>∃ (v7:AVal),(ρ 0 = .list false (a.map intC)∧ρ 3=v7)∧Sep H n [oI v7 l5] []) (by refine⟨.arr (n1,7) len2.toNat 0 len2.toNat,by simp[hh,f3,hb4,el5,-lenF],(by rw[el5];exact Sep.addRep (z:=[int 0]) (f:=intC) (k:=len2.toNat) sp (fun H=>by show Row H [.c] [int 0] [int 0] [];simp[Row,Tr]))⟩) ?_
 clear hh
 rintro ρ H n8 ⟨v7,hh,sp⟩
 refine Runs.seq ?_
 refine zE fun k' hk'=>?_
 simp[hh]
 apply hk'
 refine Runs.block ?_
 refine Runs.loopW h (fun (sJ:Int × (List Int)) ρ H n=>match sJ with | (i16,l17)=>∃ (v18:AVal),(ρ 0 = .list false (a.map intC)∧ρ 3=v18∧ρ 4=int i16)∧Sep H n [oI v18 l17] []) (by refine⟨v7,by simp[hh],sp⟩) ?_
 clear hh
 rintro⟨i16,l17⟩ ρ H n19 K h ⟨v18,hh,sp⟩ IH20
 refine Runs.seq ?_
 refine zE fun k' hk'=>?_
 obtain⟨len22,elen22,h⟩:=atm h
 have f23:=fun H=>len_list (H:=H) (fr:=false) (f:=intC) kd_24 elen22
 obtain⟨c24,ec24,h⟩:=atm h
 have f25:=ib_lss (k:=.i64) ec24
 simp[hh,f23,f25,-intBin,-lenF]
 apply hk'
 refine Runs.ite (b:=c24) (by simp[hh]) (fun dc24=>?_) (fun dc24=>?_)
 ·replace h:=h.1 dc24
  refine Runs.skip ?_
  refine Runs.seq ?_
  refine Runs.block ?_
  refine zF fun k' hk'=>?_
  obtain⟨hb26,h⟩:=h
  obtain⟨x27,ex27,h⟩:=atm h
  have f28:=fun H=>ix_list (H:=H) (fr:=false) (f:=intC) (k:=.i64) kd_24 (fun _=>rfl) hb26 ex27
  obtain⟨hb29,h⟩:=h
  obtain⟨id30,hv,mo31,ln32,ni33⟩:=Sep.openF sp (by simp) hb29
  subst hv
  obtain⟨x34,ex34,h⟩:=atm h
  have f35:=fun H (hm:H id30=some ⟨1,l17.map intC⟩)=>ix_arr (H:=H) (k:=.i64) (off:=0) (len:=l17.length) (g:=l17.length) kd_24 hm (by simp) rfl hb29
  have f36:=at_some (q:=i16.toNat) hb29 ex34 rfl
  obtain⟨l37,el37,h⟩:=atm h
  simp[hh,mo31,f28,f35,f36,dc24,-indexAddrF,-storeF]
  refine bind_store (q:=i16.toNat) (news:=intC x27) [] [] sp (by simp) (by simp;omega) (by simp) (by simp[-one1,o1x]) (Fill.v _ Fill.nil) ?_
  rintro H38 sp hfr39
  replace sp:Sep H38 n19 [oI (.arr id30 l17.length 0 l17.length) l37] []:=Sep.st el37 sp
  simp[hh,f28,f35,f36,dc24,-indexAddrF]
  apply hk'
  refine Runs.cut (fun ρ H n=>∃ (v41:AVal),(ρ 0 = .list false (a.map intC)∧ρ 3=v41∧ρ 4=int i16)∧Sep H n [oI v41 l37] []) (by refine⟨.arr id30 l17.length 0 l17.length,by simp[hh,f28,f35,f36,dc24,-indexAddrF],sp⟩) ?_
  clear hh
  rintro ρ H n42 ⟨v41,hh,sp⟩
  refine Runs.inBlock ?_
  refine zF fun k' hk'=>?_
  obtain⟨hb43,h⟩:=h
  obtain⟨v44,ev44,h⟩:=atm h
  have f45:=ib_add hb43 ev44
  simp[hh,f45,-intBin]
  apply hk'
  refine IH20 (v44,l37) _ _ _ h (by refine⟨v41,by simp[hh],sp⟩)
 replace h:=h.2 dc24
 refine Runs.exit rfl ?_
 refine zE fun k' hk'=>?_
 simp[hh,dc24]
 apply hk'
 exact Runs.ret1 (v:=v18) Tryz.func40 Tryz.results40 (by simp[hh,dc24]) (hQ _ _ _ _ (Sep.sub (ids':=[]) sp (by simp)) ⟨l17,h,rfl⟩)
theorem toIntS_ok (a:List Int) (hp:toIntS_pre a):OwnS Tryz.prog 40 [.list false (a.map intC)] (.s [.c]) (fun r=>r = .list true ((toIntS a).map intC)):=(toIntS_walk a _ (toIntS_vc a hp)).mono (by rintro _ ⟨_,rfl,rfl⟩;rfl)
theorem e41:Ent Tryz.prog 41:=Ent.of Tryz.func41 (by kernel_rfl) rfl
theorem toStringS_walk (a:List Str) (Z:(List Str)→Prop) (h:toStringS_wp a Z):OwnS Tryz.prog 41 [.list false (a.map strC)] (.s [.c]) (fun r=>∃ y:List Str,Z y∧r = .list true (y.map strC)):=by
 unfold toStringS_wp at h
 have sp:Sep noHeap 0 [] []:=Sep.nil (by simp)
 refine OwnS.of Tryz.func41 rfl Tryz.ntmps41 (by simp) fun Q hQ=>?_
 refine Runs.cut (fun ρ H n=>ρ 0 = .list false (a.map strC)∧Sep H n [] []) (by refine⟨by simp ,sp⟩) ?_
 rintro ρ H n1 ⟨hh,sp⟩
 refine zE fun k' hk'=>?_
 simp[hh]
 apply hk'
 refine zE fun k' hk'=>?_
 obtain⟨len2,elen2,h⟩:=atm h
 have f3:=fun H=>len_list (H:=H) (fr:=false) (f:=strC) kd_25 elen2
 obtain⟨hb4,h⟩:=h
 obtain⟨l5,el5,h⟩:=atm h
 simp[hh,f3,hb4,el5,-lenF]
 apply hk'
 refine Runs.cut (fun ρ H n=>∃ (v7:AVal),(ρ 0 = .list false (a.map strC)∧ρ 3=v7)∧Sep H n [oS v7 l5] []) (by refine⟨.arr (n1,7) len2.toNat 0 len2.toNat,by simp[hh,f3,hb4,el5,-lenF],(by rw[el5];exact Sep.addRep (z:=[str []]) (f:=strC) (k:=len2.toNat) sp (fun H=>by show Row H [.c] [str []] [str []] [];simp[Row,Tr]))⟩) ?_
 clear hh
 rintro ρ H n8 ⟨v7,hh,sp⟩
 refine Runs.seq ?_
 refine zE fun k' hk'=>?_
 simp[hh]
 apply hk'
 refine Runs.block ?_
 refine Runs.loopW h (fun (sJ:Int × (List Str)) ρ H n=>match sJ with | (i16,l17)=>∃ (v18:AVal),(ρ 0 = .list false (a.map strC)∧ρ 3=v18∧ρ 4=int i16)∧Sep H n [oS v18 l17] []) (by refine⟨v7,by simp[hh],sp⟩) ?_
 clear hh
 rintro⟨i16,l17⟩ ρ H n19 K h ⟨v18,hh,sp⟩ IH20
 refine Runs.seq ?_
 refine zE fun k' hk'=>?_
 obtain⟨len22,elen22,h⟩:=atm h
 have f23:=fun H=>len_list (H:=H) (fr:=false) (f:=strC) kd_25 elen22
 obtain⟨c24,ec24,h⟩:=atm h
 have f25:=ib_lss (k:=.i64) ec24
 simp[hh,f23,f25,-intBin,-lenF]
 apply hk'
 refine Runs.ite (b:=c24) (by simp[hh]) (fun dc24=>?_) (fun dc24=>?_)
 ·replace h:=h.1 dc24
  refine Runs.skip ?_
  refine Runs.seq ?_
  refine Runs.block ?_
  refine zF fun k' hk'=>?_
  obtain⟨hb26,h⟩:=h
  obtain⟨x27,ex27,h⟩:=atm h
  have f28:=fun H=>ix_list (H:=H) (fr:=false) (f:=strC) (k:=.i64) kd_25 (fun _=>rfl) hb26 ex27
  obtain⟨hb29,h⟩:=h
  obtain⟨id30,hv,mo31,ln32,ni33⟩:=Sep.openF sp (by simp) hb29
  subst hv
  obtain⟨x34,ex34,h⟩:=atm h
  have f35:=fun H (hm:H id30=some ⟨1,l17.map strC⟩)=>ix_arr (H:=H) (k:=.i64) (off:=0) (len:=l17.length) (g:=l17.length) kd_25 hm (by simp) rfl hb29
  have f36:=at_some (q:=i16.toNat) hb29 ex34 rfl
  obtain⟨l37,el37,h⟩:=atm h
  simp[hh,mo31,f28,f35,f36,dc24,-indexAddrF,-storeF]
  refine bind_store (q:=i16.toNat) (news:=strC x27) [] [] sp (by simp) (by simp;omega) (by simp) (by simp[-one1,o1x]) (Fill.v _ Fill.nil) ?_
  rintro H38 sp hfr39
  replace sp:Sep H38 n19 [oS (.arr id30 l17.length 0 l17.length) l37] []:=Sep.st el37 sp
  simp[hh,f28,f35,f36,dc24,-indexAddrF]
  apply hk'
  refine Runs.cut (fun ρ H n=>∃ (v41:AVal),(ρ 0 = .list false (a.map strC)∧ρ 3=v41∧ρ 4=int i16)∧Sep H n [oS v41 l37] []) (by refine⟨.arr id30 l17.length 0 l17.length,by simp[hh,f28,f35,f36,dc24,-indexAddrF],sp⟩) ?_
  clear hh
  rintro ρ H n42 ⟨v41,hh,sp⟩
  refine Runs.inBlock ?_
  refine zF fun k' hk'=>?_
  obtain⟨hb43,h⟩:=h
  obtain⟨v44,ev44,h⟩:=atm h
  have f45:=ib_add hb43 ev44
  simp[hh,f45,-intBin]
  apply hk'
  refine IH20 (v44,l37) _ _ _ h (by refine⟨v41,by simp[hh],sp⟩)
 replace h:=h.2 dc24
 refine Runs.exit rfl ?_
 refine zE fun k' hk'=>?_
 simp[hh,dc24]
 apply hk'
 exact Runs.ret1 (v:=v18) Tryz.func41 Tryz.results41 (by simp[hh,dc24]) (hQ _ _ _ _ (Sep.sub (ids':=[]) sp (by simp)) ⟨l17,h,rfl⟩)
theorem toStringS_ok (a:List Str) (hp:toStringS_pre a):OwnS Tryz.prog 41 [.list false (a.map strC)] (.s [.c]) (fun r=>r = .list true ((toStringS a).map strC)):=(toStringS_walk a _ (toStringS_vc a hp)).mono (by rintro _ ⟨_,rfl,rfl⟩;rfl)
theorem e38:Ent Tryz.prog 38:=Ent.of Tryz.func38 (by kernel_rfl) rfl
theorem toControl_walk (a:Control) (Z:Control→Prop) (h:toControl_wp a Z):PureC Tryz.prog 38 [.agg [str a.name,int a.ports,int a.kind]] (fun r=>∃ y:Control,Z y∧r = .agg [str y.name,int y.ports,int y.kind]):=by
 unfold toControl_wp at h
 refine PureC.of Tryz.func38 rfl Tryz.ntmps38 (by simp) fun Q hQ=>?_
 refine Runs.cut (fun ρ H n=>ρ 0 = .agg [str a.name,int a.ports,int a.kind]) (by simp[]) ?_
 rintro ρ H n1 hh
 refine zE fun k' hk'=>?_
 simp[hh]
 apply hk'
 refine Runs.cut (fun ρ H n=>(ρ 1=pA n1 1∧ρ 2=pA (n1+1) 2)∧H (n1,1)=some ⟨3,[[str a.name,int a.ports,int a.kind]]⟩∧H (n1+1,2)=some ⟨3,[[str [],int 0,int 0]]⟩) (by refine⟨?_,?_,?_⟩<;>simp[hh]) ?_
 clear hh
 rintro ρ H n4 ⟨hh,m1_1,m2_2⟩
 refine zE fun k' hk'=>?_
 simp[hh,m1_1,m2_2]
 apply hk'
 refine Runs.cut (fun ρ H n=>(ρ 1=pA n1 1∧ρ 2=pA (n1+1) 2∧ρ 3=pA n4 3)∧H (n1,1)=some ⟨3,[[str a.name,int a.ports,int a.kind]]⟩∧H (n1+1,2)=some ⟨3,[[str [],int 0,int 0]]⟩∧H (n4,3)=some ⟨3,[[str [],int 0,int 0]]⟩) (by refine⟨?_,?_,?_,?_⟩<;>simp[hh,m1_1,m2_2]) ?_
 clear hh m1_1 m2_2
 rintro ρ H n6 ⟨hh,m1_1,m2_2,m3_4⟩
 refine zE fun k' hk'=>?_
 simp[hh,m1_1,m2_2,m3_4]
 apply hk'
 refine Runs.cut (fun ρ H n=>(ρ 1=pA n1 1∧ρ 2=pA (n1+1) 2∧ρ 3=pA n4 3)∧H (n1,1)=some ⟨3,[[str a.name,int a.ports,int a.kind]]⟩∧H (n1+1,2)=some ⟨3,[[str [],int 0,int 0]]⟩∧H (n4,3)=some ⟨3,[[str a.name,int 0,int 0]]⟩) (by refine⟨?_,?_,?_,?_⟩<;>simp[hh,m1_1,m2_2,m3_4]) ?_
 clear hh m1_1 m2_2 m3_4
 rintro ρ H n7 ⟨hh,m1_1,m2_2,m3_4⟩
 refine zE fun k' hk'=>?_
 simp[hh,m1_1,m2_2,m3_4]
 apply hk'
 refine Runs.cut (fun ρ H n=>(ρ 1=pA n1 1∧ρ 2=pA (n1+1) 2∧ρ 3=pA n4 3)∧H (n1,1)=some ⟨3,[[str a.name,int a.ports,int a.kind]]⟩∧H (n1+1,2)=some ⟨3,[[str [],int 0,int 0]]⟩∧H (n4,3)=some ⟨3,[[str a.name,int a.ports,int 0]]⟩) (by refine⟨?_,?_,?_,?_⟩<;>simp[hh,m1_1,m2_2,m3_4]) ?_
 clear hh m1_1 m2_2 m3_4
 rintro ρ H n8 ⟨hh,m1_1,m2_2,m3_4⟩
 refine zE fun k' hk'=>?_
 simp[hh,m1_1,m2_2,m3_4]
 apply hk'
 refine Runs.cut (fun ρ H n=>(ρ 2=pA (n1+1) 2∧ρ 3=pA n4 3)∧H (n1+1,2)=some ⟨3,[[str [],int 0,int 0]]⟩∧H (n4,3)=some ⟨3,[[str a.name,int a.ports,int a.kind]]⟩) (by refine⟨?_,?_,?_⟩<;>simp[hh,m1_1,m2_2,m3_4]) ?_
 clear hh m1_1 m2_2 m3_4
 rintro ρ H n9 ⟨hh,m2_2,m3_4⟩
 refine zE fun k' hk'=>?_
 simp[hh,m2_2,m3_4]
 apply hk'
 refine Runs.cut (fun ρ H n=>ρ 2=pA (n1+1) 2∧H (n1+1,2)=some ⟨3,[[str a.name,int a.ports,int a.kind]]⟩) (by refine⟨?_,?_⟩<;>simp[hh,m2_2,m3_4]) ?_
 clear hh m2_2 m3_4
 rintro ρ H n10 ⟨hh,m2_2⟩
 exact Runs.res1 Ty_ok (v:=.agg [str a.name,int a.ports,int a.kind]) Tryz.func38 Tryz.results38 (by simp[hh,m2_2,resA]) (hQ _ _ _ _ (.of (.aggL (.cons (.v _) (.cons (.v _) (.cons (.v _) .nil))))) ⟨a,h,rfl⟩)
theorem toControl_ok (a:Control)  : PureC Tryz.prog 38 [.agg [str a.name,int a.ports,int a.kind]] (fun r=>r = .agg [str ((toControl a).name),int ((toControl a).ports),int ((toControl a).kind)]):=(toControl_walk a _ (toControl_vc a )).mono (by rintro _ ⟨_,rfl,rfl⟩;rfl)
theorem e11:Ent Tryz.prog 11:=Ent.of Tryz.func11 (by kernel_rfl) rfl
theorem toControlS_walk (a:List Control) (Z:(List Control)→Prop) (h:toControlS_wp a Z):OwnS Tryz.prog 11 [.list false (a.map Control.cells)] (.s [.c,.c,.c]) (fun r=>∃ y:List Control,Z y∧r = .list true (y.map Control.cells)):=by
 unfold toControlS_wp at h
 have sp:Sep noHeap 0 [] []:=Sep.nil (by simp)
 refine OwnS.of Tryz.func11 rfl Tryz.ntmps11 (by simp) fun Q hQ=>?_
 refine Runs.cut (fun ρ H n=>ρ 0 = .list false (a.map Control.cells)∧Sep H n [] []) (by refine⟨by simp ,sp⟩) ?_
 rintro ρ H n1 ⟨hh,sp⟩
 refine zE fun k' hk'=>?_
 simp[hh]
 apply hk'
 refine zE fun k' hk'=>?_
 obtain⟨len2,elen2,h⟩:=atm h
 have f3:=fun H=>len_list (H:=H) (fr:=false) (f:=Control.cells) kd_22 elen2
 obtain⟨hb4,h⟩:=h
 obtain⟨l5,el5,h⟩:=atm h
 simp[hh,f3,hb4,el5,-lenF]
 apply hk'
 refine Runs.cut (fun ρ H n=>∃ (v7:AVal),(ρ 0 = .list false (a.map Control.cells)∧ρ 3=v7)∧Sep H n [oE [.c,.c,.c] Control.cells v7 l5] []) (by refine⟨.arr (n1,7) len2.toNat 0 len2.toNat,by simp[hh,f3,hb4,el5,-lenF],(by rw[el5];exact Sep.addRep (z:=[str [],int 0,int 0]) (f:=Control.cells) (k:=len2.toNat) sp (fun H=>by show Row H [.c,.c,.c] [str [],int 0,int 0] [str [],int 0,int 0] [];simp[Row,Tr]))⟩) ?_
 clear hh
 rintro ρ H n8 ⟨v7,hh,sp⟩
 refine Runs.seq ?_
 refine zE fun k' hk'=>?_
 simp[hh]
 apply hk'
 refine Runs.block ?_
 refine Runs.loopW h (fun (sJ:Int × (List Control)) ρ H n=>match sJ with | (i16,l17)=>∃ (v18:AVal),(ρ 0 = .list false (a.map Control.cells)∧ρ 3=v18∧ρ 4=int i16)∧Sep H n [oE [.c,.c,.c] Control.cells v18 l17] []) (by refine⟨v7,by simp[hh],sp⟩) ?_
 clear hh
 rintro⟨i16,l17⟩ ρ H n19 K h ⟨v18,hh,sp⟩ IH20
 refine Runs.seq ?_
 refine zE fun k' hk'=>?_
 obtain⟨len22,elen22,h⟩:=atm h
 have f23:=fun H=>len_list (H:=H) (fr:=false) (f:=Control.cells) kd_22 elen22
 obtain⟨c24,ec24,h⟩:=atm h
 have f25:=ib_lss (k:=.i64) ec24
 simp[hh,f23,f25,-intBin,-lenF]
 apply hk'
 refine Runs.ite (b:=c24) (by simp[hh]) (fun dc24=>?_) (fun dc24=>?_)
 ·replace h:=h.1 dc24
  refine Runs.skip ?_
  refine Runs.seq ?_
  refine Runs.block ?_
  refine zF fun k' hk'=>?_
  obtain⟨hb26,h⟩:=h
  obtain⟨x27,ex27,h⟩:=atm h
  have f28:=fun H=>ix_list (H:=H) (fr:=false) (f:=Control.cells) (k:=.i64) kd_22 (fun _=>rfl) hb26 ex27
  obtain⟨r29,er29,h⟩:=atm h
  simp[hh,f28,dc24,-indexAddrF]
  refine RunK.callA Ty_ok (toControl_ok x27 ) e38 (.cons (ArgOk.agg (.cons (.v _ _ _) (.cons (.v _ _ _) (.cons (.v _ _ _) .nil)))) .nil) (by decide) (by decide) rfl (by simp[hh,f28,dc24,-indexAddrF]) ?_
  rintro _ rfl
  rw[← er29]
  obtain⟨hb30,h⟩:=h
  obtain⟨id31,hv,mo32,ln33,ni34⟩:=Sep.openF sp (by simp) hb30
  subst hv
  obtain⟨x35,ex35,h⟩:=atm h
  have f36:=fun H (hm:H id31=some ⟨3,l17.map Control.cells⟩)=>ix_arr (H:=H) (k:=.i64) (off:=0) (len:=l17.length) (g:=l17.length) kd_33 hm (by simp) rfl hb30
  have f37:=at_some (q:=i16.toNat) hb30 ex35 rfl
  obtain⟨l38,el38,h⟩:=atm h
  simp[hh,mo32,f28,f36,f37,dc24,-indexAddrF,-storeF]
  refine bind_store (q:=i16.toNat) (news:=Control.cells r29) [] [] sp (by simp) (by simp;omega) (by simp) (by simp[-one1,o1x]) (Fill.v _ (Fill.v _ (Fill.v _ Fill.nil))) ?_
  rintro H39 sp hfr40
  replace sp:Sep H39 n19 [oE [.c,.c,.c] Control.cells (.arr id31 l17.length 0 l17.length) l38] []:=Sep.st el38 sp
  simp[hh,f28,f36,f37,dc24,-indexAddrF]
  apply hk'
  refine Runs.cut (fun ρ H n=>∃ (v42:AVal),(ρ 0 = .list false (a.map Control.cells)∧ρ 3=v42∧ρ 4=int i16)∧Sep H n [oE [.c,.c,.c] Control.cells v42 l38] []) (by refine⟨.arr id31 l17.length 0 l17.length,by simp[hh,f28,f36,f37,dc24,-indexAddrF],sp⟩) ?_
  clear hh
  rintro ρ H n43 ⟨v42,hh,sp⟩
  refine Runs.inBlock ?_
  refine zF fun k' hk'=>?_
  obtain⟨hb44,h⟩:=h
  obtain⟨v45,ev45,h⟩:=atm h
  have f46:=ib_add hb44 ev45
  simp[hh,f46,-intBin]
  apply hk'
  refine IH20 (v45,l38) _ _ _ h (by refine⟨v42,by simp[hh],sp⟩)
 replace h:=h.2 dc24
 refine Runs.exit rfl ?_
 refine zE fun k' hk'=>?_
 simp[hh,dc24]
 apply hk'
 exact Runs.ret1 (v:=v18) Tryz.func11 Tryz.results11 (by simp[hh,dc24]) (hQ _ _ _ _ (Sep.sub (ids':=[]) sp (by simp)) ⟨l17,h,rfl⟩)
theorem toControlS_ok (a:List Control) (hp:toControlS_pre a):OwnS Tryz.prog 11 [.list false (a.map Control.cells)] (.s [.c,.c,.c]) (fun r=>r = .list true ((toControlS a).map Control.cells)):=(toControlS_walk a _ (toControlS_vc a hp)).mono (by rintro _ ⟨_,rfl,rfl⟩;rfl)
theorem e80:Ent Tryz.prog 80:=Ent.of Tryz.func80 (by kernel_rfl) rfl
theorem toWire_walk (a:Wire) (Z:Wire→Prop) (h:toWire_wp a Z):PureC Tryz.prog 80 [.agg [str a.name,int a.link]] (fun r=>∃ y:Wire,Z y∧r = .agg [str y.name,int y.link]):=by
 unfold toWire_wp at h
 refine PureC.of Tryz.func80 rfl Tryz.ntmps80 (by simp) fun Q hQ=>?_
 refine Runs.cut (fun ρ H n=>ρ 0 = .agg [str a.name,int a.link]) (by simp[]) ?_
 rintro ρ H n1 hh
 refine zE fun k' hk'=>?_
 simp[hh]
 apply hk'
 refine Runs.cut (fun ρ H n=>(ρ 1=pA n1 1∧ρ 2=pA (n1+1) 2)∧H (n1,1)=some ⟨2,[[str a.name,int a.link]]⟩∧H (n1+1,2)=some ⟨2,[[str [],int 0]]⟩) (by refine⟨?_,?_,?_⟩<;>simp[hh]) ?_
 clear hh
 rintro ρ H n4 ⟨hh,m1_1,m2_2⟩
 refine zE fun k' hk'=>?_
 simp[hh,m1_1,m2_2]
 apply hk'
 refine Runs.cut (fun ρ H n=>(ρ 1=pA n1 1∧ρ 2=pA (n1+1) 2∧ρ 3=pA n4 3)∧H (n1,1)=some ⟨2,[[str a.name,int a.link]]⟩∧H (n1+1,2)=some ⟨2,[[str [],int 0]]⟩∧H (n4,3)=some ⟨2,[[str [],int 0]]⟩) (by refine⟨?_,?_,?_,?_⟩<;>simp[hh,m1_1,m2_2]) ?_
 clear hh m1_1 m2_2
 rintro ρ H n6 ⟨hh,m1_1,m2_2,m3_4⟩
 refine zE fun k' hk'=>?_
 simp[hh,m1_1,m2_2,m3_4]
 apply hk'
 refine Runs.cut (fun ρ H n=>(ρ 1=pA n1 1∧ρ 2=pA (n1+1) 2∧ρ 3=pA n4 3)∧H (n1,1)=some ⟨2,[[str a.name,int a.link]]⟩∧H (n1+1,2)=some ⟨2,[[str [],int 0]]⟩∧H (n4,3)=some ⟨2,[[str a.name,int 0]]⟩) (by refine⟨?_,?_,?_,?_⟩<;>simp[hh,m1_1,m2_2,m3_4]) ?_
 clear hh m1_1 m2_2 m3_4
 rintro ρ H n7 ⟨hh,m1_1,m2_2,m3_4⟩
 refine zE fun k' hk'=>?_
 simp[hh,m1_1,m2_2,m3_4]
 apply hk'
 refine Runs.cut (fun ρ H n=>(ρ 2=pA (n1+1) 2∧ρ 3=pA n4 3)∧H (n1+1,2)=some ⟨2,[[str [],int 0]]⟩∧H (n4,3)=some ⟨2,[[str a.name,int a.link]]⟩) (by refine⟨?_,?_,?_⟩<;>simp[hh,m1_1,m2_2,m3_4]) ?_
 clear hh m1_1 m2_2 m3_4
 rintro ρ H n8 ⟨hh,m2_2,m3_4⟩
 refine zE fun k' hk'=>?_
 simp[hh,m2_2,m3_4]
 apply hk'
 refine Runs.cut (fun ρ H n=>ρ 2=pA (n1+1) 2∧H (n1+1,2)=some ⟨2,[[str a.name,int a.link]]⟩) (by refine⟨?_,?_⟩<;>simp[hh,m2_2,m3_4]) ?_
 clear hh m2_2 m3_4
 rintro ρ H n9 ⟨hh,m2_2⟩
 exact Runs.res1 Ty_ok (v:=.agg [str a.name,int a.link]) Tryz.func80 Tryz.results80 (by simp[hh,m2_2,resA]) (hQ _ _ _ _ (.of (.aggL (.cons (.v _) (.cons (.v _) .nil)))) ⟨a,h,rfl⟩)
theorem toWire_ok (a:Wire)  : PureC Tryz.prog 80 [.agg [str a.name,int a.link]] (fun r=>r = .agg [str ((toWire a).name),int ((toWire a).link)]):=(toWire_walk a _ (toWire_vc a )).mono (by rintro _ ⟨_,rfl,rfl⟩;rfl)
theorem e42:Ent Tryz.prog 42:=Ent.of Tryz.func42 (by kernel_rfl) rfl
theorem toWireS_walk (a:List Wire) (Z:(List Wire)→Prop) (h:toWireS_wp a Z):OwnS Tryz.prog 42 [.list false (a.map Wire.cells)] (.s [.c,.c]) (fun r=>∃ y:List Wire,Z y∧r = .list true (y.map Wire.cells)):=by
 unfold toWireS_wp at h
 have sp:Sep noHeap 0 [] []:=Sep.nil (by simp)
 refine OwnS.of Tryz.func42 rfl Tryz.ntmps42 (by simp) fun Q hQ=>?_
 refine Runs.cut (fun ρ H n=>ρ 0 = .list false (a.map Wire.cells)∧Sep H n [] []) (by refine⟨by simp ,sp⟩) ?_
 rintro ρ H n1 ⟨hh,sp⟩
 refine zE fun k' hk'=>?_
 simp[hh]
 apply hk'
 refine zE fun k' hk'=>?_
 obtain⟨len2,elen2,h⟩:=atm h
 have f3:=fun H=>len_list (H:=H) (fr:=false) (f:=Wire.cells) kd_26 elen2
 obtain⟨hb4,h⟩:=h
 obtain⟨l5,el5,h⟩:=atm h
 simp[hh,f3,hb4,el5,-lenF]
 apply hk'
 refine Runs.cut (fun ρ H n=>∃ (v7:AVal),(ρ 0 = .list false (a.map Wire.cells)∧ρ 3=v7)∧Sep H n [oW v7 l5] []) (by refine⟨.arr (n1,7) len2.toNat 0 len2.toNat,by simp[hh,f3,hb4,el5,-lenF],(by rw[el5];exact Sep.addRep (z:=[str [],int 0]) (f:=Wire.cells) (k:=len2.toNat) sp (fun H=>by show Row H [.c,.c] [str [],int 0] [str [],int 0] [];simp[Row,Tr]))⟩) ?_
 clear hh
 rintro ρ H n8 ⟨v7,hh,sp⟩
 refine Runs.seq ?_
 refine zE fun k' hk'=>?_
 simp[hh]
 apply hk'
 refine Runs.block ?_
 refine Runs.loopW h (fun (sJ:Int × (List Wire)) ρ H n=>match sJ with | (i16,l17)=>∃ (v18:AVal),(ρ 0 = .list false (a.map Wire.cells)∧ρ 3=v18∧ρ 4=int i16)∧Sep H n [oW v18 l17] []) (by refine⟨v7,by simp[hh],sp⟩) ?_
 clear hh
 rintro⟨i16,l17⟩ ρ H n19 K h ⟨v18,hh,sp⟩ IH20
 refine Runs.seq ?_
 refine zE fun k' hk'=>?_
 obtain⟨len22,elen22,h⟩:=atm h
 have f23:=fun H=>len_list (H:=H) (fr:=false) (f:=Wire.cells) kd_26 elen22
 obtain⟨c24,ec24,h⟩:=atm h
 have f25:=ib_lss (k:=.i64) ec24
 simp[hh,f23,f25,-intBin,-lenF]
 apply hk'
 refine Runs.ite (b:=c24) (by simp[hh]) (fun dc24=>?_) (fun dc24=>?_)
 ·replace h:=h.1 dc24
  refine Runs.skip ?_
  refine Runs.seq ?_
  refine Runs.block ?_
  refine zF fun k' hk'=>?_
  obtain⟨hb26,h⟩:=h
  obtain⟨x27,ex27,h⟩:=atm h
  have f28:=fun H=>ix_list (H:=H) (fr:=false) (f:=Wire.cells) (k:=.i64) kd_26 (fun _=>rfl) hb26 ex27
  obtain⟨r29,er29,h⟩:=atm h
  simp[hh,f28,dc24,-indexAddrF]
  refine RunK.callA Ty_ok (toWire_ok x27 ) e80 (.cons (ArgOk.agg (.cons (.v _ _ _) (.cons (.v _ _ _) .nil))) .nil) (by decide) (by decide) rfl (by simp[hh,f28,dc24,-indexAddrF]) ?_
  rintro _ rfl
  rw[← er29]
  obtain⟨hb30,h⟩:=h
  obtain⟨id31,hv,mo32,ln33,ni34⟩:=Sep.openF sp (by simp) hb30
  subst hv
  obtain⟨x35,ex35,h⟩:=atm h
  have f36:=fun H (hm:H id31=some ⟨2,l17.map Wire.cells⟩)=>ix_arr (H:=H) (k:=.i64) (off:=0) (len:=l17.length) (g:=l17.length) kd_36 hm (by simp) rfl hb30
  have f37:=at_some (q:=i16.toNat) hb30 ex35 rfl
  obtain⟨l38,el38,h⟩:=atm h
  simp[hh,mo32,f28,f36,f37,dc24,-indexAddrF,-storeF]
  refine bind_store (q:=i16.toNat) (news:=Wire.cells r29) [] [] sp (by simp) (by simp;omega) (by simp) (by simp[-one1,o1x]) (Fill.v _ (Fill.v _ Fill.nil)) ?_
  rintro H39 sp hfr40
  replace sp:Sep H39 n19 [oW (.arr id31 l17.length 0 l17.length) l38] []:=Sep.st el38 sp
  simp[hh,f28,f36,f37,dc24,-indexAddrF]
  apply hk'
  refine Runs.cut (fun ρ H n=>∃ (v42:AVal),(ρ 0 = .list false (a.map Wire.cells)∧ρ 3=v42∧ρ 4=int i16)∧Sep H n [oW v42 l38] []) (by refine⟨.arr id31 l17.length 0 l17.length,by simp[hh,f28,f36,f37,dc24,-indexAddrF],sp⟩) ?_
  clear hh
  rintro ρ H n43 ⟨v42,hh,sp⟩
  refine Runs.inBlock ?_
  refine zF fun k' hk'=>?_
  obtain⟨hb44,h⟩:=h
  obtain⟨v45,ev45,h⟩:=atm h
  have f46:=ib_add hb44 ev45
  simp[hh,f46,-intBin]
  apply hk'
  refine IH20 (v45,l38) _ _ _ h (by refine⟨v42,by simp[hh],sp⟩)
 replace h:=h.2 dc24
 refine Runs.exit rfl ?_
 refine zE fun k' hk'=>?_
 simp[hh,dc24]
 apply hk'
 exact Runs.ret1 (v:=v18) Tryz.func42 Tryz.results42 (by simp[hh,dc24]) (hQ _ _ _ _ (Sep.sub (ids':=[]) sp (by simp)) ⟨l17,h,rfl⟩)
theorem toWireS_ok (a:List Wire) (hp:toWireS_pre a):OwnS Tryz.prog 42 [.list false (a.map Wire.cells)] (.s [.c,.c]) (fun r=>r = .list true ((toWireS a).map Wire.cells)):=(toWireS_walk a _ (toWireS_vc a hp)).mono (by rintro _ ⟨_,rfl,rfl⟩;rfl)
theorem e79:Ent Tryz.prog 79:=Ent.of Tryz.func79 (by kernel_rfl) rfl
theorem toNode_walk (a:GNode) (Z:GNode→Prop) (h:toNode_wp a Z):OwnS Tryz.prog 79 [.agg [int a.control,int a.parent,.list false (a.links.map intC)]] (.a [.c,.c,.s [.c]]) (fun r=>∃ y:GNode,Z y∧r = .agg [int y.control,int y.parent,.list true (y.links.map intC)]):=by
 unfold toNode_wp at h
 have sp:Sep noHeap 0 [] []:=Sep.nil (by simp)
 refine OwnS.of Tryz.func79 rfl Tryz.ntmps79 (by simp) fun Q hQ=>?_
 refine Runs.cut (fun ρ H n=>ρ 0 = .agg [int a.control,int a.parent,.list false (a.links.map intC)]∧Sep H n [] []) (by refine⟨by simp ,sp⟩) ?_
 rintro ρ H n1 ⟨hh,sp⟩
 refine zE fun k' hk'=>?_
 simp[hh]
 apply hk'
 refine Runs.cut (fun ρ H n=>((ρ 1=pA n1 1∧ρ 2=pA (n1+1) 2)∧H (n1,1)=some ⟨3,[[int a.control,int a.parent,.list false (a.links.map intC)]]⟩∧H (n1+1,2)=some ⟨3,[[int 0,int 0,.v (.slice none 0 0)]]⟩)∧Sep H n [] [(n1+1,2),(n1,1)]) (by refine⟨by simp[hh],sp.var.var⟩) ?_
 clear hh
 rintro ρ H n4 ⟨⟨hh,m1_1,m2_2⟩,sp⟩
 refine zE fun k' hk'=>?_
 simp[hh,m1_1,m2_2]
 apply hk'
 refine Runs.cut (fun ρ H n=>((ρ 1=pA n1 1∧ρ 2=pA (n1+1) 2∧ρ 3=pA n4 3)∧H (n1,1)=some ⟨3,[[int a.control,int a.parent,.list false (a.links.map intC)]]⟩∧H (n1+1,2)=some ⟨3,[[int 0,int 0,.v (.slice none 0 0)]]⟩∧H (n4,3)=some ⟨3,[[int 0,int 0,.v (.slice none 0 0)]]⟩)∧Sep H n [] [(n4,3),(n1+1,2),(n1,1)]) (by refine⟨by simp[hh,m1_1,m2_2],sp.var⟩) ?_
 clear hh m1_1 m2_2
 rintro ρ H n6 ⟨⟨hh,m1_1,m2_2,m3_4⟩,sp⟩
 refine zE fun k' hk'=>?_
 simp[hh,m1_1,m2_2,m3_4]
 apply hk'
 refine Runs.cut (fun ρ H n=>((ρ 1=pA n1 1∧ρ 2=pA (n1+1) 2∧ρ 3=pA n4 3)∧H (n1,1)=some ⟨3,[[int a.control,int a.parent,.list false (a.links.map intC)]]⟩∧H (n1+1,2)=some ⟨3,[[int 0,int 0,.v (.slice none 0 0)]]⟩∧H (n4,3)=some ⟨3,[[int a.control,int 0,.v (.slice none 0 0)]]⟩)∧Sep H n [] [(n4,3),(n1+1,2),(n1,1)]) (by refine⟨by simp[hh,m1_1,m2_2,m3_4],(Sep.setVar (w:=(n4,3)) sp (by simp))⟩) ?_
 clear hh m1_1 m2_2 m3_4
 rintro ρ H n7 ⟨⟨hh,m1_1,m2_2,m3_4⟩,sp⟩
 refine zE fun k' hk'=>?_
 simp[hh,m1_1,m2_2,m3_4]
 apply hk'
 refine Runs.cut (fun ρ H n=>((ρ 1=pA n1 1∧ρ 2=pA (n1+1) 2∧ρ 3=pA n4 3)∧H (n1,1)=some ⟨3,[[int a.control,int a.parent,.list false (a.links.map intC)]]⟩∧H (n1+1,2)=some ⟨3,[[int 0,int 0,.v (.slice none 0 0)]]⟩∧H (n4,3)=some ⟨3,[[int a.control,int a.parent,.v (.slice none 0 0)]]⟩)∧Sep H n [] [(n4,3),(n1+1,2),(n1,1)]) (by refine⟨by simp[hh,m1_1,m2_2,m3_4],(Sep.setVar (w:=(n4,3)) sp (by simp))⟩) ?_
 clear hh m1_1 m2_2 m3_4
 rintro ρ H n8 ⟨⟨hh,m1_1,m2_2,m3_4⟩,sp⟩
 refine zE fun k' hk'=>?_
 obtain⟨hb9,h⟩:=h
 obtain⟨r10,er10,h⟩:=atm h
 simp[hh,m1_1,m2_2,m3_4]
 refine RunK.callW Ty_ok (toIntS_ok a.links hb9) e40 (.cons (argI false a.links) .nil) sp (by decide) (by decide) rfl (by simp[hh,m1_1,m2_2,m3_4]) ?_
 rintro v11 H12 n13 _ sp rfl hle15 hfr14
 rw[← er10] at sp
 have m1_1:=(hfr14 _ (by simp)).trans m1_1
 have m2_2:=(hfr14 _ (by simp)).trans m2_2
 have m3_4:=(hfr14 _ (by simp)).trans m3_4
 have f18:=Sep.oc sp
 simp[hh,m1_1,m2_2,m3_4,f18,-cellsA,-one1,cAx,o1x]
 apply hk'
 refine Runs.cut (fun ρ H n=>∃ (v19:AVal),((ρ 2=pA (n1+1) 2∧ρ 3=pA n4 3)∧H (n1+1,2)=some ⟨3,[[int 0,int 0,.v (.slice none 0 0)]]⟩∧H (n4,3)=some ⟨3,[[int a.control,int a.parent,v19]]⟩)∧Sep H n [oI v19 r10] [(n4,3),(n1+1,2)]) (by refine⟨v11,by simp[hh,m1_1,m2_2,m3_4,f18,-cellsA,-one1,cAx,o1x],(Sep.sub (Sep.setVar (w:=(n4,3)) sp (by simp)) (by simp +contextual))⟩) ?_
 clear hh m1_1 m2_2 m3_4
 rintro ρ H n20 ⟨v19,⟨hh,m2_2,m3_4⟩,sp⟩
 refine zE fun k' hk'=>?_
 have f21:=Sep.oc sp
 simp[hh,m2_2,m3_4,f21,-cellsA,-one1,cAx,o1x]
 apply hk'
 refine Runs.cut (fun ρ H n=>∃ (v22:AVal),(ρ 2=pA (n1+1) 2∧H (n1+1,2)=some ⟨3,[[int a.control,int a.parent,v22]]⟩)∧Sep H n [oI v22 r10] [(n1+1,2)]) (by refine⟨v19,by simp[hh,m2_2,m3_4,f21,-cellsA,-one1,cAx,o1x],(Sep.sub (Sep.setVar (w:=(n1+1,2)) sp (by simp)) (by simp +contextual))⟩) ?_
 clear hh m2_2 m3_4
 rintro ρ H n23 ⟨v22,⟨hh,m2_2⟩,sp⟩
 exact Runs.res1 Ty_ok (v:=.agg [int a.control,int a.parent,v22]) Tryz.func79 Tryz.results79 (by simp[hh,m2_2,resA]) (hQ _ _ _ _ (Sep.sub (ids':=[]) (Sep.pack (Fill.v _ (Fill.v _ (Fill.own Fill.nil))) sp) (by simp)) ⟨(GNode.mk a.control a.parent r10),h,rfl⟩)
theorem toNode_ok (a:GNode) (hp:toNode_pre a):OwnS Tryz.prog 79 [.agg [int a.control,int a.parent,.list false (a.links.map intC)]] (.a [.c,.c,.s [.c]]) (fun r=>r = .agg [int ((toNode a).control),int ((toNode a).parent),.list true (((toNode a).links).map intC)]):=(toNode_walk a _ (toNode_vc a hp)).mono (by rintro _ ⟨_,rfl,rfl⟩;rfl)
theorem e39:Ent Tryz.prog 39:=Ent.of Tryz.func39 (by kernel_rfl) rfl
theorem toNodeS_walk (a:List GNode) (Z:(List GNode)→Prop) (h:toNodeS_wp a Z):OwnS Tryz.prog 39 [.list false (a.map (GNode.cells false))] (.s [.c,.c,.s [.c]]) (fun r=>∃ y:List GNode,Z y∧r = .list true (y.map (GNode.cells true))):=by
 unfold toNodeS_wp at h
 have sp:Sep noHeap 0 [] []:=Sep.nil (by simp)
 refine OwnS.of Tryz.func39 rfl Tryz.ntmps39 (by simp) fun Q hQ=>?_
 refine Runs.cut (fun ρ H n=>ρ 0 = .list false (a.map (GNode.cells false))∧Sep H n [] []) (by refine⟨by simp ,sp⟩) ?_
 rintro ρ H n1 ⟨hh,sp⟩
 refine zE fun k' hk'=>?_
 simp[hh]
 apply hk'
 refine zE fun k' hk'=>?_
 obtain⟨len2,elen2,h⟩:=atm h
 have f3:=fun H=>len_list (H:=H) (fr:=false) (f:=(GNode.cells false)) kd_23 elen2
 obtain⟨hb4,h⟩:=h
 obtain⟨l5,el5,h⟩:=atm h
 simp[hh,f3,hb4,el5,-lenF]
 apply hk'
 refine Runs.cut (fun ρ H n=>∃ (v7:AVal),(ρ 0 = .list false (a.map (GNode.cells false))∧ρ 3=v7)∧Sep H n [oN v7 l5] []) (by refine⟨.arr (n1,7) len2.toNat 0 len2.toNat,by simp[hh,f3,hb4,el5,-lenF],(by rw[el5];exact Sep.addRep (z:=[int 0,int 0,.v (.slice none 0 0)]) (f:=(GNode.cells true)) (k:=len2.toNat) sp (fun H=>by show Row H [.c,.c,.s [.c]] [int 0,int 0,.v (.slice none 0 0)] [int 0,int 0,.list true []] [];simp[Row,Tr]))⟩) ?_
 clear hh
 rintro ρ H n8 ⟨v7,hh,sp⟩
 refine Runs.seq ?_
 refine zE fun k' hk'=>?_
 simp[hh]
 apply hk'
 refine Runs.block ?_
 refine Runs.loopW h (fun (sJ:Int × (List GNode)) ρ H n=>match sJ with | (i16,l17)=>∃ (v18:AVal),(ρ 0 = .list false (a.map (GNode.cells false))∧ρ 3=v18∧ρ 4=int i16)∧Sep H n [oN v18 l17] []) (by refine⟨v7,by simp[hh],sp⟩) ?_
 clear hh
 rintro⟨i16,l17⟩ ρ H n19 K h ⟨v18,hh,sp⟩ IH20
 refine Runs.seq ?_
 refine zE fun k' hk'=>?_
 obtain⟨len22,elen22,h⟩:=atm h
 have f23:=fun H=>len_list (H:=H) (fr:=false) (f:=(GNode.cells false)) kd_23 elen22
 obtain⟨c24,ec24,h⟩:=atm h
 have f25:=ib_lss (k:=.i64) ec24
 simp[hh,f23,f25,-intBin,-lenF]
 apply hk'
 refine Runs.ite (b:=c24) (by simp[hh]) (fun dc24=>?_) (fun dc24=>?_)
 ·replace h:=h.1 dc24
  refine Runs.skip ?_
  refine Runs.seq ?_
  refine Runs.block ?_
  refine zF fun k' hk'=>?_
  obtain⟨hb26,h⟩:=h
  obtain⟨x27,ex27,h⟩:=atm h
  have f28:=fun H=>ix_list (H:=H) (fr:=false) (f:=(GNode.cells false)) (k:=.i64) kd_23 (fun _=>rfl) hb26 ex27
  obtain⟨hb29,h⟩:=h
  obtain⟨r30,er30,h⟩:=atm h
  simp[hh,f28,dc24,-indexAddrF]
  refine RunK.callW Ty_ok (toNode_ok x27 hb29) e79 (.cons (ArgOk.agg (.cons (.v _ _ _) (.cons (.v _ _ _) (.cons (argI false x27.links) .nil)))) .nil) sp (by decide) (by decide) rfl (by simp[hh,f28,dc24,-indexAddrF]) ?_
  rintro v31 H32 n33 _ sp rfl hle35 hfr34
  rw[← er30] at sp
  replace sp:=Sep.unpack sp
  obtain⟨L40,hv,hl41,sp⟩:=sp
  subst hv
  obtain⟨v37,v38,v39,hv⟩:=len3 (by simpa using hl41)
  subst hv
  simp only[zip3,List.cons_append,List.nil_append] at sp
  replace sp:=Sep.scalar sp
  obtain⟨hv,sp⟩:=sp
  subst hv
  replace sp:=Sep.scalar sp
  obtain⟨hv,sp⟩:=sp
  subst hv
  replace sp:=Sep.rot sp
  try simp only[List.cons_append,List.nil_append,List.append_assoc] at sp
  obtain⟨hb43,h⟩:=h
  obtain⟨x44,ex44,h⟩:=atm h
  obtain⟨id45,els46,row47,W48,hq49,mo50,moL51,moR52,hrl53,hW54,hsub55,hni56,spr57,hcl58⟩:=Sep.rowF (q:=i16.toNat) (f:=(GNode.cells true)) sp hb43 ex44 rfl
  subst hq49
  obtain⟨c59,c60,c61,hq49⟩:=len3 (by simpa using hrl53)
  subst hq49
  replace spr57:Sep _ _ [(.c,c59,int x44.control),(.c,c60,int x44.parent),(.s [.c],c61,.list true (x44.links.map intC))] W48:=spr57
  obtain rfl:=Sep.cAt (K1:=[]) (K2:=[(.c,c60,int x44.parent),(.s [.c],c61,.list true (x44.links.map intC))]) spr57
  obtain rfl:=Sep.cAt (K1:=[(.c,int x44.control,int x44.control)]) (K2:=[(.s [.c],c61,.list true (x44.links.map intC))]) spr57
  have f62:=ix_arr (k:=.i64) (off:=0) (len:=l17.length) kd_35 mo50 moL51 rfl hb43
  obtain⟨l63,el63,h⟩:=atm h
  simp[hh,mo50,moL51,moR52,f28,f62,dc24,-indexAddrF,-storeF]
  refine bind_store (q:=i16.toNat) (news:=(GNode.cells true) r30) [oI v39 r30.links] [] sp (by simp) (by simp;omega) (by simp) (by simp[-one1,o1x,Sep.one1 sp.dr]) (Fill.v _ (Fill.v _ (Fill.own Fill.nil))) ?_
  rintro H64 sp hfr65
  replace sp:Sep H64 n33 [oN (.arr id45 l17.length 0 l17.length) l63] []:=Sep.st el63 sp
  simp[hh,f28,f62,dc24,-indexAddrF]
  apply hk'
  refine Runs.cut (fun ρ H n=>∃ (v67:AVal),(ρ 0 = .list false (a.map (GNode.cells false))∧ρ 3=v67∧ρ 4=int i16)∧Sep H n [oN v67 l63] []) (by refine⟨.arr id45 l17.length 0 l17.length,by simp[hh,f28,f62,dc24,-indexAddrF],sp⟩) ?_
  clear hh
  rintro ρ H n68 ⟨v67,hh,sp⟩
  refine Runs.inBlock ?_
  refine zF fun k' hk'=>?_
  obtain⟨hb69,h⟩:=h
  obtain⟨v70,ev70,h⟩:=atm h
  have f71:=ib_add hb69 ev70
  simp[hh,f71,-intBin]
  apply hk'
  refine IH20 (v70,l63) _ _ _ h (by refine⟨v67,by simp[hh],sp⟩)
 replace h:=h.2 dc24
 refine Runs.exit rfl ?_
 refine zE fun k' hk'=>?_
 simp[hh,dc24]
 apply hk'
 exact Runs.ret1 (v:=v18) Tryz.func39 Tryz.results39 (by simp[hh,dc24]) (hQ _ _ _ _ (Sep.sub (ids':=[]) sp (by simp)) ⟨l17,h,rfl⟩)
theorem toNodeS_ok (a:List GNode) (hp:toNodeS_pre a):OwnS Tryz.prog 39 [.list false (a.map (GNode.cells false))] (.s [.c,.c,.s [.c]]) (fun r=>r = .list true ((toNodeS a).map (GNode.cells true))):=(toNodeS_walk a _ (toNodeS_vc a hp)).mono (by rintro _ ⟨_,rfl,rfl⟩;rfl)
theorem e12:Ent Tryz.prog 12:=Ent.of Tryz.func12 (by kernel_rfl) rfl
theorem toBigraph_walk (a:Big) (Z:Big→Prop) (h:toBigraph_wp a Z):OwnS Tryz.prog 12 [.agg (bC false a)] (.a [.c,.s [.c,.c,.s [.c]],.s [.c],.c,.s [.c],.s [.c,.c]]) (fun r=>∃ y:Big,Z y∧r = .agg (bC true y)):=by
 unfold toBigraph_wp at h
 have sp:Sep noHeap 0 [] []:=Sep.nil (by simp)
 refine OwnS.of Tryz.func12 rfl Tryz.ntmps12 (by simp) fun Q hQ=>?_
 refine Runs.cut (fun ρ H n=>ρ 0 = .agg (bC false a)∧Sep H n [] []) (by refine⟨by simp ,sp⟩) ?_
 rintro ρ H n1 ⟨hh,sp⟩
 refine zE fun k' hk'=>?_
 simp[hh]
 apply hk'
 refine Runs.cut (fun ρ H n=>((ρ 1=pA n1 1∧ρ 2=pA (n1+1) 2)∧H (n1,1)=some ⟨6,[bC false a]⟩∧H (n1+1,2)=some ⟨6,[zB]⟩)∧Sep H n [] [(n1+1,2),(n1,1)]) (by refine⟨by simp[hh],sp.var.var⟩) ?_
 clear hh
 rintro ρ H n4 ⟨⟨hh,m1_1,m2_2⟩,sp⟩
 refine zE fun k' hk'=>?_
 simp[hh,m1_1,m2_2]
 apply hk'
 refine Runs.cut (fun ρ H n=>((ρ 1=pA n1 1∧ρ 2=pA (n1+1) 2∧ρ 3=pA n4 3)∧H (n1,1)=some ⟨6,[bC false a]⟩∧H (n1+1,2)=some ⟨6,[zB]⟩∧H (n4,3)=some ⟨6,[zB]⟩)∧Sep H n [] [(n4,3),(n1+1,2),(n1,1)]) (by refine⟨by simp[hh,m1_1,m2_2],sp.var⟩) ?_
 clear hh m1_1 m2_2
 rintro ρ H n6 ⟨⟨hh,m1_1,m2_2,m3_4⟩,sp⟩
 refine zE fun k' hk'=>?_
 simp[hh,m1_1,m2_2,m3_4]
 apply hk'
 refine Runs.cut (fun ρ H n=>((ρ 1=pA n1 1∧ρ 2=pA (n1+1) 2∧ρ 3=pA n4 3)∧H (n1,1)=some ⟨6,[bC false a]⟩∧H (n1+1,2)=some ⟨6,[zB]⟩∧H (n4,3)=some ⟨6,[[int a.roots,.v (.slice none 0 0),.v (.slice none 0 0),int 0,.v (.slice none 0 0),.v (.slice none 0 0)]]⟩)∧Sep H n [] [(n4,3),(n1+1,2),(n1,1)]) (by refine⟨by simp[hh,m1_1,m2_2,m3_4],(Sep.setVar (w:=(n4,3)) sp (by simp))⟩) ?_
 clear hh m1_1 m2_2 m3_4
 rintro ρ H n7 ⟨⟨hh,m1_1,m2_2,m3_4⟩,sp⟩
 refine zE fun k' hk'=>?_
 obtain⟨hb8,h⟩:=h
 obtain⟨r9,er9,h⟩:=atm h
 simp[hh,m1_1,m2_2,m3_4]
 refine RunK.callW Ty_ok (toNodeS_ok a.nodes hb8) e39 (.cons (ArgOk.nest_Node false a.nodes) .nil) sp (by decide) (by decide) rfl (by simp[hh,m1_1,m2_2,m3_4]) ?_
 rintro v10 H11 n12 _ sp rfl hle14 hfr13
 rw[← er9] at sp
 have m1_1:=(hfr13 _ (by simp)).trans m1_1
 have m2_2:=(hfr13 _ (by simp)).trans m2_2
 have m3_4:=(hfr13 _ (by simp)).trans m3_4
 have f17:=Sep.oc sp
 simp[hh,m1_1,m2_2,m3_4,f17,-cellsA,-one1,cAx,o1x]
 apply hk'
 refine Runs.cut (fun ρ H n=>∃ (v18:AVal),((ρ 1=pA n1 1∧ρ 2=pA (n1+1) 2∧ρ 3=pA n4 3)∧H (n1,1)=some ⟨6,[bC false a]⟩∧H (n1+1,2)=some ⟨6,[zB]⟩∧H (n4,3)=some ⟨6,[[int a.roots,v18,.v (.slice none 0 0),int 0,.v (.slice none 0 0),.v (.slice none 0 0)]]⟩)∧Sep H n [oN v18 r9] [(n4,3),(n1+1,2),(n1,1)]) (by refine⟨v10,by simp[hh,m1_1,m2_2,m3_4,f17,-cellsA,-one1,cAx,o1x],(Sep.setVar (w:=(n4,3)) sp (by simp))⟩) ?_
 clear hh m1_1 m2_2 m3_4
 rintro ρ H n19 ⟨v18,⟨hh,m1_1,m2_2,m3_4⟩,sp⟩
 refine zE fun k' hk'=>?_
 obtain⟨hb20,h⟩:=h
 obtain⟨r21,er21,h⟩:=atm h
 simp[hh,m1_1,m2_2,m3_4]
 refine RunK.callW Ty_ok (toIntS_ok a.sites hb20) e40 (.cons (argI false a.sites) .nil) sp (by decide) (by decide) rfl (by simp[hh,m1_1,m2_2,m3_4]) ?_
 rintro v22 H23 n24 _ sp rfl hle26 hfr25
 rw[← er21] at sp
 have m1_1:=(hfr25 _ (by simp)).trans m1_1
 have m2_2:=(hfr25 _ (by simp)).trans m2_2
 have m3_4:=(hfr25 _ (by simp)).trans m3_4
 have f29:=Sep.oc sp
 simp[hh,m1_1,m2_2,m3_4,f29,-cellsA,-one1,cAx,o1x]
 apply hk'
 refine Runs.cut (fun ρ H n=>∃ (v30 v31:AVal),((ρ 1=pA n1 1∧ρ 2=pA (n1+1) 2∧ρ 3=pA n4 3)∧H (n1,1)=some ⟨6,[bC false a]⟩∧H (n1+1,2)=some ⟨6,[zB]⟩∧H (n4,3)=some ⟨6,[[int a.roots,v31,v30,int 0,.v (.slice none 0 0),.v (.slice none 0 0)]]⟩)∧Sep H n [oI v30 r21,oN v31 r9] [(n4,3),(n1+1,2),(n1,1)]) (by refine⟨v22,v18,by simp[hh,m1_1,m2_2,m3_4,f29,-cellsA,-one1,cAx,o1x],(Sep.setVar (w:=(n4,3)) sp (by simp))⟩) ?_
 clear hh m1_1 m2_2 m3_4
 rintro ρ H n32 ⟨v30,v31,⟨hh,m1_1,m2_2,m3_4⟩,sp⟩
 refine zE fun k' hk'=>?_
 simp[hh,m1_1,m2_2,m3_4]
 apply hk'
 refine Runs.cut (fun ρ H n=>∃ (v33 v34:AVal),((ρ 1=pA n1 1∧ρ 2=pA (n1+1) 2∧ρ 3=pA n4 3)∧H (n1,1)=some ⟨6,[bC false a]⟩∧H (n1+1,2)=some ⟨6,[zB]⟩∧H (n4,3)=some ⟨6,[[int a.roots,v34,v33,int a.edges,.v (.slice none 0 0),.v (.slice none 0 0)]]⟩)∧Sep H n [oI v33 r21,oN v34 r9] [(n4,3),(n1+1,2),(n1,1)]) (by refine⟨v30,v31,by simp[hh,m1_1,m2_2,m3_4],(Sep.setVar (w:=(n4,3)) sp (by simp))⟩) ?_
 clear hh m1_1 m2_2 m3_4
 rintro ρ H n35 ⟨v33,v34,⟨hh,m1_1,m2_2,m3_4⟩,sp⟩
 refine zE fun k' hk'=>?_
 obtain⟨hb36,h⟩:=h
 obtain⟨r37,er37,h⟩:=atm h
 simp[hh,m1_1,m2_2,m3_4]
 refine RunK.callW Ty_ok (toStringS_ok a.outer hb36) e41 (.cons (argS false a.outer) .nil) sp (by decide) (by decide) rfl (by simp[hh,m1_1,m2_2,m3_4]) ?_
 rintro v38 H39 n40 _ sp rfl hle42 hfr41
 rw[← er37] at sp
 have m1_1:=(hfr41 _ (by simp)).trans m1_1
 have m2_2:=(hfr41 _ (by simp)).trans m2_2
 have m3_4:=(hfr41 _ (by simp)).trans m3_4
 have f45:=Sep.oc sp
 simp[hh,m1_1,m2_2,m3_4,f45,-cellsA,-one1,cAx,o1x]
 apply hk'
 refine Runs.cut (fun ρ H n=>∃ (v46 v47 v48:AVal),((ρ 1=pA n1 1∧ρ 2=pA (n1+1) 2∧ρ 3=pA n4 3)∧H (n1,1)=some ⟨6,[bC false a]⟩∧H (n1+1,2)=some ⟨6,[zB]⟩∧H (n4,3)=some ⟨6,[[int a.roots,v48,v47,int a.edges,v46,.v (.slice none 0 0)]]⟩)∧Sep H n [oS v46 r37,oI v47 r21,oN v48 r9] [(n4,3),(n1+1,2),(n1,1)]) (by refine⟨v38,v33,v34,by simp[hh,m1_1,m2_2,m3_4,f45,-cellsA,-one1,cAx,o1x],(Sep.setVar (w:=(n4,3)) sp (by simp))⟩) ?_
 clear hh m1_1 m2_2 m3_4
 rintro ρ H n49 ⟨v46,v47,v48,⟨hh,m1_1,m2_2,m3_4⟩,sp⟩
 refine zE fun k' hk'=>?_
 obtain⟨hb50,h⟩:=h
 obtain⟨r51,er51,h⟩:=atm h
 simp[hh,m1_1,m2_2,m3_4]
 refine RunK.callW Ty_ok (toWireS_ok a.inner hb50) e42 (.cons (argW false a.inner) .nil) sp (by decide) (by decide) rfl (by simp[hh,m1_1,m2_2,m3_4]) ?_
 rintro v52 H53 n54 _ sp rfl hle56 hfr55
 rw[← er51] at sp
 have m1_1:=(hfr55 _ (by simp)).trans m1_1
 have m2_2:=(hfr55 _ (by simp)).trans m2_2
 have m3_4:=(hfr55 _ (by simp)).trans m3_4
 have f59:=Sep.oc sp
 simp[hh,m1_1,m2_2,m3_4,f59,-cellsA,-one1,cAx,o1x]
 apply hk'
 refine Runs.cut (fun ρ H n=>∃ (v60 v61 v62 v63:AVal),((ρ 2=pA (n1+1) 2∧ρ 3=pA n4 3)∧H (n1+1,2)=some ⟨6,[zB]⟩∧H (n4,3)=some ⟨6,[[int a.roots,v63,v62,int a.edges,v61,v60]]⟩)∧Sep H n [oW v60 r51,oS v61 r37,oI v62 r21,oN v63 r9] [(n4,3),(n1+1,2)]) (by refine⟨v52,v46,v47,v48,by simp[hh,m1_1,m2_2,m3_4,f59,-cellsA,-one1,cAx,o1x],(Sep.sub (Sep.setVar (w:=(n4,3)) sp (by simp)) (by simp +contextual))⟩) ?_
 clear hh m1_1 m2_2 m3_4
 rintro ρ H n64 ⟨v60,v61,v62,v63,⟨hh,m2_2,m3_4⟩,sp⟩
 refine zE fun k' hk'=>?_
 have f65:=Sep.oc sp.f3
 have f66:=Sep.oc sp.f2
 have f67:=Sep.oc sp.f1
 have f68:=Sep.oc sp
 simp[hh,m2_2,m3_4,f65,f66,f67,f68,-cellsA,-one1,cAx,o1x]
 apply hk'
 refine Runs.cut (fun ρ H n=>∃ (v69 v70 v71 v72:AVal),(ρ 2=pA (n1+1) 2∧H (n1+1,2)=some ⟨6,[[int a.roots,v72,v71,int a.edges,v70,v69]]⟩)∧Sep H n [oW v69 r51,oS v70 r37,oI v71 r21,oN v72 r9] [(n1+1,2)]) (by refine⟨v60,v61,v62,v63,by simp[hh,m2_2,m3_4,f65,f66,f67,f68,-cellsA,-one1,cAx,o1x],(Sep.sub (Sep.setVar (w:=(n1+1,2)) sp (by simp)) (by simp +contextual))⟩) ?_
 clear hh m2_2 m3_4
 rintro ρ H n73 ⟨v69,v70,v71,v72,⟨hh,m2_2⟩,sp⟩
 exact Runs.res1 Ty_ok (v:=.agg [int a.roots,v72,v71,int a.edges,v70,v69]) Tryz.func12 Tryz.results12 (by simp[hh,m2_2,resA]) (hQ _ _ _ _ (Sep.sub (ids':=[]) (Sep.pack (Fill.v _ (Fill.own (Fill.own (Fill.v _ (Fill.own (Fill.own Fill.nil)))))) sp.f1.f2.f3) (by simp)) ⟨(Big.mk a.roots r9 r21 a.edges r37 r51),h,rfl⟩)
theorem toBigraph_ok (a:Big) (hp:toBigraph_pre a):OwnS Tryz.prog 12 [.agg (bC false a)] (.a [.c,.s [.c,.c,.s [.c]],.s [.c],.c,.s [.c],.s [.c,.c]]) (fun r=>r = .agg [int ((toBigraph a).roots),.list true (((toBigraph a).nodes).map (GNode.cells true)),.list true (((toBigraph a).sites).map intC),int ((toBigraph a).edges),.list true (((toBigraph a).outer).map strC),.list true (((toBigraph a).inner).map Wire.cells)]):=(toBigraph_walk a _ (toBigraph_vc a hp)).mono (by rintro _ ⟨_,rfl,rfl⟩;rfl)
theorem e19:Ent Tryz.prog 19:=Ent.of Tryz.func19 (by kernel_rfl) rfl
theorem markIntS_walk (a:List Int) (k_:Int) (Z:((List Int) × Int)→Prop) (h:markIntS_wp a k_ Z):MutS Tryz.prog 19 (fun v=>[v,int k_]) (.s [.c]) (.list true (a.map intC)) (fun e' r=>∃ y:(List Int) × Int,Z y∧e' = .list true (y.1.map intC)∧r=int y.2):=by
 unfold markIntS_wp at h
 refine MutS.of Tryz.func19 rfl Tryz.ntmps19 (fun _=>by simp) fun H0 n0 v0 K0 ids0 sp Q hQ=>?_
 have h00:=sp.1
 have hid:∀ i ∈ ids0,H0 i=H0 i:=fun _ _=>rfl
 have hnn:n0≤n0:=Nat.le_refl _
 refine Runs.cut (fun ρ H n=>(ρ 0=v0∧ρ 1=int k_)∧n0≤n∧(∀ i ∈ ids0,H i=H0 i)∧Sep H n (oI v0 a::K0) (ids0)) (by refine⟨?_,(by omega),hid,sp⟩<;>simp ) ?_
 rintro ρ H n2 ⟨hh,hnn,hid,sp⟩
 have hq_n2:=hnn
 refine zE fun k' hk'=>?_
 simp[hh]
 apply hk'
 refine Runs.seq ?_
 refine zE fun k' hk'=>?_
 simp[hh]
 apply hk'
 refine Runs.block ?_
 refine Runs.loopW h (fun (sJ:Int × Int × (List Int)) ρ H n=>match sJ with | (k10,i11,l12)=>(ρ 0=v0∧ρ 1=int k10∧ρ 5=int i11)∧n0≤n∧(∀ i ∈ ids0,H i=H0 i)∧Sep H n (oI v0 l12::K0) (ids0)) (by refine⟨?_,(by omega),hid,sp⟩<;>simp[hh]) ?_
 clear hh
 rintro⟨k10,i11,l12⟩ ρ H n13 K h ⟨hh,hnn,hid,sp⟩ IH14
 have hq_n13:=hnn
 refine Runs.seq ?_
 refine zE fun k' hk'=>?_
 obtain⟨len16,elen16,h⟩:=atm h
 have f17:=len_own (Sep.len (m:=len16) sp kd_24 (by rw[elen16,List.length_map]))
 obtain⟨c18,ec18,h⟩:=atm h
 have f19:=ib_lss (k:=.i64) ec18
 simp[hh,f17,f19,-intBin,-lenF]
 apply hk'
 refine Runs.ite (b:=c18) (by simp[hh]) (fun dc18=>?_) (fun dc18=>?_)
 ·replace h:=h.1 dc18
  refine Runs.skip ?_
  refine Runs.seq ?_
  refine Runs.block ?_
  refine zE fun k' hk'=>?_
  obtain⟨hb20,h⟩:=h
  obtain⟨id21,hv,mo22,ln23,ni24⟩:=Sep.openF sp (by simp) hb20
  subst hv
  obtain⟨x25,ex25,h⟩:=atm h
  have f26:=fun H (hm:H id21=some ⟨1,l12.map intC⟩)=>ix_arr (H:=H) (k:=.i64) (off:=0) (len:=l12.length) (g:=l12.length) kd_24 hm (by simp) rfl hb20
  have f27:=at_some (q:=i11.toNat) hb20 ex25 rfl
  obtain⟨l28,el28,h⟩:=atm h
  simp[hh,mo22,f26,f27,dc18,-indexAddrF,-storeF]
  refine bind_store (q:=i11.toNat) (news:=intC k10) [] (K0) sp (by simp) (by simp;omega) (by simp) (by simp[-one1,o1x]) (Fill.v _ Fill.nil) ?_
  rintro H29 sp hfr30
  replace sp:Sep H29 n13 (oI (.arr id21 l12.length 0 l12.length) l28::K0) (ids0):=Sep.st el28 sp
  have hid:∀ i ∈ ids0,H29 i=H0 i:=fun i hi=>(hfr30 i (by simp[hi])).trans (hid i hi)
  simp[hh,f26,f27,dc18,-indexAddrF]
  apply hk'
  refine Runs.cut (fun ρ H n=>(ρ 0 = .arr id21 l12.length 0 l12.length∧ρ 1=int k10∧ρ 5=int i11)∧n0≤n∧(∀ i ∈ ids0,H i=H0 i)∧Sep H n (oI (.arr id21 l12.length 0 l12.length) l28::K0) (ids0)) (by refine⟨?_,(by omega),hid,sp⟩<;>simp[hh,f26,f27,dc18,-indexAddrF]) ?_
  clear hh
  rintro ρ H n32 ⟨hh,hnn,hid,sp⟩
  have hq_n32:=hnn
  refine zF fun k' hk'=>?_
  obtain⟨hb33,h⟩:=h
  obtain⟨v34,ev34,h⟩:=atm h
  have f35:=ib_add hb33 ev34
  simp[hh,f35,-intBin]
  apply hk'
  refine Runs.inBlock ?_
  refine zF fun k' hk'=>?_
  obtain⟨hb36,h⟩:=h
  obtain⟨v37,ev37,h⟩:=atm h
  have f38:=ib_add hb36 ev37
  simp[hh,f38,-intBin]
  apply hk'
  refine IH14 (v34,v37,l28) _ _ _ h (by refine⟨?_,(by omega),hid,sp⟩<;>simp[hh])
 replace h:=h.2 dc18
 refine Runs.exit rfl ?_
 refine zE fun k' hk'=>?_
 simp[hh,dc18]
 apply hk'
 exact Runs.ret1 (v:=int k10) Tryz.func19 Tryz.results19 (by simp[hh,dc18]) (hQ _ _ _ _ (Sep.sub sp (by simp +contextual)) hid (by omega) ⟨(l12,k10),h,rfl,rfl⟩)
theorem markIntS_ok (a:List Int) (k_:Int) (hp:markIntS_pre a k_):MutS Tryz.prog 19 (fun v=>[v,int k_]) (.s [.c]) (.list true (a.map intC)) (fun e' r=>e' = .list true (((markIntS a k_).1).map intC)∧r=int ((markIntS a k_).2)):=(markIntS_walk a k_ _ (markIntS_vc a k_ hp)).mono (by rintro _ _ ⟨_,rfl,rfl,rfl⟩;exact⟨rfl,rfl⟩)
theorem e51:Ent Tryz.prog 51:=Ent.of Tryz.func51 (by kernel_rfl) rfl
theorem markStringS_walk (a:List Str) (k_:Int) (Z:((List Str) × Int)→Prop) (h:markStringS_wp a k_ Z):MutS Tryz.prog 51 (fun v=>[v,int k_]) (.s [.c]) (.list true (a.map strC)) (fun e' r=>∃ y:(List Str) × Int,Z y∧e' = .list true (y.1.map strC)∧r=int y.2):=by
 unfold markStringS_wp at h
 refine MutS.of Tryz.func51 rfl Tryz.ntmps51 (fun _=>by simp) fun H0 n0 v0 K0 ids0 sp Q hQ=>?_
 have h00:=sp.1
 have hid:∀ i ∈ ids0,H0 i=H0 i:=fun _ _=>rfl
 have hnn:n0≤n0:=Nat.le_refl _
 refine Runs.cut (fun ρ H n=>(ρ 0=v0∧ρ 1=int k_)∧n0≤n∧(∀ i ∈ ids0,H i=H0 i)∧Sep H n (oS v0 a::K0) (ids0)) (by refine⟨?_,(by omega),hid,sp⟩<;>simp ) ?_
 rintro ρ H n2 ⟨hh,hnn,hid,sp⟩
 have hq_n2:=hnn
 refine zE fun k' hk'=>?_
 simp[hh]
 apply hk'
 refine Runs.seq ?_
 refine zE fun k' hk'=>?_
 simp[hh]
 apply hk'
 refine Runs.block ?_
 refine Runs.loopW h (fun (sJ:Int × Int × (List Str)) ρ H n=>match sJ with | (k10,i11,l12)=>(ρ 0=v0∧ρ 1=int k10∧ρ 5=int i11)∧n0≤n∧(∀ i ∈ ids0,H i=H0 i)∧Sep H n (oS v0 l12::K0) (ids0)) (by refine⟨?_,(by omega),hid,sp⟩<;>simp[hh]) ?_
 clear hh
 rintro⟨k10,i11,l12⟩ ρ H n13 K h ⟨hh,hnn,hid,sp⟩ IH14
 have hq_n13:=hnn
 refine Runs.seq ?_
 refine zE fun k' hk'=>?_
 obtain⟨len16,elen16,h⟩:=atm h
 have f17:=len_own (Sep.len (m:=len16) sp kd_25 (by rw[elen16,List.length_map]))
 obtain⟨c18,ec18,h⟩:=atm h
 have f19:=ib_lss (k:=.i64) ec18
 simp[hh,f17,f19,-intBin,-lenF]
 apply hk'
 refine Runs.ite (b:=c18) (by simp[hh]) (fun dc18=>?_) (fun dc18=>?_)
 ·replace h:=h.1 dc18
  refine Runs.skip ?_
  refine Runs.seq ?_
  refine Runs.block ?_
  refine zE fun k' hk'=>?_
  obtain⟨hb20,h⟩:=h
  obtain⟨r21,er21,h⟩:=atm h
  simp[hh,dc18]
  refine RunK.callA Ty_ok (markTxt_ok k10 hb20) e49 (.cons (.v _ _ _) .nil) (by decide) (by decide) rfl (by simp[hh,dc18]) ?_
  rintro _ rfl
  rw[← er21]
  obtain⟨hb22,h⟩:=h
  obtain⟨id23,hv,mo24,ln25,ni26⟩:=Sep.openF sp (by simp) hb22
  subst hv
  obtain⟨x27,ex27,h⟩:=atm h
  have f28:=fun H (hm:H id23=some ⟨1,l12.map strC⟩)=>ix_arr (H:=H) (k:=.i64) (off:=0) (len:=l12.length) (g:=l12.length) kd_25 hm (by simp) rfl hb22
  have f29:=at_some (q:=i11.toNat) hb22 ex27 rfl
  obtain⟨l30,el30,h⟩:=atm h
  simp[hh,mo24,f28,f29,dc18,-indexAddrF,-storeF]
  refine bind_store (q:=i11.toNat) (news:=strC r21) [] (K0) sp (by simp) (by simp;omega) (by simp) (by simp[-one1,o1x]) (Fill.v _ Fill.nil) ?_
  rintro H31 sp hfr32
  replace sp:Sep H31 n13 (oS (.arr id23 l12.length 0 l12.length) l30::K0) (ids0):=Sep.st el30 sp
  have hid:∀ i ∈ ids0,H31 i=H0 i:=fun i hi=>(hfr32 i (by simp[hi])).trans (hid i hi)
  simp[hh,f28,f29,dc18,-indexAddrF]
  apply hk'
  refine Runs.cut (fun ρ H n=>(ρ 0 = .arr id23 l12.length 0 l12.length∧ρ 1=int k10∧ρ 5=int i11)∧n0≤n∧(∀ i ∈ ids0,H i=H0 i)∧Sep H n (oS (.arr id23 l12.length 0 l12.length) l30::K0) (ids0)) (by refine⟨?_,(by omega),hid,sp⟩<;>simp[hh,f28,f29,dc18,-indexAddrF]) ?_
  clear hh
  rintro ρ H n34 ⟨hh,hnn,hid,sp⟩
  have hq_n34:=hnn
  refine zF fun k' hk'=>?_
  obtain⟨hb35,h⟩:=h
  obtain⟨v36,ev36,h⟩:=atm h
  have f37:=ib_add hb35 ev36
  simp[hh,f37,-intBin]
  apply hk'
  refine Runs.inBlock ?_
  refine zF fun k' hk'=>?_
  obtain⟨hb38,h⟩:=h
  obtain⟨v39,ev39,h⟩:=atm h
  have f40:=ib_add hb38 ev39
  simp[hh,f40,-intBin]
  apply hk'
  refine IH14 (v36,v39,l30) _ _ _ h (by refine⟨?_,(by omega),hid,sp⟩<;>simp[hh])
 replace h:=h.2 dc18
 refine Runs.exit rfl ?_
 refine zE fun k' hk'=>?_
 simp[hh,dc18]
 apply hk'
 exact Runs.ret1 (v:=int k10) Tryz.func51 Tryz.results51 (by simp[hh,dc18]) (hQ _ _ _ _ (Sep.sub sp (by simp +contextual)) hid (by omega) ⟨(l12,k10),h,rfl,rfl⟩)
theorem markStringS_ok (a:List Str) (k_:Int) (hp:markStringS_pre a k_):MutS Tryz.prog 51 (fun v=>[v,int k_]) (.s [.c]) (.list true (a.map strC)) (fun e' r=>e' = .list true (((markStringS a k_).1).map strC)∧r=int ((markStringS a k_).2)):=(markStringS_walk a k_ _ (markStringS_vc a k_ hp)).mono (by rintro _ _ ⟨_,rfl,rfl,rfl⟩;exact⟨rfl,rfl⟩)
theorem e52:Ent Tryz.prog 52:=Ent.of Tryz.func52 (by kernel_rfl) rfl
theorem markWireS_walk (a:List Wire) (k_:Int) (Z:((List Wire) × Int)→Prop) (h:markWireS_wp a k_ Z):MutS Tryz.prog 52 (fun v=>[v,int k_]) (.s [.c,.c]) (.list true (a.map Wire.cells)) (fun e' r=>∃ y:(List Wire) × Int,Z y∧e' = .list true (y.1.map Wire.cells)∧r=int y.2):=by
 unfold markWireS_wp at h
 refine MutS.of Tryz.func52 rfl Tryz.ntmps52 (fun _=>by simp) fun H0 n0 v0 K0 ids0 sp Q hQ=>?_
 have h00:=sp.1
 have hid:∀ i ∈ ids0,H0 i=H0 i:=fun _ _=>rfl
 have hnn:n0≤n0:=Nat.le_refl _
 refine Runs.cut (fun ρ H n=>(ρ 0=v0∧ρ 1=int k_)∧n0≤n∧(∀ i ∈ ids0,H i=H0 i)∧Sep H n (oW v0 a::K0) (ids0)) (by refine⟨?_,(by omega),hid,sp⟩<;>simp ) ?_
 rintro ρ H n2 ⟨hh,hnn,hid,sp⟩
 have hq_n2:=hnn
 refine zE fun k' hk'=>?_
 simp[hh]
 apply hk'
 refine Runs.seq ?_
 refine zE fun k' hk'=>?_
 simp[hh]
 apply hk'
 refine Runs.block ?_
 refine Runs.loopW h (fun (sJ:Int × Int × (List Wire)) ρ H n=>match sJ with | (k10,i11,l12)=>(ρ 0=v0∧ρ 1=int k10∧ρ 5=int i11)∧n0≤n∧(∀ i ∈ ids0,H i=H0 i)∧Sep H n (oW v0 l12::K0) (ids0)) (by refine⟨?_,(by omega),hid,sp⟩<;>simp[hh]) ?_
 clear hh
 rintro⟨k10,i11,l12⟩ ρ H n13 K h ⟨hh,hnn,hid,sp⟩ IH14
 have hq_n13:=hnn
 refine Runs.seq ?_
 refine zE fun k' hk'=>?_
 obtain⟨len16,elen16,h⟩:=atm h
 have f17:=len_own (Sep.len (m:=len16) sp kd_36 (by rw[elen16,List.length_map]))
 obtain⟨c18,ec18,h⟩:=atm h
 have f19:=ib_lss (k:=.i64) ec18
 simp[hh,f17,f19,-intBin,-lenF]
 apply hk'
 refine Runs.ite (b:=c18) (by simp[hh]) (fun dc18=>?_) (fun dc18=>?_)
 ·replace h:=h.1 dc18
  refine Runs.skip ?_
  refine Runs.seq ?_
  refine Runs.block ?_
  refine zE fun k' hk'=>?_
  obtain⟨hb20,h⟩:=h
  obtain⟨r21,er21,h⟩:=atm h
  simp[hh,dc18]
  refine RunK.callA Ty_ok (markTxt_ok k10 hb20) e49 (.cons (.v _ _ _) .nil) (by decide) (by decide) rfl (by simp[hh,dc18]) ?_
  rintro _ rfl
  rw[← er21]
  obtain⟨hb22,h⟩:=h
  obtain⟨id23,hv,mo24,ln25,ni26⟩:=Sep.openF sp (by simp) hb22
  subst hv
  obtain⟨x27,ex27,h⟩:=atm h
  have f28:=fun H (hm:H id23=some ⟨2,l12.map Wire.cells⟩)=>ix_arr (H:=H) (k:=.i64) (off:=0) (len:=l12.length) (g:=l12.length) kd_36 hm (by simp) rfl hb22
  have f29:=at_some (q:=i11.toNat) hb22 ex27 rfl
  obtain⟨l30,el30,h⟩:=atm h
  simp[hh,mo24,f28,f29,dc18,-indexAddrF,-storeF]
  refine bind_field (i:=ty9) (q:=i11.toNat) (off:=0) (new:=[str r21]) (ix:=i11) (x:=x27) (y:=(Wire.mk r21 x27.link)) (f:=Wire.cells) sp (by simp) (by simp) hb22 ex27 rfl rfl (fun _=>rfl) (by simp) (by simp) (by simp[splice]) (by simp) ?_
  rintro H31 sp hfr32
  replace sp:Sep H31 n13 (oW (.arr id23 l12.length 0 l12.length) l30::K0) (ids0):=by rw[el30];exact sp
  have hid:∀ i ∈ ids0,H31 i=H0 i:=fun i hi=>(hfr32 i (by simp[hi])).trans (hid i hi)
  simp[hh,f28,f29,dc18,-indexAddrF]
  apply hk'
  refine Runs.cut (fun ρ H n=>(ρ 0 = .arr id23 l12.length 0 l12.length∧ρ 1=int k10∧ρ 5=int i11)∧n0≤n∧(∀ i ∈ ids0,H i=H0 i)∧Sep H n (oW (.arr id23 l12.length 0 l12.length) l30::K0) (ids0)) (by refine⟨?_,(by omega),hid,sp⟩<;>simp[hh,f28,f29,dc18,-indexAddrF]) ?_
  clear hh
  rintro ρ H n34 ⟨hh,hnn,hid,sp⟩
  have hq_n34:=hnn
  refine zE fun k' hk'=>?_
  obtain⟨hb35,h⟩:=h
  obtain⟨v36,ev36,h⟩:=atm h
  have f37:=ib_add hb35 ev36
  simp[hh,f37,-intBin]
  apply hk'
  refine zE fun k' hk'=>?_
  obtain⟨hb38,h⟩:=h
  obtain⟨id39,hv,mo40,ln41,ni42⟩:=Sep.openF sp (by simp) hb38
  simp only[AVal.arr.injEq] at hv
  obtain⟨hv,hln43,-⟩:=hv
  subst hv
  have hlshln43:=hln43.symm
  obtain⟨x44,ex44,h⟩:=atm h
  have f45:=fun H (hm:H id23=some ⟨2,l30.map Wire.cells⟩)=>ix_arr (H:=H) (k:=.i64) (off:=0) (len:=l12.length) (g:=l12.length) kd_36 hm (by simp[hln43]) rfl (by rw[hln43];exact hb38)
  have f46:=at_some (q:=i11.toNat) hb38 ex44 rfl
  obtain⟨l47,el47,h⟩:=atm h
  simp[hh,hlshln43,mo40,f45,f46,-indexAddrF,-storeF]
  refine bind_field (i:=ty3) (q:=i11.toNat) (off:=1) (new:=[int v36]) (ix:=i11) (x:=x44) (y:=(Wire.mk x44.name v36)) (f:=Wire.cells) sp (by simp) (by simp) hb38 ex44 rfl hln43 (fun _=>rfl) (by simp) (by simp) (by simp[splice]) (by simp) ?_
  rintro H48 sp hfr49
  replace sp:Sep H48 n34 (oW (.arr id23 l12.length 0 l12.length) l47::K0) (ids0):=by rw[el47];exact sp
  have hid:∀ i ∈ ids0,H48 i=H0 i:=fun i hi=>(hfr49 i (by simp[hi])).trans (hid i hi)
  simp[hh,hlshln43,f45,f46,-indexAddrF]
  apply hk'
  refine Runs.cut (fun ρ H n=>(ρ 0 = .arr id23 l12.length 0 l12.length∧ρ 1=int v36∧ρ 5=int i11)∧n0≤n∧(∀ i ∈ ids0,H i=H0 i)∧Sep H n (oW (.arr id23 l12.length 0 l12.length) l47::K0) (ids0)) (by refine⟨?_,(by omega),hid,sp⟩<;>simp[hh,hlshln43,f45,f46,-indexAddrF]) ?_
  clear hh hlshln43
  rintro ρ H n51 ⟨hh,hnn,hid,sp⟩
  have hq_n51:=hnn
  refine zF fun k' hk'=>?_
  obtain⟨hb52,h⟩:=h
  obtain⟨v53,ev53,h⟩:=atm h
  have f54:=ib_add hb52 ev53
  simp[hh,f54,-intBin]
  apply hk'
  refine Runs.inBlock ?_
  refine zF fun k' hk'=>?_
  obtain⟨hb55,h⟩:=h
  obtain⟨v56,ev56,h⟩:=atm h
  have f57:=ib_add hb55 ev56
  simp[hh,f57,-intBin]
  apply hk'
  refine IH14 (v53,v56,l47) _ _ _ h (by refine⟨?_,(by omega),hid,sp⟩<;>simp[hh])
 replace h:=h.2 dc18
 refine Runs.exit rfl ?_
 refine zE fun k' hk'=>?_
 simp[hh,dc18]
 apply hk'
 exact Runs.ret1 (v:=int k10) Tryz.func52 Tryz.results52 (by simp[hh,dc18]) (hQ _ _ _ _ (Sep.sub sp (by simp +contextual)) hid (by omega) ⟨(l12,k10),h,rfl,rfl⟩)
theorem markWireS_ok (a:List Wire) (k_:Int) (hp:markWireS_pre a k_):MutS Tryz.prog 52 (fun v=>[v,int k_]) (.s [.c,.c]) (.list true (a.map Wire.cells)) (fun e' r=>e' = .list true (((markWireS a k_).1).map Wire.cells)∧r=int ((markWireS a k_).2)):=(markWireS_walk a k_ _ (markWireS_vc a k_ hp)).mono (by rintro _ _ ⟨_,rfl,rfl,rfl⟩;exact⟨rfl,rfl⟩)
theorem e17:Ent Tryz.prog 17:=Ent.of Tryz.func17 (by kernel_rfl) rfl
theorem markControlS_walk (a:List Control) (k_:Int) (Z:((List Control) × Int)→Prop) (h:markControlS_wp a k_ Z):MutS Tryz.prog 17 (fun v=>[v,int k_]) (.s [.c,.c,.c]) (.list true (a.map Control.cells)) (fun e' r=>∃ y:(List Control) × Int,Z y∧e' = .list true (y.1.map Control.cells)∧r=int y.2):=by
 unfold markControlS_wp at h
 refine MutS.of Tryz.func17 rfl Tryz.ntmps17 (fun _=>by simp) fun H0 n0 v0 K0 ids0 sp Q hQ=>?_
 have h00:=sp.1
 have hid:∀ i ∈ ids0,H0 i=H0 i:=fun _ _=>rfl
 have hnn:n0≤n0:=Nat.le_refl _
 refine Runs.cut (fun ρ H n=>(ρ 0=v0∧ρ 1=int k_)∧n0≤n∧(∀ i ∈ ids0,H i=H0 i)∧Sep H n (oE [.c,.c,.c] Control.cells v0 a::K0) (ids0)) (by refine⟨?_,(by omega),hid,sp⟩<;>simp ) ?_
 rintro ρ H n2 ⟨hh,hnn,hid,sp⟩
 have hq_n2:=hnn
 refine zE fun k' hk'=>?_
 simp[hh]
 apply hk'
 refine Runs.seq ?_
 refine zE fun k' hk'=>?_
 simp[hh]
 apply hk'
 refine Runs.block ?_
 refine Runs.loopW h (fun (sJ:Int × Int × (List Control)) ρ H n=>match sJ with | (k10,i11,l12)=>(ρ 0=v0∧ρ 1=int k10∧ρ 5=int i11)∧n0≤n∧(∀ i ∈ ids0,H i=H0 i)∧Sep H n (oE [.c,.c,.c] Control.cells v0 l12::K0) (ids0)) (by refine⟨?_,(by omega),hid,sp⟩<;>simp[hh]) ?_
 clear hh
 rintro⟨k10,i11,l12⟩ ρ H n13 K h ⟨hh,hnn,hid,sp⟩ IH14
 have hq_n13:=hnn
 refine Runs.seq ?_
 refine zE fun k' hk'=>?_
 obtain⟨len16,elen16,h⟩:=atm h
 have f17:=len_own (Sep.len (m:=len16) sp kd_33 (by rw[elen16,List.length_map]))
 obtain⟨c18,ec18,h⟩:=atm h
 have f19:=ib_lss (k:=.i64) ec18
 simp[hh,f17,f19,-intBin,-lenF]
 apply hk'
 refine Runs.ite (b:=c18) (by simp[hh]) (fun dc18=>?_) (fun dc18=>?_)
 ·replace h:=h.1 dc18
  refine Runs.skip ?_
  refine Runs.seq ?_
  refine Runs.block ?_
  refine zE fun k' hk'=>?_
  obtain⟨hb20,h⟩:=h
  obtain⟨r21,er21,h⟩:=atm h
  simp[hh,dc18]
  refine RunK.callA Ty_ok (markTxt_ok k10 hb20) e49 (.cons (.v _ _ _) .nil) (by decide) (by decide) rfl (by simp[hh,dc18]) ?_
  rintro _ rfl
  rw[← er21]
  obtain⟨hb22,h⟩:=h
  obtain⟨id23,hv,mo24,ln25,ni26⟩:=Sep.openF sp (by simp) hb22
  subst hv
  obtain⟨x27,ex27,h⟩:=atm h
  have f28:=fun H (hm:H id23=some ⟨3,l12.map Control.cells⟩)=>ix_arr (H:=H) (k:=.i64) (off:=0) (len:=l12.length) (g:=l12.length) kd_33 hm (by simp) rfl hb22
  have f29:=at_some (q:=i11.toNat) hb22 ex27 rfl
  obtain⟨l30,el30,h⟩:=atm h
  simp[hh,mo24,f28,f29,dc18,-indexAddrF,-storeF]
  refine bind_field (i:=ty9) (q:=i11.toNat) (off:=0) (new:=[str r21]) (ix:=i11) (x:=x27) (y:=(Control.mk r21 x27.ports x27.kind)) (f:=Control.cells) sp (by simp) (by simp) hb22 ex27 rfl rfl (fun _=>rfl) (by simp) (by simp) (by simp[splice]) (by simp) ?_
  rintro H31 sp hfr32
  replace sp:Sep H31 n13 (oE [.c,.c,.c] Control.cells (.arr id23 l12.length 0 l12.length) l30::K0) (ids0):=by rw[el30];exact sp
  have hid:∀ i ∈ ids0,H31 i=H0 i:=fun i hi=>(hfr32 i (by simp[hi])).trans (hid i hi)
  simp[hh,f28,f29,dc18,-indexAddrF]
  apply hk'
  refine Runs.cut (fun ρ H n=>(ρ 0 = .arr id23 l12.length 0 l12.length∧ρ 1=int k10∧ρ 5=int i11)∧n0≤n∧(∀ i ∈ ids0,H i=H0 i)∧Sep H n (oE [.c,.c,.c] Control.cells (.arr id23 l12.length 0 l12.length) l30::K0) (ids0)) (by refine⟨?_,(by omega),hid,sp⟩<;>simp[hh,f28,f29,dc18,-indexAddrF]) ?_
  clear hh
  rintro ρ H n34 ⟨hh,hnn,hid,sp⟩
  have hq_n34:=hnn
  refine zE fun k' hk'=>?_
  obtain⟨hb35,h⟩:=h
  obtain⟨v36,ev36,h⟩:=atm h
  have f37:=ib_add hb35 ev36
  simp[hh,f37,-intBin]
  apply hk'
  refine zE fun k' hk'=>?_
  obtain⟨hb38,h⟩:=h
  obtain⟨id39,hv,mo40,ln41,ni42⟩:=Sep.openF sp (by simp) hb38
  simp only[AVal.arr.injEq] at hv
  obtain⟨hv,hln43,-⟩:=hv
  subst hv
  have hlshln43:=hln43.symm
  obtain⟨x44,ex44,h⟩:=atm h
  have f45:=fun H (hm:H id23=some ⟨3,l30.map Control.cells⟩)=>ix_arr (H:=H) (k:=.i64) (off:=0) (len:=l12.length) (g:=l12.length) kd_33 hm (by simp[hln43]) rfl (by rw[hln43];exact hb38)
  have f46:=at_some (q:=i11.toNat) hb38 ex44 rfl
  obtain⟨l47,el47,h⟩:=atm h
  simp[hh,hlshln43,mo40,f45,f46,-indexAddrF,-storeF]
  refine bind_field (i:=ty3) (q:=i11.toNat) (off:=1) (new:=[int v36]) (ix:=i11) (x:=x44) (y:=(Control.mk x44.name v36 x44.kind)) (f:=Control.cells) sp (by simp) (by simp) hb38 ex44 rfl hln43 (fun _=>rfl) (by simp) (by simp) (by simp[splice]) (by simp) ?_
  rintro H48 sp hfr49
  replace sp:Sep H48 n34 (oE [.c,.c,.c] Control.cells (.arr id23 l12.length 0 l12.length) l47::K0) (ids0):=by rw[el47];exact sp
  have hid:∀ i ∈ ids0,H48 i=H0 i:=fun i hi=>(hfr49 i (by simp[hi])).trans (hid i hi)
  simp[hh,hlshln43,f45,f46,-indexAddrF]
  apply hk'
  refine Runs.cut (fun ρ H n=>(ρ 0 = .arr id23 l12.length 0 l12.length∧ρ 1=int v36∧ρ 5=int i11)∧n0≤n∧(∀ i ∈ ids0,H i=H0 i)∧Sep H n (oE [.c,.c,.c] Control.cells (.arr id23 l12.length 0 l12.length) l47::K0) (ids0)) (by refine⟨?_,(by omega),hid,sp⟩<;>simp[hh,hlshln43,f45,f46,-indexAddrF]) ?_
  clear hh hlshln43
  rintro ρ H n51 ⟨hh,hnn,hid,sp⟩
  have hq_n51:=hnn
  refine zE fun k' hk'=>?_
  obtain⟨hb52,h⟩:=h
  obtain⟨v53,ev53,h⟩:=atm h
  have f54:=ib_add hb52 ev53
  simp[hh,f54,-intBin]
  apply hk'
  refine zE fun k' hk'=>?_
  obtain⟨hb55,h⟩:=h
  obtain⟨id56,hv,mo57,ln58,ni59⟩:=Sep.openF sp (by simp) hb55
  simp only[AVal.arr.injEq] at hv
  obtain⟨hv,hln60,-⟩:=hv
  subst hv
  have hlshln60:=hln60.symm
  obtain⟨x61,ex61,h⟩:=atm h
  have f62:=fun H (hm:H id23=some ⟨3,l47.map Control.cells⟩)=>ix_arr (H:=H) (k:=.i64) (off:=0) (len:=l12.length) (g:=l12.length) kd_33 hm (by simp[hln60]) rfl (by rw[hln60];exact hb55)
  have f63:=at_some (q:=i11.toNat) hb55 ex61 rfl
  obtain⟨l64,el64,h⟩:=atm h
  simp[hh,hlshln60,mo57,f62,f63,-indexAddrF,-storeF]
  refine bind_field (i:=ty3) (q:=i11.toNat) (off:=2) (new:=[int v53]) (ix:=i11) (x:=x61) (y:=(Control.mk x61.name x61.ports v53)) (f:=Control.cells) sp (by simp) (by simp) hb55 ex61 rfl hln60 (fun _=>rfl) (by simp) (by simp) (by simp[splice]) (by simp) ?_
  rintro H65 sp hfr66
  replace sp:Sep H65 n51 (oE [.c,.c,.c] Control.cells (.arr id23 l12.length 0 l12.length) l64::K0) (ids0):=by rw[el64];exact sp
  have hid:∀ i ∈ ids0,H65 i=H0 i:=fun i hi=>(hfr66 i (by simp[hi])).trans (hid i hi)
  simp[hh,hlshln60,f62,f63,-indexAddrF]
  apply hk'
  refine Runs.cut (fun ρ H n=>(ρ 0 = .arr id23 l12.length 0 l12.length∧ρ 1=int v53∧ρ 5=int i11)∧n0≤n∧(∀ i ∈ ids0,H i=H0 i)∧Sep H n (oE [.c,.c,.c] Control.cells (.arr id23 l12.length 0 l12.length) l64::K0) (ids0)) (by refine⟨?_,(by omega),hid,sp⟩<;>simp[hh,hlshln60,f62,f63,-indexAddrF]) ?_
  clear hh hlshln60
  rintro ρ H n68 ⟨hh,hnn,hid,sp⟩
  have hq_n68:=hnn
  refine zF fun k' hk'=>?_
  obtain⟨hb69,h⟩:=h
  obtain⟨v70,ev70,h⟩:=atm h
  have f71:=ib_add hb69 ev70
  simp[hh,f71,-intBin]
  apply hk'
  refine Runs.inBlock ?_
  refine zF fun k' hk'=>?_
  obtain⟨hb72,h⟩:=h
  obtain⟨v73,ev73,h⟩:=atm h
  have f74:=ib_add hb72 ev73
  simp[hh,f74,-intBin]
  apply hk'
  refine IH14 (v70,v73,l64) _ _ _ h (by refine⟨?_,(by omega),hid,sp⟩<;>simp[hh])
 replace h:=h.2 dc18
 refine Runs.exit rfl ?_
 refine zE fun k' hk'=>?_
 simp[hh,dc18]
 apply hk'
 exact Runs.ret1 (v:=int k10) Tryz.func17 Tryz.results17 (by simp[hh,dc18]) (hQ _ _ _ _ (Sep.sub sp (by simp +contextual)) hid (by omega) ⟨(l12,k10),h,rfl,rfl⟩)
theorem markControlS_ok (a:List Control) (k_:Int) (hp:markControlS_pre a k_):MutS Tryz.prog 17 (fun v=>[v,int k_]) (.s [.c,.c,.c]) (.list true (a.map Control.cells)) (fun e' r=>e' = .list true (((markControlS a k_).1).map Control.cells)∧r=int ((markControlS a k_).2)):=(markControlS_walk a k_ _ (markControlS_vc a k_ hp)).mono (by rintro _ _ ⟨_,rfl,rfl,rfl⟩;exact⟨rfl,rfl⟩)
theorem e20:Ent Tryz.prog 20:=Ent.of Tryz.func20 (by kernel_rfl) rfl
theorem heldIntS_walk (a:List Int) (k_:Int) (Z:Int→Prop) (h:heldIntS_wp a k_ Z):PureC Tryz.prog 20 [.list false (a.map intC),int k_] (fun r=>∃ y:Int,Z y∧r=int y):=by
 unfold heldIntS_wp at h
 refine PureC.of Tryz.func20 rfl Tryz.ntmps20 (by simp) fun Q hQ=>?_
 refine Runs.cut (fun ρ H n=>(ρ 0 = .list false (a.map intC)∧ρ 1=int k_)) (by simp) ?_
 rintro ρ H n1 hh
 refine zE fun k' hk'=>?_
 simp[hh]
 apply hk'
 refine Runs.seq ?_
 refine zE fun k' hk'=>?_
 simp[hh]
 apply hk'
 refine Runs.block ?_
 refine Runs.loopW h (fun (sJ:Int × Int) ρ H n=>match sJ with | (k5,i6)=>(ρ 0 = .list false (a.map intC)∧ρ 1=int k5∧ρ 5=int i6)) (by simp[hh]) ?_
 clear hh
 rintro⟨k5,i6⟩ ρ H n7 K h hh IH8
 refine Runs.seq ?_
 refine zE fun k' hk'=>?_
 obtain⟨len10,elen10,h⟩:=atm h
 have f11:=fun H=>len_list (H:=H) (fr:=false) (f:=intC) kd_24 elen10
 obtain⟨c12,ec12,h⟩:=atm h
 have f13:=ib_lss (k:=.i64) ec12
 simp[hh,f11,f13,-intBin,-lenF]
 apply hk'
 refine Runs.ite (b:=c12) (by simp[hh]) (fun dc12=>?_) (fun dc12=>?_)
 ·replace h:=h.1 dc12
  refine Runs.skip ?_
  refine Runs.seq ?_
  refine Runs.block ?_
  refine Runs.seq ?_
  refine zE fun k' hk'=>?_
  obtain⟨hb14,h⟩:=h
  obtain⟨x15,ex15,h⟩:=atm h
  have f16:=fun H=>ix_list (H:=H) (fr:=false) (f:=intC) (k:=.i64) kd_24 (fun _=>rfl) hb14 ex15
  obtain⟨c17,ec17,h⟩:=atm h
  have f18:=ib_neq (k:=.i64) ec17
  simp[hh,f16,f18,dc12,-indexAddrF,-intBin]
  apply hk'
  refine Runs.ite (b:=c17) (by simp[hh,dc12]) (fun dc17=>?_) (fun dc17=>?_)
  ·replace h:=h.1 dc17
   refine zE fun k' hk'=>?_
   simp[hh,dc12,dc17]
   apply hk'
   exact Runs.ret1 (v:=int (-1)) Tryz.func20 Tryz.results20 (by simp[hh,dc12,dc17]) (hQ _ _ _ _ (.of (.v _)) ⟨(-1),h,rfl⟩)
  replace h:=h.2 dc17
  refine Runs.skip ?_
  refine zF fun k' hk'=>?_
  obtain⟨hb19,h⟩:=h
  obtain⟨v20,ev20,h⟩:=atm h
  have f21:=ib_add hb19 ev20
  simp[hh,f21,dc12,dc17,-intBin]
  apply hk'
  refine Runs.inBlock ?_
  refine zF fun k' hk'=>?_
  obtain⟨hb22,h⟩:=h
  obtain⟨v23,ev23,h⟩:=atm h
  have f24:=ib_add hb22 ev23
  simp[hh,f24,dc12,dc17,-intBin]
  apply hk'
  refine Runs.cut (fun ρ H n=>(ρ 0 = .list false (a.map intC)∧ρ 1=int v20∧ρ 5=int v23)) (by simp[hh,f24,dc12,dc17,-intBin]) ?_
  clear hh
  rintro ρ H n25 hh
  refine IH8 (v20,v23) _ _ _ h (by simp[hh])
 replace h:=h.2 dc12
 refine Runs.exit rfl ?_
 refine zE fun k' hk'=>?_
 simp[hh,dc12]
 apply hk'
 exact Runs.ret1 (v:=int k5) Tryz.func20 Tryz.results20 (by simp[hh,dc12]) (hQ _ _ _ _ (.of (.v _)) ⟨k5,h,rfl⟩)
theorem heldIntS_ok (a:List Int) (k_:Int) (hp:heldIntS_pre a k_):PureC Tryz.prog 20 [.list false (a.map intC),int k_] (fun r=>r=int (heldIntS a k_)):=(heldIntS_walk a k_ _ (heldIntS_vc a k_ hp)).mono (by rintro _ ⟨_,rfl,rfl⟩;rfl)
end Go.Ab.Vg
/- Walks by program for YtlmihcmpigdojaaGreatDoorAbNm. -/
namespace Go.Ab.Vg
open Go.Proofs
set_option maxRecDepth 100000
set_option linter.unusedSimpArgs false
set_option linter.unusedVariables false
attribute [local simp] GNode.cells Wire.cells intC sliceC strC bC pA
theorem e50:Ent Tryz.prog 50:=Ent.of Tryz.func50 (by kernel_rfl) rfl
theorem markNodeS_walk (a:List GNode) (k_:Int) (Z:((List GNode) × Int)→Prop) (h:markNodeS_wp a k_ Z):MutS Tryz.prog 50 (fun v=>[v,int k_]) (.s [.c,.c,.s [.c]]) (.list true (a.map (GNode.cells true))) (fun e' r=>∃ y:(List GNode) × Int,Z y∧e' = .list true (y.1.map (GNode.cells true))∧r=int y.2):=by
 unfold markNodeS_wp at h
 refine MutS.of Tryz.func50 rfl Tryz.ntmps50 (fun _=>by simp) fun H0 n0 v0 K0 ids0 sp Q hQ=>?_
 have h00:=sp.1
 have hid:∀ i ∈ ids0,H0 i=H0 i:=fun _ _=>rfl
 have hnn:n0≤n0:=Nat.le_refl _
 refine Runs.cut (fun ρ H n=>(ρ 0=v0∧ρ 1=int k_)∧n0≤n∧(∀ i ∈ ids0,H i=H0 i)∧Sep H n (oN v0 a::K0) (ids0)) (by refine⟨?_,(by omega),hid,sp⟩<;>simp ) ?_
 rintro ρ H n2 ⟨hh,hnn,hid,sp⟩
 have hq_n2:=hnn
 refine zE fun k' hk'=>?_
 simp[hh]
 apply hk'
 refine Runs.seq ?_
 refine zE fun k' hk'=>?_
 simp[hh]
 apply hk'
 refine Runs.block ?_
 refine Runs.loopW h (fun (sJ:Int × Int × (List GNode)) ρ H n=>match sJ with | (k10,i11,l12)=>(ρ 0=v0∧ρ 1=int k10∧ρ 5=int i11)∧n0≤n∧(∀ i ∈ ids0,H i=H0 i)∧Sep H n (oN v0 l12::K0) (ids0)) (by refine⟨?_,(by omega),hid,sp⟩<;>simp[hh]) ?_
 clear hh
 rintro⟨k10,i11,l12⟩ ρ H n13 K h ⟨hh,hnn,hid,sp⟩ IH14
 have hq_n13:=hnn
 refine Runs.seq ?_
 refine zE fun k' hk'=>?_
 obtain⟨len16,elen16,h⟩:=atm h
 have f17:=len_own (Sep.len (m:=len16) sp kd_35 (by rw[elen16,List.length_map]))
 obtain⟨c18,ec18,h⟩:=atm h
 have f19:=ib_lss (k:=.i64) ec18
 simp[hh,f17,f19,-intBin,-lenF]
 apply hk'
 refine Runs.ite (b:=c18) (by simp[hh]) (fun dc18=>?_) (fun dc18=>?_)
 ·replace h:=h.1 dc18
  refine Runs.skip ?_
  refine Runs.seq ?_
  refine Runs.block ?_
  refine zE fun k' hk'=>?_
  obtain⟨hb20,h⟩:=h
  obtain⟨x21,ex21,h⟩:=atm h
  obtain⟨id22,els23,row24,W25,hq26,mo27,moL28,moR29,hrl30,hW31,hsub32,hni33,spr34,hcl35⟩:=Sep.rowF (q:=i11.toNat) (f:=(GNode.cells true)) sp hb20 ex21 rfl
  subst hq26
  obtain⟨c36,c37,c38,hq26⟩:=len3 (by simpa using hrl30)
  subst hq26
  replace spr34:Sep _ _ [(.c,c36,int x21.control),(.c,c37,int x21.parent),(.s [.c],c38,.list true (x21.links.map intC))] W25:=spr34
  obtain rfl:=Sep.cAt (K1:=[]) (K2:=[(.c,c37,int x21.parent),(.s [.c],c38,.list true (x21.links.map intC))]) spr34
  obtain rfl:=Sep.cAt (K1:=[(.c,int x21.control,int x21.control)]) (K2:=[(.s [.c],c38,.list true (x21.links.map intC))]) spr34
  have f39:=ix_arr (k:=.i64) (off:=0) (len:=l12.length) kd_35 mo27 moL28 rfl hb20
  obtain⟨l40,el40,h⟩:=atm h
  simp[hh,mo27,moL28,moR29,f39,dc18,-indexAddrF,-storeF]
  refine bind_cell (i:=ty3) (q:=i11.toNat) (off:=0) (ix:=i11) (x:=x21) (y:=(GNode.mk k10 x21.parent x21.links)) (f:=(GNode.cells true)) [] [.c,.s [.c]] [] [int x21.parent,.list true (x21.links.map intC)] sp rfl rfl hb20 ex21 rfl rfl rfl rfl rfl rfl rfl ?_
  rintro H41 sp hfr42
  replace sp:Sep H41 n13 (oN (.arr id22 l12.length 0 l12.length) l40::K0) (ids0):=by rw[el40];exact sp
  have hid:∀ i ∈ ids0,H41 i=H0 i:=fun i hi=>(hfr42 i (by simp[hi])).trans (hid i hi)
  simp[hh,f39,dc18,-indexAddrF]
  apply hk'
  refine Runs.cut (fun ρ H n=>(ρ 0 = .arr id22 l12.length 0 l12.length∧ρ 1=int k10∧ρ 5=int i11)∧n0≤n∧(∀ i ∈ ids0,H i=H0 i)∧Sep H n (oN (.arr id22 l12.length 0 l12.length) l40::K0) (ids0)) (by refine⟨?_,(by omega),hid,sp⟩<;>simp[hh,f39,dc18,-indexAddrF]) ?_
  clear hh
  rintro ρ H n44 ⟨hh,hnn,hid,sp⟩
  have hq_n44:=hnn
  refine zE fun k' hk'=>?_
  obtain⟨hb45,h⟩:=h
  obtain⟨v46,ev46,h⟩:=atm h
  have f47:=ib_add hb45 ev46
  simp[hh,f47,-intBin]
  apply hk'
  refine zE fun k' hk'=>?_
  obtain⟨hb48,h⟩:=h
  obtain⟨x49,ex49,h⟩:=atm h
  obtain⟨id50,els51,row52,W53,hq54,mo55,moL56,moR57,hrl58,hW59,hsub60,hni61,spr62,hcl63⟩:=Sep.rowF (q:=i11.toNat) (f:=(GNode.cells true)) sp hb48 ex49 rfl
  simp only[AVal.arr.injEq] at hq54
  obtain⟨hq54,hln64,-⟩:=hq54
  subst hq54
  replace moL56:=moL56.trans hln64.symm
  obtain⟨c65,c66,c67,hq54⟩:=len3 (by simpa using hrl58)
  subst hq54
  replace spr62:Sep _ _ [(.c,c65,int x49.control),(.c,c66,int x49.parent),(.s [.c],c67,.list true (x49.links.map intC))] W53:=spr62
  obtain rfl:=Sep.cAt (K1:=[]) (K2:=[(.c,c66,int x49.parent),(.s [.c],c67,.list true (x49.links.map intC))]) spr62
  obtain rfl:=Sep.cAt (K1:=[(.c,int x49.control,int x49.control)]) (K2:=[(.s [.c],c67,.list true (x49.links.map intC))]) spr62
  have f68:=ix_arr (k:=.i64) (off:=0) (len:=l12.length) kd_35 mo55 moL56 rfl (by rw[hln64];exact hb48)
  obtain⟨l69,el69,h⟩:=atm h
  simp[hh,mo55,moL56,moR57,f68,-indexAddrF,-storeF]
  refine bind_cell (i:=ty3) (q:=i11.toNat) (off:=1) (ix:=i11) (x:=x49) (y:=(GNode.mk x49.control v46 x49.links)) (f:=(GNode.cells true)) [.c] [.s [.c]] [int x49.control] [.list true (x49.links.map intC)] sp rfl rfl hb48 ex49 rfl hln64 rfl rfl rfl rfl rfl ?_
  rintro H70 sp hfr71
  replace sp:Sep H70 n44 (oN (.arr id22 l12.length 0 l12.length) l69::K0) (ids0):=by rw[el69];exact sp
  have hid:∀ i ∈ ids0,H70 i=H0 i:=fun i hi=>(hfr71 i (by simp[hi])).trans (hid i hi)
  simp[hh,f68,-indexAddrF]
  apply hk'
  refine Runs.cut (fun ρ H n=>(ρ 0 = .arr id22 l12.length 0 l12.length∧ρ 1=int v46∧ρ 5=int i11)∧n0≤n∧(∀ i ∈ ids0,H i=H0 i)∧Sep H n (oN (.arr id22 l12.length 0 l12.length) l69::K0) (ids0)) (by refine⟨?_,(by omega),hid,sp⟩<;>simp[hh,f68,-indexAddrF]) ?_
  clear hh
  rintro ρ H n73 ⟨hh,hnn,hid,sp⟩
  have hq_n73:=hnn
  refine zE fun k' hk'=>?_
  obtain⟨hb74,h⟩:=h
  obtain⟨v75,ev75,h⟩:=atm h
  have f76:=ib_add hb74 ev75
  simp[hh,f76,-intBin]
  apply hk'
  refine zF fun k' hk'=>?_
  obtain⟨hb77,h⟩:=h
  obtain⟨x78,ex78,h⟩:=atm h
  obtain⟨id79,els80,row81,W82,hq83,mo84,moL85,moR86,hrl87,hW88,hsub89,hni90,spr91,hcl92⟩:=Sep.rowF (q:=i11.toNat) (f:=(GNode.cells true)) sp hb77 ex78 rfl
  simp only[AVal.arr.injEq] at hq83
  obtain⟨hq83,hln93,-⟩:=hq83
  subst hq83
  replace moL85:=moL85.trans hln93.symm
  obtain⟨c94,c95,c96,hq83⟩:=len3 (by simpa using hrl87)
  subst hq83
  replace spr91:Sep _ _ [(.c,c94,int x78.control),(.c,c95,int x78.parent),(.s [.c],c96,.list true (x78.links.map intC))] W82:=spr91
  obtain rfl:=Sep.cAt (K1:=[]) (K2:=[(.c,c95,int x78.parent),(.s [.c],c96,.list true (x78.links.map intC))]) spr91
  obtain rfl:=Sep.cAt (K1:=[(.c,int x78.control,int x78.control)]) (K2:=[(.s [.c],c96,.list true (x78.links.map intC))]) spr91
  have f97:=ix_arr (k:=.i64) (off:=0) (len:=l12.length) kd_35 mo84 moL85 rfl (by rw[hln93];exact hb77)
  obtain⟨hb98,h⟩:=h
  obtain⟨r99,er99,h⟩:=atm h
  simp[hh,mo84,moL85,moR86,f97,-indexAddrF]
  refine RunK.callM (v:=c96) Ty_ok (markIntS_ok x78.links v75 hb98) e19 (Sep.front (K1:=[(.c,int x78.control,int x78.control),(.c,int x78.parent,int x78.parent)]) (K2:=[]) spr91) (by decide) (by decide) rfl (by simp[hh,mo84,moL85,moR86,f97,-indexAddrF]) ?_
  rintro _ H100 n101 _ ⟨rfl,rfl⟩ spx hle103 hfrW102
  rw[← er99] at spx
  rw[← er99]
  obtain⟨l105,el105,h⟩:=atm h
  replace sp:=hcl92 H100 n101 (GNode.mk x78.control x78.parent r99.1) (Sep.unfront (K1:=[(.c,int x78.control,int x78.control),(.c,int x78.parent,int x78.parent)]) (K2:=[]) spx) rfl hfrW102 hle103
  have hfr104:=fun i hi=>hfrW102 i (hsub89 i hi)
  replace sp:Sep H100 n101 (oN (.arr id22 l12.length 0 l12.length) l105::K0) (ids0):=by rw[el105];exact sp
  have hid:∀ i ∈ ids0,H100 i=H0 i:=fun i hi=>(hfr104 i (by simp[hi])).trans (hid i hi)
  have hnn:n0≤n101:=by omega
  have hq_n101:=hnn
  simp[hh,f97,-indexAddrF]
  apply hk'
  refine Runs.cut (fun ρ H n=>(ρ 0 = .arr id22 l12.length 0 l12.length∧ρ 1=int r99.2∧ρ 5=int i11)∧n0≤n∧(∀ i ∈ ids0,H i=H0 i)∧Sep H n (oN (.arr id22 l12.length 0 l12.length) l105::K0) (ids0)) (by refine⟨?_,(by omega),hid,sp⟩<;>simp[hh,f97,-indexAddrF]) ?_
  clear hh
  rintro ρ H n107 ⟨hh,hnn,hid,sp⟩
  have hq_n107:=hnn
  refine Runs.inBlock ?_
  refine zF fun k' hk'=>?_
  obtain⟨hb108,h⟩:=h
  obtain⟨v109,ev109,h⟩:=atm h
  have f110:=ib_add hb108 ev109
  simp[hh,f110,-intBin]
  apply hk'
  refine IH14 (r99.2,v109,l105) _ _ _ h (by refine⟨?_,(by omega),hid,sp⟩<;>simp[hh])
 replace h:=h.2 dc18
 refine Runs.exit rfl ?_
 refine zE fun k' hk'=>?_
 simp[hh,dc18]
 apply hk'
 exact Runs.ret1 (v:=int k10) Tryz.func50 Tryz.results50 (by simp[hh,dc18]) (hQ _ _ _ _ (Sep.sub sp (by simp +contextual)) hid (by omega) ⟨(l12,k10),h,rfl,rfl⟩)
theorem markNodeS_ok (a:List GNode) (k_:Int) (hp:markNodeS_pre a k_):MutS Tryz.prog 50 (fun v=>[v,int k_]) (.s [.c,.c,.s [.c]]) (.list true (a.map (GNode.cells true))) (fun e' r=>e' = .list true (((markNodeS a k_).1).map (GNode.cells true))∧r=int ((markNodeS a k_).2)):=(markNodeS_walk a k_ _ (markNodeS_vc a k_ hp)).mono (by rintro _ _ ⟨_,rfl,rfl,rfl⟩;exact⟨rfl,rfl⟩)
theorem e18:Ent Tryz.prog 18:=Ent.of Tryz.func18 (by kernel_rfl) rfl
theorem markBig_walk (a:Big) (k_:Int) (Z:(Big × Int)→Prop) (h:markBig_wp a k_ Z):MutS Tryz.prog 18 (fun v=>[v,int k_]) (.a [.c,.s [.c,.c,.s [.c]],.s [.c],.c,.s [.c],.s [.c,.c]]) (.agg (bC true a)) (fun e' r=>∃ y:Big × Int,Z y∧e' = .agg (bC true y.1)∧r=int y.2):=by
 unfold markBig_wp at h
 refine MutS.of Tryz.func18 rfl Tryz.ntmps18 (fun _=>by simp) fun H0 n0 v0 K0 ids0 sp Q hQ=>?_
 have h00:=sp.1
 have hid:∀ i ∈ ids0,H0 i=H0 i:=fun _ _=>rfl
 have hnn:n0≤n0:=Nat.le_refl _
 replace sp:=Sep.unpack sp
 obtain⟨L0,hv,hl0,sp⟩:=sp
 subst hv
 obtain⟨a0_,a1_,a2_,a3_,a4_,a5_,hv⟩:=len6 (by simpa using hl0)
 subst hv
 simp only[zip3,List.cons_append,List.nil_append] at sp
 replace sp:=Sep.scalar sp
 obtain⟨hv,sp⟩:=sp
 subst hv
 replace sp:=Sep.rot sp
 try simp only[List.cons_append,List.nil_append,List.append_assoc] at sp
 replace sp:=Sep.rot sp
 try simp only[List.cons_append,List.nil_append,List.append_assoc] at sp
 replace sp:=Sep.scalar sp
 obtain⟨hv,sp⟩:=sp
 subst hv
 replace sp:=Sep.rot sp
 try simp only[List.cons_append,List.nil_append,List.append_assoc] at sp
 replace sp:=Sep.rot sp
 try simp only[List.cons_append,List.nil_append,List.append_assoc] at sp
 replace sp:=Sep.swap (K1:=K0) sp
 simp only[List.cons_append,List.nil_append] at sp
 refine Runs.cut (fun ρ H n=>(ρ 0 = .agg [int a.roots,a1_,a2_,int a.edges,a4_,a5_]∧ρ 1=int k_)∧n0≤n∧(∀ i ∈ ids0,H i=H0 i)∧Sep H n (oN a1_ a.nodes::oI a2_ a.sites::oS a4_ a.outer::oW a5_ a.inner::K0) (ids0)) (by refine⟨?_,(by omega),hid,sp⟩<;>simp ) ?_
 rintro ρ H n5 ⟨hh,hnn,hid,sp⟩
 have hq_n5:=hnn
 refine zE fun k' hk'=>?_
 have f6:=Sep.oc sp
 have f7:=Sep.oc sp.f1
 have f8:=Sep.oc sp.f2
 have f9:=Sep.oc sp.f3
 simp[hh,f6,f7,f8,f9,-cellsA,-one1,cAx,o1x]
 apply hk'
 refine Runs.cut (fun ρ H n=>(ρ 1=int k_∧ρ 2=pA n5 2)∧H (n5,2)=some ⟨6,[[int a.roots,a1_,a2_,int a.edges,a4_,a5_]]⟩∧n0≤n∧(∀ i ∈ ids0,H i=H0 i)∧Sep H n (oN a1_ a.nodes::oI a2_ a.sites::oS a4_ a.outer::oW a5_ a.inner::K0) ((n5,2)::ids0)) (by refine⟨?_,?_,(by omega),(by intro i hi;have hlt:=h00 i (by simp[hi]);repeat (first | exact hid i hi | rw[Heap.get_set_ne _ _ (by rintro rfl;simp at hlt;omega)])),sp.var⟩<;>simp[hh,f6,f7,f8,f9,-cellsA,-one1,cAx,o1x]) ?_
 clear hh
 rintro ρ H n11 ⟨hh,m2_9,hnn,hid,sp⟩
 have hq_n11:=hnn
 refine zE fun k' hk'=>?_
 obtain⟨hb12,h⟩:=h
 obtain⟨r13,er13,h⟩:=atm h
 have f14:=Sep.oc sp
 simp[hh,m2_9,f14,-cellsA,-one1,cAx,o1x]
 refine RunK.callM (v:=a1_) Ty_ok (markNodeS_ok a.nodes k_ hb12) e50 sp (by decide) (by decide) rfl (by simp[hh,m2_9,f14,-cellsA,-one1,cAx,o1x]) ?_
 rintro _ H15 n16 _ ⟨rfl,rfl⟩ sp hle18 hfr17
 rw[← er13] at sp
 rw[← er13]
 replace sp:Sep H15 n16 (oN a1_ r13.1::oI a2_ a.sites::oS a4_ a.outer::oW a5_ a.inner::K0) ((n5,2)::ids0):=sp
 have hid:∀ i ∈ ids0,H15 i=H0 i:=fun i hi=>(hfr17 i (by simp[hi])).trans (hid i hi)
 have hnn:n0≤n16:=by omega
 have hq_n16:=hnn
 have m2_9:=(hfr17 _ (by simp)).trans m2_9
 simp[hh,m2_9,f14,-cellsA,-one1,cAx,o1x]
 apply hk'
 refine Runs.cut (fun ρ H n=>(ρ 1=int r13.2∧ρ 2=pA n5 2)∧H (n5,2)=some ⟨6,[[int a.roots,a1_,a2_,int a.edges,a4_,a5_]]⟩∧n0≤n∧(∀ i ∈ ids0,H i=H0 i)∧Sep H n (oN a1_ r13.1::oI a2_ a.sites::oS a4_ a.outer::oW a5_ a.inner::K0) ((n5,2)::ids0)) (by refine⟨?_,?_,(by omega),hid,sp⟩<;>simp[hh,m2_9,f14,-cellsA,-one1,cAx,o1x]) ?_
 clear hh m2_9
 rintro ρ H n20 ⟨hh,m2_9,hnn,hid,sp⟩
 have hq_n20:=hnn
 refine zE fun k' hk'=>?_
 obtain⟨hb21,h⟩:=h
 obtain⟨r22,er22,h⟩:=atm h
 have f23:=Sep.oc sp.f1
 simp[hh,m2_9,f23,-cellsA,-one1,cAx,o1x]
 refine RunK.callM (v:=a2_) Ty_ok (markIntS_ok a.sites r13.2 hb21) e19 sp.f1 (by decide) (by decide) rfl (by simp[hh,m2_9,f23,-cellsA,-one1,cAx,o1x]) ?_
 rintro _ H24 n25 _ ⟨rfl,rfl⟩ sp hle27 hfr26
 rw[← er22] at sp
 rw[← er22]
 replace sp:Sep H24 n25 (oI a2_ r22.1::oN a1_ r13.1::oS a4_ a.outer::oW a5_ a.inner::K0) ((n5,2)::ids0):=sp
 have hid:∀ i ∈ ids0,H24 i=H0 i:=fun i hi=>(hfr26 i (by simp[hi])).trans (hid i hi)
 have hnn:n0≤n25:=by omega
 have hq_n25:=hnn
 have m2_9:=(hfr26 _ (by simp)).trans m2_9
 simp[hh,m2_9,f23,-cellsA,-one1,cAx,o1x]
 apply hk'
 refine Runs.cut (fun ρ H n=>(ρ 1=int r22.2∧ρ 2=pA n5 2)∧H (n5,2)=some ⟨6,[[int a.roots,a1_,a2_,int a.edges,a4_,a5_]]⟩∧n0≤n∧(∀ i ∈ ids0,H i=H0 i)∧Sep H n (oI a2_ r22.1::oN a1_ r13.1::oS a4_ a.outer::oW a5_ a.inner::K0) ((n5,2)::ids0)) (by refine⟨?_,?_,(by omega),hid,sp⟩<;>simp[hh,m2_9,f23,-cellsA,-one1,cAx,o1x]) ?_
 clear hh m2_9
 rintro ρ H n29 ⟨hh,m2_9,hnn,hid,sp⟩
 have hq_n29:=hnn
 refine zE fun k' hk'=>?_
 obtain⟨hb30,h⟩:=h
 obtain⟨r31,er31,h⟩:=atm h
 have f32:=Sep.oc sp.f2
 simp[hh,m2_9,f32,-cellsA,-one1,cAx,o1x]
 refine RunK.callM (v:=a4_) Ty_ok (markStringS_ok a.outer r22.2 hb30) e51 sp.f2 (by decide) (by decide) rfl (by simp[hh,m2_9,f32,-cellsA,-one1,cAx,o1x]) ?_
 rintro _ H33 n34 _ ⟨rfl,rfl⟩ sp hle36 hfr35
 rw[← er31] at sp
 rw[← er31]
 replace sp:Sep H33 n34 (oS a4_ r31.1::oI a2_ r22.1::oN a1_ r13.1::oW a5_ a.inner::K0) ((n5,2)::ids0):=sp
 have hid:∀ i ∈ ids0,H33 i=H0 i:=fun i hi=>(hfr35 i (by simp[hi])).trans (hid i hi)
 have hnn:n0≤n34:=by omega
 have hq_n34:=hnn
 have m2_9:=(hfr35 _ (by simp)).trans m2_9
 simp[hh,m2_9,f32,-cellsA,-one1,cAx,o1x]
 apply hk'
 refine Runs.cut (fun ρ H n=>(ρ 1=int r31.2∧ρ 2=pA n5 2)∧H (n5,2)=some ⟨6,[[int a.roots,a1_,a2_,int a.edges,a4_,a5_]]⟩∧n0≤n∧(∀ i ∈ ids0,H i=H0 i)∧Sep H n (oS a4_ r31.1::oI a2_ r22.1::oN a1_ r13.1::oW a5_ a.inner::K0) ((n5,2)::ids0)) (by refine⟨?_,?_,(by omega),hid,sp⟩<;>simp[hh,m2_9,f32,-cellsA,-one1,cAx,o1x]) ?_
 clear hh m2_9
 rintro ρ H n38 ⟨hh,m2_9,hnn,hid,sp⟩
 have hq_n38:=hnn
 refine zE fun k' hk'=>?_
 obtain⟨hb39,h⟩:=h
 obtain⟨r40,er40,h⟩:=atm h
 have f41:=Sep.oc sp.f3
 simp[hh,m2_9,f41,-cellsA,-one1,cAx,o1x]
 refine RunK.callM (v:=a5_) Ty_ok (markWireS_ok a.inner r31.2 hb39) e52 sp.f3 (by decide) (by decide) rfl (by simp[hh,m2_9,f41,-cellsA,-one1,cAx,o1x]) ?_
 rintro _ H42 n43 _ ⟨rfl,rfl⟩ sp hle45 hfr44
 rw[← er40] at sp
 rw[← er40]
 replace sp:Sep H42 n43 (oW a5_ r40.1::oS a4_ r31.1::oI a2_ r22.1::oN a1_ r13.1::K0) ((n5,2)::ids0):=sp
 have hid:∀ i ∈ ids0,H42 i=H0 i:=fun i hi=>(hfr44 i (by simp[hi])).trans (hid i hi)
 have hnn:n0≤n43:=by omega
 have hq_n43:=hnn
 have m2_9:=(hfr44 _ (by simp)).trans m2_9
 simp[hh,m2_9,f41,-cellsA,-one1,cAx,o1x]
 apply hk'
 refine Runs.cut (fun ρ H n=>ρ 1=int r40.2∧n0≤n∧(∀ i ∈ ids0,H i=H0 i)∧Sep H n (oW a5_ r40.1::oS a4_ r31.1::oI a2_ r22.1::oN a1_ r13.1::K0) (ids0)) (by refine⟨?_,(by omega),hid,(Sep.sub sp (by simp +contextual))⟩<;>simp[hh,m2_9,f41,-cellsA,-one1,cAx,o1x]) ?_
 clear hh m2_9
 rintro ρ H n47 ⟨hh,hnn,hid,sp⟩
 have hq_n47:=hnn
 refine zE fun k' hk'=>?_
 simp[hh]
 apply hk'
 exact Runs.ret1 (v:=int r40.2) Tryz.func18 Tryz.results18 (by simp[hh]) (hQ _ _ _ _ (Sep.sub (Sep.pack (Fill.v _ (Fill.own (Fill.own (Fill.v _ (Fill.own (Fill.own Fill.nil)))))) sp.f1.f2.f3) (by simp +contextual)) hid (by omega) ⟨((Big.mk a.roots r13.1 r22.1 a.edges r31.1 r40.1),r40.2),h,rfl,rfl⟩)
theorem markBig_ok (a:Big) (k_:Int) (hp:markBig_pre a k_):MutS Tryz.prog 18 (fun v=>[v,int k_]) (.a [.c,.s [.c,.c,.s [.c]],.s [.c],.c,.s [.c],.s [.c,.c]]) (.agg (bC true a)) (fun e' r=>e' = .agg [int (((markBig a k_).1).roots),.list true ((((markBig a k_).1).nodes).map (GNode.cells true)),.list true ((((markBig a k_).1).sites).map intC),int (((markBig a k_).1).edges),.list true ((((markBig a k_).1).outer).map strC),.list true ((((markBig a k_).1).inner).map Wire.cells)]∧r=int ((markBig a k_).2)):=(markBig_walk a k_ _ (markBig_vc a k_ hp)).mono (by rintro _ _ ⟨_,rfl,rfl,rfl⟩;exact⟨rfl,rfl⟩)
end Go.Ab.Vg
/- Walks by program for YtlmihcmpigdojaaGreatDoorAbMd. -/
namespace Go.Ab.Vg
open Go.Proofs
set_option maxRecDepth 100000
set_option linter.unusedSimpArgs false
set_option linter.unusedVariables false
end Go.Ab.Vg
/- Walks by program for YtlmihcmpigdojaaGreatDoorAbKj. -/
namespace Go.Ab.Vg
open Go.Proofs
set_option maxRecDepth 100000
set_option linter.unusedSimpArgs false
set_option linter.unusedVariables false
attribute [local simp] Control.cells GNode.cells Wire.cells intC sliceC strC bC pA
theorem codeOf_ok (b:Big) (h:codeZ_pre b):OwnS Tryz.prog 44 [.agg (Big.cells false b)] (.s [.c]) (fun r=>r = .list true ((codeZ b).map intC)):=let ⟨_,hv⟩:=h;codeOf_c hv
theorem e44:Ent Tryz.prog 44:=Ent.of Tryz.func44 (by kernel_rfl) rfl
theorem e13:Ent Tryz.prog 13:=Ent.of Tryz.func13 (by kernel_rfl) rfl
theorem CodeOf_walk (sig:List Control) (b:Big) (Z:((List Int) × Bool)→Prop) (h:CodeOf_wp sig b Z):OwnS Tryz.prog 13 [.list false (sig.map Control.cells),.agg (bC false b)] (.t [.s [.c],.c]) (fun r=>∃ y:(List Int) × Bool,Z y∧r = .tup [.list true (y.1.map intC),bool y.2]):=by
 unfold CodeOf_wp at h
 have sp:Sep noHeap 0 [] []:=Sep.nil (by simp)
 refine OwnS.of Tryz.func13 rfl Tryz.ntmps13 (by simp) fun Q hQ=>?_
 refine Runs.cut (fun ρ H n=>(ρ 0 = .list false (sig.map Control.cells)∧ρ 1 = .agg (bC false b))∧Sep H n [] []) (by refine⟨by simp ,sp⟩) ?_
 rintro ρ H n1 ⟨hh,sp⟩
 refine zE fun k' hk'=>?_
 simp[hh]
 apply hk'
 refine Runs.cut (fun ρ H n=>((ρ 0 = .list false (sig.map Control.cells)∧ρ 3=pA n1 3)∧H (n1,3)=some ⟨6,[bC false b]⟩)∧Sep H n [] [(n1,3)]) (by refine⟨by simp[hh],sp.var⟩) ?_
 clear hh
 rintro ρ H n3 ⟨⟨hh,m3_1⟩,sp⟩
 refine Runs.seq ?_
 refine zE fun k' hk'=>?_
 obtain⟨hb4,h⟩:=h
 obtain⟨r5,er5,h⟩:=atm h
 simp[hh,m3_1]
 refine RunK.callA Ty_ok (IsBigraph_ok sig b hb4) e43 (.cons (argC false sig) (.cons (argB false b) .nil)) (by decide) (by decide) rfl (by simp[hh,m3_1]) ?_
 rintro _ rfl
 rw[← er5]
 simp[hh,m3_1]
 apply hk'
 refine Runs.ite (b:=(!r5)) (by simp[hh,m3_1]) (fun dr5=>?_) (fun dr5=>?_)
 ·have dr5:r5=false:=by simpa using dr5
  replace h:=h.2 dr5
  refine zE fun k' hk'=>?_
  simp[hh,m3_1,dr5]
  apply hk'
  exact Runs.ret2 (v:=.v (.slice none 0 0)) (w:=bool false) Tryz.func13 Tryz.results13 (by simp[hh,m3_1,dr5]) (by simp[hh,m3_1,dr5]) (hQ _ _ _ _ (Sep.sub (ids':=[]) (Sep.packT (Fill.own (Fill.v _ Fill.nil)) (Sep.addNil sp)) (by simp)) ⟨([],false),h,rfl⟩)
 have dr5:r5=true:=by simpa using dr5
 replace h:=h.1 dr5
 refine Runs.skip ?_
 refine zE fun k' hk'=>?_
 obtain⟨hb8,h⟩:=h
 obtain⟨r9,er9,h⟩:=atm h
 simp[hh,m3_1,dr5]
 refine RunK.callW Ty_ok (codeOf_ok b hb8) e44 (.cons (argB false b) .nil) sp (by decide) (by decide) rfl (by simp[hh,m3_1,dr5]) ?_
 rintro v10 H11 n12 _ sp rfl hle14 hfr13
 rw[← er9] at sp
 have m3_1:=(hfr13 _ (by simp)).trans m3_1
 simp[hh,m3_1,dr5]
 apply hk'
 refine Runs.cut (fun ρ H n=>∃ (v17:AVal),(ρ 4=v17∧ρ 5=bool true)∧Sep H n [oI v17 r9] []) (by refine⟨v10,by simp[hh,m3_1,dr5],(Sep.sub sp (by simp +contextual))⟩) ?_
 clear hh m3_1
 rintro ρ H n18 ⟨v17,hh,sp⟩
 exact Runs.ret2 (v:=v17) (w:=bool true) Tryz.func13 Tryz.results13 (by simp[hh]) (by simp[hh]) (hQ _ _ _ _ (Sep.sub (ids':=[]) (Sep.packT (Fill.own (Fill.v _ Fill.nil)) sp) (by simp)) ⟨(r9,true),h,rfl⟩)
theorem CodeOf_ok (sig:List Control) (b:Big) (hp:CodeOf_pre sig b):OwnS Tryz.prog 13 [.list false (sig.map Control.cells),.agg (bC false b)] (.t [.s [.c],.c]) (fun r=>r = .tup [.list true (((CodeOf sig b).1).map intC),bool ((CodeOf sig b).2)]):=(CodeOf_walk sig b _ (CodeOf_vc sig b hp)).mono (by rintro _ ⟨_,rfl,rfl⟩;rfl)
theorem e10:Ent Tryz.prog 10:=Ent.of Tryz.func10 (by kernel_rfl) rfl
theorem sCodeOf_walk (sig:List Control) (b:Big) (Z:((List Int) × Bool)→Prop) (h:sCodeOf_wp sig b Z):PureC Tryz.prog 10 [.list false (sig.map Control.cells),.agg (bC false b)] (fun r=>∃ y:(List Int) × Bool,Z y∧r = .tup [.list true (y.1.map intC),bool y.2]):=by
 unfold sCodeOf_wp at h
 refine PureC.of Tryz.func10 rfl Tryz.ntmps10 (by simp) fun Q hQ=>?_
 refine Runs.cut (fun ρ H n=>(ρ 0 = .list false (sig.map Control.cells)∧ρ 1 = .agg (bC false b))) (by simp) ?_
 rintro ρ H n1 hh
 refine zE fun k' hk'=>?_
 simp[hh]
 apply hk'
 refine Runs.cut (fun ρ H n=>(ρ 0 = .list false (sig.map Control.cells)∧ρ 3=pA n1 3)∧H (n1,3)=some ⟨6,[bC false b]⟩) (by refine⟨?_,?_⟩<;>simp[hh]) ?_
 clear hh
 rintro ρ H n3 ⟨hh,m3_1⟩
 refine Runs.seq ?_
 refine zE fun k' hk'=>?_
 obtain⟨hb4,h⟩:=h
 obtain⟨r5,er5,h⟩:=atm h
 simp[hh,m3_1]
 refine RunK.callA Ty_ok (l2Good_ok sig b hb4) e35 (.cons (argC false sig) (.cons (argB false b) .nil)) (by decide) (by decide) rfl (by simp[hh,m3_1]) ?_
 rintro _ rfl
 rw[← er5]
 simp[hh,m3_1]
 apply hk'
 refine Runs.ite (b:=(!r5)) (by simp[hh,m3_1]) (fun dr5=>?_) (fun dr5=>?_)
 ·have dr5:r5=false:=by simpa using dr5
  replace h:=h.2 dr5
  refine zE fun k' hk'=>?_
  simp[hh,m3_1,dr5]
  apply hk'
  refine Runs.cut (fun ρ H n=>(ρ 4 = .arr (n3,12) 0 0 0∧ρ 5=bool false)∧H (n3,12)=some ⟨1,([]:List Int).map intC⟩) (by refine⟨?_,?_⟩<;>simp[hh,m3_1,dr5]) ?_
  clear hh m3_1
  rintro ρ H n7 ⟨hh,m12_5⟩
  exact Runs.ret2 (v:=.arr (n3,12) 0 0 0) (w:=bool false) Tryz.func10 Tryz.results10 (by simp[hh,m12_5]) (by simp[hh,m12_5]) (hQ _ _ _ _ (.of (.tupL (.cons (.arrF (sz:=1) (els:=([]:List Int).map intC) (by simp[hh,m12_5,live]) (by simp)) (.cons (.v _) .nil)))) ⟨(([]:List Int),false),h,rfl⟩)
 have dr5:r5=true:=by simpa using dr5
 replace h:=h.1 dr5
 refine Runs.skip ?_
 refine Runs.seqD Ty_ok kindOp_ok draws (by decide) (by kernel_rfl) fun k' hk'=>?_
 obtain⟨len8,elen8,h⟩:=atm h
 have f9:=fun H=>len_list (H:=H) (fr:=false) (f:=(GNode.cells false)) kd_35 elen8
 obtain⟨hb10,h⟩:=h
 obtain⟨r11,er11,h⟩:=atm h
 simp[hh,m3_1,f9,dr5,-lenF]
 refine RunDK.callA Ty_ok kindOp_ok ((countZ_ok len8 hb10).pure) e37 (.cons (.v _ _ _) .nil) (by decide) rfl (by simp[hh,m3_1,f9,dr5,-lenF]) ?_
 rw[← er11]
 obtain⟨hb12,h⟩:=h
 obtain⟨r13,er13,h⟩:=atm h
 simp[hh,m3_1,f9,dr5,-lenF]
 refine RunDK.callA Ty_ok kindOp_ok ((l5Code_ok b r11 hb12).pure) e36 (.cons (argB false b) (.cons (argI true r11) .nil)) (by decide) rfl (by simp[hh,m3_1,f9,dr5,-lenF]) ?_
 rw[← er13]
 simp[hh,m3_1,f9,dr5,-lenF]
 apply hk'
 refine Runs.cut (fun ρ H n=>ρ 6 = .list true (r13.1.map intC)) (by simp[hh,m3_1,f9,dr5,-lenF]) ?_
 clear hh m3_1
 rintro ρ H n14 hh
 refine zE fun k' hk'=>?_
 simp[hh]
 apply hk'
 exact Runs.ret2 (v:=.list true (r13.1.map intC)) (w:=bool true) Tryz.func10 Tryz.results10 (by simp[hh]) (by simp[hh]) (hQ _ _ _ _ (.of (.tupL (.cons (.fresh (by simp)) (.cons (.v _) .nil)))) ⟨(r13.1,true),h,rfl⟩)
theorem sCodeOf_ok (sig:List Control) (b:Big) (hp:sCodeOf_pre sig b):PureC Tryz.prog 10 [.list false (sig.map Control.cells),.agg (bC false b)] (fun r=>r = .tup [.list true (((sCodeOf sig b).1).map intC),bool ((sCodeOf sig b).2)]):=(sCodeOf_walk sig b _ (sCodeOf_vc sig b hp)).mono (by rintro _ ⟨_,rfl,rfl⟩;rfl)
theorem e3:Ent Tryz.prog 3:=Ent.of Tryz.func3 (by kernel_rfl) rfl
set_option maxHeartbeats 4000000 in
theorem lawCode_walk (aSig:List Control) (aB:Big) (Z:Bool→Prop) (h:lawCode_wp aSig aB Z):PureC Tryz.prog 3 [.list false (aSig.map Control.cells),.agg (bC false aB)] (fun r=>∃ y:Bool,Z y∧r=bool y):=by
 unfold lawCode_wp at h
 have sp:Sep noHeap 0 [] []:=Sep.nil (by simp)
 refine PureC.of Tryz.func3 rfl Tryz.ntmps3 (by simp) fun Q hQ=>?_
 refine Runs.cut (fun ρ H n=>(ρ 0 = .list false (aSig.map Control.cells)∧ρ 1 = .agg (bC false aB))∧Sep H n [] []) (by refine⟨by simp ,sp⟩) ?_
 rintro ρ H n1 ⟨hh,sp⟩
 refine zE fun k' hk'=>?_
 simp[hh]
 apply hk'
 refine Runs.cut (fun ρ H n=>((ρ 0 = .list false (aSig.map Control.cells)∧ρ 3=pA n1 3)∧H (n1,3)=some ⟨6,[bC false aB]⟩)∧Sep H n [] [(n1,3)]) (by refine⟨by simp[hh],sp.var⟩) ?_
 clear hh
 rintro ρ H n3 ⟨⟨hh,m3_1⟩,sp⟩
 refine zE fun k' hk'=>?_
 simp[hh,m3_1]
 apply hk'
 refine zE fun k' hk'=>?_
 obtain⟨hb4,h⟩:=h
 obtain⟨r5,er5,h⟩:=atm h
 simp[hh,m3_1]
 refine RunK.callA Ty_ok (szControlS_ok aSig 1048576 hb4.1.1 hb4.1.2 hb4.2.len hb4.2.names) e8 (.cons (argC false aSig) (.cons (.v _ _ _) .nil)) (by decide) (by decide) rfl (by simp[hh,m3_1]) ?_
 rintro _ rfl
 rw[← er5]
 simp[hh,m3_1]
 apply hk'
 refine Runs.seq ?_
 refine zE fun k' hk'=>?_
 obtain⟨c6,ec6,h⟩:=atm h
 have f7:=ib_lss (k:=.i64) ec6
 simp[hh,m3_1,f7,-intBin]
 apply hk'
 refine Runs.ite (b:=c6) (by simp[hh,m3_1]) (fun dc6=>?_) (fun dc6=>?_)
 ·replace h:=h.1 dc6
  refine zE fun k' hk'=>?_
  simp[hh,m3_1,dc6]
  apply hk'
  exact Runs.ret1 (v:=bool true) Tryz.func3 Tryz.results3 (by simp[hh,m3_1,dc6]) (hQ _ _ _ _ (.of (.v _)) ⟨true,h,rfl⟩)
 replace h:=h.2 dc6
 refine Runs.skip ?_
 refine zE fun k' hk'=>?_
 obtain⟨hb8,h⟩:=h
 obtain⟨r9,er9,h⟩:=atm h
 simp[hh,m3_1,dc6]
 refine RunK.callA Ty_ok (szBigraph_ok aB r5 hb8.1.1 hb8.1.2 hb8.2) e9 (.cons (argB false aB) (.cons (.v _ _ _) .nil)) (by decide) (by decide) rfl (by simp[hh,m3_1,dc6]) ?_
 rintro _ rfl
 rw[← er9]
 simp[hh,m3_1,dc6]
 apply hk'
 refine Runs.seq ?_
 refine zE fun k' hk'=>?_
 obtain⟨c10,ec10,h⟩:=atm h
 have f11:=ib_lss (k:=.i64) ec10
 simp[hh,m3_1,f11,dc6,-intBin]
 apply hk'
 refine Runs.ite (b:=c10) (by simp[hh,m3_1,dc6]) (fun dc10=>?_) (fun dc10=>?_)
 ·replace h:=h.1 dc10
  refine zE fun k' hk'=>?_
  simp[hh,m3_1,dc6,dc10]
  apply hk'
  exact Runs.ret1 (v:=bool true) Tryz.func3 Tryz.results3 (by simp[hh,m3_1,dc6,dc10]) (hQ _ _ _ _ (.of (.v _)) ⟨true,h,rfl⟩)
 replace h:=h.2 dc10
 refine Runs.skip ?_
 refine Runs.seqD Ty_ok kindOp_ok draws (by decide) (by kernel_rfl) fun k' hk'=>?_
 obtain⟨hb12,h⟩:=h
 obtain⟨r13,er13,h⟩:=atm h
 simp[hh,m3_1,dc6,dc10]
 refine RunDK.callA Ty_ok kindOp_ok ((toControlS_ok aSig hb12).pure) e11 (.cons (argC false aSig) .nil) (by decide) rfl (by simp[hh,m3_1,dc6,dc10]) ?_
 rw[← er13]
 obtain⟨hb14,h⟩:=h
 obtain⟨r15,er15,h⟩:=atm h
 simp[hh,m3_1,dc6,dc10]
 refine RunDK.callA Ty_ok kindOp_ok ((toBigraph_ok aB hb14).pure) e12 (.cons (argB false aB) .nil) (by decide) rfl (by simp[hh,m3_1,dc6,dc10]) ?_
 rw[← er15]
 obtain⟨hb16,h⟩:=h
 obtain⟨r17,er17,h⟩:=atm h
 simp[hh,m3_1,dc6,dc10]
 refine RunDK.callA Ty_ok kindOp_ok (sCodeOf_ok r13 r15 hb16) e10 (.cons (argC true r13) (.cons (argB true r15) .nil)) (by decide) rfl (by simp[hh,m3_1,dc6,dc10]) ?_
 rw[← er17]
 simp[hh,m3_1,dc6,dc10]
 apply hk'
 refine Runs.cut (fun ρ H n=>((ρ 0 = .list false (aSig.map Control.cells)∧ρ 3=pA n1 3∧ρ 6 = .list true (r17.1.map intC)∧ρ 7=bool r17.2)∧H (n1,3)=some ⟨6,[bC false aB]⟩)∧Sep H n [] [(n1,3)]) (by refine⟨by simp[hh,m3_1,dc6,dc10],sp⟩) ?_
 clear hh m3_1
 rintro ρ H n18 ⟨⟨hh,m3_1⟩,sp⟩
 refine zE fun k' hk'=>?_
 obtain⟨hb19,h⟩:=h
 obtain⟨r20,er20,h⟩:=atm h
 simp[hh,m3_1]
 refine RunK.callW Ty_ok (toControlS_ok aSig hb19) e11 (.cons (argC false aSig) .nil) sp (by decide) (by decide) rfl (by simp[hh,m3_1]) ?_
 rintro v21 H22 n23 _ sp rfl hle25 hfr24
 rw[← er20] at sp
 have m3_1:=(hfr24 _ (by simp)).trans m3_1
 simp[hh,m3_1]
 apply hk'
 refine Runs.cut (fun ρ H n=>∃ (v28:AVal),((ρ 0 = .list false (aSig.map Control.cells)∧ρ 3=pA n1 3∧ρ 6 = .list true (r17.1.map intC)∧ρ 7=bool r17.2∧ρ 8=v28)∧H (n1,3)=some ⟨6,[bC false aB]⟩)∧Sep H n [oE [.c,.c,.c] Control.cells v28 r20] [(n1,3)]) (by refine⟨v21,by simp[hh,m3_1],sp⟩) ?_
 clear hh m3_1
 rintro ρ H n29 ⟨v28,⟨hh,m3_1⟩,sp⟩
 refine zE fun k' hk'=>?_
 obtain⟨hb30,h⟩:=h
 obtain⟨r31,er31,h⟩:=atm h
 simp[hh,m3_1]
 refine RunK.callW Ty_ok (toBigraph_ok aB hb30) e12 (.cons (argB false aB) .nil) sp (by decide) (by decide) rfl (by simp[hh,m3_1]) ?_
 rintro v32 H33 n34 _ sp rfl hle36 hfr35
 rw[← er31] at sp
 have m3_1:=(hfr35 _ (by simp)).trans m3_1
 replace sp:=Sep.unpack sp
 obtain⟨L44,hv,hl45,sp⟩:=sp
 subst hv
 obtain⟨v38,v39,v40,v41,v42,v43,hv⟩:=len6 (by simpa using hl45)
 subst hv
 simp only[zip3,List.cons_append,List.nil_append] at sp
 replace sp:=Sep.scalar sp
 obtain⟨hv,sp⟩:=sp
 subst hv
 replace sp:=Sep.rot sp
 try simp only[List.cons_append,List.nil_append,List.append_assoc] at sp
 replace sp:=Sep.rot sp
 try simp only[List.cons_append,List.nil_append,List.append_assoc] at sp
 replace sp:=Sep.scalar sp
 obtain⟨hv,sp⟩:=sp
 subst hv
 replace sp:=Sep.rot sp
 try simp only[List.cons_append,List.nil_append,List.append_assoc] at sp
 replace sp:=Sep.rot sp
 try simp only[List.cons_append,List.nil_append,List.append_assoc] at sp
 have f51:=Sep.oc sp.f1
 have f52:=Sep.oc sp.f2
 have f53:=Sep.oc sp.f3
 have f54:=Sep.oc sp.f4
 simp[hh,m3_1,f51,f52,f53,f54,-cellsA,-one1,cAx,o1x]
 apply hk'
 refine Runs.cut (fun ρ H n=>∃ (v55 v56 v57 v58 v59:AVal),((ρ 0 = .list false (aSig.map Control.cells)∧ρ 3=pA n1 3∧ρ 6 = .list true (r17.1.map intC)∧ρ 7=bool r17.2∧ρ 8=v55∧ρ 9=pA n34 9)∧H (n1,3)=some ⟨6,[bC false aB]⟩∧H (n34,9)=some ⟨6,[[int r31.roots,v56,v57,int r31.edges,v58,v59]]⟩)∧Sep H n [oE [.c,.c,.c] Control.cells v55 r20,oN v56 r31.nodes,oI v57 r31.sites,oS v58 r31.outer,oW v59 r31.inner] [(n34,9),(n1,3)]) (by refine⟨v28,v39,v40,v42,v43,by simp[hh,m3_1,f51,f52,f53,f54,-cellsA,-one1,cAx,o1x],sp.var⟩) ?_
 clear hh m3_1
 rintro ρ H n60 ⟨v55,v56,v57,v58,v59,⟨hh,m3_1,m9_49⟩,sp⟩
 refine zE fun k' hk'=>?_
 obtain⟨hb61,h⟩:=h
 obtain⟨r62,er62,h⟩:=atm h
 simp[hh,m3_1,m9_49]
 refine RunK.callW Ty_ok (CodeOf_ok r20 r31 hb61) e13 (.cons (Sep.argOk' sp (old_listF (by simp))) (.cons (ArgOk.agg (.cons (.v _ _ _) (.cons (Sep.argOk' sp.f1 (old_nest_Node true r31.nodes)) (.cons (Sep.argOk' sp.f2 (old_listF (by simp))) (.cons (.v _ _ _) (.cons (Sep.argOk' sp.f3 (old_listF (by simp))) (.cons (Sep.argOk' sp.f4 (old_listF (by simp))) .nil))))))) .nil)) sp (by decide) (by decide) rfl (by simp[hh,m3_1,m9_49]) ?_
 rintro v63 H64 n65 _ sp rfl hle67 hfr66
 rw[← er62] at sp
 have m3_1:=(hfr66 _ (by simp)).trans m3_1
 have m9_49:=(hfr66 _ (by simp)).trans m9_49
 replace sp:=Sep.unpackT sp
 obtain⟨L71,hv,hl72,sp⟩:=sp
 subst hv
 obtain⟨v69,v70,hv⟩:=len2 (by simpa using hl72)
 subst hv
 simp only[zip3,List.cons_append,List.nil_append] at sp
 replace sp:=Sep.rot sp
 try simp only[List.cons_append,List.nil_append,List.append_assoc] at sp
 replace sp:=Sep.scalar sp
 obtain⟨hv,sp⟩:=sp
 subst hv
 simp[hh,m3_1,m9_49]
 apply hk'
 refine Runs.cut (fun ρ H n=>∃ (v74 v75 v76 v77 v78 v79:AVal),((ρ 0 = .list false (aSig.map Control.cells)∧ρ 3=pA n1 3∧ρ 6 = .list true (r17.1.map intC)∧ρ 7=bool r17.2∧ρ 8=v74∧ρ 9=pA n34 9∧ρ 10=v79∧ρ 11=bool r62.2)∧H (n1,3)=some ⟨6,[bC false aB]⟩∧H (n34,9)=some ⟨6,[[int r31.roots,v75,v76,int r31.edges,v77,v78]]⟩)∧Sep H n [oE [.c,.c,.c] Control.cells v74 r20,oN v75 r31.nodes,oI v76 r31.sites,oS v77 r31.outer,oW v78 r31.inner,oI v79 r62.1] [(n34,9),(n1,3)]) (by refine⟨v55,v56,v57,v58,v59,v69,by simp[hh,m3_1,m9_49],sp⟩) ?_
 clear hh m3_1 m9_49
 rintro ρ H n80 ⟨v74,v75,v76,v77,v78,v79,⟨hh,m3_1,m9_49⟩,sp⟩
 refine Runs.seq ?_
 refine zE fun k' hk'=>?_
 obtain⟨J81,hJ82,hr83⟩:=h
 have fin91:∀ (sJ:Bool) (ρ:Env) (H:Heap) (n:Nat),J81 sJ→(match sJ with | b84=>∃ (v85 v86 v87 v88 v89 v90:AVal),((ρ 0 = .list false (aSig.map Control.cells)∧ρ 3=pA n1 3∧ρ 6 = .list true (r17.1.map intC)∧ρ 7=bool r17.2∧ρ 8=v85∧ρ 9=pA n34 9∧ρ 10=v90∧ρ 11=bool r62.2∧ρ 53=bool b84)∧H (n1,3)=some ⟨6,[bC false aB]⟩∧H (n34,9)=some ⟨6,[[int r31.roots,v86,v87,int r31.edges,v88,v89]]⟩)∧Sep H n [oE [.c,.c,.c] Control.cells v85 r20,oN v86 r31.nodes,oI v87 r31.sites,oS v88 r31.outer,oW v89 r31.inner,oI v90 r62.1] [(n34,9),(n1,3)])→Runs Tryz.prog 3 119 k' ρ H n Q:=by
  rintro b84 ρ H n92 h ⟨v85,v86,v87,v88,v89,v90,⟨hh,m3_1,m9_49⟩,sp⟩
  replace h:=hr83 _ h
  apply hk'
  refine Runs.ite (b:=b84) (by simp[hh,m3_1,m9_49]) (fun db84=>?_) (fun db84=>?_)
  ·replace h:=h.1 db84
   refine zE fun k' hk'=>?_
   simp[hh,m3_1,m9_49,db84]
   apply hk'
   exact Runs.ret1 (v:=bool false) Tryz.func3 Tryz.results3 (by simp[hh,m3_1,m9_49,db84]) (hQ _ _ _ _ (.of (.v _)) ⟨false,h,rfl⟩)
  replace h:=h.2 db84
  refine Runs.skip ?_
  refine Runs.seq ?_
  refine zE fun k' hk'=>?_
  obtain⟨hb93,h⟩:=h
  obtain⟨r94,er94,h⟩:=atm h
  simp[hh,m3_1,m9_49,db84]
  refine RunK.callW Ty_ok (toControlS_ok aSig hb93) e11 (.cons (argC false aSig) .nil) sp (by decide) (by decide) rfl (by simp[hh,m3_1,m9_49,db84]) ?_
  rintro v95 H96 n97 _ sp rfl hle99 hfr98
  rw[← er94] at sp
  have m3_1:=(hfr98 _ (by simp)).trans m3_1
  have m9_49:=(hfr98 _ (by simp)).trans m9_49
  obtain⟨hb102,h⟩:=h
  obtain⟨r103,er103,h⟩:=atm h
  simp[hh,m3_1,m9_49,db84]
  refine RunK.callA Ty_ok (eqControlS_ok r20 r94 hb102) e15 (.cons (Sep.argOk' sp.f1 (old_listF (by simp))) (.cons (Sep.argOk' sp (old_listF (by simp))) .nil)) (by decide) (by decide) rfl (by simp[hh,m3_1,m9_49,db84]) ?_
  rintro _ rfl
  rw[← er103]
  simp[hh,m3_1,m9_49,db84]
  apply hk'
  refine Runs.cut (fun ρ H n=>∃ (v104 v105 v106 v107 v108 v109:AVal),((ρ 0 = .list false (aSig.map Control.cells)∧ρ 3=pA n1 3∧ρ 6 = .list true (r17.1.map intC)∧ρ 7=bool r17.2∧ρ 8=v104∧ρ 9=pA n34 9∧ρ 10=v109∧ρ 11=bool r62.2∧ρ 58=bool (!r103))∧H (n1,3)=some ⟨6,[bC false aB]⟩∧H (n34,9)=some ⟨6,[[int r31.roots,v105,v106,int r31.edges,v107,v108]]⟩)∧Sep H n [oE [.c,.c,.c] Control.cells v104 r20,oN v105 r31.nodes,oI v106 r31.sites,oS v107 r31.outer,oW v108 r31.inner,oI v109 r62.1] [(n34,9),(n1,3)]) (by refine⟨v85,v86,v87,v88,v89,v90,by simp[hh,m3_1,m9_49,db84],sp.dr⟩) ?_
  clear hh m3_1 m9_49
  rintro ρ H n110 ⟨v104,v105,v106,v107,v108,v109,⟨hh,m3_1,m9_49⟩,sp⟩
  refine Runs.ite (b:=(!r103)) (by simp[hh,m3_1,m9_49]) (fun dr103=>?_) (fun dr103=>?_)
  ·have dr103:r103=false:=by simpa using dr103
   replace h:=h.2 dr103
   refine zE fun k' hk'=>?_
   simp[hh,m3_1,m9_49,dr103]
   apply hk'
   exact Runs.ret1 (v:=bool false) Tryz.func3 Tryz.results3 (by simp[hh,m3_1,m9_49,dr103]) (hQ _ _ _ _ (.of (.v _)) ⟨false,h,rfl⟩)
  have dr103:r103=true:=by simpa using dr103
  replace h:=h.1 dr103
  refine Runs.skip ?_
  refine Runs.seq ?_
  refine Runs.seqD Ty_ok kindOp_ok draws (by decide) (by kernel_rfl) fun k' hk'=>?_
  obtain⟨hb111,h⟩:=h
  obtain⟨r112,er112,h⟩:=atm h
  simp[hh,m3_1,m9_49,dr103]
  refine RunDK.callA Ty_ok kindOp_ok ((toBigraph_ok aB hb111).pure) e12 (.cons (argB false aB) .nil) (by decide) rfl (by simp[hh,m3_1,m9_49,dr103]) ?_
  rw[← er112]
  obtain⟨hb113,h⟩:=h
  obtain⟨r114,er114,h⟩:=atm h
  simp[hh,m3_1,m9_49,dr103]
  refine RunDK.callA Ty_ok kindOp_ok (eqBigraph_ok r31 r112 hb113) e16 (.cons (ArgOk.agg (.cons (.v _ _ _) (.cons (Sep.argOk' sp.f1 (old_nest_Node true r31.nodes)) (.cons (Sep.argOk' sp.f2 (old_listF (by simp))) (.cons (.v _ _ _) (.cons (Sep.argOk' sp.f3 (old_listF (by simp))) (.cons (Sep.argOk' sp.f4 (old_listF (by simp))) .nil))))))) (.cons (argB true r112) .nil)) (by decide) rfl (by simp[hh,m3_1,m9_49,dr103]) ?_
  rw[← er114]
  simp[hh,m3_1,m9_49,dr103]
  apply hk'
  refine Runs.ite (b:=(!r114)) (by simp[hh,m3_1,m9_49,dr103]) (fun dr114=>?_) (fun dr114=>?_)
  ·have dr114:r114=false:=by simpa using dr114
   replace h:=h.2 dr114
   refine zE fun k' hk'=>?_
   simp[hh,m3_1,m9_49,dr103,dr114]
   apply hk'
   exact Runs.ret1 (v:=bool false) Tryz.func3 Tryz.results3 (by simp[hh,m3_1,m9_49,dr103,dr114]) (hQ _ _ _ _ (.of (.v _)) ⟨false,h,rfl⟩)
  have dr114:r114=true:=by simpa using dr114
  replace h:=h.1 dr114
  refine Runs.skip ?_
  refine zE fun k' hk'=>?_
  simp[hh,m3_1,m9_49,dr103,dr114]
  apply hk'
  refine zE fun k' hk'=>?_
  obtain⟨hb115,h⟩:=h
  obtain⟨r116,er116,h⟩:=atm h
  have f117:=Sep.oc sp
  simp[hh,m3_1,m9_49,f117,dr103,dr114,-cellsA,-one1,cAx,o1x]
  refine RunK.callM (v:=v104) Ty_ok (markControlS_ok r20 1 hb115) e17 sp (by decide) (by decide) rfl (by simp[hh,m3_1,m9_49,f117,dr103,dr114,-cellsA,-one1,cAx,o1x]) ?_
  rintro _ H118 n119 _ ⟨rfl,rfl⟩ sp hle121 hfr120
  rw[← er116] at sp
  rw[← er116]
  replace sp:Sep H118 n119 [oE [.c,.c,.c] Control.cells v104 r116.1,oN v105 r31.nodes,oI v106 r31.sites,oS v107 r31.outer,oW v108 r31.inner,oI v109 r62.1] [(n34,9),(n1,3)]:=sp
  have m3_1:=(hfr120 _ (by simp)).trans m3_1
  have m9_49:=(hfr120 _ (by simp)).trans m9_49
  simp[hh,m3_1,m9_49,f117,dr103,dr114,-cellsA,-one1,cAx,o1x]
  apply hk'
  refine Runs.cut (fun ρ H n=>∃ (v123 v124 v125 v126 v127:AVal),((ρ 0 = .list false (aSig.map Control.cells)∧ρ 3=pA n1 3∧ρ 6 = .list true (r17.1.map intC)∧ρ 7=bool r17.2∧ρ 9=pA n34 9∧ρ 10=v127∧ρ 11=bool r62.2∧ρ 12=int r116.2)∧H (n1,3)=some ⟨6,[bC false aB]⟩∧H (n34,9)=some ⟨6,[[int r31.roots,v123,v124,int r31.edges,v125,v126]]⟩)∧Sep H n [oN v123 r31.nodes,oI v124 r31.sites,oS v125 r31.outer,oW v126 r31.inner,oI v127 r62.1] [(n34,9),(n1,3)]) (by refine⟨v105,v106,v107,v108,v109,by simp[hh,m3_1,m9_49,f117,dr103,dr114,-cellsA,-one1,cAx,o1x],sp.dr⟩) ?_
  clear hh m3_1 m9_49
  rintro ρ H n128 ⟨v123,v124,v125,v126,v127,⟨hh,m3_1,m9_49⟩,sp⟩
  refine zE fun k' hk'=>?_
  obtain⟨hb129,h⟩:=h
  obtain⟨r130,er130,h⟩:=atm h
  have f131:=Sep.oc sp
  have f132:=Sep.oc sp.f1
  have f133:=Sep.oc sp.f2
  have f134:=Sep.oc sp.f3
  simp[hh,m3_1,m9_49,f131,f132,f133,f134,-cellsA,-one1,cAx,o1x]
  refine RunK.callM (v:=.agg [int r31.roots,v123,v124,int r31.edges,v125,v126]) Ty_ok (markBig_ok r31 r116.2 hb129) e18 (Sep.pack (Fill.v _ (Fill.own (Fill.own (Fill.v _ (Fill.own (Fill.own Fill.nil)))))) sp) (by decide) (by decide) rfl (by simp[hh,m3_1,m9_49,f131,f132,f133,f134,-cellsA,-one1,cAx,o1x]) ?_
  rintro _ H135 n136 _ ⟨rfl,rfl⟩ sp hle138 hfr137
  rw[← er130] at sp
  rw[← er130]
  replace sp:=Sep.unpack sp
  obtain⟨L139,hv,hl140,sp⟩:=sp
  cases hv
  simp only[zip3,List.cons_append,List.nil_append] at sp
  replace sp:=(Sep.scalar sp).2
  replace sp:=Sep.rot sp
  try simp only[List.cons_append,List.nil_append,List.append_assoc] at sp
  replace sp:=Sep.rot sp
  try simp only[List.cons_append,List.nil_append,List.append_assoc] at sp
  replace sp:=(Sep.scalar sp).2
  replace sp:=Sep.rot sp
  try simp only[List.cons_append,List.nil_append,List.append_assoc] at sp
  replace sp:=Sep.rot sp
  try simp only[List.cons_append,List.nil_append,List.append_assoc] at sp
  replace sp:Sep H135 n136 [oI v127 r62.1,oN v123 r130.1.nodes,oI v124 r130.1.sites,oS v125 r130.1.outer,oW v126 r130.1.inner] [(n34,9),(n1,3)]:=sp
  have m3_1:=(hfr137 _ (by simp)).trans m3_1
  have m9_49:=(hfr137 _ (by simp)).trans m9_49
  simp[hh,m3_1,m9_49,f131,f132,f133,f134,-cellsA,-one1,cAx,o1x]
  apply hk'
  refine Runs.cut (fun ρ H n=>∃ (v142:AVal),((ρ 0 = .list false (aSig.map Control.cells)∧ρ 3=pA n1 3∧ρ 6 = .list true (r17.1.map intC)∧ρ 7=bool r17.2∧ρ 10=v142∧ρ 11=bool r62.2∧ρ 12=int r130.2)∧H (n1,3)=some ⟨6,[bC false aB]⟩)∧Sep H n [oI v142 r62.1] [(n1,3)]) (by refine⟨v127,by simp[hh,m3_1,m9_49,f131,f132,f133,f134,-cellsA,-one1,cAx,o1x],(Sep.sub sp.f1.dr.f1.dr.f1.dr.f1.dr (by simp +contextual))⟩) ?_
  clear hh m3_1 m9_49
  rintro ρ H n143 ⟨v142,⟨hh,m3_1⟩,sp⟩
  refine Runs.seq ?_
  refine zE fun k' hk'=>?_
  obtain⟨J144,hJ145,hr146⟩:=h
  have fin149:∀ (sJ:Bool) (ρ:Env) (H:Heap) (n:Nat),J144 sJ→(match sJ with | b147=>∃ (v148:AVal),((ρ 0 = .list false (aSig.map Control.cells)∧ρ 3=pA n1 3∧ρ 6 = .list true (r17.1.map intC)∧ρ 7=bool r17.2∧ρ 10=v148∧ρ 82=bool b147)∧H (n1,3)=some ⟨6,[bC false aB]⟩)∧Sep H n [oI v148 r62.1] [(n1,3)])→Runs Tryz.prog 3 119 k' ρ H n Q:=by
   rintro b147 ρ H n150 h ⟨v148,⟨hh,m3_1⟩,sp⟩
   replace h:=hr146 _ h
   apply hk'
   refine Runs.ite (b:=b147) (by simp[hh,m3_1]) (fun db147=>?_) (fun db147=>?_)
   ·replace h:=h.1 db147
    refine zE fun k' hk'=>?_
    simp[hh,m3_1,db147]
    apply hk'
    exact Runs.ret1 (v:=bool false) Tryz.func3 Tryz.results3 (by simp[hh,m3_1,db147]) (hQ _ _ _ _ (.of (.v _)) ⟨false,h,rfl⟩)
   replace h:=h.2 db147
   refine Runs.skip ?_
   refine zE fun k' hk'=>?_
   simp[hh,m3_1,db147]
   apply hk'
   refine zE fun k' hk'=>?_
   obtain⟨hb151,h⟩:=h
   obtain⟨r152,er152,h⟩:=atm h
   have f153:=Sep.oc sp
   simp[hh,m3_1,f153,db147,-cellsA,-one1,cAx,o1x]
   refine RunK.callM (v:=v148) Ty_ok (markIntS_ok r62.1 1 hb151) e19 sp (by decide) (by decide) rfl (by simp[hh,m3_1,f153,db147,-cellsA,-one1,cAx,o1x]) ?_
   rintro _ H154 n155 _ ⟨rfl,rfl⟩ sp hle157 hfr156
   rw[← er152] at sp
   rw[← er152]
   replace sp:Sep H154 n155 [oI v148 r152.1] [(n1,3)]:=sp
   have m3_1:=(hfr156 _ (by simp)).trans m3_1
   simp[hh,m3_1,f153,db147,-cellsA,-one1,cAx,o1x]
   apply hk'
   refine Runs.cut (fun ρ H n=>∃ (v159:AVal),((ρ 0 = .list false (aSig.map Control.cells)∧ρ 3=pA n1 3∧ρ 6 = .list true (r17.1.map intC)∧ρ 7=bool r17.2∧ρ 10=v159∧ρ 13=int r152.2)∧H (n1,3)=some ⟨6,[bC false aB]⟩)∧Sep H n [oI v159 r152.1] [(n1,3)]) (by refine⟨v148,by simp[hh,m3_1,f153,db147,-cellsA,-one1,cAx,o1x],sp⟩) ?_
   clear hh m3_1
   rintro ρ H n160 ⟨v159,⟨hh,m3_1⟩,sp⟩
   refine zE fun k' hk'=>?_
   simp[hh,m3_1]
   apply hk'
   refine zE fun k' hk'=>?_
   obtain⟨hb161,h⟩:=h
   obtain⟨r162,er162,h⟩:=atm h
   simp[hh,m3_1]
   refine RunK.callA Ty_ok (heldIntS_ok r152.1 1 hb161) e20 (.cons (Sep.argOk' sp (old_listF (by simp))) (.cons (.v _ _ _) .nil)) (by decide) (by decide) rfl (by simp[hh,m3_1]) ?_
   rintro _ rfl
   rw[← er162]
   simp[hh,m3_1]
   apply hk'
   refine Runs.seq ?_
   refine zE fun k' hk'=>?_
   obtain⟨c163,ec163,h⟩:=atm h
   have f164:=ib_lss (k:=.i64) ec163
   simp[hh,m3_1,f164,-intBin]
   apply hk'
   refine Runs.ite (b:=c163) (by simp[hh,m3_1]) (fun dc163=>?_) (fun dc163=>?_)
   ·replace h:=h.1 dc163
    refine zE fun k' hk'=>?_
    simp[hh,m3_1,dc163]
    apply hk'
    exact Runs.ret1 (v:=bool false) Tryz.func3 Tryz.results3 (by simp[hh,m3_1,dc163]) (hQ _ _ _ _ (.of (.v _)) ⟨false,h,rfl⟩)
   replace h:=h.2 dc163
   refine Runs.skip ?_
   refine Runs.seq ?_
   refine zE fun k' hk'=>?_
   obtain⟨c165,ec165,h⟩:=atm h
   have f166:=ib_neq (k:=.i64) ec165
   simp[hh,m3_1,f166,dc163,-intBin]
   apply hk'
   refine Runs.ite (b:=c165) (by simp[hh,m3_1,dc163]) (fun dc165=>?_) (fun dc165=>?_)
   ·replace h:=h.1 dc165
    refine zE fun k' hk'=>?_
    simp[hh,m3_1,dc163,dc165]
    apply hk'
    exact Runs.ret1 (v:=bool false) Tryz.func3 Tryz.results3 (by simp[hh,m3_1,dc163,dc165]) (hQ _ _ _ _ (.of (.v _)) ⟨false,h,rfl⟩)
   replace h:=h.2 dc165
   refine Runs.skip ?_
   refine Runs.seqD Ty_ok kindOp_ok draws (by decide) (by kernel_rfl) fun k' hk'=>?_
   obtain⟨hb167,h⟩:=h
   obtain⟨r168,er168,h⟩:=atm h
   simp[hh,m3_1,dc163,dc165]
   refine RunDK.callA Ty_ok kindOp_ok ((toControlS_ok aSig hb167).pure) e11 (.cons (argC false aSig) .nil) (by decide) rfl (by simp[hh,m3_1,dc163,dc165]) ?_
   rw[← er168]
   obtain⟨hb169,h⟩:=h
   obtain⟨r170,er170,h⟩:=atm h
   simp[hh,m3_1,dc163,dc165]
   refine RunDK.callA Ty_ok kindOp_ok ((toBigraph_ok aB hb169).pure) e12 (.cons (argB false aB) .nil) (by decide) rfl (by simp[hh,m3_1,dc163,dc165]) ?_
   rw[← er170]
   obtain⟨hb171,h⟩:=h
   obtain⟨r172,er172,h⟩:=atm h
   simp[hh,m3_1,dc163,dc165]
   refine RunDK.callA Ty_ok kindOp_ok ((CodeOf_ok r168 r170 hb171).pure) e13 (.cons (argC true r168) (.cons (argB true r170) .nil)) (by decide) rfl (by simp[hh,m3_1,dc163,dc165]) ?_
   rw[← er172]
   simp[hh,m3_1,dc163,dc165]
   apply hk'
   refine Runs.cut (fun ρ H n=>∃ (v173:AVal),(ρ 6 = .list true (r17.1.map intC)∧ρ 7=bool r17.2∧ρ 10=v173∧ρ 13=int r152.2∧ρ 15 = .list true (r172.1.map intC)∧ρ 16=bool r172.2)∧Sep H n [oI v173 r152.1] []) (by refine⟨v159,by simp[hh,m3_1,dc163,dc165],(Sep.sub sp (by simp +contextual))⟩) ?_
   clear hh m3_1
   rintro ρ H n174 ⟨v173,hh,sp⟩
   refine Runs.seq ?_
   refine zE fun k' hk'=>?_
   obtain⟨J175,hJ176,hr177⟩:=h
   have fin180:∀ (sJ:Bool) (ρ:Env) (H:Heap) (n:Nat),J175 sJ→(match sJ with | b178=>∃ (v179:AVal),(ρ 10=v179∧ρ 13=int r152.2∧ρ 110=bool b178)∧Sep H n [oI v179 r152.1] [])→Runs Tryz.prog 3 119 k' ρ H n Q:=by
    rintro b178 ρ H n181 h ⟨v179,hh,sp⟩
    replace h:=hr177 _ h
    apply hk'
    refine Runs.ite (b:=b178) (by simp[hh]) (fun db178=>?_) (fun db178=>?_)
    ·replace h:=h.1 db178
     refine zE fun k' hk'=>?_
     simp[hh,db178]
     apply hk'
     exact Runs.ret1 (v:=bool false) Tryz.func3 Tryz.results3 (by simp[hh,db178]) (hQ _ _ _ _ (.of (.v _)) ⟨false,h,rfl⟩)
    replace h:=h.2 db178
    refine Runs.skip ?_
    refine zE fun k' hk'=>?_
    simp[hh,db178]
    apply hk'
    refine zE fun k' hk'=>?_
    obtain⟨hb182,h⟩:=h
    obtain⟨r183,er183,h⟩:=atm h
    simp[hh,db178]
    refine RunK.callA Ty_ok (heldIntS_ok r152.1 1 hb182) e20 (.cons (Sep.argOk' sp (old_listF (by simp))) (.cons (.v _ _ _) .nil)) (by decide) (by decide) rfl (by simp[hh,db178]) ?_
    rintro _ rfl
    rw[← er183]
    simp[hh,db178]
    apply hk'
    refine Runs.seq ?_
    refine zE fun k' hk'=>?_
    obtain⟨c184,ec184,h⟩:=atm h
    have f185:=ib_lss (k:=.i64) ec184
    simp[hh,f185,db178,-intBin]
    apply hk'
    refine Runs.ite (b:=c184) (by simp[hh,db178]) (fun dc184=>?_) (fun dc184=>?_)
    ·replace h:=h.1 dc184
     refine zE fun k' hk'=>?_
     simp[hh,db178,dc184]
     apply hk'
     exact Runs.ret1 (v:=bool false) Tryz.func3 Tryz.results3 (by simp[hh,db178,dc184]) (hQ _ _ _ _ (.of (.v _)) ⟨false,h,rfl⟩)
    replace h:=h.2 dc184
    refine Runs.skip ?_
    refine Runs.seq ?_
    refine zE fun k' hk'=>?_
    obtain⟨c186,ec186,h⟩:=atm h
    have f187:=ib_neq (k:=.i64) ec186
    simp[hh,f187,db178,dc184,-intBin]
    apply hk'
    refine Runs.ite (b:=c186) (by simp[hh,db178,dc184]) (fun dc186=>?_) (fun dc186=>?_)
    ·replace h:=h.1 dc186
     refine zE fun k' hk'=>?_
     simp[hh,db178,dc184,dc186]
     apply hk'
     exact Runs.ret1 (v:=bool false) Tryz.func3 Tryz.results3 (by simp[hh,db178,dc184,dc186]) (hQ _ _ _ _ (.of (.v _)) ⟨false,h,rfl⟩)
    replace h:=h.2 dc186
    refine Runs.skip ?_
    refine zE fun k' hk'=>?_
    simp[hh,db178,dc184,dc186]
    apply hk'
    exact Runs.ret1 (v:=bool true) Tryz.func3 Tryz.results3 (by simp[hh,db178,dc184,dc186]) (hQ _ _ _ _ (.of (.v _)) ⟨true,h,rfl⟩)
   replace h:=hJ176
   obtain⟨hb188,h⟩:=h
   obtain⟨r189,er189,h⟩:=atm h
   simp[hh]
   refine RunK.callA Ty_ok (eqIntS_ok r172.1 r17.1 hb188) e14 (.cons (argI true r172.1) (.cons (argI true r17.1) .nil)) (by decide) (by decide) rfl (by simp[hh]) ?_
   rintro _ rfl
   rw[← er189]
   rcases Bool.eq_false_or_eq_true r189 with dr189 | dr189
   ·replace h:=h.1 dr189
    obtain⟨c190,ec190,h⟩:=atm h
    have f191:=bb_neq ec190
    simp[hh,f191,dr189,-boolBin]
    exact fin180 (c190) _ _ _ h (by refine⟨v173,by simp[hh,f191,dr189,-boolBin],sp⟩)
   replace h:=h.2 dr189
   simp[hh,dr189]
   exact fin180 (true) _ _ _ h (by refine⟨v173,by simp[hh,dr189],sp⟩)
  replace h:=hJ145
  obtain⟨c192,ec192,h⟩:=atm h
  have f193:=ib_lss (k:=.i64) ec192
  rcases Bool.eq_false_or_eq_true c192 with dc192 | dc192
  ·replace h:=h.1 dc192
   simp[hh,m3_1,f193,dc192,-intBin]
   exact fin149 (true) _ _ _ h (by refine⟨v142,by simp[hh,m3_1,f193,dc192,-intBin],sp⟩)
  replace h:=h.2 dc192
  obtain⟨hb194,h⟩:=h
  obtain⟨r195,er195,h⟩:=atm h
  simp[hh,m3_1,f193,dc192,-intBin]
  refine RunK.callA Ty_ok (eqIntS_ok r62.1 r17.1 hb194) e14 (.cons (Sep.argOk' sp (old_listF (by simp))) (.cons (argI true r17.1) .nil)) (by decide) (by decide) rfl (by simp[hh,m3_1,f193,dc192,-intBin]) ?_
  rintro _ rfl
  rw[← er195]
  rcases Bool.eq_false_or_eq_true r195 with dr195 | dr195
  ·replace h:=h.1 dr195
   obtain⟨c196,ec196,h⟩:=atm h
   have f197:=bb_neq ec196
   simp[hh,m3_1,f193,f197,dc192,dr195,-boolBin,-intBin]
   exact fin149 (c196) _ _ _ h (by refine⟨v142,by simp[hh,m3_1,f193,f197,dc192,dr195,-boolBin,-intBin],sp⟩)
  replace h:=h.2 dr195
  simp[hh,m3_1,f193,dc192,dr195,-intBin]
  exact fin149 (true) _ _ _ h (by refine⟨v142,by simp[hh,m3_1,f193,dc192,dr195,-intBin],sp⟩)
 replace h:=hJ82
 obtain⟨hb198,h⟩:=h
 obtain⟨r199,er199,h⟩:=atm h
 simp[hh,m3_1,m9_49]
 refine RunK.callA Ty_ok (eqIntS_ok r62.1 r17.1 hb198) e14 (.cons (Sep.argOk' sp.f5 (old_listF (by simp))) (.cons (argI true r17.1) .nil)) (by decide) (by decide) rfl (by simp[hh,m3_1,m9_49]) ?_
 rintro _ rfl
 rw[← er199]
 rcases Bool.eq_false_or_eq_true r199 with dr199 | dr199
 ·replace h:=h.1 dr199
  obtain⟨c200,ec200,h⟩:=atm h
  have f201:=bb_neq ec200
  simp[hh,m3_1,m9_49,f201,dr199,-boolBin]
  exact fin91 (c200) _ _ _ h (by refine⟨v74,v75,v76,v77,v78,v79,by simp[hh,m3_1,m9_49,f201,dr199,-boolBin],sp⟩)
 replace h:=h.2 dr199
 simp[hh,m3_1,m9_49,dr199]
 exact fin91 (true) _ _ _ h (by refine⟨v74,v75,v76,v77,v78,v79,by simp[hh,m3_1,m9_49,dr199],sp⟩)
theorem lawCode_ok (aSig:List Control) (aB:Big) (hp:lawCode_pre aSig aB):PureC Tryz.prog 3 [.list false (aSig.map Control.cells),.agg (bC false aB)] (fun r=>r=bool (lawCode aSig aB)):=(lawCode_walk aSig aB _ (lawCode_vc aSig aB hp)).mono (by rintro _ ⟨_,rfl,rfl⟩;rfl)
end Go.Ab.Vg
/- The contract of laws.FnExactCodeOf: it answers true. -/
namespace Go.Ab
open Go.Proofs
theorem exactCodeOf_ok (a0:Sig) (a1:Big) (h0:HugeS a0) (h1:HugeB a1):PureC Tryz.prog 3 [encSig false a0,encB false a1] (fun r=>r=bool true):=Vg.lawCode_ok a0 a1 ⟨h0,h1⟩
end Go.Ab
