/- Merged texts (12 of 15) of the proof that ends in Lly: Mnw Lmt Lmw. -/
import Derived.Test.YtbpdcoahefnnkaaGreatDoorAbQll11
/- Walks by program for YtbpdcoahefnnkaaGreatDoorAbMn. -/
namespace Go.Ab.Vg
open Go.Proofs
set_option maxRecDepth 100000
set_option linter.unusedSimpArgs false
set_option linter.unusedVariables false
attribute [local simp] GNode.cells Wire.cells Match.cells intC sliceC strC bC mC pA
end Go.Ab.Vg
/- What walks by program lean on: the text of a mark, and nested slices handed over. -/
namespace Go.Ab.Vg
open Go.Proofs
theorem markTxt_ok (k:Int) (h:markTxt_pre k):PureC Tryz.prog 79 [int k] (fun r=>r=str (markTxt k)):=by
 have:=markText_ok k.toNat (by omega)
 rwa [Int.toNat_of_nonneg h.1] at this
end Go.Ab.Vg
/- Walks by program for YtbpdcoahefnnkaaGreatDoorAbLm. -/
namespace Go.Ab.Vg
open Go.Proofs
set_option maxRecDepth 100000
set_option linter.unusedSimpArgs false
set_option linter.unusedVariables false
attribute [local simp] Control.cells GNode.cells Wire.cells intC sliceC strC bC pA
theorem e50:Ent Tryz.prog 50:=Ent.of Tryz.func50 (by kernel_rfl) rfl
theorem toIntS_walk (a:List Int) (Z:(List Int)→Prop) (h:toIntS_wp a Z):OwnS Tryz.prog 50 [.list false (a.map intC)] (.s [.c]) (fun r=>∃ y:List Int,Z y∧r = .list true (y.map intC)):=by
 unfold toIntS_wp at h
 have sp:Sep noHeap 0 [] []:=Sep.nil (by simp)
 refine OwnS.of Tryz.func50 rfl Tryz.ntmps50 (by simp) fun Q hQ=>?_
 refine Runs.cut (fun ρ H n=>ρ 0 = .list false (a.map intC)∧Sep H n [] []) (by refine⟨?_,sp⟩<;>simp ) ?_
 rintro ρ H n1 ⟨hh,sp⟩
 refine zE fun k' hk'=>?_
 simp[hh]
 apply hk'
 refine zE fun k' hk'=>?_
 obtain⟨len2,elen2,h⟩:=atm h
 have f3:=fun H=>len_list (H:=H) (fr:=false) (f:=intC) kd_24 elen2
 obtain⟨hb4,h⟩:=h
 obtain⟨l5,el5,h⟩:=atm h
 simp[hh,f3,hb4,el5,-lenF]
 apply hk'
 refine Runs.cut (fun ρ H n=>∃ (v7:AVal),(ρ 0 = .list false (a.map intC)∧ρ 3=v7)∧Sep H n [oI v7 l5] []) (by refine⟨.arr (n1,7) len2.toNat 0 len2.toNat,?_,(by rw[el5];exact Sep.addRep (z:=[int 0]) (f:=intC) (k:=len2.toNat) sp (fun H=>by show Row H [.c] [int 0] [int 0] [];simp[Row,Tr]))⟩<;>simp[hh,f3,hb4,el5,-lenF]) ?_
 clear hh
 rintro ρ H n8 ⟨v7,hh,sp⟩
 refine Runs.seq ?_
 refine zE fun k' hk'=>?_
 simp[hh]
 apply hk'
 refine Runs.block ?_
 refine Runs.loopW h (fun (sJ:Int × (List Int)) ρ H n=>match sJ with | (i16,l17)=>∃ (v18:AVal),(ρ 0 = .list false (a.map intC)∧ρ 3=v18∧ρ 4=int i16)∧Sep H n [oI v18 l17] []) (by refine⟨v7,?_,sp⟩<;>simp[hh]) ?_
 clear hh
 rintro⟨i16,l17⟩ ρ H n19 K h ⟨v18,hh,sp⟩ IH20
 refine Runs.seq ?_
 refine zE fun k' hk'=>?_
 obtain⟨len22,elen22,h⟩:=atm h
 have f23:=fun H=>len_list (H:=H) (fr:=false) (f:=intC) kd_24 elen22
 obtain⟨c24,ec24,h⟩:=atm h
 have f25:=ib_lss (k:=.i64) ec24
 simp[hh,f23,f25,-intBin,-lenF]
 apply hk'
 refine Runs.ite (b:=c24) (by simp[hh]) (fun dc24=>?_) (fun dc24=>?_)
 ·replace h:=h.1 dc24
  refine Runs.skip ?_
  refine Runs.seq ?_
  refine Runs.block ?_
  refine zF fun k' hk'=>?_
  obtain⟨hb26,h⟩:=h
  obtain⟨x27,ex27,h⟩:=atm h
  have f28:=fun H=>ix_list (H:=H) (fr:=false) (f:=intC) (k:=.i64) kd_24 (fun _=>rfl) hb26 ex27
  obtain⟨hb29,h⟩:=h
  obtain⟨id30,hv,mo31,ln32,ni33⟩:=Sep.openF sp (by simp) hb29
  subst hv
  obtain⟨x34,ex34,h⟩:=atm h
  have f35:=fun H (hm:H id30=some ⟨1,l17.map intC⟩)=>ix_arr (H:=H) (k:=.i64) (off:=0) (len:=l17.length) (g:=l17.length) kd_24 hm (by simp) rfl hb29
  have f36:=at_some (q:=i16.toNat) hb29 ex34 rfl
  obtain⟨l37,el37,h⟩:=atm h
  simp[hh,mo31,f28,f35,f36,dc24,-indexAddrF,-storeF]
  refine bind_store (q:=i16.toNat) (news:=intC x27) [] [] sp (by simp) (by simp;omega) (by simp) (by simp[-one1,o1x]) (Fill.v _ Fill.nil) ?_
  rintro H38 sp hfr39
  replace sp:Sep H38 n19 [oI (.arr id30 l17.length 0 l17.length) l37] []:=Sep.st el37 sp
  simp[hh,f28,f35,f36,dc24,-indexAddrF]
  apply hk'
  refine Runs.cut (fun ρ H n=>∃ (v41:AVal),(ρ 0 = .list false (a.map intC)∧ρ 3=v41∧ρ 4=int i16)∧Sep H n [oI v41 l37] []) (by refine⟨.arr id30 l17.length 0 l17.length,?_,sp⟩<;>simp[hh,f28,f35,f36,dc24,-indexAddrF]) ?_
  clear hh
  rintro ρ H n42 ⟨v41,hh,sp⟩
  refine Runs.inBlock ?_
  refine zF fun k' hk'=>?_
  obtain⟨hb43,h⟩:=h
  obtain⟨v44,ev44,h⟩:=atm h
  have f45:=ib_add hb43 ev44
  simp[hh,f45,-intBin]
  apply hk'
  refine IH20 (v44,l37) _ _ _ h (by refine⟨v41,?_,sp⟩<;>simp[hh])
 replace h:=h.2 dc24
 refine Runs.exit rfl ?_
 refine zE fun k' hk'=>?_
 simp[hh,dc24]
 apply hk'
 exact Runs.ret1 (v:=v18) Tryz.func50 Tryz.results50 (by simp[hh,dc24]) (hQ _ _ _ _ (Sep.sub (ids':=[]) sp (by simp)) ⟨l17,h,rfl⟩)
theorem toIntS_ok (a:List Int) (hp:toIntS_pre a):OwnS Tryz.prog 50 [.list false (a.map intC)] (.s [.c]) (fun r=>r = .list true ((toIntS a).map intC)):=(toIntS_walk a _ (toIntS_vc a hp)).mono (by rintro _ ⟨_,rfl,rfl⟩;rfl)
theorem e52:Ent Tryz.prog 52:=Ent.of Tryz.func52 (by kernel_rfl) rfl
theorem toStringS_walk (a:List Str) (Z:(List Str)→Prop) (h:toStringS_wp a Z):OwnS Tryz.prog 52 [.list false (a.map strC)] (.s [.c]) (fun r=>∃ y:List Str,Z y∧r = .list true (y.map strC)):=by
 unfold toStringS_wp at h
 have sp:Sep noHeap 0 [] []:=Sep.nil (by simp)
 refine OwnS.of Tryz.func52 rfl Tryz.ntmps52 (by simp) fun Q hQ=>?_
 refine Runs.cut (fun ρ H n=>ρ 0 = .list false (a.map strC)∧Sep H n [] []) (by refine⟨?_,sp⟩<;>simp ) ?_
 rintro ρ H n1 ⟨hh,sp⟩
 refine zE fun k' hk'=>?_
 simp[hh]
 apply hk'
 refine zE fun k' hk'=>?_
 obtain⟨len2,elen2,h⟩:=atm h
 have f3:=fun H=>len_list (H:=H) (fr:=false) (f:=strC) kd_25 elen2
 obtain⟨hb4,h⟩:=h
 obtain⟨l5,el5,h⟩:=atm h
 simp[hh,f3,hb4,el5,-lenF]
 apply hk'
 refine Runs.cut (fun ρ H n=>∃ (v7:AVal),(ρ 0 = .list false (a.map strC)∧ρ 3=v7)∧Sep H n [oS v7 l5] []) (by refine⟨.arr (n1,7) len2.toNat 0 len2.toNat,?_,(by rw[el5];exact Sep.addRep (z:=[str []]) (f:=strC) (k:=len2.toNat) sp (fun H=>by show Row H [.c] [str []] [str []] [];simp[Row,Tr]))⟩<;>simp[hh,f3,hb4,el5,-lenF]) ?_
 clear hh
 rintro ρ H n8 ⟨v7,hh,sp⟩
 refine Runs.seq ?_
 refine zE fun k' hk'=>?_
 simp[hh]
 apply hk'
 refine Runs.block ?_
 refine Runs.loopW h (fun (sJ:Int × (List Str)) ρ H n=>match sJ with | (i16,l17)=>∃ (v18:AVal),(ρ 0 = .list false (a.map strC)∧ρ 3=v18∧ρ 4=int i16)∧Sep H n [oS v18 l17] []) (by refine⟨v7,?_,sp⟩<;>simp[hh]) ?_
 clear hh
 rintro⟨i16,l17⟩ ρ H n19 K h ⟨v18,hh,sp⟩ IH20
 refine Runs.seq ?_
 refine zE fun k' hk'=>?_
 obtain⟨len22,elen22,h⟩:=atm h
 have f23:=fun H=>len_list (H:=H) (fr:=false) (f:=strC) kd_25 elen22
 obtain⟨c24,ec24,h⟩:=atm h
 have f25:=ib_lss (k:=.i64) ec24
 simp[hh,f23,f25,-intBin,-lenF]
 apply hk'
 refine Runs.ite (b:=c24) (by simp[hh]) (fun dc24=>?_) (fun dc24=>?_)
 ·replace h:=h.1 dc24
  refine Runs.skip ?_
  refine Runs.seq ?_
  refine Runs.block ?_
  refine zF fun k' hk'=>?_
  obtain⟨hb26,h⟩:=h
  obtain⟨x27,ex27,h⟩:=atm h
  have f28:=fun H=>ix_list (H:=H) (fr:=false) (f:=strC) (k:=.i64) kd_25 (fun _=>rfl) hb26 ex27
  obtain⟨hb29,h⟩:=h
  obtain⟨id30,hv,mo31,ln32,ni33⟩:=Sep.openF sp (by simp) hb29
  subst hv
  obtain⟨x34,ex34,h⟩:=atm h
  have f35:=fun H (hm:H id30=some ⟨1,l17.map strC⟩)=>ix_arr (H:=H) (k:=.i64) (off:=0) (len:=l17.length) (g:=l17.length) kd_25 hm (by simp) rfl hb29
  have f36:=at_some (q:=i16.toNat) hb29 ex34 rfl
  obtain⟨l37,el37,h⟩:=atm h
  simp[hh,mo31,f28,f35,f36,dc24,-indexAddrF,-storeF]
  refine bind_store (q:=i16.toNat) (news:=strC x27) [] [] sp (by simp) (by simp;omega) (by simp) (by simp[-one1,o1x]) (Fill.v _ Fill.nil) ?_
  rintro H38 sp hfr39
  replace sp:Sep H38 n19 [oS (.arr id30 l17.length 0 l17.length) l37] []:=Sep.st el37 sp
  simp[hh,f28,f35,f36,dc24,-indexAddrF]
  apply hk'
  refine Runs.cut (fun ρ H n=>∃ (v41:AVal),(ρ 0 = .list false (a.map strC)∧ρ 3=v41∧ρ 4=int i16)∧Sep H n [oS v41 l37] []) (by refine⟨.arr id30 l17.length 0 l17.length,?_,sp⟩<;>simp[hh,f28,f35,f36,dc24,-indexAddrF]) ?_
  clear hh
  rintro ρ H n42 ⟨v41,hh,sp⟩
  refine Runs.inBlock ?_
  refine zF fun k' hk'=>?_
  obtain⟨hb43,h⟩:=h
  obtain⟨v44,ev44,h⟩:=atm h
  have f45:=ib_add hb43 ev44
  simp[hh,f45,-intBin]
  apply hk'
  refine IH20 (v44,l37) _ _ _ h (by refine⟨v41,?_,sp⟩<;>simp[hh])
 replace h:=h.2 dc24
 refine Runs.exit rfl ?_
 refine zE fun k' hk'=>?_
 simp[hh,dc24]
 apply hk'
 exact Runs.ret1 (v:=v18) Tryz.func52 Tryz.results52 (by simp[hh,dc24]) (hQ _ _ _ _ (Sep.sub (ids':=[]) sp (by simp)) ⟨l17,h,rfl⟩)
theorem toStringS_ok (a:List Str) (hp:toStringS_pre a):OwnS Tryz.prog 52 [.list false (a.map strC)] (.s [.c]) (fun r=>r = .list true ((toStringS a).map strC)):=(toStringS_walk a _ (toStringS_vc a hp)).mono (by rintro _ ⟨_,rfl,rfl⟩;rfl)
theorem e49:Ent Tryz.prog 49:=Ent.of Tryz.func49 (by kernel_rfl) rfl
theorem toControl_walk (a:Control) (Z:Control→Prop) (h:toControl_wp a Z):PureC Tryz.prog 49 [.agg [str a.name,int a.ports,int a.kind]] (fun r=>∃ y:Control,Z y∧r = .agg [str y.name,int y.ports,int y.kind]):=by
 unfold toControl_wp at h
 refine PureC.of Tryz.func49 rfl Tryz.ntmps49 (by simp) fun Q hQ=>?_
 refine Runs.cut (fun ρ H n=>ρ 0 = .agg [str a.name,int a.ports,int a.kind]) (by simp[]) ?_
 rintro ρ H n1 hh
 refine zE fun k' hk'=>?_
 simp[hh]
 apply hk'
 refine Runs.cut (fun ρ H n=>(ρ 1=pA n1 1∧ρ 2=pA (n1+1) 2)∧H (n1,1)=some ⟨3,[[str a.name,int a.ports,int a.kind]]⟩∧H (n1+1,2)=some ⟨3,[[str [],int 0,int 0]]⟩) (by refine⟨?_,?_,?_⟩<;>simp[hh]) ?_
 clear hh
 rintro ρ H n4 ⟨hh,m1_1,m2_2⟩
 refine zE fun k' hk'=>?_
 simp[hh,m1_1,m2_2]
 apply hk'
 refine Runs.cut (fun ρ H n=>(ρ 1=pA n1 1∧ρ 2=pA (n1+1) 2∧ρ 3=pA n4 3)∧H (n1,1)=some ⟨3,[[str a.name,int a.ports,int a.kind]]⟩∧H (n1+1,2)=some ⟨3,[[str [],int 0,int 0]]⟩∧H (n4,3)=some ⟨3,[[str [],int 0,int 0]]⟩) (by refine⟨?_,?_,?_,?_⟩<;>simp[hh,m1_1,m2_2]) ?_
 clear hh m1_1 m2_2
 rintro ρ H n6 ⟨hh,m1_1,m2_2,m3_4⟩
 refine zE fun k' hk'=>?_
 simp[hh,m1_1,m2_2,m3_4]
 apply hk'
 refine Runs.cut (fun ρ H n=>(ρ 1=pA n1 1∧ρ 2=pA (n1+1) 2∧ρ 3=pA n4 3)∧H (n1,1)=some ⟨3,[[str a.name,int a.ports,int a.kind]]⟩∧H (n1+1,2)=some ⟨3,[[str [],int 0,int 0]]⟩∧H (n4,3)=some ⟨3,[[str a.name,int 0,int 0]]⟩) (by refine⟨?_,?_,?_,?_⟩<;>simp[hh,m1_1,m2_2,m3_4]) ?_
 clear hh m1_1 m2_2 m3_4
 rintro ρ H n7 ⟨hh,m1_1,m2_2,m3_4⟩
 refine zE fun k' hk'=>?_
 simp[hh,m1_1,m2_2,m3_4]
 apply hk'
 refine Runs.cut (fun ρ H n=>(ρ 1=pA n1 1∧ρ 2=pA (n1+1) 2∧ρ 3=pA n4 3)∧H (n1,1)=some ⟨3,[[str a.name,int a.ports,int a.kind]]⟩∧H (n1+1,2)=some ⟨3,[[str [],int 0,int 0]]⟩∧H (n4,3)=some ⟨3,[[str a.name,int a.ports,int 0]]⟩) (by refine⟨?_,?_,?_,?_⟩<;>simp[hh,m1_1,m2_2,m3_4]) ?_
 clear hh m1_1 m2_2 m3_4
 rintro ρ H n8 ⟨hh,m1_1,m2_2,m3_4⟩
 refine zE fun k' hk'=>?_
 simp[hh,m1_1,m2_2,m3_4]
 apply hk'
 refine Runs.cut (fun ρ H n=>(ρ 2=pA (n1+1) 2∧ρ 3=pA n4 3)∧H (n1+1,2)=some ⟨3,[[str [],int 0,int 0]]⟩∧H (n4,3)=some ⟨3,[[str a.name,int a.ports,int a.kind]]⟩) (by refine⟨?_,?_,?_⟩<;>simp[hh,m1_1,m2_2,m3_4]) ?_
 clear hh m1_1 m2_2 m3_4
 rintro ρ H n9 ⟨hh,m2_2,m3_4⟩
 refine zE fun k' hk'=>?_
 simp[hh,m2_2,m3_4]
 apply hk'
 refine Runs.cut (fun ρ H n=>ρ 2=pA (n1+1) 2∧H (n1+1,2)=some ⟨3,[[str a.name,int a.ports,int a.kind]]⟩) (by refine⟨?_,?_⟩<;>simp[hh,m2_2,m3_4]) ?_
 clear hh m2_2 m3_4
 rintro ρ H n10 ⟨hh,m2_2⟩
 exact Runs.res1 Ty_ok (v:=.agg [str a.name,int a.ports,int a.kind]) Tryz.func49 Tryz.results49 (by simp[hh,m2_2,resA]) (hQ _ _ _ _ (.of (.aggL (.cons (.v _) (.cons (.v _) (.cons (.v _) .nil))))) ⟨a,h,rfl⟩)
theorem toControl_ok (a:Control)  : PureC Tryz.prog 49 [.agg [str a.name,int a.ports,int a.kind]] (fun r=>r = .agg [str ((toControl a).name),int ((toControl a).ports),int ((toControl a).kind)]):=(toControl_walk a _ (toControl_vc a )).mono (by rintro _ ⟨_,rfl,rfl⟩;rfl)
theorem e12:Ent Tryz.prog 12:=Ent.of Tryz.func12 (by kernel_rfl) rfl
theorem toControlS_walk (a:List Control) (Z:(List Control)→Prop) (h:toControlS_wp a Z):OwnS Tryz.prog 12 [.list false (a.map Control.cells)] (.s [.c,.c,.c]) (fun r=>∃ y:List Control,Z y∧r = .list true (y.map Control.cells)):=by
 unfold toControlS_wp at h
 have sp:Sep noHeap 0 [] []:=Sep.nil (by simp)
 refine OwnS.of Tryz.func12 rfl Tryz.ntmps12 (by simp) fun Q hQ=>?_
 refine Runs.cut (fun ρ H n=>ρ 0 = .list false (a.map Control.cells)∧Sep H n [] []) (by refine⟨?_,sp⟩<;>simp ) ?_
 rintro ρ H n1 ⟨hh,sp⟩
 refine zE fun k' hk'=>?_
 simp[hh]
 apply hk'
 refine zE fun k' hk'=>?_
 obtain⟨len2,elen2,h⟩:=atm h
 have f3:=fun H=>len_list (H:=H) (fr:=false) (f:=Control.cells) kd_22 elen2
 obtain⟨hb4,h⟩:=h
 obtain⟨l5,el5,h⟩:=atm h
 simp[hh,f3,hb4,el5,-lenF]
 apply hk'
 refine Runs.cut (fun ρ H n=>∃ (v7:AVal),(ρ 0 = .list false (a.map Control.cells)∧ρ 3=v7)∧Sep H n [oE [.c,.c,.c] Control.cells v7 l5] []) (by refine⟨.arr (n1,7) len2.toNat 0 len2.toNat,?_,(by rw[el5];exact Sep.addRep (z:=[str [],int 0,int 0]) (f:=Control.cells) (k:=len2.toNat) sp (fun H=>by show Row H [.c,.c,.c] [str [],int 0,int 0] [str [],int 0,int 0] [];simp[Row,Tr]))⟩<;>simp[hh,f3,hb4,el5,-lenF]) ?_
 clear hh
 rintro ρ H n8 ⟨v7,hh,sp⟩
 refine Runs.seq ?_
 refine zE fun k' hk'=>?_
 simp[hh]
 apply hk'
 refine Runs.block ?_
 refine Runs.loopW h (fun (sJ:Int × (List Control)) ρ H n=>match sJ with | (i16,l17)=>∃ (v18:AVal),(ρ 0 = .list false (a.map Control.cells)∧ρ 3=v18∧ρ 4=int i16)∧Sep H n [oE [.c,.c,.c] Control.cells v18 l17] []) (by refine⟨v7,?_,sp⟩<;>simp[hh]) ?_
 clear hh
 rintro⟨i16,l17⟩ ρ H n19 K h ⟨v18,hh,sp⟩ IH20
 refine Runs.seq ?_
 refine zE fun k' hk'=>?_
 obtain⟨len22,elen22,h⟩:=atm h
 have f23:=fun H=>len_list (H:=H) (fr:=false) (f:=Control.cells) kd_22 elen22
 obtain⟨c24,ec24,h⟩:=atm h
 have f25:=ib_lss (k:=.i64) ec24
 simp[hh,f23,f25,-intBin,-lenF]
 apply hk'
 refine Runs.ite (b:=c24) (by simp[hh]) (fun dc24=>?_) (fun dc24=>?_)
 ·replace h:=h.1 dc24
  refine Runs.skip ?_
  refine Runs.seq ?_
  refine Runs.block ?_
  refine zF fun k' hk'=>?_
  obtain⟨hb26,h⟩:=h
  obtain⟨x27,ex27,h⟩:=atm h
  have f28:=fun H=>ix_list (H:=H) (fr:=false) (f:=Control.cells) (k:=.i64) kd_22 (fun _=>rfl) hb26 ex27
  obtain⟨r29,er29,h⟩:=atm h
  simp[hh,f28,dc24,-indexAddrF]
  refine RunK.callA Ty_ok (toControl_ok x27 ) e49 (.cons (ArgOk.agg (.cons (.v _ _ _) (.cons (.v _ _ _) (.cons (.v _ _ _) .nil)))) .nil) (by decide) (by decide) rfl (by simp[hh,f28,dc24,-indexAddrF]) ?_
  rintro _ rfl
  rw[← er29]
  obtain⟨hb30,h⟩:=h
  obtain⟨id31,hv,mo32,ln33,ni34⟩:=Sep.openF sp (by simp) hb30
  subst hv
  obtain⟨x35,ex35,h⟩:=atm h
  have f36:=fun H (hm:H id31=some ⟨3,l17.map Control.cells⟩)=>ix_arr (H:=H) (k:=.i64) (off:=0) (len:=l17.length) (g:=l17.length) kd_42 hm (by simp) rfl hb30
  have f37:=at_some (q:=i16.toNat) hb30 ex35 rfl
  obtain⟨l38,el38,h⟩:=atm h
  simp[hh,mo32,f28,f36,f37,dc24,-indexAddrF,-storeF]
  refine bind_store (q:=i16.toNat) (news:=Control.cells r29) [] [] sp (by simp) (by simp;omega) (by simp) (by simp[-one1,o1x]) (Fill.v _ (Fill.v _ (Fill.v _ Fill.nil))) ?_
  rintro H39 sp hfr40
  replace sp:Sep H39 n19 [oE [.c,.c,.c] Control.cells (.arr id31 l17.length 0 l17.length) l38] []:=Sep.st el38 sp
  simp[hh,f28,f36,f37,dc24,-indexAddrF]
  apply hk'
  refine Runs.cut (fun ρ H n=>∃ (v42:AVal),(ρ 0 = .list false (a.map Control.cells)∧ρ 3=v42∧ρ 4=int i16)∧Sep H n [oE [.c,.c,.c] Control.cells v42 l38] []) (by refine⟨.arr id31 l17.length 0 l17.length,?_,sp⟩<;>simp[hh,f28,f36,f37,dc24,-indexAddrF]) ?_
  clear hh
  rintro ρ H n43 ⟨v42,hh,sp⟩
  refine Runs.inBlock ?_
  refine zF fun k' hk'=>?_
  obtain⟨hb44,h⟩:=h
  obtain⟨v45,ev45,h⟩:=atm h
  have f46:=ib_add hb44 ev45
  simp[hh,f46,-intBin]
  apply hk'
  refine IH20 (v45,l38) _ _ _ h (by refine⟨v42,?_,sp⟩<;>simp[hh])
 replace h:=h.2 dc24
 refine Runs.exit rfl ?_
 refine zE fun k' hk'=>?_
 simp[hh,dc24]
 apply hk'
 exact Runs.ret1 (v:=v18) Tryz.func12 Tryz.results12 (by simp[hh,dc24]) (hQ _ _ _ _ (Sep.sub (ids':=[]) sp (by simp)) ⟨l17,h,rfl⟩)
theorem toControlS_ok (a:List Control) (hp:toControlS_pre a):OwnS Tryz.prog 12 [.list false (a.map Control.cells)] (.s [.c,.c,.c]) (fun r=>r = .list true ((toControlS a).map Control.cells)):=(toControlS_walk a _ (toControlS_vc a hp)).mono (by rintro _ ⟨_,rfl,rfl⟩;rfl)
theorem e96:Ent Tryz.prog 96:=Ent.of Tryz.func96 (by kernel_rfl) rfl
theorem toWire_walk (a:Wire) (Z:Wire→Prop) (h:toWire_wp a Z):PureC Tryz.prog 96 [.agg [str a.name,int a.link]] (fun r=>∃ y:Wire,Z y∧r = .agg [str y.name,int y.link]):=by
 unfold toWire_wp at h
 refine PureC.of Tryz.func96 rfl Tryz.ntmps96 (by simp) fun Q hQ=>?_
 refine Runs.cut (fun ρ H n=>ρ 0 = .agg [str a.name,int a.link]) (by simp[]) ?_
 rintro ρ H n1 hh
 refine zE fun k' hk'=>?_
 simp[hh]
 apply hk'
 refine Runs.cut (fun ρ H n=>(ρ 1=pA n1 1∧ρ 2=pA (n1+1) 2)∧H (n1,1)=some ⟨2,[[str a.name,int a.link]]⟩∧H (n1+1,2)=some ⟨2,[[str [],int 0]]⟩) (by refine⟨?_,?_,?_⟩<;>simp[hh]) ?_
 clear hh
 rintro ρ H n4 ⟨hh,m1_1,m2_2⟩
 refine zE fun k' hk'=>?_
 simp[hh,m1_1,m2_2]
 apply hk'
 refine Runs.cut (fun ρ H n=>(ρ 1=pA n1 1∧ρ 2=pA (n1+1) 2∧ρ 3=pA n4 3)∧H (n1,1)=some ⟨2,[[str a.name,int a.link]]⟩∧H (n1+1,2)=some ⟨2,[[str [],int 0]]⟩∧H (n4,3)=some ⟨2,[[str [],int 0]]⟩) (by refine⟨?_,?_,?_,?_⟩<;>simp[hh,m1_1,m2_2]) ?_
 clear hh m1_1 m2_2
 rintro ρ H n6 ⟨hh,m1_1,m2_2,m3_4⟩
 refine zE fun k' hk'=>?_
 simp[hh,m1_1,m2_2,m3_4]
 apply hk'
 refine Runs.cut (fun ρ H n=>(ρ 1=pA n1 1∧ρ 2=pA (n1+1) 2∧ρ 3=pA n4 3)∧H (n1,1)=some ⟨2,[[str a.name,int a.link]]⟩∧H (n1+1,2)=some ⟨2,[[str [],int 0]]⟩∧H (n4,3)=some ⟨2,[[str a.name,int 0]]⟩) (by refine⟨?_,?_,?_,?_⟩<;>simp[hh,m1_1,m2_2,m3_4]) ?_
 clear hh m1_1 m2_2 m3_4
 rintro ρ H n7 ⟨hh,m1_1,m2_2,m3_4⟩
 refine zE fun k' hk'=>?_
 simp[hh,m1_1,m2_2,m3_4]
 apply hk'
 refine Runs.cut (fun ρ H n=>(ρ 2=pA (n1+1) 2∧ρ 3=pA n4 3)∧H (n1+1,2)=some ⟨2,[[str [],int 0]]⟩∧H (n4,3)=some ⟨2,[[str a.name,int a.link]]⟩) (by refine⟨?_,?_,?_⟩<;>simp[hh,m1_1,m2_2,m3_4]) ?_
 clear hh m1_1 m2_2 m3_4
 rintro ρ H n8 ⟨hh,m2_2,m3_4⟩
 refine zE fun k' hk'=>?_
 simp[hh,m2_2,m3_4]
 apply hk'
 refine Runs.cut (fun ρ H n=>ρ 2=pA (n1+1) 2∧H (n1+1,2)=some ⟨2,[[str a.name,int a.link]]⟩) (by refine⟨?_,?_⟩<;>simp[hh,m2_2,m3_4]) ?_
 clear hh m2_2 m3_4
 rintro ρ H n9 ⟨hh,m2_2⟩
 exact Runs.res1 Ty_ok (v:=.agg [str a.name,int a.link]) Tryz.func96 Tryz.results96 (by simp[hh,m2_2,resA]) (hQ _ _ _ _ (.of (.aggL (.cons (.v _) (.cons (.v _) .nil)))) ⟨a,h,rfl⟩)
theorem toWire_ok (a:Wire)  : PureC Tryz.prog 96 [.agg [str a.name,int a.link]] (fun r=>r = .agg [str ((toWire a).name),int ((toWire a).link)]):=(toWire_walk a _ (toWire_vc a )).mono (by rintro _ ⟨_,rfl,rfl⟩;rfl)
theorem e53:Ent Tryz.prog 53:=Ent.of Tryz.func53 (by kernel_rfl) rfl
theorem toWireS_walk (a:List Wire) (Z:(List Wire)→Prop) (h:toWireS_wp a Z):OwnS Tryz.prog 53 [.list false (a.map Wire.cells)] (.s [.c,.c]) (fun r=>∃ y:List Wire,Z y∧r = .list true (y.map Wire.cells)):=by
 unfold toWireS_wp at h
 have sp:Sep noHeap 0 [] []:=Sep.nil (by simp)
 refine OwnS.of Tryz.func53 rfl Tryz.ntmps53 (by simp) fun Q hQ=>?_
 refine Runs.cut (fun ρ H n=>ρ 0 = .list false (a.map Wire.cells)∧Sep H n [] []) (by refine⟨?_,sp⟩<;>simp ) ?_
 rintro ρ H n1 ⟨hh,sp⟩
 refine zE fun k' hk'=>?_
 simp[hh]
 apply hk'
 refine zE fun k' hk'=>?_
 obtain⟨len2,elen2,h⟩:=atm h
 have f3:=fun H=>len_list (H:=H) (fr:=false) (f:=Wire.cells) kd_26 elen2
 obtain⟨hb4,h⟩:=h
 obtain⟨l5,el5,h⟩:=atm h
 simp[hh,f3,hb4,el5,-lenF]
 apply hk'
 refine Runs.cut (fun ρ H n=>∃ (v7:AVal),(ρ 0 = .list false (a.map Wire.cells)∧ρ 3=v7)∧Sep H n [oW v7 l5] []) (by refine⟨.arr (n1,7) len2.toNat 0 len2.toNat,?_,(by rw[el5];exact Sep.addRep (z:=[str [],int 0]) (f:=Wire.cells) (k:=len2.toNat) sp (fun H=>by show Row H [.c,.c] [str [],int 0] [str [],int 0] [];simp[Row,Tr]))⟩<;>simp[hh,f3,hb4,el5,-lenF]) ?_
 clear hh
 rintro ρ H n8 ⟨v7,hh,sp⟩
 refine Runs.seq ?_
 refine zE fun k' hk'=>?_
 simp[hh]
 apply hk'
 refine Runs.block ?_
 refine Runs.loopW h (fun (sJ:Int × (List Wire)) ρ H n=>match sJ with | (i16,l17)=>∃ (v18:AVal),(ρ 0 = .list false (a.map Wire.cells)∧ρ 3=v18∧ρ 4=int i16)∧Sep H n [oW v18 l17] []) (by refine⟨v7,?_,sp⟩<;>simp[hh]) ?_
 clear hh
 rintro⟨i16,l17⟩ ρ H n19 K h ⟨v18,hh,sp⟩ IH20
 refine Runs.seq ?_
 refine zE fun k' hk'=>?_
 obtain⟨len22,elen22,h⟩:=atm h
 have f23:=fun H=>len_list (H:=H) (fr:=false) (f:=Wire.cells) kd_26 elen22
 obtain⟨c24,ec24,h⟩:=atm h
 have f25:=ib_lss (k:=.i64) ec24
 simp[hh,f23,f25,-intBin,-lenF]
 apply hk'
 refine Runs.ite (b:=c24) (by simp[hh]) (fun dc24=>?_) (fun dc24=>?_)
 ·replace h:=h.1 dc24
  refine Runs.skip ?_
  refine Runs.seq ?_
  refine Runs.block ?_
  refine zF fun k' hk'=>?_
  obtain⟨hb26,h⟩:=h
  obtain⟨x27,ex27,h⟩:=atm h
  have f28:=fun H=>ix_list (H:=H) (fr:=false) (f:=Wire.cells) (k:=.i64) kd_26 (fun _=>rfl) hb26 ex27
  obtain⟨r29,er29,h⟩:=atm h
  simp[hh,f28,dc24,-indexAddrF]
  refine RunK.callA Ty_ok (toWire_ok x27 ) e96 (.cons (ArgOk.agg (.cons (.v _ _ _) (.cons (.v _ _ _) .nil))) .nil) (by decide) (by decide) rfl (by simp[hh,f28,dc24,-indexAddrF]) ?_
  rintro _ rfl
  rw[← er29]
  obtain⟨hb30,h⟩:=h
  obtain⟨id31,hv,mo32,ln33,ni34⟩:=Sep.openF sp (by simp) hb30
  subst hv
  obtain⟨x35,ex35,h⟩:=atm h
  have f36:=fun H (hm:H id31=some ⟨2,l17.map Wire.cells⟩)=>ix_arr (H:=H) (k:=.i64) (off:=0) (len:=l17.length) (g:=l17.length) kd_45 hm (by simp) rfl hb30
  have f37:=at_some (q:=i16.toNat) hb30 ex35 rfl
  obtain⟨l38,el38,h⟩:=atm h
  simp[hh,mo32,f28,f36,f37,dc24,-indexAddrF,-storeF]
  refine bind_store (q:=i16.toNat) (news:=Wire.cells r29) [] [] sp (by simp) (by simp;omega) (by simp) (by simp[-one1,o1x]) (Fill.v _ (Fill.v _ Fill.nil)) ?_
  rintro H39 sp hfr40
  replace sp:Sep H39 n19 [oW (.arr id31 l17.length 0 l17.length) l38] []:=Sep.st el38 sp
  simp[hh,f28,f36,f37,dc24,-indexAddrF]
  apply hk'
  refine Runs.cut (fun ρ H n=>∃ (v42:AVal),(ρ 0 = .list false (a.map Wire.cells)∧ρ 3=v42∧ρ 4=int i16)∧Sep H n [oW v42 l38] []) (by refine⟨.arr id31 l17.length 0 l17.length,?_,sp⟩<;>simp[hh,f28,f36,f37,dc24,-indexAddrF]) ?_
  clear hh
  rintro ρ H n43 ⟨v42,hh,sp⟩
  refine Runs.inBlock ?_
  refine zF fun k' hk'=>?_
  obtain⟨hb44,h⟩:=h
  obtain⟨v45,ev45,h⟩:=atm h
  have f46:=ib_add hb44 ev45
  simp[hh,f46,-intBin]
  apply hk'
  refine IH20 (v45,l38) _ _ _ h (by refine⟨v42,?_,sp⟩<;>simp[hh])
 replace h:=h.2 dc24
 refine Runs.exit rfl ?_
 refine zE fun k' hk'=>?_
 simp[hh,dc24]
 apply hk'
 exact Runs.ret1 (v:=v18) Tryz.func53 Tryz.results53 (by simp[hh,dc24]) (hQ _ _ _ _ (Sep.sub (ids':=[]) sp (by simp)) ⟨l17,h,rfl⟩)
theorem toWireS_ok (a:List Wire) (hp:toWireS_pre a):OwnS Tryz.prog 53 [.list false (a.map Wire.cells)] (.s [.c,.c]) (fun r=>r = .list true ((toWireS a).map Wire.cells)):=(toWireS_walk a _ (toWireS_vc a hp)).mono (by rintro _ ⟨_,rfl,rfl⟩;rfl)
theorem e95:Ent Tryz.prog 95:=Ent.of Tryz.func95 (by kernel_rfl) rfl
theorem toNode_walk (a:GNode) (Z:GNode→Prop) (h:toNode_wp a Z):OwnS Tryz.prog 95 [.agg [int a.control,int a.parent,.list false (a.links.map intC)]] (.a [.c,.c,.s [.c]]) (fun r=>∃ y:GNode,Z y∧r = .agg [int y.control,int y.parent,.list true (y.links.map intC)]):=by
 unfold toNode_wp at h
 have sp:Sep noHeap 0 [] []:=Sep.nil (by simp)
 refine OwnS.of Tryz.func95 rfl Tryz.ntmps95 (by simp) fun Q hQ=>?_
 refine Runs.cut (fun ρ H n=>ρ 0 = .agg [int a.control,int a.parent,.list false (a.links.map intC)]∧Sep H n [] []) (by refine⟨?_,sp⟩<;>simp ) ?_
 rintro ρ H n1 ⟨hh,sp⟩
 refine zE fun k' hk'=>?_
 simp[hh]
 apply hk'
 refine Runs.cut (fun ρ H n=>(ρ 1=pA n1 1∧ρ 2=pA (n1+1) 2)∧H (n1,1)=some ⟨3,[[int a.control,int a.parent,.list false (a.links.map intC)]]⟩∧H (n1+1,2)=some ⟨3,[[int 0,int 0,.v (.slice none 0 0)]]⟩∧Sep H n [] [(n1+1,2),(n1,1)]) (by refine⟨?_,?_,?_,sp.var.var⟩<;>simp[hh]) ?_
 clear hh
 rintro ρ H n4 ⟨hh,m1_1,m2_2,sp⟩
 refine zE fun k' hk'=>?_
 simp[hh,m1_1,m2_2]
 apply hk'
 refine Runs.cut (fun ρ H n=>(ρ 1=pA n1 1∧ρ 2=pA (n1+1) 2∧ρ 3=pA n4 3)∧H (n1,1)=some ⟨3,[[int a.control,int a.parent,.list false (a.links.map intC)]]⟩∧H (n1+1,2)=some ⟨3,[[int 0,int 0,.v (.slice none 0 0)]]⟩∧H (n4,3)=some ⟨3,[[int 0,int 0,.v (.slice none 0 0)]]⟩∧Sep H n [] [(n4,3),(n1+1,2),(n1,1)]) (by refine⟨?_,?_,?_,?_,sp.var⟩<;>simp[hh,m1_1,m2_2]) ?_
 clear hh m1_1 m2_2
 rintro ρ H n6 ⟨hh,m1_1,m2_2,m3_4,sp⟩
 refine zE fun k' hk'=>?_
 simp[hh,m1_1,m2_2,m3_4]
 apply hk'
 refine Runs.cut (fun ρ H n=>(ρ 1=pA n1 1∧ρ 2=pA (n1+1) 2∧ρ 3=pA n4 3)∧H (n1,1)=some ⟨3,[[int a.control,int a.parent,.list false (a.links.map intC)]]⟩∧H (n1+1,2)=some ⟨3,[[int 0,int 0,.v (.slice none 0 0)]]⟩∧H (n4,3)=some ⟨3,[[int a.control,int 0,.v (.slice none 0 0)]]⟩∧Sep H n [] [(n4,3),(n1+1,2),(n1,1)]) (by refine⟨?_,?_,?_,?_,(Sep.setVar (w:=(n4,3)) sp (by simp))⟩<;>simp[hh,m1_1,m2_2,m3_4]) ?_
 clear hh m1_1 m2_2 m3_4
 rintro ρ H n7 ⟨hh,m1_1,m2_2,m3_4,sp⟩
 refine zE fun k' hk'=>?_
 simp[hh,m1_1,m2_2,m3_4]
 apply hk'
 refine Runs.cut (fun ρ H n=>(ρ 1=pA n1 1∧ρ 2=pA (n1+1) 2∧ρ 3=pA n4 3)∧H (n1,1)=some ⟨3,[[int a.control,int a.parent,.list false (a.links.map intC)]]⟩∧H (n1+1,2)=some ⟨3,[[int 0,int 0,.v (.slice none 0 0)]]⟩∧H (n4,3)=some ⟨3,[[int a.control,int a.parent,.v (.slice none 0 0)]]⟩∧Sep H n [] [(n4,3),(n1+1,2),(n1,1)]) (by refine⟨?_,?_,?_,?_,(Sep.setVar (w:=(n4,3)) sp (by simp))⟩<;>simp[hh,m1_1,m2_2,m3_4]) ?_
 clear hh m1_1 m2_2 m3_4
 rintro ρ H n8 ⟨hh,m1_1,m2_2,m3_4,sp⟩
 refine zE fun k' hk'=>?_
 obtain⟨hb9,h⟩:=h
 obtain⟨r10,er10,h⟩:=atm h
 simp[hh,m1_1,m2_2,m3_4]
 refine RunK.callW Ty_ok (toIntS_ok a.links hb9) e50 (.cons (argI false a.links) .nil) sp (by decide) (by decide) rfl (by simp[hh,m1_1,m2_2,m3_4]) ?_
 rintro v11 H12 n13 _ sp rfl hle15 hfr14
 rw[← er10] at sp
 have m1_1:H12 (n1,1)=some ⟨3,[[int a.control,int a.parent,.list false (a.links.map intC)]]⟩:=(hfr14 _ (by simp)).trans (by simp[hh,m1_1,m2_2,m3_4,Heap.get_set])
 have m2_2:H12 (n1+1,2)=some ⟨3,[[int 0,int 0,.v (.slice none 0 0)]]⟩:=(hfr14 _ (by simp)).trans (by simp[hh,m1_1,m2_2,m3_4,Heap.get_set])
 have m3_4:H12 (n4,3)=some ⟨3,[[int a.control,int a.parent,.v (.slice none 0 0)]]⟩:=(hfr14 _ (by simp)).trans (by simp[hh,m1_1,m2_2,m3_4,Heap.get_set])
 have f18:=Sep.oc sp
 simp[hh,m1_1,m2_2,m3_4,f18,-cellsA,-one1,cAx,o1x]
 apply hk'
 refine Runs.cut (fun ρ H n=>∃ (v19:AVal),(ρ 2=pA (n1+1) 2∧ρ 3=pA n4 3)∧H (n1+1,2)=some ⟨3,[[int 0,int 0,.v (.slice none 0 0)]]⟩∧H (n4,3)=some ⟨3,[[int a.control,int a.parent,v19]]⟩∧Sep H n [oI v19 r10] [(n4,3),(n1+1,2)]) (by refine⟨v11,?_,?_,?_,(Sep.sub (Sep.setVar (w:=(n4,3)) sp (by simp)) (by simp +contextual))⟩<;>simp[hh,m1_1,m2_2,m3_4,f18,-cellsA,-one1,cAx,o1x]) ?_
 clear hh m1_1 m2_2 m3_4
 rintro ρ H n20 ⟨v19,hh,m2_2,m3_4,sp⟩
 refine zE fun k' hk'=>?_
 have f21:=Sep.oc sp
 simp[hh,m2_2,m3_4,f21,-cellsA,-one1,cAx,o1x]
 apply hk'
 refine Runs.cut (fun ρ H n=>∃ (v22:AVal),ρ 2=pA (n1+1) 2∧H (n1+1,2)=some ⟨3,[[int a.control,int a.parent,v22]]⟩∧Sep H n [oI v22 r10] [(n1+1,2)]) (by refine⟨v19,?_,?_,(Sep.sub (Sep.setVar (w:=(n1+1,2)) sp (by simp)) (by simp +contextual))⟩<;>simp[hh,m2_2,m3_4,f21,-cellsA,-one1,cAx,o1x]) ?_
 clear hh m2_2 m3_4
 rintro ρ H n23 ⟨v22,hh,m2_2,sp⟩
 exact Runs.res1 Ty_ok (v:=.agg [int a.control,int a.parent,v22]) Tryz.func95 Tryz.results95 (by simp[hh,m2_2,resA]) (hQ _ _ _ _ (Sep.sub (ids':=[]) (Sep.pack (Fill.v _ (Fill.v _ (Fill.own Fill.nil))) sp) (by simp)) ⟨(GNode.mk a.control a.parent r10),h,rfl⟩)
theorem toNode_ok (a:GNode) (hp:toNode_pre a):OwnS Tryz.prog 95 [.agg [int a.control,int a.parent,.list false (a.links.map intC)]] (.a [.c,.c,.s [.c]]) (fun r=>r = .agg [int ((toNode a).control),int ((toNode a).parent),.list true (((toNode a).links).map intC)]):=(toNode_walk a _ (toNode_vc a hp)).mono (by rintro _ ⟨_,rfl,rfl⟩;rfl)
theorem e51:Ent Tryz.prog 51:=Ent.of Tryz.func51 (by kernel_rfl) rfl
theorem toNodeS_walk (a:List GNode) (Z:(List GNode)→Prop) (h:toNodeS_wp a Z):OwnS Tryz.prog 51 [.list false (a.map (GNode.cells false))] (.s [.c,.c,.s [.c]]) (fun r=>∃ y:List GNode,Z y∧r = .list true (y.map (GNode.cells true))):=by
 unfold toNodeS_wp at h
 have sp:Sep noHeap 0 [] []:=Sep.nil (by simp)
 refine OwnS.of Tryz.func51 rfl Tryz.ntmps51 (by simp) fun Q hQ=>?_
 refine Runs.cut (fun ρ H n=>ρ 0 = .list false (a.map (GNode.cells false))∧Sep H n [] []) (by refine⟨?_,sp⟩<;>simp ) ?_
 rintro ρ H n1 ⟨hh,sp⟩
 refine zE fun k' hk'=>?_
 simp[hh]
 apply hk'
 refine zE fun k' hk'=>?_
 obtain⟨len2,elen2,h⟩:=atm h
 have f3:=fun H=>len_list (H:=H) (fr:=false) (f:=(GNode.cells false)) kd_23 elen2
 obtain⟨hb4,h⟩:=h
 obtain⟨l5,el5,h⟩:=atm h
 simp[hh,f3,hb4,el5,-lenF]
 apply hk'
 refine Runs.cut (fun ρ H n=>∃ (v7:AVal),(ρ 0 = .list false (a.map (GNode.cells false))∧ρ 3=v7)∧Sep H n [oN v7 l5] []) (by refine⟨.arr (n1,7) len2.toNat 0 len2.toNat,?_,(by rw[el5];exact Sep.addRep (z:=[int 0,int 0,.v (.slice none 0 0)]) (f:=(GNode.cells true)) (k:=len2.toNat) sp (fun H=>by show Row H [.c,.c,.s [.c]] [int 0,int 0,.v (.slice none 0 0)] [int 0,int 0,.list true []] [];simp[Row,Tr]))⟩<;>simp[hh,f3,hb4,el5,-lenF]) ?_
 clear hh
 rintro ρ H n8 ⟨v7,hh,sp⟩
 refine Runs.seq ?_
 refine zE fun k' hk'=>?_
 simp[hh]
 apply hk'
 refine Runs.block ?_
 refine Runs.loopW h (fun (sJ:Int × (List GNode)) ρ H n=>match sJ with | (i16,l17)=>∃ (v18:AVal),(ρ 0 = .list false (a.map (GNode.cells false))∧ρ 3=v18∧ρ 4=int i16)∧Sep H n [oN v18 l17] []) (by refine⟨v7,?_,sp⟩<;>simp[hh]) ?_
 clear hh
 rintro⟨i16,l17⟩ ρ H n19 K h ⟨v18,hh,sp⟩ IH20
 refine Runs.seq ?_
 refine zE fun k' hk'=>?_
 obtain⟨len22,elen22,h⟩:=atm h
 have f23:=fun H=>len_list (H:=H) (fr:=false) (f:=(GNode.cells false)) kd_23 elen22
 obtain⟨c24,ec24,h⟩:=atm h
 have f25:=ib_lss (k:=.i64) ec24
 simp[hh,f23,f25,-intBin,-lenF]
 apply hk'
 refine Runs.ite (b:=c24) (by simp[hh]) (fun dc24=>?_) (fun dc24=>?_)
 ·replace h:=h.1 dc24
  refine Runs.skip ?_
  refine Runs.seq ?_
  refine Runs.block ?_
  refine zF fun k' hk'=>?_
  obtain⟨hb26,h⟩:=h
  obtain⟨x27,ex27,h⟩:=atm h
  have f28:=fun H=>ix_list (H:=H) (fr:=false) (f:=(GNode.cells false)) (k:=.i64) kd_23 (fun _=>rfl) hb26 ex27
  obtain⟨hb29,h⟩:=h
  obtain⟨r30,er30,h⟩:=atm h
  simp[hh,f28,dc24,-indexAddrF]
  refine RunK.callW Ty_ok (toNode_ok x27 hb29) e95 (.cons (ArgOk.agg (.cons (.v _ _ _) (.cons (.v _ _ _) (.cons (argI false x27.links) .nil)))) .nil) sp (by decide) (by decide) rfl (by simp[hh,f28,dc24,-indexAddrF]) ?_
  rintro v31 H32 n33 _ sp rfl hle35 hfr34
  rw[← er30] at sp
  replace sp:=Sep.unpack sp
  obtain⟨L40,hv,hl41,sp⟩:=sp
  subst hv
  obtain⟨v37,v38,v39,hv⟩:=len3 (by simpa using hl41)
  subst hv
  simp only[zip3,List.cons_append,List.nil_append] at sp
  replace sp:=Sep.scalar sp
  obtain⟨hv,sp⟩:=sp
  subst hv
  replace sp:=Sep.scalar sp
  obtain⟨hv,sp⟩:=sp
  subst hv
  replace sp:=Sep.rot sp
  try simp only[List.cons_append,List.nil_append,List.append_assoc] at sp
  replace sp:Sep H32 n33 [oN v18 l17,oI v39 r30.links] []:=sp
  obtain⟨hb43,h⟩:=h
  obtain⟨x44,ex44,h⟩:=atm h
  obtain⟨id45,els46,row47,W48,hq49,mo50,moL51,moR52,hrl53,hW54,hsub55,hni56,spr57,hcl58⟩:=Sep.rowF (q:=i16.toNat) (f:=(GNode.cells true)) sp hb43 ex44 rfl
  subst hq49
  obtain⟨c59,c60,c61,hq49⟩:=len3 (by simpa using hrl53)
  subst hq49
  replace spr57:Sep _ _ [(.c,c59,int x44.control),(.c,c60,int x44.parent),(.s [.c],c61,.list true (x44.links.map intC))] W48:=spr57
  obtain rfl:=Sep.cAt (K1:=[]) (K2:=[(.c,c60,int x44.parent),(.s [.c],c61,.list true (x44.links.map intC))]) spr57
  obtain rfl:=Sep.cAt (K1:=[(.c,int x44.control,int x44.control)]) (K2:=[(.s [.c],c61,.list true (x44.links.map intC))]) spr57
  have f62:=ix_arr (k:=.i64) (off:=0) (len:=l17.length) kd_44 mo50 moL51 rfl hb43
  obtain⟨l63,el63,h⟩:=atm h
  simp[hh,mo50,moL51,moR52,f28,f62,dc24,-indexAddrF,-storeF]
  refine bind_store (q:=i16.toNat) (news:=(GNode.cells true) r30) [oI v39 r30.links] [] sp (by simp) (by simp;omega) (by simp) (by simp[-one1,o1x,Sep.one1 sp.dr]) (Fill.v _ (Fill.v _ (Fill.own Fill.nil))) ?_
  rintro H64 sp hfr65
  replace sp:Sep H64 n33 [oN (.arr id45 l17.length 0 l17.length) l63] []:=Sep.st el63 sp
  simp[hh,f28,f62,dc24,-indexAddrF]
  apply hk'
  refine Runs.cut (fun ρ H n=>∃ (v67:AVal),(ρ 0 = .list false (a.map (GNode.cells false))∧ρ 3=v67∧ρ 4=int i16)∧Sep H n [oN v67 l63] []) (by refine⟨.arr id45 l17.length 0 l17.length,?_,sp⟩<;>simp[hh,f28,f62,dc24,-indexAddrF]) ?_
  clear hh
  rintro ρ H n68 ⟨v67,hh,sp⟩
  refine Runs.inBlock ?_
  refine zF fun k' hk'=>?_
  obtain⟨hb69,h⟩:=h
  obtain⟨v70,ev70,h⟩:=atm h
  have f71:=ib_add hb69 ev70
  simp[hh,f71,-intBin]
  apply hk'
  refine IH20 (v70,l63) _ _ _ h (by refine⟨v67,?_,sp⟩<;>simp[hh])
 replace h:=h.2 dc24
 refine Runs.exit rfl ?_
 refine zE fun k' hk'=>?_
 simp[hh,dc24]
 apply hk'
 exact Runs.ret1 (v:=v18) Tryz.func51 Tryz.results51 (by simp[hh,dc24]) (hQ _ _ _ _ (Sep.sub (ids':=[]) sp (by simp)) ⟨l17,h,rfl⟩)
theorem toNodeS_ok (a:List GNode) (hp:toNodeS_pre a):OwnS Tryz.prog 51 [.list false (a.map (GNode.cells false))] (.s [.c,.c,.s [.c]]) (fun r=>r = .list true ((toNodeS a).map (GNode.cells true))):=(toNodeS_walk a _ (toNodeS_vc a hp)).mono (by rintro _ ⟨_,rfl,rfl⟩;rfl)
theorem e15:Ent Tryz.prog 15:=Ent.of Tryz.func15 (by kernel_rfl) rfl
theorem toBigraph_walk (a:Big) (Z:Big→Prop) (h:toBigraph_wp a Z):OwnS Tryz.prog 15 [.agg (bC false a)] (.a [.c,.s [.c,.c,.s [.c]],.s [.c],.c,.s [.c],.s [.c,.c]]) (fun r=>∃ y:Big,Z y∧r = .agg (bC true y)):=by
 unfold toBigraph_wp at h
 have sp:Sep noHeap 0 [] []:=Sep.nil (by simp)
 refine OwnS.of Tryz.func15 rfl Tryz.ntmps15 (by simp) fun Q hQ=>?_
 refine Runs.cut (fun ρ H n=>ρ 0 = .agg (bC false a)∧Sep H n [] []) (by refine⟨?_,sp⟩<;>simp ) ?_
 rintro ρ H n1 ⟨hh,sp⟩
 refine zE fun k' hk'=>?_
 simp[hh]
 apply hk'
 refine Runs.cut (fun ρ H n=>(ρ 1=pA n1 1∧ρ 2=pA (n1+1) 2)∧H (n1,1)=some ⟨6,[bC false a]⟩∧H (n1+1,2)=some ⟨6,[[int 0,.v (.slice none 0 0),.v (.slice none 0 0),int 0,.v (.slice none 0 0),.v (.slice none 0 0)]]⟩∧Sep H n [] [(n1+1,2),(n1,1)]) (by refine⟨?_,?_,?_,sp.var.var⟩<;>simp[hh]) ?_
 clear hh
 rintro ρ H n4 ⟨hh,m1_1,m2_2,sp⟩
 refine zE fun k' hk'=>?_
 simp[hh,m1_1,m2_2]
 apply hk'
 refine Runs.cut (fun ρ H n=>(ρ 1=pA n1 1∧ρ 2=pA (n1+1) 2∧ρ 3=pA n4 3)∧H (n1,1)=some ⟨6,[bC false a]⟩∧H (n1+1,2)=some ⟨6,[[int 0,.v (.slice none 0 0),.v (.slice none 0 0),int 0,.v (.slice none 0 0),.v (.slice none 0 0)]]⟩∧H (n4,3)=some ⟨6,[[int 0,.v (.slice none 0 0),.v (.slice none 0 0),int 0,.v (.slice none 0 0),.v (.slice none 0 0)]]⟩∧Sep H n [] [(n4,3),(n1+1,2),(n1,1)]) (by refine⟨?_,?_,?_,?_,sp.var⟩<;>simp[hh,m1_1,m2_2]) ?_
 clear hh m1_1 m2_2
 rintro ρ H n6 ⟨hh,m1_1,m2_2,m3_4,sp⟩
 refine zE fun k' hk'=>?_
 simp[hh,m1_1,m2_2,m3_4]
 apply hk'
 refine Runs.cut (fun ρ H n=>(ρ 1=pA n1 1∧ρ 2=pA (n1+1) 2∧ρ 3=pA n4 3)∧H (n1,1)=some ⟨6,[bC false a]⟩∧H (n1+1,2)=some ⟨6,[[int 0,.v (.slice none 0 0),.v (.slice none 0 0),int 0,.v (.slice none 0 0),.v (.slice none 0 0)]]⟩∧H (n4,3)=some ⟨6,[[int a.roots,.v (.slice none 0 0),.v (.slice none 0 0),int 0,.v (.slice none 0 0),.v (.slice none 0 0)]]⟩∧Sep H n [] [(n4,3),(n1+1,2),(n1,1)]) (by refine⟨?_,?_,?_,?_,(Sep.setVar (w:=(n4,3)) sp (by simp))⟩<;>simp[hh,m1_1,m2_2,m3_4]) ?_
 clear hh m1_1 m2_2 m3_4
 rintro ρ H n7 ⟨hh,m1_1,m2_2,m3_4,sp⟩
 refine zE fun k' hk'=>?_
 obtain⟨hb8,h⟩:=h
 obtain⟨r9,er9,h⟩:=atm h
 simp[hh,m1_1,m2_2,m3_4]
 refine RunK.callW Ty_ok (toNodeS_ok a.nodes hb8) e51 (.cons (ArgOk.nest_Node false a.nodes) .nil) sp (by decide) (by decide) rfl (by simp[hh,m1_1,m2_2,m3_4]) ?_
 rintro v10 H11 n12 _ sp rfl hle14 hfr13
 rw[← er9] at sp
 have m1_1:H11 (n1,1)=some ⟨6,[bC false a]⟩:=(hfr13 _ (by simp)).trans (by simp[hh,m1_1,m2_2,m3_4,Heap.get_set])
 have m2_2:H11 (n1+1,2)=some ⟨6,[[int 0,.v (.slice none 0 0),.v (.slice none 0 0),int 0,.v (.slice none 0 0),.v (.slice none 0 0)]]⟩:=(hfr13 _ (by simp)).trans (by simp[hh,m1_1,m2_2,m3_4,Heap.get_set])
 have m3_4:H11 (n4,3)=some ⟨6,[[int a.roots,.v (.slice none 0 0),.v (.slice none 0 0),int 0,.v (.slice none 0 0),.v (.slice none 0 0)]]⟩:=(hfr13 _ (by simp)).trans (by simp[hh,m1_1,m2_2,m3_4,Heap.get_set])
 have f17:=Sep.oc sp
 simp[hh,m1_1,m2_2,m3_4,f17,-cellsA,-one1,cAx,o1x]
 apply hk'
 refine Runs.cut (fun ρ H n=>∃ (v18:AVal),(ρ 1=pA n1 1∧ρ 2=pA (n1+1) 2∧ρ 3=pA n4 3)∧H (n1,1)=some ⟨6,[bC false a]⟩∧H (n1+1,2)=some ⟨6,[[int 0,.v (.slice none 0 0),.v (.slice none 0 0),int 0,.v (.slice none 0 0),.v (.slice none 0 0)]]⟩∧H (n4,3)=some ⟨6,[[int a.roots,v18,.v (.slice none 0 0),int 0,.v (.slice none 0 0),.v (.slice none 0 0)]]⟩∧Sep H n [oN v18 r9] [(n4,3),(n1+1,2),(n1,1)]) (by refine⟨v10,?_,?_,?_,?_,(Sep.setVar (w:=(n4,3)) sp (by simp))⟩<;>simp[hh,m1_1,m2_2,m3_4,f17,-cellsA,-one1,cAx,o1x]) ?_
 clear hh m1_1 m2_2 m3_4
 rintro ρ H n19 ⟨v18,hh,m1_1,m2_2,m3_4,sp⟩
 refine zE fun k' hk'=>?_
 obtain⟨hb20,h⟩:=h
 obtain⟨r21,er21,h⟩:=atm h
 simp[hh,m1_1,m2_2,m3_4]
 refine RunK.callW Ty_ok (toIntS_ok a.sites hb20) e50 (.cons (argI false a.sites) .nil) sp (by decide) (by decide) rfl (by simp[hh,m1_1,m2_2,m3_4]) ?_
 rintro v22 H23 n24 _ sp rfl hle26 hfr25
 rw[← er21] at sp
 have m1_1:H23 (n1,1)=some ⟨6,[bC false a]⟩:=(hfr25 _ (by simp)).trans (by simp[hh,m1_1,m2_2,m3_4,Heap.get_set])
 have m2_2:H23 (n1+1,2)=some ⟨6,[[int 0,.v (.slice none 0 0),.v (.slice none 0 0),int 0,.v (.slice none 0 0),.v (.slice none 0 0)]]⟩:=(hfr25 _ (by simp)).trans (by simp[hh,m1_1,m2_2,m3_4,Heap.get_set])
 have m3_4:H23 (n4,3)=some ⟨6,[[int a.roots,v18,.v (.slice none 0 0),int 0,.v (.slice none 0 0),.v (.slice none 0 0)]]⟩:=(hfr25 _ (by simp)).trans (by simp[hh,m1_1,m2_2,m3_4,Heap.get_set])
 have f29:=Sep.oc sp
 simp[hh,m1_1,m2_2,m3_4,f29,-cellsA,-one1,cAx,o1x]
 apply hk'
 refine Runs.cut (fun ρ H n=>∃ (v30 v31:AVal),(ρ 1=pA n1 1∧ρ 2=pA (n1+1) 2∧ρ 3=pA n4 3)∧H (n1,1)=some ⟨6,[bC false a]⟩∧H (n1+1,2)=some ⟨6,[[int 0,.v (.slice none 0 0),.v (.slice none 0 0),int 0,.v (.slice none 0 0),.v (.slice none 0 0)]]⟩∧H (n4,3)=some ⟨6,[[int a.roots,v31,v30,int 0,.v (.slice none 0 0),.v (.slice none 0 0)]]⟩∧Sep H n [oI v30 r21,oN v31 r9] [(n4,3),(n1+1,2),(n1,1)]) (by refine⟨v22,v18,?_,?_,?_,?_,(Sep.setVar (w:=(n4,3)) sp (by simp))⟩<;>simp[hh,m1_1,m2_2,m3_4,f29,-cellsA,-one1,cAx,o1x]) ?_
 clear hh m1_1 m2_2 m3_4
 rintro ρ H n32 ⟨v30,v31,hh,m1_1,m2_2,m3_4,sp⟩
 refine zE fun k' hk'=>?_
 simp[hh,m1_1,m2_2,m3_4]
 apply hk'
 refine Runs.cut (fun ρ H n=>∃ (v33 v34:AVal),(ρ 1=pA n1 1∧ρ 2=pA (n1+1) 2∧ρ 3=pA n4 3)∧H (n1,1)=some ⟨6,[bC false a]⟩∧H (n1+1,2)=some ⟨6,[[int 0,.v (.slice none 0 0),.v (.slice none 0 0),int 0,.v (.slice none 0 0),.v (.slice none 0 0)]]⟩∧H (n4,3)=some ⟨6,[[int a.roots,v34,v33,int a.edges,.v (.slice none 0 0),.v (.slice none 0 0)]]⟩∧Sep H n [oI v33 r21,oN v34 r9] [(n4,3),(n1+1,2),(n1,1)]) (by refine⟨v30,v31,?_,?_,?_,?_,(Sep.setVar (w:=(n4,3)) sp (by simp))⟩<;>simp[hh,m1_1,m2_2,m3_4]) ?_
 clear hh m1_1 m2_2 m3_4
 rintro ρ H n35 ⟨v33,v34,hh,m1_1,m2_2,m3_4,sp⟩
 refine zE fun k' hk'=>?_
 obtain⟨hb36,h⟩:=h
 obtain⟨r37,er37,h⟩:=atm h
 simp[hh,m1_1,m2_2,m3_4]
 refine RunK.callW Ty_ok (toStringS_ok a.outer hb36) e52 (.cons (argS false a.outer) .nil) sp (by decide) (by decide) rfl (by simp[hh,m1_1,m2_2,m3_4]) ?_
 rintro v38 H39 n40 _ sp rfl hle42 hfr41
 rw[← er37] at sp
 have m1_1:H39 (n1,1)=some ⟨6,[bC false a]⟩:=(hfr41 _ (by simp)).trans (by simp[hh,m1_1,m2_2,m3_4,Heap.get_set])
 have m2_2:H39 (n1+1,2)=some ⟨6,[[int 0,.v (.slice none 0 0),.v (.slice none 0 0),int 0,.v (.slice none 0 0),.v (.slice none 0 0)]]⟩:=(hfr41 _ (by simp)).trans (by simp[hh,m1_1,m2_2,m3_4,Heap.get_set])
 have m3_4:H39 (n4,3)=some ⟨6,[[int a.roots,v34,v33,int a.edges,.v (.slice none 0 0),.v (.slice none 0 0)]]⟩:=(hfr41 _ (by simp)).trans (by simp[hh,m1_1,m2_2,m3_4,Heap.get_set])
 have f45:=Sep.oc sp
 simp[hh,m1_1,m2_2,m3_4,f45,-cellsA,-one1,cAx,o1x]
 apply hk'
 refine Runs.cut (fun ρ H n=>∃ (v46 v47 v48:AVal),(ρ 1=pA n1 1∧ρ 2=pA (n1+1) 2∧ρ 3=pA n4 3)∧H (n1,1)=some ⟨6,[bC false a]⟩∧H (n1+1,2)=some ⟨6,[[int 0,.v (.slice none 0 0),.v (.slice none 0 0),int 0,.v (.slice none 0 0),.v (.slice none 0 0)]]⟩∧H (n4,3)=some ⟨6,[[int a.roots,v48,v47,int a.edges,v46,.v (.slice none 0 0)]]⟩∧Sep H n [oS v46 r37,oI v47 r21,oN v48 r9] [(n4,3),(n1+1,2),(n1,1)]) (by refine⟨v38,v33,v34,?_,?_,?_,?_,(Sep.setVar (w:=(n4,3)) sp (by simp))⟩<;>simp[hh,m1_1,m2_2,m3_4,f45,-cellsA,-one1,cAx,o1x]) ?_
 clear hh m1_1 m2_2 m3_4
 rintro ρ H n49 ⟨v46,v47,v48,hh,m1_1,m2_2,m3_4,sp⟩
 refine zE fun k' hk'=>?_
 obtain⟨hb50,h⟩:=h
 obtain⟨r51,er51,h⟩:=atm h
 simp[hh,m1_1,m2_2,m3_4]
 refine RunK.callW Ty_ok (toWireS_ok a.inner hb50) e53 (.cons (argW false a.inner) .nil) sp (by decide) (by decide) rfl (by simp[hh,m1_1,m2_2,m3_4]) ?_
 rintro v52 H53 n54 _ sp rfl hle56 hfr55
 rw[← er51] at sp
 have m1_1:H53 (n1,1)=some ⟨6,[bC false a]⟩:=(hfr55 _ (by simp)).trans (by simp[hh,m1_1,m2_2,m3_4,Heap.get_set])
 have m2_2:H53 (n1+1,2)=some ⟨6,[[int 0,.v (.slice none 0 0),.v (.slice none 0 0),int 0,.v (.slice none 0 0),.v (.slice none 0 0)]]⟩:=(hfr55 _ (by simp)).trans (by simp[hh,m1_1,m2_2,m3_4,Heap.get_set])
 have m3_4:H53 (n4,3)=some ⟨6,[[int a.roots,v48,v47,int a.edges,v46,.v (.slice none 0 0)]]⟩:=(hfr55 _ (by simp)).trans (by simp[hh,m1_1,m2_2,m3_4,Heap.get_set])
 have f59:=Sep.oc sp
 simp[hh,m1_1,m2_2,m3_4,f59,-cellsA,-one1,cAx,o1x]
 apply hk'
 refine Runs.cut (fun ρ H n=>∃ (v60 v61 v62 v63:AVal),(ρ 2=pA (n1+1) 2∧ρ 3=pA n4 3)∧H (n1+1,2)=some ⟨6,[[int 0,.v (.slice none 0 0),.v (.slice none 0 0),int 0,.v (.slice none 0 0),.v (.slice none 0 0)]]⟩∧H (n4,3)=some ⟨6,[[int a.roots,v63,v62,int a.edges,v61,v60]]⟩∧Sep H n [oW v60 r51,oS v61 r37,oI v62 r21,oN v63 r9] [(n4,3),(n1+1,2)]) (by refine⟨v52,v46,v47,v48,?_,?_,?_,(Sep.sub (Sep.setVar (w:=(n4,3)) sp (by simp)) (by simp +contextual))⟩<;>simp[hh,m1_1,m2_2,m3_4,f59,-cellsA,-one1,cAx,o1x]) ?_
 clear hh m1_1 m2_2 m3_4
 rintro ρ H n64 ⟨v60,v61,v62,v63,hh,m2_2,m3_4,sp⟩
 refine zE fun k' hk'=>?_
 have f65:=Sep.oc sp.f3
 have f66:=Sep.oc sp.f2
 have f67:=Sep.oc sp.f1
 have f68:=Sep.oc sp
 simp[hh,m2_2,m3_4,f65,f66,f67,f68,-cellsA,-one1,cAx,o1x]
 apply hk'
 refine Runs.cut (fun ρ H n=>∃ (v69 v70 v71 v72:AVal),ρ 2=pA (n1+1) 2∧H (n1+1,2)=some ⟨6,[[int a.roots,v72,v71,int a.edges,v70,v69]]⟩∧Sep H n [oW v69 r51,oS v70 r37,oI v71 r21,oN v72 r9] [(n1+1,2)]) (by refine⟨v60,v61,v62,v63,?_,?_,(Sep.sub (Sep.setVar (w:=(n1+1,2)) sp (by simp)) (by simp +contextual))⟩<;>simp[hh,m2_2,m3_4,f65,f66,f67,f68,-cellsA,-one1,cAx,o1x]) ?_
 clear hh m2_2 m3_4
 rintro ρ H n73 ⟨v69,v70,v71,v72,hh,m2_2,sp⟩
 exact Runs.res1 Ty_ok (v:=.agg [int a.roots,v72,v71,int a.edges,v70,v69]) Tryz.func15 Tryz.results15 (by simp[hh,m2_2,resA]) (hQ _ _ _ _ (Sep.sub (ids':=[]) (Sep.pack (Fill.v _ (Fill.own (Fill.own (Fill.v _ (Fill.own (Fill.own Fill.nil)))))) sp.f1.f2.f3) (by simp)) ⟨(Big.mk a.roots r9 r21 a.edges r37 r51),h,rfl⟩)
theorem toBigraph_ok (a:Big) (hp:toBigraph_pre a):OwnS Tryz.prog 15 [.agg (bC false a)] (.a [.c,.s [.c,.c,.s [.c]],.s [.c],.c,.s [.c],.s [.c,.c]]) (fun r=>r = .agg [int ((toBigraph a).roots),.list true (((toBigraph a).nodes).map (GNode.cells true)),.list true (((toBigraph a).sites).map intC),int ((toBigraph a).edges),.list true (((toBigraph a).outer).map strC),.list true (((toBigraph a).inner).map Wire.cells)]):=(toBigraph_walk a _ (toBigraph_vc a hp)).mono (by rintro _ ⟨_,rfl,rfl⟩;rfl)
theorem e32:Ent Tryz.prog 32:=Ent.of Tryz.func32 (by kernel_rfl) rfl
theorem markIntS_walk (a:List Int) (k_:Int) (Z:((List Int) × Int)→Prop) (h:markIntS_wp a k_ Z):MutS Tryz.prog 32 (fun v=>[v,int k_]) (.s [.c]) (.list true (a.map intC)) (fun e' r=>∃ y:(List Int) × Int,Z y∧e' = .list true (y.1.map intC)∧r=int y.2):=by
 unfold markIntS_wp at h
 refine MutS.of Tryz.func32 rfl Tryz.ntmps32 (fun _=>by simp) fun H0 n0 v0 K0 ids0 sp Q hQ=>?_
 have h00:=sp.1
 have hid:∀ i ∈ ids0,H0 i=H0 i:=fun _ _=>rfl
 have hnn:n0≤n0:=Nat.le_refl _
 refine Runs.cut (fun ρ H n=>(ρ 0=v0∧ρ 1=int k_)∧n0≤n∧(∀ i ∈ ids0,H i=H0 i)∧Sep H n (oI v0 a::K0) (ids0)) (by refine⟨?_,(by omega),hid,sp⟩<;>simp ) ?_
 rintro ρ H n2 ⟨hh,hnn,hid,sp⟩
 have hq_n2:=hnn
 refine zE fun k' hk'=>?_
 simp[hh]
 apply hk'
 refine Runs.seq ?_
 refine zE fun k' hk'=>?_
 simp[hh]
 apply hk'
 refine Runs.block ?_
 refine Runs.loopW h (fun (sJ:Int × Int × (List Int)) ρ H n=>match sJ with | (k10,i11,l12)=>(ρ 0=v0∧ρ 1=int k10∧ρ 5=int i11)∧n0≤n∧(∀ i ∈ ids0,H i=H0 i)∧Sep H n (oI v0 l12::K0) (ids0)) (by refine⟨?_,(by omega),hid,sp⟩<;>simp[hh]) ?_
 clear hh
 rintro⟨k10,i11,l12⟩ ρ H n13 K h ⟨hh,hnn,hid,sp⟩ IH14
 have hq_n13:=hnn
 refine Runs.seq ?_
 refine zE fun k' hk'=>?_
 obtain⟨len16,elen16,h⟩:=atm h
 have f17:=len_own (Sep.len (m:=len16) sp kd_24 (by rw[elen16,List.length_map]))
 obtain⟨c18,ec18,h⟩:=atm h
 have f19:=ib_lss (k:=.i64) ec18
 simp[hh,f17,f19,-intBin,-lenF]
 apply hk'
 refine Runs.ite (b:=c18) (by simp[hh]) (fun dc18=>?_) (fun dc18=>?_)
 ·replace h:=h.1 dc18
  refine Runs.skip ?_
  refine Runs.seq ?_
  refine Runs.block ?_
  refine zE fun k' hk'=>?_
  obtain⟨hb20,h⟩:=h
  obtain⟨id21,hv,mo22,ln23,ni24⟩:=Sep.openF sp (by simp) hb20
  subst hv
  obtain⟨x25,ex25,h⟩:=atm h
  have f26:=fun H (hm:H id21=some ⟨1,l12.map intC⟩)=>ix_arr (H:=H) (k:=.i64) (off:=0) (len:=l12.length) (g:=l12.length) kd_24 hm (by simp) rfl hb20
  have f27:=at_some (q:=i11.toNat) hb20 ex25 rfl
  obtain⟨l28,el28,h⟩:=atm h
  simp[hh,mo22,f26,f27,dc18,-indexAddrF,-storeF]
  refine bind_store (q:=i11.toNat) (news:=intC k10) [] (K0) sp (by simp) (by simp;omega) (by simp) (by simp[-one1,o1x]) (Fill.v _ Fill.nil) ?_
  rintro H29 sp hfr30
  replace sp:Sep H29 n13 (oI (.arr id21 l12.length 0 l12.length) l28::K0) (ids0):=Sep.st el28 sp
  have hid:∀ i ∈ ids0,H29 i=H0 i:=fun i hi=>(hfr30 i (by simp[hi])).trans (hid i hi)
  simp[hh,f26,f27,dc18,-indexAddrF]
  apply hk'
  refine Runs.cut (fun ρ H n=>(ρ 0 = .arr id21 l12.length 0 l12.length∧ρ 1=int k10∧ρ 5=int i11)∧n0≤n∧(∀ i ∈ ids0,H i=H0 i)∧Sep H n (oI (.arr id21 l12.length 0 l12.length) l28::K0) (ids0)) (by refine⟨?_,(by omega),hid,sp⟩<;>simp[hh,f26,f27,dc18,-indexAddrF]) ?_
  clear hh
  rintro ρ H n32 ⟨hh,hnn,hid,sp⟩
  have hq_n32:=hnn
  refine zF fun k' hk'=>?_
  obtain⟨hb33,h⟩:=h
  obtain⟨v34,ev34,h⟩:=atm h
  have f35:=ib_add hb33 ev34
  simp[hh,f35,-intBin]
  apply hk'
  refine Runs.inBlock ?_
  refine zF fun k' hk'=>?_
  obtain⟨hb36,h⟩:=h
  obtain⟨v37,ev37,h⟩:=atm h
  have f38:=ib_add hb36 ev37
  simp[hh,f38,-intBin]
  apply hk'
  refine IH14 (v34,v37,l28) _ _ _ h (by refine⟨?_,(by omega),hid,sp⟩<;>simp[hh])
 replace h:=h.2 dc18
 refine Runs.exit rfl ?_
 refine zE fun k' hk'=>?_
 simp[hh,dc18]
 apply hk'
 exact Runs.ret1 (v:=int k10) Tryz.func32 Tryz.results32 (by simp[hh,dc18]) (hQ _ _ _ _ (Sep.sub sp (by simp +contextual)) hid (by omega) ⟨(l12,k10),h,rfl,rfl⟩)
theorem markIntS_ok (a:List Int) (k_:Int) (hp:markIntS_pre a k_):MutS Tryz.prog 32 (fun v=>[v,int k_]) (.s [.c]) (.list true (a.map intC)) (fun e' r=>e' = .list true (((markIntS a k_).1).map intC)∧r=int ((markIntS a k_).2)):=(markIntS_walk a k_ _ (markIntS_vc a k_ hp)).mono (by rintro _ _ ⟨_,rfl,rfl,rfl⟩;exact⟨rfl,rfl⟩)
theorem e38:Ent Tryz.prog 38:=Ent.of Tryz.func38 (by kernel_rfl) rfl
theorem markStringS_walk (a:List Str) (k_:Int) (Z:((List Str) × Int)→Prop) (h:markStringS_wp a k_ Z):MutS Tryz.prog 38 (fun v=>[v,int k_]) (.s [.c]) (.list true (a.map strC)) (fun e' r=>∃ y:(List Str) × Int,Z y∧e' = .list true (y.1.map strC)∧r=int y.2):=by
 unfold markStringS_wp at h
 refine MutS.of Tryz.func38 rfl Tryz.ntmps38 (fun _=>by simp) fun H0 n0 v0 K0 ids0 sp Q hQ=>?_
 have h00:=sp.1
 have hid:∀ i ∈ ids0,H0 i=H0 i:=fun _ _=>rfl
 have hnn:n0≤n0:=Nat.le_refl _
 refine Runs.cut (fun ρ H n=>(ρ 0=v0∧ρ 1=int k_)∧n0≤n∧(∀ i ∈ ids0,H i=H0 i)∧Sep H n (oS v0 a::K0) (ids0)) (by refine⟨?_,(by omega),hid,sp⟩<;>simp ) ?_
 rintro ρ H n2 ⟨hh,hnn,hid,sp⟩
 have hq_n2:=hnn
 refine zE fun k' hk'=>?_
 simp[hh]
 apply hk'
 refine Runs.seq ?_
 refine zE fun k' hk'=>?_
 simp[hh]
 apply hk'
 refine Runs.block ?_
 refine Runs.loopW h (fun (sJ:Int × Int × (List Str)) ρ H n=>match sJ with | (k10,i11,l12)=>(ρ 0=v0∧ρ 1=int k10∧ρ 5=int i11)∧n0≤n∧(∀ i ∈ ids0,H i=H0 i)∧Sep H n (oS v0 l12::K0) (ids0)) (by refine⟨?_,(by omega),hid,sp⟩<;>simp[hh]) ?_
 clear hh
 rintro⟨k10,i11,l12⟩ ρ H n13 K h ⟨hh,hnn,hid,sp⟩ IH14
 have hq_n13:=hnn
 refine Runs.seq ?_
 refine zE fun k' hk'=>?_
 obtain⟨len16,elen16,h⟩:=atm h
 have f17:=len_own (Sep.len (m:=len16) sp kd_25 (by rw[elen16,List.length_map]))
 obtain⟨c18,ec18,h⟩:=atm h
 have f19:=ib_lss (k:=.i64) ec18
 simp[hh,f17,f19,-intBin,-lenF]
 apply hk'
 refine Runs.ite (b:=c18) (by simp[hh]) (fun dc18=>?_) (fun dc18=>?_)
 ·replace h:=h.1 dc18
  refine Runs.skip ?_
  refine Runs.seq ?_
  refine Runs.block ?_
  refine zE fun k' hk'=>?_
  obtain⟨hb20,h⟩:=h
  obtain⟨r21,er21,h⟩:=atm h
  simp[hh,dc18]
  refine RunK.callA Ty_ok (markTxt_ok k10 hb20) e79 (.cons (.v _ _ _) .nil) (by decide) (by decide) rfl (by simp[hh,dc18]) ?_
  rintro _ rfl
  rw[← er21]
  obtain⟨hb22,h⟩:=h
  obtain⟨id23,hv,mo24,ln25,ni26⟩:=Sep.openF sp (by simp) hb22
  subst hv
  obtain⟨x27,ex27,h⟩:=atm h
  have f28:=fun H (hm:H id23=some ⟨1,l12.map strC⟩)=>ix_arr (H:=H) (k:=.i64) (off:=0) (len:=l12.length) (g:=l12.length) kd_25 hm (by simp) rfl hb22
  have f29:=at_some (q:=i11.toNat) hb22 ex27 rfl
  obtain⟨l30,el30,h⟩:=atm h
  simp[hh,mo24,f28,f29,dc18,-indexAddrF,-storeF]
  refine bind_store (q:=i11.toNat) (news:=strC r21) [] (K0) sp (by simp) (by simp;omega) (by simp) (by simp[-one1,o1x]) (Fill.v _ Fill.nil) ?_
  rintro H31 sp hfr32
  replace sp:Sep H31 n13 (oS (.arr id23 l12.length 0 l12.length) l30::K0) (ids0):=Sep.st el30 sp
  have hid:∀ i ∈ ids0,H31 i=H0 i:=fun i hi=>(hfr32 i (by simp[hi])).trans (hid i hi)
  simp[hh,f28,f29,dc18,-indexAddrF]
  apply hk'
  refine Runs.cut (fun ρ H n=>(ρ 0 = .arr id23 l12.length 0 l12.length∧ρ 1=int k10∧ρ 5=int i11)∧n0≤n∧(∀ i ∈ ids0,H i=H0 i)∧Sep H n (oS (.arr id23 l12.length 0 l12.length) l30::K0) (ids0)) (by refine⟨?_,(by omega),hid,sp⟩<;>simp[hh,f28,f29,dc18,-indexAddrF]) ?_
  clear hh
  rintro ρ H n34 ⟨hh,hnn,hid,sp⟩
  have hq_n34:=hnn
  refine zF fun k' hk'=>?_
  obtain⟨hb35,h⟩:=h
  obtain⟨v36,ev36,h⟩:=atm h
  have f37:=ib_add hb35 ev36
  simp[hh,f37,-intBin]
  apply hk'
  refine Runs.inBlock ?_
  refine zF fun k' hk'=>?_
  obtain⟨hb38,h⟩:=h
  obtain⟨v39,ev39,h⟩:=atm h
  have f40:=ib_add hb38 ev39
  simp[hh,f40,-intBin]
  apply hk'
  refine IH14 (v36,v39,l30) _ _ _ h (by refine⟨?_,(by omega),hid,sp⟩<;>simp[hh])
 replace h:=h.2 dc18
 refine Runs.exit rfl ?_
 refine zE fun k' hk'=>?_
 simp[hh,dc18]
 apply hk'
 exact Runs.ret1 (v:=int k10) Tryz.func38 Tryz.results38 (by simp[hh,dc18]) (hQ _ _ _ _ (Sep.sub sp (by simp +contextual)) hid (by omega) ⟨(l12,k10),h,rfl,rfl⟩)
theorem markStringS_ok (a:List Str) (k_:Int) (hp:markStringS_pre a k_):MutS Tryz.prog 38 (fun v=>[v,int k_]) (.s [.c]) (.list true (a.map strC)) (fun e' r=>e' = .list true (((markStringS a k_).1).map strC)∧r=int ((markStringS a k_).2)):=(markStringS_walk a k_ _ (markStringS_vc a k_ hp)).mono (by rintro _ _ ⟨_,rfl,rfl,rfl⟩;exact⟨rfl,rfl⟩)
theorem e83:Ent Tryz.prog 83:=Ent.of Tryz.func83 (by kernel_rfl) rfl
theorem markWireS_walk (a:List Wire) (k_:Int) (Z:((List Wire) × Int)→Prop) (h:markWireS_wp a k_ Z):MutS Tryz.prog 83 (fun v=>[v,int k_]) (.s [.c,.c]) (.list true (a.map Wire.cells)) (fun e' r=>∃ y:(List Wire) × Int,Z y∧e' = .list true (y.1.map Wire.cells)∧r=int y.2):=by
 unfold markWireS_wp at h
 refine MutS.of Tryz.func83 rfl Tryz.ntmps83 (fun _=>by simp) fun H0 n0 v0 K0 ids0 sp Q hQ=>?_
 have h00:=sp.1
 have hid:∀ i ∈ ids0,H0 i=H0 i:=fun _ _=>rfl
 have hnn:n0≤n0:=Nat.le_refl _
 refine Runs.cut (fun ρ H n=>(ρ 0=v0∧ρ 1=int k_)∧n0≤n∧(∀ i ∈ ids0,H i=H0 i)∧Sep H n (oW v0 a::K0) (ids0)) (by refine⟨?_,(by omega),hid,sp⟩<;>simp ) ?_
 rintro ρ H n2 ⟨hh,hnn,hid,sp⟩
 have hq_n2:=hnn
 refine zE fun k' hk'=>?_
 simp[hh]
 apply hk'
 refine Runs.seq ?_
 refine zE fun k' hk'=>?_
 simp[hh]
 apply hk'
 refine Runs.block ?_
 refine Runs.loopW h (fun (sJ:Int × Int × (List Wire)) ρ H n=>match sJ with | (k10,i11,l12)=>(ρ 0=v0∧ρ 1=int k10∧ρ 5=int i11)∧n0≤n∧(∀ i ∈ ids0,H i=H0 i)∧Sep H n (oW v0 l12::K0) (ids0)) (by refine⟨?_,(by omega),hid,sp⟩<;>simp[hh]) ?_
 clear hh
 rintro⟨k10,i11,l12⟩ ρ H n13 K h ⟨hh,hnn,hid,sp⟩ IH14
 have hq_n13:=hnn
 refine Runs.seq ?_
 refine zE fun k' hk'=>?_
 obtain⟨len16,elen16,h⟩:=atm h
 have f17:=len_own (Sep.len (m:=len16) sp kd_45 (by rw[elen16,List.length_map]))
 obtain⟨c18,ec18,h⟩:=atm h
 have f19:=ib_lss (k:=.i64) ec18
 simp[hh,f17,f19,-intBin,-lenF]
 apply hk'
 refine Runs.ite (b:=c18) (by simp[hh]) (fun dc18=>?_) (fun dc18=>?_)
 ·replace h:=h.1 dc18
  refine Runs.skip ?_
  refine Runs.seq ?_
  refine Runs.block ?_
  refine zE fun k' hk'=>?_
  obtain⟨hb20,h⟩:=h
  obtain⟨r21,er21,h⟩:=atm h
  simp[hh,dc18]
  refine RunK.callA Ty_ok (markTxt_ok k10 hb20) e79 (.cons (.v _ _ _) .nil) (by decide) (by decide) rfl (by simp[hh,dc18]) ?_
  rintro _ rfl
  rw[← er21]
  obtain⟨hb22,h⟩:=h
  obtain⟨id23,hv,mo24,ln25,ni26⟩:=Sep.openF sp (by simp) hb22
  subst hv
  obtain⟨x27,ex27,h⟩:=atm h
  have f28:=fun H (hm:H id23=some ⟨2,l12.map Wire.cells⟩)=>ix_arr (H:=H) (k:=.i64) (off:=0) (len:=l12.length) (g:=l12.length) kd_45 hm (by simp) rfl hb22
  have f29:=at_some (q:=i11.toNat) hb22 ex27 rfl
  obtain⟨l30,el30,h⟩:=atm h
  simp[hh,mo24,f28,f29,dc18,-indexAddrF,-storeF]
  refine bind_field (i:=ty9) (q:=i11.toNat) (off:=0) (new:=[str r21]) (ix:=i11) (x:=x27) (y:=(Wire.mk r21 x27.link)) (f:=Wire.cells) sp (by simp) (by simp) hb22 ex27 rfl rfl (fun _=>rfl) (by simp) (by simp) (by simp[splice]) (by simp) ?_
  rintro H31 sp hfr32
  replace sp:Sep H31 n13 (oW (.arr id23 l12.length 0 l12.length) l30::K0) (ids0):=by rw[el30];exact sp
  have hid:∀ i ∈ ids0,H31 i=H0 i:=fun i hi=>(hfr32 i (by simp[hi])).trans (hid i hi)
  simp[hh,f28,f29,dc18,-indexAddrF]
  apply hk'
  refine Runs.cut (fun ρ H n=>(ρ 0 = .arr id23 l12.length 0 l12.length∧ρ 1=int k10∧ρ 5=int i11)∧n0≤n∧(∀ i ∈ ids0,H i=H0 i)∧Sep H n (oW (.arr id23 l12.length 0 l12.length) l30::K0) (ids0)) (by refine⟨?_,(by omega),hid,sp⟩<;>simp[hh,f28,f29,dc18,-indexAddrF]) ?_
  clear hh
  rintro ρ H n34 ⟨hh,hnn,hid,sp⟩
  have hq_n34:=hnn
  refine zE fun k' hk'=>?_
  obtain⟨hb35,h⟩:=h
  obtain⟨v36,ev36,h⟩:=atm h
  have f37:=ib_add hb35 ev36
  simp[hh,f37,-intBin]
  apply hk'
  refine zE fun k' hk'=>?_
  obtain⟨hb38,h⟩:=h
  obtain⟨id39,hv,mo40,ln41,ni42⟩:=Sep.openF sp (by simp) hb38
  simp only[AVal.arr.injEq] at hv
  obtain⟨hv,hln43,-⟩:=hv
  subst hv
  have hlshln43:=hln43.symm
  obtain⟨x44,ex44,h⟩:=atm h
  have f45:=fun H (hm:H id23=some ⟨2,l30.map Wire.cells⟩)=>ix_arr (H:=H) (k:=.i64) (off:=0) (len:=l12.length) (g:=l12.length) kd_45 hm (by simp[hln43]) rfl (by rw[hln43];exact hb38)
  have f46:=at_some (q:=i11.toNat) hb38 ex44 rfl
  obtain⟨l47,el47,h⟩:=atm h
  simp[hh,hlshln43,mo40,f45,f46,-indexAddrF,-storeF]
  refine bind_field (i:=ty3) (q:=i11.toNat) (off:=1) (new:=[int v36]) (ix:=i11) (x:=x44) (y:=(Wire.mk x44.name v36)) (f:=Wire.cells) sp (by simp) (by simp) hb38 ex44 rfl hln43 (fun _=>rfl) (by simp) (by simp) (by simp[splice]) (by simp) ?_
  rintro H48 sp hfr49
  replace sp:Sep H48 n34 (oW (.arr id23 l12.length 0 l12.length) l47::K0) (ids0):=by rw[el47];exact sp
  have hid:∀ i ∈ ids0,H48 i=H0 i:=fun i hi=>(hfr49 i (by simp[hi])).trans (hid i hi)
  simp[hh,hlshln43,f45,f46,-indexAddrF]
  apply hk'
  refine Runs.cut (fun ρ H n=>(ρ 0 = .arr id23 l12.length 0 l12.length∧ρ 1=int v36∧ρ 5=int i11)∧n0≤n∧(∀ i ∈ ids0,H i=H0 i)∧Sep H n (oW (.arr id23 l12.length 0 l12.length) l47::K0) (ids0)) (by refine⟨?_,(by omega),hid,sp⟩<;>simp[hh,hlshln43,f45,f46,-indexAddrF]) ?_
  clear hh hlshln43
  rintro ρ H n51 ⟨hh,hnn,hid,sp⟩
  have hq_n51:=hnn
  refine zF fun k' hk'=>?_
  obtain⟨hb52,h⟩:=h
  obtain⟨v53,ev53,h⟩:=atm h
  have f54:=ib_add hb52 ev53
  simp[hh,f54,-intBin]
  apply hk'
  refine Runs.inBlock ?_
  refine zF fun k' hk'=>?_
  obtain⟨hb55,h⟩:=h
  obtain⟨v56,ev56,h⟩:=atm h
  have f57:=ib_add hb55 ev56
  simp[hh,f57,-intBin]
  apply hk'
  refine IH14 (v53,v56,l47) _ _ _ h (by refine⟨?_,(by omega),hid,sp⟩<;>simp[hh])
 replace h:=h.2 dc18
 refine Runs.exit rfl ?_
 refine zE fun k' hk'=>?_
 simp[hh,dc18]
 apply hk'
 exact Runs.ret1 (v:=int k10) Tryz.func83 Tryz.results83 (by simp[hh,dc18]) (hQ _ _ _ _ (Sep.sub sp (by simp +contextual)) hid (by omega) ⟨(l12,k10),h,rfl,rfl⟩)
theorem markWireS_ok (a:List Wire) (k_:Int) (hp:markWireS_pre a k_):MutS Tryz.prog 83 (fun v=>[v,int k_]) (.s [.c,.c]) (.list true (a.map Wire.cells)) (fun e' r=>e' = .list true (((markWireS a k_).1).map Wire.cells)∧r=int ((markWireS a k_).2)):=(markWireS_walk a k_ _ (markWireS_vc a k_ hp)).mono (by rintro _ _ ⟨_,rfl,rfl,rfl⟩;exact⟨rfl,rfl⟩)
theorem e29:Ent Tryz.prog 29:=Ent.of Tryz.func29 (by kernel_rfl) rfl
theorem markControlS_walk (a:List Control) (k_:Int) (Z:((List Control) × Int)→Prop) (h:markControlS_wp a k_ Z):MutS Tryz.prog 29 (fun v=>[v,int k_]) (.s [.c,.c,.c]) (.list true (a.map Control.cells)) (fun e' r=>∃ y:(List Control) × Int,Z y∧e' = .list true (y.1.map Control.cells)∧r=int y.2):=by
 unfold markControlS_wp at h
 refine MutS.of Tryz.func29 rfl Tryz.ntmps29 (fun _=>by simp) fun H0 n0 v0 K0 ids0 sp Q hQ=>?_
 have h00:=sp.1
 have hid:∀ i ∈ ids0,H0 i=H0 i:=fun _ _=>rfl
 have hnn:n0≤n0:=Nat.le_refl _
 refine Runs.cut (fun ρ H n=>(ρ 0=v0∧ρ 1=int k_)∧n0≤n∧(∀ i ∈ ids0,H i=H0 i)∧Sep H n (oE [.c,.c,.c] Control.cells v0 a::K0) (ids0)) (by refine⟨?_,(by omega),hid,sp⟩<;>simp ) ?_
 rintro ρ H n2 ⟨hh,hnn,hid,sp⟩
 have hq_n2:=hnn
 refine zE fun k' hk'=>?_
 simp[hh]
 apply hk'
 refine Runs.seq ?_
 refine zE fun k' hk'=>?_
 simp[hh]
 apply hk'
 refine Runs.block ?_
 refine Runs.loopW h (fun (sJ:Int × Int × (List Control)) ρ H n=>match sJ with | (k10,i11,l12)=>(ρ 0=v0∧ρ 1=int k10∧ρ 5=int i11)∧n0≤n∧(∀ i ∈ ids0,H i=H0 i)∧Sep H n (oE [.c,.c,.c] Control.cells v0 l12::K0) (ids0)) (by refine⟨?_,(by omega),hid,sp⟩<;>simp[hh]) ?_
 clear hh
 rintro⟨k10,i11,l12⟩ ρ H n13 K h ⟨hh,hnn,hid,sp⟩ IH14
 have hq_n13:=hnn
 refine Runs.seq ?_
 refine zE fun k' hk'=>?_
 obtain⟨len16,elen16,h⟩:=atm h
 have f17:=len_own (Sep.len (m:=len16) sp kd_42 (by rw[elen16,List.length_map]))
 obtain⟨c18,ec18,h⟩:=atm h
 have f19:=ib_lss (k:=.i64) ec18
 simp[hh,f17,f19,-intBin,-lenF]
 apply hk'
 refine Runs.ite (b:=c18) (by simp[hh]) (fun dc18=>?_) (fun dc18=>?_)
 ·replace h:=h.1 dc18
  refine Runs.skip ?_
  refine Runs.seq ?_
  refine Runs.block ?_
  refine zE fun k' hk'=>?_
  obtain⟨hb20,h⟩:=h
  obtain⟨r21,er21,h⟩:=atm h
  simp[hh,dc18]
  refine RunK.callA Ty_ok (markTxt_ok k10 hb20) e79 (.cons (.v _ _ _) .nil) (by decide) (by decide) rfl (by simp[hh,dc18]) ?_
  rintro _ rfl
  rw[← er21]
  obtain⟨hb22,h⟩:=h
  obtain⟨id23,hv,mo24,ln25,ni26⟩:=Sep.openF sp (by simp) hb22
  subst hv
  obtain⟨x27,ex27,h⟩:=atm h
  have f28:=fun H (hm:H id23=some ⟨3,l12.map Control.cells⟩)=>ix_arr (H:=H) (k:=.i64) (off:=0) (len:=l12.length) (g:=l12.length) kd_42 hm (by simp) rfl hb22
  have f29:=at_some (q:=i11.toNat) hb22 ex27 rfl
  obtain⟨l30,el30,h⟩:=atm h
  simp[hh,mo24,f28,f29,dc18,-indexAddrF,-storeF]
  refine bind_field (i:=ty9) (q:=i11.toNat) (off:=0) (new:=[str r21]) (ix:=i11) (x:=x27) (y:=(Control.mk r21 x27.ports x27.kind)) (f:=Control.cells) sp (by simp) (by simp) hb22 ex27 rfl rfl (fun _=>rfl) (by simp) (by simp) (by simp[splice]) (by simp) ?_
  rintro H31 sp hfr32
  replace sp:Sep H31 n13 (oE [.c,.c,.c] Control.cells (.arr id23 l12.length 0 l12.length) l30::K0) (ids0):=by rw[el30];exact sp
  have hid:∀ i ∈ ids0,H31 i=H0 i:=fun i hi=>(hfr32 i (by simp[hi])).trans (hid i hi)
  simp[hh,f28,f29,dc18,-indexAddrF]
  apply hk'
  refine Runs.cut (fun ρ H n=>(ρ 0 = .arr id23 l12.length 0 l12.length∧ρ 1=int k10∧ρ 5=int i11)∧n0≤n∧(∀ i ∈ ids0,H i=H0 i)∧Sep H n (oE [.c,.c,.c] Control.cells (.arr id23 l12.length 0 l12.length) l30::K0) (ids0)) (by refine⟨?_,(by omega),hid,sp⟩<;>simp[hh,f28,f29,dc18,-indexAddrF]) ?_
  clear hh
  rintro ρ H n34 ⟨hh,hnn,hid,sp⟩
  have hq_n34:=hnn
  refine zE fun k' hk'=>?_
  obtain⟨hb35,h⟩:=h
  obtain⟨v36,ev36,h⟩:=atm h
  have f37:=ib_add hb35 ev36
  simp[hh,f37,-intBin]
  apply hk'
  refine zE fun k' hk'=>?_
  obtain⟨hb38,h⟩:=h
  obtain⟨id39,hv,mo40,ln41,ni42⟩:=Sep.openF sp (by simp) hb38
  simp only[AVal.arr.injEq] at hv
  obtain⟨hv,hln43,-⟩:=hv
  subst hv
  have hlshln43:=hln43.symm
  obtain⟨x44,ex44,h⟩:=atm h
  have f45:=fun H (hm:H id23=some ⟨3,l30.map Control.cells⟩)=>ix_arr (H:=H) (k:=.i64) (off:=0) (len:=l12.length) (g:=l12.length) kd_42 hm (by simp[hln43]) rfl (by rw[hln43];exact hb38)
  have f46:=at_some (q:=i11.toNat) hb38 ex44 rfl
  obtain⟨l47,el47,h⟩:=atm h
  simp[hh,hlshln43,mo40,f45,f46,-indexAddrF,-storeF]
  refine bind_field (i:=ty3) (q:=i11.toNat) (off:=1) (new:=[int v36]) (ix:=i11) (x:=x44) (y:=(Control.mk x44.name v36 x44.kind)) (f:=Control.cells) sp (by simp) (by simp) hb38 ex44 rfl hln43 (fun _=>rfl) (by simp) (by simp) (by simp[splice]) (by simp) ?_
  rintro H48 sp hfr49
  replace sp:Sep H48 n34 (oE [.c,.c,.c] Control.cells (.arr id23 l12.length 0 l12.length) l47::K0) (ids0):=by rw[el47];exact sp
  have hid:∀ i ∈ ids0,H48 i=H0 i:=fun i hi=>(hfr49 i (by simp[hi])).trans (hid i hi)
  simp[hh,hlshln43,f45,f46,-indexAddrF]
  apply hk'
  refine Runs.cut (fun ρ H n=>(ρ 0 = .arr id23 l12.length 0 l12.length∧ρ 1=int v36∧ρ 5=int i11)∧n0≤n∧(∀ i ∈ ids0,H i=H0 i)∧Sep H n (oE [.c,.c,.c] Control.cells (.arr id23 l12.length 0 l12.length) l47::K0) (ids0)) (by refine⟨?_,(by omega),hid,sp⟩<;>simp[hh,hlshln43,f45,f46,-indexAddrF]) ?_
  clear hh hlshln43
  rintro ρ H n51 ⟨hh,hnn,hid,sp⟩
  have hq_n51:=hnn
  refine zE fun k' hk'=>?_
  obtain⟨hb52,h⟩:=h
  obtain⟨v53,ev53,h⟩:=atm h
  have f54:=ib_add hb52 ev53
  simp[hh,f54,-intBin]
  apply hk'
  refine zE fun k' hk'=>?_
  obtain⟨hb55,h⟩:=h
  obtain⟨id56,hv,mo57,ln58,ni59⟩:=Sep.openF sp (by simp) hb55
  simp only[AVal.arr.injEq] at hv
  obtain⟨hv,hln60,-⟩:=hv
  subst hv
  have hlshln60:=hln60.symm
  obtain⟨x61,ex61,h⟩:=atm h
  have f62:=fun H (hm:H id23=some ⟨3,l47.map Control.cells⟩)=>ix_arr (H:=H) (k:=.i64) (off:=0) (len:=l12.length) (g:=l12.length) kd_42 hm (by simp[hln60]) rfl (by rw[hln60];exact hb55)
  have f63:=at_some (q:=i11.toNat) hb55 ex61 rfl
  obtain⟨l64,el64,h⟩:=atm h
  simp[hh,hlshln60,mo57,f62,f63,-indexAddrF,-storeF]
  refine bind_field (i:=ty3) (q:=i11.toNat) (off:=2) (new:=[int v53]) (ix:=i11) (x:=x61) (y:=(Control.mk x61.name x61.ports v53)) (f:=Control.cells) sp (by simp) (by simp) hb55 ex61 rfl hln60 (fun _=>rfl) (by simp) (by simp) (by simp[splice]) (by simp) ?_
  rintro H65 sp hfr66
  replace sp:Sep H65 n51 (oE [.c,.c,.c] Control.cells (.arr id23 l12.length 0 l12.length) l64::K0) (ids0):=by rw[el64];exact sp
  have hid:∀ i ∈ ids0,H65 i=H0 i:=fun i hi=>(hfr66 i (by simp[hi])).trans (hid i hi)
  simp[hh,hlshln60,f62,f63,-indexAddrF]
  apply hk'
  refine Runs.cut (fun ρ H n=>(ρ 0 = .arr id23 l12.length 0 l12.length∧ρ 1=int v53∧ρ 5=int i11)∧n0≤n∧(∀ i ∈ ids0,H i=H0 i)∧Sep H n (oE [.c,.c,.c] Control.cells (.arr id23 l12.length 0 l12.length) l64::K0) (ids0)) (by refine⟨?_,(by omega),hid,sp⟩<;>simp[hh,hlshln60,f62,f63,-indexAddrF]) ?_
  clear hh hlshln60
  rintro ρ H n68 ⟨hh,hnn,hid,sp⟩
  have hq_n68:=hnn
  refine zF fun k' hk'=>?_
  obtain⟨hb69,h⟩:=h
  obtain⟨v70,ev70,h⟩:=atm h
  have f71:=ib_add hb69 ev70
  simp[hh,f71,-intBin]
  apply hk'
  refine Runs.inBlock ?_
  refine zF fun k' hk'=>?_
  obtain⟨hb72,h⟩:=h
  obtain⟨v73,ev73,h⟩:=atm h
  have f74:=ib_add hb72 ev73
  simp[hh,f74,-intBin]
  apply hk'
  refine IH14 (v70,v73,l64) _ _ _ h (by refine⟨?_,(by omega),hid,sp⟩<;>simp[hh])
 replace h:=h.2 dc18
 refine Runs.exit rfl ?_
 refine zE fun k' hk'=>?_
 simp[hh,dc18]
 apply hk'
 exact Runs.ret1 (v:=int k10) Tryz.func29 Tryz.results29 (by simp[hh,dc18]) (hQ _ _ _ _ (Sep.sub sp (by simp +contextual)) hid (by omega) ⟨(l12,k10),h,rfl,rfl⟩)
theorem markControlS_ok (a:List Control) (k_:Int) (hp:markControlS_pre a k_):MutS Tryz.prog 29 (fun v=>[v,int k_]) (.s [.c,.c,.c]) (.list true (a.map Control.cells)) (fun e' r=>e' = .list true (((markControlS a k_).1).map Control.cells)∧r=int ((markControlS a k_).2)):=(markControlS_walk a k_ _ (markControlS_vc a k_ hp)).mono (by rintro _ _ ⟨_,rfl,rfl,rfl⟩;exact⟨rfl,rfl⟩)
theorem e33:Ent Tryz.prog 33:=Ent.of Tryz.func33 (by kernel_rfl) rfl
theorem heldIntS_walk (a:List Int) (k_:Int) (Z:Int→Prop) (h:heldIntS_wp a k_ Z):PureC Tryz.prog 33 [.list false (a.map intC),int k_] (fun r=>∃ y:Int,Z y∧r=int y):=by
 unfold heldIntS_wp at h
 refine PureC.of Tryz.func33 rfl Tryz.ntmps33 (by simp) fun Q hQ=>?_
 refine Runs.cut (fun ρ H n=>(ρ 0 = .list false (a.map intC)∧ρ 1=int k_)) (by simp) ?_
 rintro ρ H n1 hh
 refine zE fun k' hk'=>?_
 simp[hh]
 apply hk'
 refine Runs.seq ?_
 refine zE fun k' hk'=>?_
 simp[hh]
 apply hk'
 refine Runs.block ?_
 refine Runs.loopW h (fun (sJ:Int × Int) ρ H n=>match sJ with | (k5,i6)=>(ρ 0 = .list false (a.map intC)∧ρ 1=int k5∧ρ 5=int i6)) (by simp[hh]) ?_
 clear hh
 rintro⟨k5,i6⟩ ρ H n7 K h hh IH8
 refine Runs.seq ?_
 refine zE fun k' hk'=>?_
 obtain⟨len10,elen10,h⟩:=atm h
 have f11:=fun H=>len_list (H:=H) (fr:=false) (f:=intC) kd_24 elen10
 obtain⟨c12,ec12,h⟩:=atm h
 have f13:=ib_lss (k:=.i64) ec12
 simp[hh,f11,f13,-intBin,-lenF]
 apply hk'
 refine Runs.ite (b:=c12) (by simp[hh]) (fun dc12=>?_) (fun dc12=>?_)
 ·replace h:=h.1 dc12
  refine Runs.skip ?_
  refine Runs.seq ?_
  refine Runs.block ?_
  refine Runs.seq ?_
  refine zE fun k' hk'=>?_
  obtain⟨hb14,h⟩:=h
  obtain⟨x15,ex15,h⟩:=atm h
  have f16:=fun H=>ix_list (H:=H) (fr:=false) (f:=intC) (k:=.i64) kd_24 (fun _=>rfl) hb14 ex15
  obtain⟨c17,ec17,h⟩:=atm h
  have f18:=ib_neq (k:=.i64) ec17
  simp[hh,f16,f18,dc12,-indexAddrF,-intBin]
  apply hk'
  refine Runs.ite (b:=c17) (by simp[hh,dc12]) (fun dc17=>?_) (fun dc17=>?_)
  ·replace h:=h.1 dc17
   refine zE fun k' hk'=>?_
   simp[hh,dc12,dc17]
   apply hk'
   exact Runs.ret1 (v:=int (-1)) Tryz.func33 Tryz.results33 (by simp[hh,dc12,dc17]) (hQ _ _ _ _ (.of (.v _)) ⟨(-1),h,rfl⟩)
  replace h:=h.2 dc17
  refine Runs.skip ?_
  refine zF fun k' hk'=>?_
  obtain⟨hb19,h⟩:=h
  obtain⟨v20,ev20,h⟩:=atm h
  have f21:=ib_add hb19 ev20
  simp[hh,f21,dc12,dc17,-intBin]
  apply hk'
  refine Runs.inBlock ?_
  refine zF fun k' hk'=>?_
  obtain⟨hb22,h⟩:=h
  obtain⟨v23,ev23,h⟩:=atm h
  have f24:=ib_add hb22 ev23
  simp[hh,f24,dc12,dc17,-intBin]
  apply hk'
  refine Runs.cut (fun ρ H n=>(ρ 0 = .list false (a.map intC)∧ρ 1=int v20∧ρ 5=int v23)) (by simp[hh,f24,dc12,dc17,-intBin]) ?_
  clear hh
  rintro ρ H n25 hh
  refine IH8 (v20,v23) _ _ _ h (by simp[hh])
 replace h:=h.2 dc12
 refine Runs.exit rfl ?_
 refine zE fun k' hk'=>?_
 simp[hh,dc12]
 apply hk'
 exact Runs.ret1 (v:=int k5) Tryz.func33 Tryz.results33 (by simp[hh,dc12]) (hQ _ _ _ _ (.of (.v _)) ⟨k5,h,rfl⟩)
theorem heldIntS_ok (a:List Int) (k_:Int) (hp:heldIntS_pre a k_):PureC Tryz.prog 33 [.list false (a.map intC),int k_] (fun r=>r=int (heldIntS a k_)):=(heldIntS_walk a k_ _ (heldIntS_vc a k_ hp)).mono (by rintro _ ⟨_,rfl,rfl⟩;rfl)
end Go.Ab.Vg
