/- Merged texts (17 of 18) of the proof that ends in Cuy: New Cuz. -/
import Derived.Test.YtbikfokhjdjfpaaGreatDoorAbQcu16
/- Walks by program for YtbikfokhjdjfpaaGreatDoorAbNe. -/
namespace Go.Ab.Vg
open Go.Proofs
set_option maxRecDepth 100000
set_option linter.unusedSimpArgs false
set_option linter.unusedVariables false
attribute [local simp] Control.cells GNode.cells Wire.cells intC sliceC strC bC pA
theorem e3:Ent Tryz.prog 3:=Ent.of Tryz.func3 (by kernel_rfl) rfl
set_option maxHeartbeats 4000000 in
theorem lawCut_walk (aSig:List Control) (aB:Big) (aNode:Int) (Z:Bool→Prop) (h:lawCut_wp aSig aB aNode Z):PureC Tryz.prog 3 [.list false (aSig.map Control.cells),.agg (bC false aB),int aNode] (fun r=>∃ y:Bool,Z y∧r=bool y):=by
 unfold lawCut_wp at h
 have sp:Sep noHeap 0 [] []:=Sep.nil (by simp)
 refine PureC.of Tryz.func3 rfl Tryz.ntmps3 (by simp) fun Q hQ=>?_
 refine Runs.cut (fun ρ H n=>(ρ 0 = .list false (aSig.map Control.cells)∧ρ 1 = .agg (bC false aB)∧ρ 2=int aNode)∧Sep H n [] []) (by refine⟨by simp ,sp⟩) ?_
 rintro ρ H n1 ⟨hh,sp⟩
 refine zE fun k' hk'=>?_
 simp[hh]
 apply hk'
 refine Runs.cut (fun ρ H n=>((ρ 0 = .list false (aSig.map Control.cells)∧ρ 2=int aNode∧ρ 4=pA n1 4)∧H (n1,4)=some ⟨6,[bC false aB]⟩)∧Sep H n [] [(n1,4)]) (by refine⟨by simp[hh],sp.var⟩) ?_
 clear hh
 rintro ρ H n3 ⟨⟨hh,m4_1⟩,sp⟩
 refine zE fun k' hk'=>?_
 simp[hh,m4_1]
 apply hk'
 refine zE fun k' hk'=>?_
 obtain⟨hb4,h⟩:=h
 obtain⟨r5,er5,h⟩:=atm h
 simp[hh,m4_1]
 refine RunK.callA Ty_ok (szControlS_ok aSig 1048576 hb4.1.1 hb4.1.2 hb4.2.len hb4.2.names) e7 (.cons (argC false aSig) (.cons (.v _ _ _) .nil)) (by decide) (by decide) rfl (by simp[hh,m4_1]) ?_
 rintro _ rfl
 rw[← er5]
 simp[hh,m4_1]
 apply hk'
 refine Runs.seq ?_
 refine zE fun k' hk'=>?_
 obtain⟨c6,ec6,h⟩:=atm h
 have f7:=ib_lss (k:=.i64) ec6
 simp[hh,m4_1,f7,-intBin]
 apply hk'
 refine Runs.ite (b:=c6) (by simp[hh,m4_1]) (fun dc6=>?_) (fun dc6=>?_)
 ·replace h:=h.1 dc6
  refine zE fun k' hk'=>?_
  simp[hh,m4_1,dc6]
  apply hk'
  exact Runs.ret1 (v:=bool true) Tryz.func3 Tryz.results3 (by simp[hh,m4_1,dc6]) (hQ _ _ _ _ (.of (.v _)) ⟨true,h,rfl⟩)
 replace h:=h.2 dc6
 refine Runs.skip ?_
 refine zE fun k' hk'=>?_
 obtain⟨hb8,h⟩:=h
 obtain⟨r9,er9,h⟩:=atm h
 simp[hh,m4_1,dc6]
 refine RunK.callA Ty_ok (szBigraph_ok aB r5 hb8.1.1 hb8.1.2 hb8.2) e8 (.cons (argB false aB) (.cons (.v _ _ _) .nil)) (by decide) (by decide) rfl (by simp[hh,m4_1,dc6]) ?_
 rintro _ rfl
 rw[← er9]
 simp[hh,m4_1,dc6]
 apply hk'
 refine Runs.seq ?_
 refine zE fun k' hk'=>?_
 obtain⟨c10,ec10,h⟩:=atm h
 have f11:=ib_lss (k:=.i64) ec10
 simp[hh,m4_1,f11,dc6,-intBin]
 apply hk'
 refine Runs.ite (b:=c10) (by simp[hh,m4_1,dc6]) (fun dc10=>?_) (fun dc10=>?_)
 ·replace h:=h.1 dc10
  refine zE fun k' hk'=>?_
  simp[hh,m4_1,dc6,dc10]
  apply hk'
  exact Runs.ret1 (v:=bool true) Tryz.func3 Tryz.results3 (by simp[hh,m4_1,dc6,dc10]) (hQ _ _ _ _ (.of (.v _)) ⟨true,h,rfl⟩)
 replace h:=h.2 dc10
 refine Runs.skip ?_
 refine Runs.cut (fun ρ H n=>((ρ 0 = .list false (aSig.map Control.cells)∧ρ 2=int aNode∧ρ 4=pA n1 4)∧H (n1,4)=some ⟨6,[bC false aB]⟩)∧Sep H n [] [(n1,4)]) (by refine⟨by simp[hh,m4_1,dc6,dc10],sp⟩) ?_
 clear hh m4_1
 rintro ρ H n12 ⟨⟨hh,m4_1⟩,sp⟩
 obtain⟨hb13,h⟩:=h
 obtain⟨r14,er14,h⟩:=atm h
 obtain⟨hb15,h⟩:=h
 obtain⟨r16,er16,h⟩:=atm h
 obtain⟨hb17,h⟩:=h
 obtain⟨r18,er18,h⟩:=atm h
 refine Runs.seqC (fun H n=>H (n1,4)=some ⟨6,[bC false aB]⟩∧Sep H n [] [(n1,4)]) [10,11,12,13,14] (.free 0 (.free 1 (.free 2 (.free 3 (.free 4 (.free 5 (.free 6 (.free 7 (.free 8 (.free 9 (.hard 10 (.hard 11 (.hard 12 (.hard 13 (.hard 14 (.fin) (.stop)) (.stop)) (.stop)) (.stop)) (.hard 11 (.hard 10 (.hard 12 (.hard 13 (.hard 14 (.fin) (.stop)) (.stop)) (.stop)) (.stop)) (.stop))))))))))))) (fun ρ H n=>∃ (a21:Nat) (a22:Nat),((ρ 0 = .list false (aSig.map Control.cells)∧ρ 2=int aNode∧ρ 4=pA n1 4∧ρ 8 = .ptr (a21,8) 1 0 0∧ρ 9 = .ptr (a22,9) 1 0 0∧ρ 10=bool r18.2.2)∧H (n1,4)=some ⟨6,[bC false aB]⟩∧H (a21,8)=some ⟨6,[bC true r18.1]⟩∧H (a22,9)=some ⟨6,[bC true r18.2.1]⟩)∧Sep H n [] [(a22,9),(a21,8),(n1,4)]) draws (by decide) (by kernel_rfl) ?_ ?_
 ·refine RunT.free (.list false (aSig.map Control.cells)) rfl rfl ⟨m4_1,sp⟩ (fun H n hS=>by obtain⟨m4_1,sp⟩:=hS;exact (by exact stepF_ok Ty_ok (by rw[stepF_loc];simp[hh,m4_1]))) ?_
  refine RunT.free (.list true (r14.map Control.cells)) rfl rfl ⟨m4_1,sp⟩ (fun H n hS=>by obtain⟨m4_1,sp⟩:=hS;exact (by rw[er14];exact OpSem.callD2 (xs:=[.list false (aSig.map Control.cells)]) ((toControlS_ok aSig hb13).pure) e10 (.cons (argC false aSig) .nil) (by simp[hh,m4_1]) (by simp[hh,m4_1]))) ?_
  refine RunT.free (.agg (bC false aB)) rfl rfl ⟨m4_1,sp⟩ (fun H n hS=>by obtain⟨m4_1,sp⟩:=hS;exact (by exact stepF_ok Ty_ok (by rw[stepF_loc];simp[hh,m4_1]))) ?_
  refine RunT.free (.agg (bC true r16)) rfl rfl ⟨m4_1,sp⟩ (fun H n hS=>by obtain⟨m4_1,sp⟩:=hS;exact (by rw[er16];exact OpSem.callD2 (xs:=[.agg (bC false aB)]) ((toBigraph_ok aB hb15).pure) e11 (.cons (argB false aB) .nil) (by simp[hh,m4_1]) (by simp[hh,m4_1]))) ?_
  refine RunT.free (int aNode) rfl rfl ⟨m4_1,sp⟩ (fun H n hS=>by obtain⟨m4_1,sp⟩:=hS;exact (by exact stepF_ok Ty_ok (by rw[stepF_loc];simp[hh,m4_1]))) ?_
  refine RunT.free (.tup [.agg (bC true r18.1),.agg (bC true r18.2.1),bool r18.2.2]) rfl rfl ⟨m4_1,sp⟩ (fun H n hS=>by obtain⟨m4_1,sp⟩:=hS;exact (by rw[er18];exact OpSem.callD2 (xs:=[.list true (r14.map Control.cells),.agg (bC true r16),int aNode]) ((sCutUnder_ok r14 r16 aNode hb17).pure) e9 (.cons (argC true r14) (.cons (argB true r16) (.cons (.v _ _ _) .nil))) (by simp[hh,m4_1]) (by simp[hh,m4_1]))) ?_
  refine RunT.free (.tup [.agg (bC true r18.1),.agg (bC true r18.2.1),bool r18.2.2]) rfl rfl ⟨m4_1,sp⟩ (fun H n hS=>by obtain⟨m4_1,sp⟩:=hS;exact (by exact stepF_ok Ty_ok (by rw[stepF_loc];simp[hh,m4_1]))) ?_
  refine RunT.free (.agg (bC true r18.1)) rfl rfl ⟨m4_1,sp⟩ (fun H n hS=>by obtain⟨m4_1,sp⟩:=hS;exact (by exact stepF_ok Ty_ok (by rw[stepF_loc];simp[hh,m4_1]))) ?_
  refine RunT.free (.agg (bC true r18.2.1)) rfl rfl ⟨m4_1,sp⟩ (fun H n hS=>by obtain⟨m4_1,sp⟩:=hS;exact (by exact stepF_ok Ty_ok (by rw[stepF_loc];simp[hh,m4_1]))) ?_
  refine RunT.free (bool r18.2.2) rfl rfl ⟨m4_1,sp⟩ (fun H n hS=>by obtain⟨m4_1,sp⟩:=hS;exact (by exact stepF_ok Ty_ok (by rw[stepF_loc];simp[hh,m4_1]))) ?_
  refine⟨?_,?_,trivial⟩
  ·refine RunT.step (v:=pA n12 8) Ty_ok rfl rfl (by simp[hh,m4_1];first | exact⟨rfl,rfl⟩ | exact rfl) (fun _=>⟨(by simp[hh,m4_1,Heap.get_set]),(Sep.sub sp.var (by simp +contextual))⟩) ?_
   refine⟨?_,trivial⟩
   refine RunT.step (v:=pA (n12+1) 9) Ty_ok rfl rfl (by simp[hh,m4_1];first | exact⟨rfl,rfl⟩ | exact rfl) (fun _=>⟨(by simp[hh,m4_1,Heap.get_set]),(Sep.sub sp.var.var (by simp +contextual))⟩) ?_
   refine⟨?_,trivial⟩
   refine RunT.step (v:=.undef) Ty_ok rfl rfl (by simp[hh,m4_1];first | exact⟨rfl,rfl⟩ | exact rfl) (fun _=>⟨(by simp[hh,m4_1,Heap.get_set]),(Sep.sub (Sep.setVar (w:=(n12,8)) sp.var.var (by simp)) (by simp +contextual))⟩) ?_
   refine⟨?_,trivial⟩
   refine RunT.step (v:=.undef) Ty_ok rfl rfl (by simp[hh,m4_1];first | exact⟨rfl,rfl⟩ | exact rfl) (fun _=>⟨(by simp[hh,m4_1,Heap.get_set]),(Sep.sub (Sep.setVar (w:=(n12+1,9)) (Sep.setVar (w:=(n12,8)) sp.var.var (by simp)) (by simp)) (by simp +contextual))⟩) ?_
   refine⟨?_,trivial⟩
   refine RunT.same (v:=(bool r18.2.2)) Ty_ok rfl rfl (by simp[hh,m4_1]) (fun hl=>absurd (hl.symm.trans (show lateC _ _ _=true by kernel_rfl)) (by decide)) ?_
   refine RunT.fin (by refine⟨n12,n12+1,by simp[hh,m4_1],(Sep.setVar (w:=(n12+1,9)) (Sep.setVar (w:=(n12,8)) sp.var.var (by simp)) (by simp))⟩)
  refine RunT.step (v:=pA n12 9) Ty_ok rfl rfl (by simp[hh,m4_1];first | exact⟨rfl,rfl⟩ | exact rfl) (fun _=>⟨(by simp[hh,m4_1,Heap.get_set]),(Sep.sub sp.var (by simp +contextual))⟩) ?_
  refine⟨?_,trivial⟩
  refine RunT.step (v:=pA (n12+1) 8) Ty_ok rfl rfl (by simp[hh,m4_1];first | exact⟨rfl,rfl⟩ | exact rfl) (fun _=>⟨(by simp[hh,m4_1,Heap.get_set]),(Sep.sub sp.var.var (by simp +contextual))⟩) ?_
  refine⟨?_,trivial⟩
  refine RunT.step (v:=.undef) Ty_ok rfl rfl (by simp[hh,m4_1];first | exact⟨rfl,rfl⟩ | exact rfl) (fun _=>⟨(by simp[hh,m4_1,Heap.get_set]),(Sep.sub sp.var.var (by simp +contextual))⟩) ?_
  refine⟨?_,trivial⟩
  refine RunT.step (v:=.undef) Ty_ok rfl rfl (by simp[hh,m4_1];first | exact⟨rfl,rfl⟩ | exact rfl) (fun _=>⟨(by simp[hh,m4_1,Heap.get_set]),(Sep.sub (Sep.setVar (w:=(n12,9)) sp.var.var (by simp)) (by simp +contextual))⟩) ?_
  refine⟨?_,trivial⟩
  refine RunT.same (v:=(bool r18.2.2)) Ty_ok rfl rfl (by simp[hh,m4_1]) (fun hl=>absurd (hl.symm.trans (show lateC _ _ _=true by kernel_rfl)) (by decide)) ?_
  refine RunT.fin (by refine⟨n12+1,n12,by simp[hh,m4_1],(Sep.sub (Sep.setVar (w:=(n12,9)) sp.var.var (by simp)) (by simp +contextual))⟩)
 clear hh m4_1
 rintro ρ H n23 ⟨a21,a22,⟨hh,m4_1,m8_18,m9_19⟩,sp⟩
 refine zE fun k' hk'=>?_
 obtain⟨hb84,h⟩:=h
 obtain⟨r85,er85,h⟩:=atm h
 simp[hh,m4_1,m8_18,m9_19]
 refine RunK.callW Ty_ok (toControlS_ok aSig hb84) e10 (.cons (argC false aSig) .nil) sp (by decide) (by decide) rfl (by simp[hh,m4_1,m8_18,m9_19]) ?_
 rintro v86 H87 n88 _ sp rfl hle90 hfr89
 rw[← er85] at sp
 have m4_1:=(hfr89 _ (by simp)).trans m4_1
 have m8_18:=(hfr89 _ (by simp)).trans m8_18
 have m9_19:=(hfr89 _ (by simp)).trans m9_19
 simp[hh,m4_1,m8_18,m9_19]
 apply hk'
 refine Runs.cut (fun ρ H n=>∃ (v93:AVal),((ρ 0 = .list false (aSig.map Control.cells)∧ρ 2=int aNode∧ρ 4=pA n1 4∧ρ 8 = .ptr (a21,8) 1 0 0∧ρ 9 = .ptr (a22,9) 1 0 0∧ρ 10=bool r18.2.2∧ρ 11=v93)∧H (n1,4)=some ⟨6,[bC false aB]⟩∧H (a21,8)=some ⟨6,[bC true r18.1]⟩∧H (a22,9)=some ⟨6,[bC true r18.2.1]⟩)∧Sep H n [oE [.c,.c,.c] Control.cells v93 r85] [(a22,9),(a21,8),(n1,4)]) (by refine⟨v86,by simp[hh,m4_1,m8_18,m9_19],sp⟩) ?_
 clear hh m4_1 m8_18 m9_19
 rintro ρ H n94 ⟨v93,⟨hh,m4_1,m8_18,m9_19⟩,sp⟩
 refine zE fun k' hk'=>?_
 obtain⟨hb95,h⟩:=h
 obtain⟨r96,er96,h⟩:=atm h
 simp[hh,m4_1,m8_18,m9_19]
 refine RunK.callW Ty_ok (toBigraph_ok aB hb95) e11 (.cons (argB false aB) .nil) sp (by decide) (by decide) rfl (by simp[hh,m4_1,m8_18,m9_19]) ?_
 rintro v97 H98 n99 _ sp rfl hle101 hfr100
 rw[← er96] at sp
 have m4_1:=(hfr100 _ (by simp)).trans m4_1
 have m8_18:=(hfr100 _ (by simp)).trans m8_18
 have m9_19:=(hfr100 _ (by simp)).trans m9_19
 replace sp:=Sep.unpack sp
 obtain⟨L109,hv,hl110,sp⟩:=sp
 subst hv
 obtain⟨v103,v104,v105,v106,v107,v108,hv⟩:=len6 (by simpa using hl110)
 subst hv
 simp only[zip3,List.cons_append,List.nil_append] at sp
 replace sp:=Sep.scalar sp
 obtain⟨hv,sp⟩:=sp
 subst hv
 replace sp:=Sep.rot sp
 try simp only[List.cons_append,List.nil_append,List.append_assoc] at sp
 replace sp:=Sep.rot sp
 try simp only[List.cons_append,List.nil_append,List.append_assoc] at sp
 replace sp:=Sep.scalar sp
 obtain⟨hv,sp⟩:=sp
 subst hv
 replace sp:=Sep.rot sp
 try simp only[List.cons_append,List.nil_append,List.append_assoc] at sp
 replace sp:=Sep.rot sp
 try simp only[List.cons_append,List.nil_append,List.append_assoc] at sp
 have f116:=Sep.oc sp.f1
 have f117:=Sep.oc sp.f2
 have f118:=Sep.oc sp.f3
 have f119:=Sep.oc sp.f4
 simp[hh,m4_1,m8_18,m9_19,f116,f117,f118,f119,-cellsA,-one1,cAx,o1x]
 apply hk'
 refine Runs.cut (fun ρ H n=>∃ (v120 v121 v122 v123 v124:AVal),((ρ 0 = .list false (aSig.map Control.cells)∧ρ 2=int aNode∧ρ 4=pA n1 4∧ρ 8 = .ptr (a21,8) 1 0 0∧ρ 9 = .ptr (a22,9) 1 0 0∧ρ 10=bool r18.2.2∧ρ 11=v120∧ρ 12=pA n99 12)∧H (n1,4)=some ⟨6,[bC false aB]⟩∧H (a21,8)=some ⟨6,[bC true r18.1]⟩∧H (a22,9)=some ⟨6,[bC true r18.2.1]⟩∧H (n99,12)=some ⟨6,[[int r96.roots,v121,v122,int r96.edges,v123,v124]]⟩)∧Sep H n [oE [.c,.c,.c] Control.cells v120 r85,oN v121 r96.nodes,oI v122 r96.sites,oS v123 r96.outer,oW v124 r96.inner] [(n99,12),(a22,9),(a21,8),(n1,4)]) (by refine⟨v93,v104,v105,v107,v108,by simp[hh,m4_1,m8_18,m9_19,f116,f117,f118,f119,-cellsA,-one1,cAx,o1x],sp.var⟩) ?_
 clear hh m4_1 m8_18 m9_19
 rintro ρ H n125 ⟨v120,v121,v122,v123,v124,⟨hh,m4_1,m8_18,m9_19,m12_114⟩,sp⟩
 refine zE fun k' hk'=>?_
 obtain⟨hb126,h⟩:=h
 obtain⟨r127,er127,h⟩:=atm h
 simp[hh,m4_1,m8_18,m9_19,m12_114]
 refine RunK.callW Ty_ok (CutUnder_ok r85 r96 aNode hb126) e12 (.cons (Sep.argOk' sp (old_listF (by simp))) (.cons (ArgOk.agg (.cons (.v _ _ _) (.cons (Sep.argOk' sp.f1 (old_nest_Node true r96.nodes)) (.cons (Sep.argOk' sp.f2 (old_listF (by simp))) (.cons (.v _ _ _) (.cons (Sep.argOk' sp.f3 (old_listF (by simp))) (.cons (Sep.argOk' sp.f4 (old_listF (by simp))) .nil))))))) (.cons (.v _ _ _) .nil))) sp (by decide) (by decide) rfl (by simp[hh,m4_1,m8_18,m9_19,m12_114]) ?_
 rintro v128 H129 n130 _ sp rfl hle132 hfr131
 rw[← er127] at sp
 have m4_1:=(hfr131 _ (by simp)).trans m4_1
 have m8_18:=(hfr131 _ (by simp)).trans m8_18
 have m9_19:=(hfr131 _ (by simp)).trans m9_19
 have m12_114:=(hfr131 _ (by simp)).trans m12_114
 replace sp:=Sep.unpackT sp
 obtain⟨L137,hv,hl138,sp⟩:=sp
 subst hv
 obtain⟨v134,v135,v136,hv⟩:=len3 (by simpa using hl138)
 subst hv
 simp only[zip3,List.cons_append,List.nil_append] at sp
 replace sp:=Sep.unpack sp
 obtain⟨L145,hv,hl146,sp⟩:=sp
 subst hv
 obtain⟨v139,v140,v141,v142,v143,v144,hv⟩:=len6 (by simpa using hl146)
 subst hv
 simp only[zip3,List.cons_append,List.nil_append] at sp
 replace sp:=Sep.scalar sp
 obtain⟨hv,sp⟩:=sp
 subst hv
 replace sp:=Sep.rot sp
 try simp only[List.cons_append,List.nil_append,List.append_assoc] at sp
 replace sp:=Sep.rot sp
 try simp only[List.cons_append,List.nil_append,List.append_assoc] at sp
 replace sp:=Sep.scalar sp
 obtain⟨hv,sp⟩:=sp
 subst hv
 replace sp:=Sep.rot sp
 try simp only[List.cons_append,List.nil_append,List.append_assoc] at sp
 replace sp:=Sep.rot sp
 try simp only[List.cons_append,List.nil_append,List.append_assoc] at sp
 replace sp:=Sep.unpack sp
 obtain⟨L157,hv,hl158,sp⟩:=sp
 subst hv
 obtain⟨v151,v152,v153,v154,v155,v156,hv⟩:=len6 (by simpa using hl158)
 subst hv
 simp only[zip3,List.cons_append,List.nil_append] at sp
 replace sp:=Sep.scalar sp
 obtain⟨hv,sp⟩:=sp
 subst hv
 replace sp:=Sep.rot sp
 try simp only[List.cons_append,List.nil_append,List.append_assoc] at sp
 replace sp:=Sep.rot sp
 try simp only[List.cons_append,List.nil_append,List.append_assoc] at sp
 replace sp:=Sep.scalar sp
 obtain⟨hv,sp⟩:=sp
 subst hv
 replace sp:=Sep.rot sp
 try simp only[List.cons_append,List.nil_append,List.append_assoc] at sp
 replace sp:=Sep.rot sp
 try simp only[List.cons_append,List.nil_append,List.append_assoc] at sp
 replace sp:=Sep.scalar sp
 obtain⟨hv,sp⟩:=sp
 subst hv
 have f165:=Sep.oc sp.f5
 have f166:=Sep.oc sp.f6
 have f167:=Sep.oc sp.f7
 have f168:=Sep.oc sp.f8
 have f169:=Sep.oc sp.f9
 have f170:=Sep.oc sp.f10
 have f171:=Sep.oc sp.f11
 have f172:=Sep.oc sp.f12
 simp[hh,m4_1,m8_18,m9_19,m12_114,f165,f166,f167,f168,f169,f170,f171,f172,-cellsA,-one1,cAx,o1x]
 apply hk'
 refine Runs.cut (fun ρ H n=>∃ (v173 v174 v175 v176 v177 v178 v179 v180 v181 v182 v183 v184 v185:AVal),((ρ 0 = .list false (aSig.map Control.cells)∧ρ 2=int aNode∧ρ 4=pA n1 4∧ρ 8 = .ptr (a21,8) 1 0 0∧ρ 9 = .ptr (a22,9) 1 0 0∧ρ 10=bool r18.2.2∧ρ 11=v173∧ρ 12=pA n99 12∧ρ 13=pA n130 13∧ρ 14=pA (n130+1) 14∧ρ 15=bool r127.2.2)∧H (n1,4)=some ⟨6,[bC false aB]⟩∧H (a21,8)=some ⟨6,[bC true r18.1]⟩∧H (a22,9)=some ⟨6,[bC true r18.2.1]⟩∧H (n99,12)=some ⟨6,[[int r96.roots,v174,v175,int r96.edges,v176,v177]]⟩∧H (n130,13)=some ⟨6,[[int r127.1.roots,v178,v179,int r127.1.edges,v180,v181]]⟩∧H (n130+1,14)=some ⟨6,[[int r127.2.1.roots,v182,v183,int r127.2.1.edges,v184,v185]]⟩)∧Sep H n [oE [.c,.c,.c] Control.cells v173 r85,oN v174 r96.nodes,oI v175 r96.sites,oS v176 r96.outer,oW v177 r96.inner,oN v178 r127.1.nodes,oI v179 r127.1.sites,oS v180 r127.1.outer,oW v181 r127.1.inner,oN v182 r127.2.1.nodes,oI v183 r127.2.1.sites,oS v184 r127.2.1.outer,oW v185 r127.2.1.inner] [(n130+1,14),(n130,13),(n99,12),(a22,9),(a21,8),(n1,4)]) (by refine⟨v120,v121,v122,v123,v124,v140,v141,v143,v144,v152,v153,v155,v156,by simp[hh,m4_1,m8_18,m9_19,m12_114,f165,f166,f167,f168,f169,f170,f171,f172,-cellsA,-one1,cAx,o1x],(Sep.setVar (w:=(n130+1,14)) (Sep.setVar (w:=(n130,13)) sp.var.var (by simp)) (by simp))⟩) ?_
 clear hh m4_1 m8_18 m9_19 m12_114
 rintro ρ H n186 ⟨v173,v174,v175,v176,v177,v178,v179,v180,v181,v182,v183,v184,v185,⟨hh,m4_1,m8_18,m9_19,m12_114,m13_162,m14_163⟩,sp⟩
 refine Runs.seq ?_
 refine zE fun k' hk'=>?_
 obtain⟨J187,hJ188,hr189⟩:=h
 have fin204:∀ (sJ:Bool) (ρ:Env) (H:Heap) (n:Nat),J187 sJ→(match sJ with | b190=>∃ (v191 v192 v193 v194 v195 v196 v197 v198 v199 v200 v201 v202 v203:AVal),((ρ 0 = .list false (aSig.map Control.cells)∧ρ 2=int aNode∧ρ 4=pA n1 4∧ρ 8 = .ptr (a21,8) 1 0 0∧ρ 9 = .ptr (a22,9) 1 0 0∧ρ 10=bool r18.2.2∧ρ 11=v191∧ρ 12=pA n99 12∧ρ 13=pA n130 13∧ρ 14=pA (n130+1) 14∧ρ 15=bool r127.2.2∧ρ 68=bool b190)∧H (n1,4)=some ⟨6,[bC false aB]⟩∧H (a21,8)=some ⟨6,[bC true r18.1]⟩∧H (a22,9)=some ⟨6,[bC true r18.2.1]⟩∧H (n99,12)=some ⟨6,[[int r96.roots,v192,v193,int r96.edges,v194,v195]]⟩∧H (n130,13)=some ⟨6,[[int r127.1.roots,v196,v197,int r127.1.edges,v198,v199]]⟩∧H (n130+1,14)=some ⟨6,[[int r127.2.1.roots,v200,v201,int r127.2.1.edges,v202,v203]]⟩)∧Sep H n [oE [.c,.c,.c] Control.cells v191 r85,oN v192 r96.nodes,oI v193 r96.sites,oS v194 r96.outer,oW v195 r96.inner,oN v196 r127.1.nodes,oI v197 r127.1.sites,oS v198 r127.1.outer,oW v199 r127.1.inner,oN v200 r127.2.1.nodes,oI v201 r127.2.1.sites,oS v202 r127.2.1.outer,oW v203 r127.2.1.inner] [(n130+1,14),(n130,13),(n99,12),(a22,9),(a21,8),(n1,4)])→Runs Tryz.prog 3 161 k' ρ H n Q:=by
  rintro b190 ρ H n205 h ⟨v191,v192,v193,v194,v195,v196,v197,v198,v199,v200,v201,v202,v203,⟨hh,m4_1,m8_18,m9_19,m12_114,m13_162,m14_163⟩,sp⟩
  replace h:=hr189 _ h
  apply hk'
  refine Runs.ite (b:=b190) (by simp[hh,m4_1,m8_18,m9_19,m12_114,m13_162,m14_163]) (fun db190=>?_) (fun db190=>?_)
  ·replace h:=h.1 db190
   refine zE fun k' hk'=>?_
   simp[hh,m4_1,m8_18,m9_19,m12_114,m13_162,m14_163,db190]
   apply hk'
   exact Runs.ret1 (v:=bool false) Tryz.func3 Tryz.results3 (by simp[hh,m4_1,m8_18,m9_19,m12_114,m13_162,m14_163,db190]) (hQ _ _ _ _ (.of (.v _)) ⟨false,h,rfl⟩)
  replace h:=h.2 db190
  refine Runs.skip ?_
  refine Runs.seq ?_
  refine zE fun k' hk'=>?_
  obtain⟨hb206,h⟩:=h
  obtain⟨r207,er207,h⟩:=atm h
  simp[hh,m4_1,m8_18,m9_19,m12_114,m13_162,m14_163,db190]
  refine RunK.callW Ty_ok (toControlS_ok aSig hb206) e10 (.cons (argC false aSig) .nil) sp (by decide) (by decide) rfl (by simp[hh,m4_1,m8_18,m9_19,m12_114,m13_162,m14_163,db190]) ?_
  rintro v208 H209 n210 _ sp rfl hle212 hfr211
  rw[← er207] at sp
  have m4_1:=(hfr211 _ (by simp)).trans m4_1
  have m8_18:=(hfr211 _ (by simp)).trans m8_18
  have m9_19:=(hfr211 _ (by simp)).trans m9_19
  have m12_114:=(hfr211 _ (by simp)).trans m12_114
  have m13_162:=(hfr211 _ (by simp)).trans m13_162
  have m14_163:=(hfr211 _ (by simp)).trans m14_163
  obtain⟨hb215,h⟩:=h
  obtain⟨r216,er216,h⟩:=atm h
  simp[hh,m4_1,m8_18,m9_19,m12_114,m13_162,m14_163,db190]
  refine RunK.callA Ty_ok (eqControlS_ok r85 r207 hb215) e14 (.cons (Sep.argOk' sp.f1 (old_listF (by simp))) (.cons (Sep.argOk' sp (old_listF (by simp))) .nil)) (by decide) (by decide) rfl (by simp[hh,m4_1,m8_18,m9_19,m12_114,m13_162,m14_163,db190]) ?_
  rintro _ rfl
  rw[← er216]
  simp[hh,m4_1,m8_18,m9_19,m12_114,m13_162,m14_163,db190]
  apply hk'
  refine Runs.cut (fun ρ H n=>∃ (v217 v218 v219 v220 v221 v222 v223 v224 v225 v226 v227 v228 v229:AVal),((ρ 0 = .list false (aSig.map Control.cells)∧ρ 2=int aNode∧ρ 4=pA n1 4∧ρ 8 = .ptr (a21,8) 1 0 0∧ρ 9 = .ptr (a22,9) 1 0 0∧ρ 10=bool r18.2.2∧ρ 11=v217∧ρ 12=pA n99 12∧ρ 13=pA n130 13∧ρ 14=pA (n130+1) 14∧ρ 15=bool r127.2.2∧ρ 73=bool (!r216))∧H (n1,4)=some ⟨6,[bC false aB]⟩∧H (a21,8)=some ⟨6,[bC true r18.1]⟩∧H (a22,9)=some ⟨6,[bC true r18.2.1]⟩∧H (n99,12)=some ⟨6,[[int r96.roots,v218,v219,int r96.edges,v220,v221]]⟩∧H (n130,13)=some ⟨6,[[int r127.1.roots,v222,v223,int r127.1.edges,v224,v225]]⟩∧H (n130+1,14)=some ⟨6,[[int r127.2.1.roots,v226,v227,int r127.2.1.edges,v228,v229]]⟩)∧Sep H n [oE [.c,.c,.c] Control.cells v217 r85,oN v218 r96.nodes,oI v219 r96.sites,oS v220 r96.outer,oW v221 r96.inner,oN v222 r127.1.nodes,oI v223 r127.1.sites,oS v224 r127.1.outer,oW v225 r127.1.inner,oN v226 r127.2.1.nodes,oI v227 r127.2.1.sites,oS v228 r127.2.1.outer,oW v229 r127.2.1.inner] [(n130+1,14),(n130,13),(n99,12),(a22,9),(a21,8),(n1,4)]) (by refine⟨v191,v192,v193,v194,v195,v196,v197,v198,v199,v200,v201,v202,v203,by simp[hh,m4_1,m8_18,m9_19,m12_114,m13_162,m14_163,db190],sp.dr⟩) ?_
  clear hh m4_1 m8_18 m9_19 m12_114 m13_162 m14_163
  rintro ρ H n230 ⟨v217,v218,v219,v220,v221,v222,v223,v224,v225,v226,v227,v228,v229,⟨hh,m4_1,m8_18,m9_19,m12_114,m13_162,m14_163⟩,sp⟩
  refine Runs.ite (b:=(!r216)) (by simp[hh,m4_1,m8_18,m9_19,m12_114,m13_162,m14_163]) (fun dr216=>?_) (fun dr216=>?_)
  ·have dr216:r216=false:=by simpa using dr216
   replace h:=h.2 dr216
   refine zE fun k' hk'=>?_
   simp[hh,m4_1,m8_18,m9_19,m12_114,m13_162,m14_163,dr216]
   apply hk'
   exact Runs.ret1 (v:=bool false) Tryz.func3 Tryz.results3 (by simp[hh,m4_1,m8_18,m9_19,m12_114,m13_162,m14_163,dr216]) (hQ _ _ _ _ (.of (.v _)) ⟨false,h,rfl⟩)
  have dr216:r216=true:=by simpa using dr216
  replace h:=h.1 dr216
  refine Runs.skip ?_
  refine Runs.seq ?_
  refine Runs.seqD Ty_ok kindOp_ok draws (by decide) (by kernel_rfl) fun k' hk'=>?_
  obtain⟨hb231,h⟩:=h
  obtain⟨r232,er232,h⟩:=atm h
  simp[hh,m4_1,m8_18,m9_19,m12_114,m13_162,m14_163,dr216]
  refine RunDK.callA Ty_ok kindOp_ok ((toBigraph_ok aB hb231).pure) e11 (.cons (argB false aB) .nil) (by decide) rfl (by simp[hh,m4_1,m8_18,m9_19,m12_114,m13_162,m14_163,dr216]) ?_
  rw[← er232]
  obtain⟨hb233,h⟩:=h
  obtain⟨r234,er234,h⟩:=atm h
  simp[hh,m4_1,m8_18,m9_19,m12_114,m13_162,m14_163,dr216]
  refine RunDK.callA Ty_ok kindOp_ok (eqBigraph_ok r96 r232 hb233) e13 (.cons (ArgOk.agg (.cons (.v _ _ _) (.cons (Sep.argOk' sp.f1 (old_nest_Node true r96.nodes)) (.cons (Sep.argOk' sp.f2 (old_listF (by simp))) (.cons (.v _ _ _) (.cons (Sep.argOk' sp.f3 (old_listF (by simp))) (.cons (Sep.argOk' sp.f4 (old_listF (by simp))) .nil))))))) (.cons (argB true r232) .nil)) (by decide) rfl (by simp[hh,m4_1,m8_18,m9_19,m12_114,m13_162,m14_163,dr216]) ?_
  rw[← er234]
  simp[hh,m4_1,m8_18,m9_19,m12_114,m13_162,m14_163,dr216]
  apply hk'
  refine Runs.ite (b:=(!r234)) (by simp[hh,m4_1,m8_18,m9_19,m12_114,m13_162,m14_163,dr216]) (fun dr234=>?_) (fun dr234=>?_)
  ·have dr234:r234=false:=by simpa using dr234
   replace h:=h.2 dr234
   refine zE fun k' hk'=>?_
   simp[hh,m4_1,m8_18,m9_19,m12_114,m13_162,m14_163,dr216,dr234]
   apply hk'
   exact Runs.ret1 (v:=bool false) Tryz.func3 Tryz.results3 (by simp[hh,m4_1,m8_18,m9_19,m12_114,m13_162,m14_163,dr216,dr234]) (hQ _ _ _ _ (.of (.v _)) ⟨false,h,rfl⟩)
  have dr234:r234=true:=by simpa using dr234
  replace h:=h.1 dr234
  refine Runs.skip ?_
  refine zE fun k' hk'=>?_
  simp[hh,m4_1,m8_18,m9_19,m12_114,m13_162,m14_163,dr216,dr234]
  apply hk'
  refine zE fun k' hk'=>?_
  obtain⟨hb235,h⟩:=h
  obtain⟨r236,er236,h⟩:=atm h
  have f237:=Sep.oc sp
  simp[hh,m4_1,m8_18,m9_19,m12_114,m13_162,m14_163,f237,dr216,dr234,-cellsA,-one1,cAx,o1x]
  refine RunK.callM (v:=v217) Ty_ok (markControlS_ok r85 1 hb235) e15 sp (by decide) (by decide) rfl (by simp[hh,m4_1,m8_18,m9_19,m12_114,m13_162,m14_163,f237,dr216,dr234,-cellsA,-one1,cAx,o1x]) ?_
  rintro _ H238 n239 _ ⟨rfl,rfl⟩ sp hle241 hfr240
  rw[← er236] at sp
  rw[← er236]
  replace sp:Sep H238 n239 [oE [.c,.c,.c] Control.cells v217 r236.1,oN v218 r96.nodes,oI v219 r96.sites,oS v220 r96.outer,oW v221 r96.inner,oN v222 r127.1.nodes,oI v223 r127.1.sites,oS v224 r127.1.outer,oW v225 r127.1.inner,oN v226 r127.2.1.nodes,oI v227 r127.2.1.sites,oS v228 r127.2.1.outer,oW v229 r127.2.1.inner] [(n130+1,14),(n130,13),(n99,12),(a22,9),(a21,8),(n1,4)]:=sp
  have m4_1:=(hfr240 _ (by simp)).trans m4_1
  have m8_18:=(hfr240 _ (by simp)).trans m8_18
  have m9_19:=(hfr240 _ (by simp)).trans m9_19
  have m12_114:=(hfr240 _ (by simp)).trans m12_114
  have m13_162:=(hfr240 _ (by simp)).trans m13_162
  have m14_163:=(hfr240 _ (by simp)).trans m14_163
  simp[hh,m4_1,m8_18,m9_19,m12_114,m13_162,m14_163,f237,dr216,dr234,-cellsA,-one1,cAx,o1x]
  apply hk'
  refine Runs.cut (fun ρ H n=>∃ (v243 v244 v245 v246 v247 v248 v249 v250 v251 v252 v253 v254:AVal),((ρ 0 = .list false (aSig.map Control.cells)∧ρ 2=int aNode∧ρ 4=pA n1 4∧ρ 8 = .ptr (a21,8) 1 0 0∧ρ 9 = .ptr (a22,9) 1 0 0∧ρ 10=bool r18.2.2∧ρ 12=pA n99 12∧ρ 13=pA n130 13∧ρ 14=pA (n130+1) 14∧ρ 15=bool r127.2.2∧ρ 16=int r236.2)∧H (n1,4)=some ⟨6,[bC false aB]⟩∧H (a21,8)=some ⟨6,[bC true r18.1]⟩∧H (a22,9)=some ⟨6,[bC true r18.2.1]⟩∧H (n99,12)=some ⟨6,[[int r96.roots,v243,v244,int r96.edges,v245,v246]]⟩∧H (n130,13)=some ⟨6,[[int r127.1.roots,v247,v248,int r127.1.edges,v249,v250]]⟩∧H (n130+1,14)=some ⟨6,[[int r127.2.1.roots,v251,v252,int r127.2.1.edges,v253,v254]]⟩)∧Sep H n [oN v243 r96.nodes,oI v244 r96.sites,oS v245 r96.outer,oW v246 r96.inner,oN v247 r127.1.nodes,oI v248 r127.1.sites,oS v249 r127.1.outer,oW v250 r127.1.inner,oN v251 r127.2.1.nodes,oI v252 r127.2.1.sites,oS v253 r127.2.1.outer,oW v254 r127.2.1.inner] [(n130+1,14),(n130,13),(n99,12),(a22,9),(a21,8),(n1,4)]) (by refine⟨v218,v219,v220,v221,v222,v223,v224,v225,v226,v227,v228,v229,by simp[hh,m4_1,m8_18,m9_19,m12_114,m13_162,m14_163,f237,dr216,dr234,-cellsA,-one1,cAx,o1x],sp.dr⟩) ?_
  clear hh m4_1 m8_18 m9_19 m12_114 m13_162 m14_163
  rintro ρ H n255 ⟨v243,v244,v245,v246,v247,v248,v249,v250,v251,v252,v253,v254,⟨hh,m4_1,m8_18,m9_19,m12_114,m13_162,m14_163⟩,sp⟩
  refine zE fun k' hk'=>?_
  obtain⟨hb256,h⟩:=h
  obtain⟨r257,er257,h⟩:=atm h
  have f258:=Sep.oc sp
  have f259:=Sep.oc sp.f1
  have f260:=Sep.oc sp.f2
  have f261:=Sep.oc sp.f3
  simp[hh,m4_1,m8_18,m9_19,m12_114,m13_162,m14_163,f258,f259,f260,f261,-cellsA,-one1,cAx,o1x]
  refine RunK.callM (v:=.agg [int r96.roots,v243,v244,int r96.edges,v245,v246]) Ty_ok (markBig_ok r96 r236.2 hb256) e16 (Sep.pack (Fill.v _ (Fill.own (Fill.own (Fill.v _ (Fill.own (Fill.own Fill.nil)))))) sp) (by decide) (by decide) rfl (by simp[hh,m4_1,m8_18,m9_19,m12_114,m13_162,m14_163,f258,f259,f260,f261,-cellsA,-one1,cAx,o1x]) ?_
  rintro _ H262 n263 _ ⟨rfl,rfl⟩ sp hle265 hfr264
  rw[← er257] at sp
  rw[← er257]
  replace sp:=Sep.unpack sp
  obtain⟨L266,hv,hl267,sp⟩:=sp
  cases hv
  simp only[zip3,List.cons_append,List.nil_append] at sp
  replace sp:=(Sep.scalar sp).2
  replace sp:=Sep.rot sp
  try simp only[List.cons_append,List.nil_append,List.append_assoc] at sp
  replace sp:=Sep.rot sp
  try simp only[List.cons_append,List.nil_append,List.append_assoc] at sp
  replace sp:=(Sep.scalar sp).2
  replace sp:=Sep.rot sp
  try simp only[List.cons_append,List.nil_append,List.append_assoc] at sp
  replace sp:=Sep.rot sp
  try simp only[List.cons_append,List.nil_append,List.append_assoc] at sp
  replace sp:Sep H262 n263 [oN v247 r127.1.nodes,oI v248 r127.1.sites,oS v249 r127.1.outer,oW v250 r127.1.inner,oN v251 r127.2.1.nodes,oI v252 r127.2.1.sites,oS v253 r127.2.1.outer,oW v254 r127.2.1.inner,oN v243 r257.1.nodes,oI v244 r257.1.sites,oS v245 r257.1.outer,oW v246 r257.1.inner] [(n130+1,14),(n130,13),(n99,12),(a22,9),(a21,8),(n1,4)]:=sp
  have m4_1:=(hfr264 _ (by simp)).trans m4_1
  have m8_18:=(hfr264 _ (by simp)).trans m8_18
  have m9_19:=(hfr264 _ (by simp)).trans m9_19
  have m12_114:=(hfr264 _ (by simp)).trans m12_114
  have m13_162:=(hfr264 _ (by simp)).trans m13_162
  have m14_163:=(hfr264 _ (by simp)).trans m14_163
  simp[hh,m4_1,m8_18,m9_19,m12_114,m13_162,m14_163,f258,f259,f260,f261,-cellsA,-one1,cAx,o1x]
  apply hk'
  refine Runs.cut (fun ρ H n=>∃ (v269 v270 v271 v272 v273 v274 v275 v276:AVal),((ρ 0 = .list false (aSig.map Control.cells)∧ρ 2=int aNode∧ρ 4=pA n1 4∧ρ 8 = .ptr (a21,8) 1 0 0∧ρ 9 = .ptr (a22,9) 1 0 0∧ρ 10=bool r18.2.2∧ρ 13=pA n130 13∧ρ 14=pA (n130+1) 14∧ρ 15=bool r127.2.2∧ρ 16=int r257.2)∧H (n1,4)=some ⟨6,[bC false aB]⟩∧H (a21,8)=some ⟨6,[bC true r18.1]⟩∧H (a22,9)=some ⟨6,[bC true r18.2.1]⟩∧H (n130,13)=some ⟨6,[[int r127.1.roots,v269,v270,int r127.1.edges,v271,v272]]⟩∧H (n130+1,14)=some ⟨6,[[int r127.2.1.roots,v273,v274,int r127.2.1.edges,v275,v276]]⟩)∧Sep H n [oN v269 r127.1.nodes,oI v270 r127.1.sites,oS v271 r127.1.outer,oW v272 r127.1.inner,oN v273 r127.2.1.nodes,oI v274 r127.2.1.sites,oS v275 r127.2.1.outer,oW v276 r127.2.1.inner] [(n130+1,14),(n130,13),(a22,9),(a21,8),(n1,4)]) (by refine⟨v247,v248,v249,v250,v251,v252,v253,v254,by simp[hh,m4_1,m8_18,m9_19,m12_114,m13_162,m14_163,f258,f259,f260,f261,-cellsA,-one1,cAx,o1x],(Sep.sub sp.f8.dr.f8.dr.f8.dr.f8.dr (by simp +contextual))⟩) ?_
  clear hh m4_1 m8_18 m9_19 m12_114 m13_162 m14_163
  rintro ρ H n277 ⟨v269,v270,v271,v272,v273,v274,v275,v276,⟨hh,m4_1,m8_18,m9_19,m13_162,m14_163⟩,sp⟩
  refine Runs.seq ?_
  refine zE fun k' hk'=>?_
  obtain⟨J278,hJ279,hr280⟩:=h
  have fin290:∀ (sJ:Bool) (ρ:Env) (H:Heap) (n:Nat),J278 sJ→(match sJ with | b281=>∃ (v282 v283 v284 v285 v286 v287 v288 v289:AVal),((ρ 0 = .list false (aSig.map Control.cells)∧ρ 2=int aNode∧ρ 4=pA n1 4∧ρ 8 = .ptr (a21,8) 1 0 0∧ρ 9 = .ptr (a22,9) 1 0 0∧ρ 10=bool r18.2.2∧ρ 13=pA n130 13∧ρ 14=pA (n130+1) 14∧ρ 103=bool b281)∧H (n1,4)=some ⟨6,[bC false aB]⟩∧H (a21,8)=some ⟨6,[bC true r18.1]⟩∧H (a22,9)=some ⟨6,[bC true r18.2.1]⟩∧H (n130,13)=some ⟨6,[[int r127.1.roots,v282,v283,int r127.1.edges,v284,v285]]⟩∧H (n130+1,14)=some ⟨6,[[int r127.2.1.roots,v286,v287,int r127.2.1.edges,v288,v289]]⟩)∧Sep H n [oN v282 r127.1.nodes,oI v283 r127.1.sites,oS v284 r127.1.outer,oW v285 r127.1.inner,oN v286 r127.2.1.nodes,oI v287 r127.2.1.sites,oS v288 r127.2.1.outer,oW v289 r127.2.1.inner] [(n130+1,14),(n130,13),(a22,9),(a21,8),(n1,4)])→Runs Tryz.prog 3 161 k' ρ H n Q:=by
   rintro b281 ρ H n291 h ⟨v282,v283,v284,v285,v286,v287,v288,v289,⟨hh,m4_1,m8_18,m9_19,m13_162,m14_163⟩,sp⟩
   replace h:=hr280 _ h
   apply hk'
   refine Runs.ite (b:=b281) (by simp[hh,m4_1,m8_18,m9_19,m13_162,m14_163]) (fun db281=>?_) (fun db281=>?_)
   ·replace h:=h.1 db281
    refine zE fun k' hk'=>?_
    simp[hh,m4_1,m8_18,m9_19,m13_162,m14_163,db281]
    apply hk'
    exact Runs.ret1 (v:=bool false) Tryz.func3 Tryz.results3 (by simp[hh,m4_1,m8_18,m9_19,m13_162,m14_163,db281]) (hQ _ _ _ _ (.of (.v _)) ⟨false,h,rfl⟩)
   replace h:=h.2 db281
   refine Runs.skip ?_
   refine zE fun k' hk'=>?_
   simp[hh,m4_1,m8_18,m9_19,m13_162,m14_163,db281]
   apply hk'
   refine zE fun k' hk'=>?_
   obtain⟨hb292,h⟩:=h
   obtain⟨r293,er293,h⟩:=atm h
   have f294:=Sep.oc sp
   have f295:=Sep.oc sp.f1
   have f296:=Sep.oc sp.f2
   have f297:=Sep.oc sp.f3
   simp[hh,m4_1,m8_18,m9_19,m13_162,m14_163,f294,f295,f296,f297,db281,-cellsA,-one1,cAx,o1x]
   refine RunK.callM (v:=.agg [int r127.1.roots,v282,v283,int r127.1.edges,v284,v285]) Ty_ok (markBig_ok r127.1 1 hb292) e16 (Sep.pack (Fill.v _ (Fill.own (Fill.own (Fill.v _ (Fill.own (Fill.own Fill.nil)))))) sp) (by decide) (by decide) rfl (by simp[hh,m4_1,m8_18,m9_19,m13_162,m14_163,f294,f295,f296,f297,db281,-cellsA,-one1,cAx,o1x]) ?_
   rintro _ H298 n299 _ ⟨rfl,rfl⟩ sp hle301 hfr300
   rw[← er293] at sp
   rw[← er293]
   replace sp:=Sep.unpack sp
   obtain⟨L302,hv,hl303,sp⟩:=sp
   cases hv
   simp only[zip3,List.cons_append,List.nil_append] at sp
   replace sp:=(Sep.scalar sp).2
   replace sp:=Sep.rot sp
   try simp only[List.cons_append,List.nil_append,List.append_assoc] at sp
   replace sp:=Sep.rot sp
   try simp only[List.cons_append,List.nil_append,List.append_assoc] at sp
   replace sp:=(Sep.scalar sp).2
   replace sp:=Sep.rot sp
   try simp only[List.cons_append,List.nil_append,List.append_assoc] at sp
   replace sp:=Sep.rot sp
   try simp only[List.cons_append,List.nil_append,List.append_assoc] at sp
   replace sp:Sep H298 n299 [oN v286 r127.2.1.nodes,oI v287 r127.2.1.sites,oS v288 r127.2.1.outer,oW v289 r127.2.1.inner,oN v282 r293.1.nodes,oI v283 r293.1.sites,oS v284 r293.1.outer,oW v285 r293.1.inner] [(n130+1,14),(n130,13),(a22,9),(a21,8),(n1,4)]:=sp
   have m4_1:=(hfr300 _ (by simp)).trans m4_1
   have m8_18:=(hfr300 _ (by simp)).trans m8_18
   have m9_19:=(hfr300 _ (by simp)).trans m9_19
   have m13_162:=(hfr300 _ (by simp)).trans m13_162
   have m14_163:=(hfr300 _ (by simp)).trans m14_163
   simp[hh,m4_1,m8_18,m9_19,m13_162,m14_163,f294,f295,f296,f297,db281,-cellsA,-one1,cAx,o1x]
   apply hk'
   refine Runs.cut (fun ρ H n=>∃ (v305 v306 v307 v308 v309 v310 v311 v312:AVal),((ρ 0 = .list false (aSig.map Control.cells)∧ρ 2=int aNode∧ρ 4=pA n1 4∧ρ 8 = .ptr (a21,8) 1 0 0∧ρ 9 = .ptr (a22,9) 1 0 0∧ρ 10=bool r18.2.2∧ρ 13=pA n130 13∧ρ 14=pA (n130+1) 14∧ρ 17=int r293.2)∧H (n1,4)=some ⟨6,[bC false aB]⟩∧H (a21,8)=some ⟨6,[bC true r18.1]⟩∧H (a22,9)=some ⟨6,[bC true r18.2.1]⟩∧H (n130,13)=some ⟨6,[[int r127.1.roots,v309,v310,int r127.1.edges,v311,v312]]⟩∧H (n130+1,14)=some ⟨6,[[int r127.2.1.roots,v305,v306,int r127.2.1.edges,v307,v308]]⟩)∧Sep H n [oN v305 r127.2.1.nodes,oI v306 r127.2.1.sites,oS v307 r127.2.1.outer,oW v308 r127.2.1.inner,oN v309 r293.1.nodes,oI v310 r293.1.sites,oS v311 r293.1.outer,oW v312 r293.1.inner] [(n130+1,14),(n130,13),(a22,9),(a21,8),(n1,4)]) (by refine⟨v286,v287,v288,v289,v282,v283,v284,v285,by simp[hh,m4_1,m8_18,m9_19,m13_162,m14_163,f294,f295,f296,f297,db281,-cellsA,-one1,cAx,o1x],sp⟩) ?_
   clear hh m4_1 m8_18 m9_19 m13_162 m14_163
   rintro ρ H n313 ⟨v305,v306,v307,v308,v309,v310,v311,v312,⟨hh,m4_1,m8_18,m9_19,m13_162,m14_163⟩,sp⟩
   refine zE fun k' hk'=>?_
   obtain⟨hb314,h⟩:=h
   obtain⟨r315,er315,h⟩:=atm h
   have f316:=Sep.oc sp
   have f317:=Sep.oc sp.f1
   have f318:=Sep.oc sp.f2
   have f319:=Sep.oc sp.f3
   simp[hh,m4_1,m8_18,m9_19,m13_162,m14_163,f316,f317,f318,f319,-cellsA,-one1,cAx,o1x]
   refine RunK.callM (v:=.agg [int r127.2.1.roots,v305,v306,int r127.2.1.edges,v307,v308]) Ty_ok (markBig_ok r127.2.1 r293.2 hb314) e16 (Sep.pack (Fill.v _ (Fill.own (Fill.own (Fill.v _ (Fill.own (Fill.own Fill.nil)))))) sp) (by decide) (by decide) rfl (by simp[hh,m4_1,m8_18,m9_19,m13_162,m14_163,f316,f317,f318,f319,-cellsA,-one1,cAx,o1x]) ?_
   rintro _ H320 n321 _ ⟨rfl,rfl⟩ sp hle323 hfr322
   rw[← er315] at sp
   rw[← er315]
   replace sp:=Sep.unpack sp
   obtain⟨L324,hv,hl325,sp⟩:=sp
   cases hv
   simp only[zip3,List.cons_append,List.nil_append] at sp
   replace sp:=(Sep.scalar sp).2
   replace sp:=Sep.rot sp
   try simp only[List.cons_append,List.nil_append,List.append_assoc] at sp
   replace sp:=Sep.rot sp
   try simp only[List.cons_append,List.nil_append,List.append_assoc] at sp
   replace sp:=(Sep.scalar sp).2
   replace sp:=Sep.rot sp
   try simp only[List.cons_append,List.nil_append,List.append_assoc] at sp
   replace sp:=Sep.rot sp
   try simp only[List.cons_append,List.nil_append,List.append_assoc] at sp
   replace sp:Sep H320 n321 [oN v309 r293.1.nodes,oI v310 r293.1.sites,oS v311 r293.1.outer,oW v312 r293.1.inner,oN v305 r315.1.nodes,oI v306 r315.1.sites,oS v307 r315.1.outer,oW v308 r315.1.inner] [(n130+1,14),(n130,13),(a22,9),(a21,8),(n1,4)]:=sp
   have m4_1:=(hfr322 _ (by simp)).trans m4_1
   have m8_18:=(hfr322 _ (by simp)).trans m8_18
   have m9_19:=(hfr322 _ (by simp)).trans m9_19
   have m13_162:=(hfr322 _ (by simp)).trans m13_162
   have m14_163:=(hfr322 _ (by simp)).trans m14_163
   simp[hh,m4_1,m8_18,m9_19,m13_162,m14_163,f316,f317,f318,f319,-cellsA,-one1,cAx,o1x]
   apply hk'
   refine Runs.cut (fun ρ H n=>∃ (v327 v328 v329 v330 v331 v332 v333 v334:AVal),((ρ 0 = .list false (aSig.map Control.cells)∧ρ 2=int aNode∧ρ 4=pA n1 4∧ρ 8 = .ptr (a21,8) 1 0 0∧ρ 9 = .ptr (a22,9) 1 0 0∧ρ 10=bool r18.2.2∧ρ 13=pA n130 13∧ρ 14=pA (n130+1) 14∧ρ 17=int r315.2)∧H (n1,4)=some ⟨6,[bC false aB]⟩∧H (a21,8)=some ⟨6,[bC true r18.1]⟩∧H (a22,9)=some ⟨6,[bC true r18.2.1]⟩∧H (n130,13)=some ⟨6,[[int r127.1.roots,v327,v328,int r127.1.edges,v329,v330]]⟩∧H (n130+1,14)=some ⟨6,[[int r127.2.1.roots,v331,v332,int r127.2.1.edges,v333,v334]]⟩)∧Sep H n [oN v327 r293.1.nodes,oI v328 r293.1.sites,oS v329 r293.1.outer,oW v330 r293.1.inner,oN v331 r315.1.nodes,oI v332 r315.1.sites,oS v333 r315.1.outer,oW v334 r315.1.inner] [(n130+1,14),(n130,13),(a22,9),(a21,8),(n1,4)]) (by refine⟨v309,v310,v311,v312,v305,v306,v307,v308,by simp[hh,m4_1,m8_18,m9_19,m13_162,m14_163,f316,f317,f318,f319,-cellsA,-one1,cAx,o1x],sp⟩) ?_
   clear hh m4_1 m8_18 m9_19 m13_162 m14_163
   rintro ρ H n335 ⟨v327,v328,v329,v330,v331,v332,v333,v334,⟨hh,m4_1,m8_18,m9_19,m13_162,m14_163⟩,sp⟩
   refine zE fun k' hk'=>?_
   simp[hh,m4_1,m8_18,m9_19,m13_162,m14_163]
   apply hk'
   refine zE fun k' hk'=>?_
   obtain⟨hb336,h⟩:=h
   obtain⟨r337,er337,h⟩:=atm h
   simp[hh,m4_1,m8_18,m9_19,m13_162,m14_163]
   refine RunK.callA Ty_ok (heldBig_ok (Big.mk r127.1.roots r293.1.nodes r293.1.sites r127.1.edges r293.1.outer r293.1.inner) 1 hb336) e17 (.cons (ArgOk.agg (.cons (.v _ _ _) (.cons (Sep.argOk' sp (old_nest_Node true r293.1.nodes)) (.cons (Sep.argOk' sp.f1 (old_listF (by simp))) (.cons (.v _ _ _) (.cons (Sep.argOk' sp.f2 (old_listF (by simp))) (.cons (Sep.argOk' sp.f3 (old_listF (by simp))) .nil))))))) (.cons (.v _ _ _) .nil)) (by decide) (by decide) rfl (by simp[hh,m4_1,m8_18,m9_19,m13_162,m14_163]) ?_
   rintro _ rfl
   rw[← er337]
   simp[hh,m4_1,m8_18,m9_19,m13_162,m14_163]
   apply hk'
   refine Runs.seq ?_
   refine zE fun k' hk'=>?_
   obtain⟨c338,ec338,h⟩:=atm h
   have f339:=ib_lss (k:=.i64) ec338
   simp[hh,m4_1,m8_18,m9_19,m13_162,m14_163,f339,-intBin]
   apply hk'
   refine Runs.ite (b:=c338) (by simp[hh,m4_1,m8_18,m9_19,m13_162,m14_163]) (fun dc338=>?_) (fun dc338=>?_)
   ·replace h:=h.1 dc338
    refine zE fun k' hk'=>?_
    simp[hh,m4_1,m8_18,m9_19,m13_162,m14_163,dc338]
    apply hk'
    exact Runs.ret1 (v:=bool false) Tryz.func3 Tryz.results3 (by simp[hh,m4_1,m8_18,m9_19,m13_162,m14_163,dc338]) (hQ _ _ _ _ (.of (.v _)) ⟨false,h,rfl⟩)
   replace h:=h.2 dc338
   refine Runs.skip ?_
   refine zE fun k' hk'=>?_
   obtain⟨hb340,h⟩:=h
   obtain⟨r341,er341,h⟩:=atm h
   simp[hh,m4_1,m8_18,m9_19,m13_162,m14_163,dc338]
   refine RunK.callA Ty_ok (heldBig_ok (Big.mk r127.2.1.roots r315.1.nodes r315.1.sites r127.2.1.edges r315.1.outer r315.1.inner) r337 hb340) e17 (.cons (ArgOk.agg (.cons (.v _ _ _) (.cons (Sep.argOk' sp.f4 (old_nest_Node true r315.1.nodes)) (.cons (Sep.argOk' sp.f5 (old_listF (by simp))) (.cons (.v _ _ _) (.cons (Sep.argOk' sp.f6 (old_listF (by simp))) (.cons (Sep.argOk' sp.f7 (old_listF (by simp))) .nil))))))) (.cons (.v _ _ _) .nil)) (by decide) (by decide) rfl (by simp[hh,m4_1,m8_18,m9_19,m13_162,m14_163,dc338]) ?_
   rintro _ rfl
   rw[← er341]
   simp[hh,m4_1,m8_18,m9_19,m13_162,m14_163,dc338]
   apply hk'
   refine Runs.seq ?_
   refine zE fun k' hk'=>?_
   obtain⟨c342,ec342,h⟩:=atm h
   have f343:=ib_lss (k:=.i64) ec342
   simp[hh,m4_1,m8_18,m9_19,m13_162,m14_163,f343,dc338,-intBin]
   apply hk'
   refine Runs.ite (b:=c342) (by simp[hh,m4_1,m8_18,m9_19,m13_162,m14_163,dc338]) (fun dc342=>?_) (fun dc342=>?_)
   ·replace h:=h.1 dc342
    refine zE fun k' hk'=>?_
    simp[hh,m4_1,m8_18,m9_19,m13_162,m14_163,dc338,dc342]
    apply hk'
    exact Runs.ret1 (v:=bool false) Tryz.func3 Tryz.results3 (by simp[hh,m4_1,m8_18,m9_19,m13_162,m14_163,dc338,dc342]) (hQ _ _ _ _ (.of (.v _)) ⟨false,h,rfl⟩)
   replace h:=h.2 dc342
   refine Runs.skip ?_
   refine Runs.seq ?_
   refine zE fun k' hk'=>?_
   obtain⟨c344,ec344,h⟩:=atm h
   have f345:=ib_neq (k:=.i64) ec344
   simp[hh,m4_1,m8_18,m9_19,m13_162,m14_163,f345,dc338,dc342,-intBin]
   apply hk'
   refine Runs.cut (fun ρ H n=>∃ (v346 v347 v348 v349 v350 v351 v352 v353:AVal),((ρ 0 = .list false (aSig.map Control.cells)∧ρ 2=int aNode∧ρ 4=pA n1 4∧ρ 8 = .ptr (a21,8) 1 0 0∧ρ 9 = .ptr (a22,9) 1 0 0∧ρ 10=bool r18.2.2∧ρ 13=pA n130 13∧ρ 14=pA (n130+1) 14∧ρ 17=int r315.2∧ρ 122=bool c344)∧H (n1,4)=some ⟨6,[bC false aB]⟩∧H (a21,8)=some ⟨6,[bC true r18.1]⟩∧H (a22,9)=some ⟨6,[bC true r18.2.1]⟩∧H (n130,13)=some ⟨6,[[int r127.1.roots,v346,v347,int r127.1.edges,v348,v349]]⟩∧H (n130+1,14)=some ⟨6,[[int r127.2.1.roots,v350,v351,int r127.2.1.edges,v352,v353]]⟩)∧Sep H n [oN v346 r293.1.nodes,oI v347 r293.1.sites,oS v348 r293.1.outer,oW v349 r293.1.inner,oN v350 r315.1.nodes,oI v351 r315.1.sites,oS v352 r315.1.outer,oW v353 r315.1.inner] [(n130+1,14),(n130,13),(a22,9),(a21,8),(n1,4)]) (by refine⟨v327,v328,v329,v330,v331,v332,v333,v334,by simp[hh,m4_1,m8_18,m9_19,m13_162,m14_163,f345,dc338,dc342,-intBin],sp⟩) ?_
   clear hh m4_1 m8_18 m9_19 m13_162 m14_163
   rintro ρ H n354 ⟨v346,v347,v348,v349,v350,v351,v352,v353,⟨hh,m4_1,m8_18,m9_19,m13_162,m14_163⟩,sp⟩
   refine Runs.ite (b:=c344) (by simp[hh,m4_1,m8_18,m9_19,m13_162,m14_163]) (fun dc344=>?_) (fun dc344=>?_)
   ·replace h:=h.1 dc344
    refine zE fun k' hk'=>?_
    simp[hh,m4_1,m8_18,m9_19,m13_162,m14_163,dc344]
    apply hk'
    exact Runs.ret1 (v:=bool false) Tryz.func3 Tryz.results3 (by simp[hh,m4_1,m8_18,m9_19,m13_162,m14_163,dc344]) (hQ _ _ _ _ (.of (.v _)) ⟨false,h,rfl⟩)
   replace h:=h.2 dc344
   refine Runs.skip ?_
   refine Runs.cut (fun ρ H n=>∃ (v355 v356 v357 v358 v359 v360 v361 v362:AVal),((ρ 0 = .list false (aSig.map Control.cells)∧ρ 2=int aNode∧ρ 4=pA n1 4∧ρ 8 = .ptr (a21,8) 1 0 0∧ρ 9 = .ptr (a22,9) 1 0 0∧ρ 10=bool r18.2.2∧ρ 13=pA n130 13∧ρ 14=pA (n130+1) 14∧ρ 17=int r315.2)∧H (n1,4)=some ⟨6,[bC false aB]⟩∧H (a21,8)=some ⟨6,[bC true r18.1]⟩∧H (a22,9)=some ⟨6,[bC true r18.2.1]⟩∧H (n130,13)=some ⟨6,[[int r127.1.roots,v355,v356,int r127.1.edges,v357,v358]]⟩∧H (n130+1,14)=some ⟨6,[[int r127.2.1.roots,v359,v360,int r127.2.1.edges,v361,v362]]⟩)∧Sep H n [oN v355 r293.1.nodes,oI v356 r293.1.sites,oS v357 r293.1.outer,oW v358 r293.1.inner,oN v359 r315.1.nodes,oI v360 r315.1.sites,oS v361 r315.1.outer,oW v362 r315.1.inner] [(n130+1,14),(n130,13),(a22,9),(a21,8),(n1,4)]) (by refine⟨v346,v347,v348,v349,v350,v351,v352,v353,by simp[hh,m4_1,m8_18,m9_19,m13_162,m14_163,dc344],sp⟩) ?_
   clear hh m4_1 m8_18 m9_19 m13_162 m14_163
   rintro ρ H n363 ⟨v355,v356,v357,v358,v359,v360,v361,v362,⟨hh,m4_1,m8_18,m9_19,m13_162,m14_163⟩,sp⟩
   obtain⟨hb364,h⟩:=h
   obtain⟨r365,er365,h⟩:=atm h
   obtain⟨hb366,h⟩:=h
   obtain⟨r367,er367,h⟩:=atm h
   obtain⟨hb368,h⟩:=h
   obtain⟨r369,er369,h⟩:=atm h
   refine Runs.seqC (fun H n=>H (n1,4)=some ⟨6,[bC false aB]⟩∧H (a21,8)=some ⟨6,[bC true r18.1]⟩∧H (a22,9)=some ⟨6,[bC true r18.2.1]⟩∧H (n130,13)=some ⟨6,[[int r127.1.roots,v355,v356,int r127.1.edges,v357,v358]]⟩∧H (n130+1,14)=some ⟨6,[[int r127.2.1.roots,v359,v360,int r127.2.1.edges,v361,v362]]⟩∧Sep H n [oN v355 r293.1.nodes,oI v356 r293.1.sites,oS v357 r293.1.outer,oW v358 r293.1.inner,oN v359 r315.1.nodes,oI v360 r315.1.sites,oS v361 r315.1.outer,oW v362 r315.1.inner] [(n130+1,14),(n130,13),(a22,9),(a21,8),(n1,4)]) [10,11,12,13,14] (.free 0 (.free 1 (.free 2 (.free 3 (.free 4 (.free 5 (.free 6 (.free 7 (.free 8 (.free 9 (.hard 10 (.hard 11 (.hard 12 (.hard 13 (.hard 14 (.fin) (.stop)) (.stop)) (.stop)) (.stop)) (.hard 11 (.hard 10 (.hard 12 (.hard 13 (.hard 14 (.fin) (.stop)) (.stop)) (.stop)) (.stop)) (.stop))))))))))))) (fun ρ H n=>∃ (v372:AVal) (v373:AVal) (v374:AVal) (v375:AVal) (v376:AVal) (v377:AVal) (v378:AVal) (v379:AVal) (a380:Nat) (a381:Nat),((ρ 8 = .ptr (a21,8) 1 0 0∧ρ 9 = .ptr (a22,9) 1 0 0∧ρ 10=bool r18.2.2∧ρ 13=pA n130 13∧ρ 14=pA (n130+1) 14∧ρ 17=int r315.2∧ρ 19 = .ptr (a380,19) 1 0 0∧ρ 20 = .ptr (a381,20) 1 0 0∧ρ 21=bool r369.2.2)∧H (a21,8)=some ⟨6,[bC true r18.1]⟩∧H (a22,9)=some ⟨6,[bC true r18.2.1]⟩∧H (n130,13)=some ⟨6,[[int r127.1.roots,v372,v373,int r127.1.edges,v374,v375]]⟩∧H (n130+1,14)=some ⟨6,[[int r127.2.1.roots,v376,v377,int r127.2.1.edges,v378,v379]]⟩∧H (a380,19)=some ⟨6,[bC true r369.1]⟩∧H (a381,20)=some ⟨6,[bC true r369.2.1]⟩)∧Sep H n [oN v372 r293.1.nodes,oI v373 r293.1.sites,oS v374 r293.1.outer,oW v375 r293.1.inner,oN v376 r315.1.nodes,oI v377 r315.1.sites,oS v378 r315.1.outer,oW v379 r315.1.inner] [(a381,20),(a380,19),(n130+1,14),(n130,13),(a22,9),(a21,8)]) draws (by decide) (by kernel_rfl) ?_ ?_
   ·refine RunT.free (.list false (aSig.map Control.cells)) rfl rfl ⟨m4_1,m8_18,m9_19,m13_162,m14_163,sp⟩ (fun H n hS=>by obtain⟨m4_1,m8_18,m9_19,m13_162,m14_163,sp⟩:=hS;exact (by exact stepF_ok Ty_ok (by rw[stepF_loc];simp[hh,m4_1,m8_18,m9_19,m13_162,m14_163]))) ?_
    refine RunT.free (.list true (r365.map Control.cells)) rfl rfl ⟨m4_1,m8_18,m9_19,m13_162,m14_163,sp⟩ (fun H n hS=>by obtain⟨m4_1,m8_18,m9_19,m13_162,m14_163,sp⟩:=hS;exact (by rw[er365];exact OpSem.callD2 (xs:=[.list false (aSig.map Control.cells)]) ((toControlS_ok aSig hb364).pure) e10 (.cons (argC false aSig) .nil) (by simp[hh,m4_1,m8_18,m9_19,m13_162,m14_163]) (by simp[hh,m4_1,m8_18,m9_19,m13_162,m14_163]))) ?_
    refine RunT.free (.agg (bC false aB)) rfl rfl ⟨m4_1,m8_18,m9_19,m13_162,m14_163,sp⟩ (fun H n hS=>by obtain⟨m4_1,m8_18,m9_19,m13_162,m14_163,sp⟩:=hS;exact (by exact stepF_ok Ty_ok (by rw[stepF_loc];simp[hh,m4_1,m8_18,m9_19,m13_162,m14_163]))) ?_
    refine RunT.free (.agg (bC true r367)) rfl rfl ⟨m4_1,m8_18,m9_19,m13_162,m14_163,sp⟩ (fun H n hS=>by obtain⟨m4_1,m8_18,m9_19,m13_162,m14_163,sp⟩:=hS;exact (by rw[er367];exact OpSem.callD2 (xs:=[.agg (bC false aB)]) ((toBigraph_ok aB hb366).pure) e11 (.cons (argB false aB) .nil) (by simp[hh,m4_1,m8_18,m9_19,m13_162,m14_163]) (by simp[hh,m4_1,m8_18,m9_19,m13_162,m14_163]))) ?_
    refine RunT.free (int aNode) rfl rfl ⟨m4_1,m8_18,m9_19,m13_162,m14_163,sp⟩ (fun H n hS=>by obtain⟨m4_1,m8_18,m9_19,m13_162,m14_163,sp⟩:=hS;exact (by exact stepF_ok Ty_ok (by rw[stepF_loc];simp[hh,m4_1,m8_18,m9_19,m13_162,m14_163]))) ?_
    refine RunT.free (.tup [.agg (bC true r369.1),.agg (bC true r369.2.1),bool r369.2.2]) rfl rfl ⟨m4_1,m8_18,m9_19,m13_162,m14_163,sp⟩ (fun H n hS=>by obtain⟨m4_1,m8_18,m9_19,m13_162,m14_163,sp⟩:=hS;exact (by rw[er369];exact OpSem.callD2 (xs:=[.list true (r365.map Control.cells),.agg (bC true r367),int aNode]) ((CutUnder_ok r365 r367 aNode hb368).pure) e12 (.cons (argC true r365) (.cons (argB true r367) (.cons (.v _ _ _) .nil))) (by simp[hh,m4_1,m8_18,m9_19,m13_162,m14_163]) (by simp[hh,m4_1,m8_18,m9_19,m13_162,m14_163]))) ?_
    refine RunT.free (.tup [.agg (bC true r369.1),.agg (bC true r369.2.1),bool r369.2.2]) rfl rfl ⟨m4_1,m8_18,m9_19,m13_162,m14_163,sp⟩ (fun H n hS=>by obtain⟨m4_1,m8_18,m9_19,m13_162,m14_163,sp⟩:=hS;exact (by exact stepF_ok Ty_ok (by rw[stepF_loc];simp[hh,m4_1,m8_18,m9_19,m13_162,m14_163]))) ?_
    refine RunT.free (.agg (bC true r369.1)) rfl rfl ⟨m4_1,m8_18,m9_19,m13_162,m14_163,sp⟩ (fun H n hS=>by obtain⟨m4_1,m8_18,m9_19,m13_162,m14_163,sp⟩:=hS;exact (by exact stepF_ok Ty_ok (by rw[stepF_loc];simp[hh,m4_1,m8_18,m9_19,m13_162,m14_163]))) ?_
    refine RunT.free (.agg (bC true r369.2.1)) rfl rfl ⟨m4_1,m8_18,m9_19,m13_162,m14_163,sp⟩ (fun H n hS=>by obtain⟨m4_1,m8_18,m9_19,m13_162,m14_163,sp⟩:=hS;exact (by exact stepF_ok Ty_ok (by rw[stepF_loc];simp[hh,m4_1,m8_18,m9_19,m13_162,m14_163]))) ?_
    refine RunT.free (bool r369.2.2) rfl rfl ⟨m4_1,m8_18,m9_19,m13_162,m14_163,sp⟩ (fun H n hS=>by obtain⟨m4_1,m8_18,m9_19,m13_162,m14_163,sp⟩:=hS;exact (by exact stepF_ok Ty_ok (by rw[stepF_loc];simp[hh,m4_1,m8_18,m9_19,m13_162,m14_163]))) ?_
    refine⟨?_,?_,trivial⟩
    ·refine RunT.step (v:=pA n363 19) Ty_ok rfl rfl (by simp[hh,m4_1,m8_18,m9_19,m13_162,m14_163];first | exact⟨rfl,rfl⟩ | exact rfl) (fun _=>⟨(by simp[hh,m4_1,m8_18,m9_19,m13_162,m14_163,Heap.get_set]),(by simp[hh,m4_1,m8_18,m9_19,m13_162,m14_163,Heap.get_set]),(by simp[hh,m4_1,m8_18,m9_19,m13_162,m14_163,Heap.get_set]),(by simp[hh,m4_1,m8_18,m9_19,m13_162,m14_163,Heap.get_set]),(by simp[hh,m4_1,m8_18,m9_19,m13_162,m14_163,Heap.get_set]),(Sep.sub sp.var (by simp +contextual))⟩) ?_
     refine⟨?_,trivial⟩
     refine RunT.step (v:=pA (n363+1) 20) Ty_ok rfl rfl (by simp[hh,m4_1,m8_18,m9_19,m13_162,m14_163];first | exact⟨rfl,rfl⟩ | exact rfl) (fun _=>⟨(by simp[hh,m4_1,m8_18,m9_19,m13_162,m14_163,Heap.get_set]),(by simp[hh,m4_1,m8_18,m9_19,m13_162,m14_163,Heap.get_set]),(by simp[hh,m4_1,m8_18,m9_19,m13_162,m14_163,Heap.get_set]),(by simp[hh,m4_1,m8_18,m9_19,m13_162,m14_163,Heap.get_set]),(by simp[hh,m4_1,m8_18,m9_19,m13_162,m14_163,Heap.get_set]),(Sep.sub sp.var.var (by simp +contextual))⟩) ?_
     refine⟨?_,trivial⟩
     refine RunT.step (v:=.undef) Ty_ok rfl rfl (by simp[hh,m4_1,m8_18,m9_19,m13_162,m14_163];first | exact⟨rfl,rfl⟩ | exact rfl) (fun _=>⟨(by simp[hh,m4_1,m8_18,m9_19,m13_162,m14_163,Heap.get_set]),(by simp[hh,m4_1,m8_18,m9_19,m13_162,m14_163,Heap.get_set]),(by simp[hh,m4_1,m8_18,m9_19,m13_162,m14_163,Heap.get_set]),(by simp[hh,m4_1,m8_18,m9_19,m13_162,m14_163,Heap.get_set]),(by simp[hh,m4_1,m8_18,m9_19,m13_162,m14_163,Heap.get_set]),(Sep.sub (Sep.setVar (w:=(n363,19)) sp.var.var (by simp)) (by simp +contextual))⟩) ?_
     refine⟨?_,trivial⟩
     refine RunT.step (v:=.undef) Ty_ok rfl rfl (by simp[hh,m4_1,m8_18,m9_19,m13_162,m14_163];first | exact⟨rfl,rfl⟩ | exact rfl) (fun _=>⟨(by simp[hh,m4_1,m8_18,m9_19,m13_162,m14_163,Heap.get_set]),(by simp[hh,m4_1,m8_18,m9_19,m13_162,m14_163,Heap.get_set]),(by simp[hh,m4_1,m8_18,m9_19,m13_162,m14_163,Heap.get_set]),(by simp[hh,m4_1,m8_18,m9_19,m13_162,m14_163,Heap.get_set]),(by simp[hh,m4_1,m8_18,m9_19,m13_162,m14_163,Heap.get_set]),(Sep.sub (Sep.setVar (w:=(n363+1,20)) (Sep.setVar (w:=(n363,19)) sp.var.var (by simp)) (by simp)) (by simp +contextual))⟩) ?_
     refine⟨?_,trivial⟩
     refine RunT.same (v:=(bool r369.2.2)) Ty_ok rfl rfl (by simp[hh,m4_1,m8_18,m9_19,m13_162,m14_163]) (fun hl=>absurd (hl.symm.trans (show lateC _ _ _=true by kernel_rfl)) (by decide)) ?_
     refine RunT.fin (by refine⟨v355,v356,v357,v358,v359,v360,v361,v362,n363,n363+1,by simp[hh,m4_1,m8_18,m9_19,m13_162,m14_163],(Sep.sub (Sep.setVar (w:=(n363+1,20)) (Sep.setVar (w:=(n363,19)) sp.var.var (by simp)) (by simp)) (by simp +contextual))⟩)
    refine RunT.step (v:=pA n363 20) Ty_ok rfl rfl (by simp[hh,m4_1,m8_18,m9_19,m13_162,m14_163];first | exact⟨rfl,rfl⟩ | exact rfl) (fun _=>⟨(by simp[hh,m4_1,m8_18,m9_19,m13_162,m14_163,Heap.get_set]),(by simp[hh,m4_1,m8_18,m9_19,m13_162,m14_163,Heap.get_set]),(by simp[hh,m4_1,m8_18,m9_19,m13_162,m14_163,Heap.get_set]),(by simp[hh,m4_1,m8_18,m9_19,m13_162,m14_163,Heap.get_set]),(by simp[hh,m4_1,m8_18,m9_19,m13_162,m14_163,Heap.get_set]),(Sep.sub sp.var (by simp +contextual))⟩) ?_
    refine⟨?_,trivial⟩
    refine RunT.step (v:=pA (n363+1) 19) Ty_ok rfl rfl (by simp[hh,m4_1,m8_18,m9_19,m13_162,m14_163];first | exact⟨rfl,rfl⟩ | exact rfl) (fun _=>⟨(by simp[hh,m4_1,m8_18,m9_19,m13_162,m14_163,Heap.get_set]),(by simp[hh,m4_1,m8_18,m9_19,m13_162,m14_163,Heap.get_set]),(by simp[hh,m4_1,m8_18,m9_19,m13_162,m14_163,Heap.get_set]),(by simp[hh,m4_1,m8_18,m9_19,m13_162,m14_163,Heap.get_set]),(by simp[hh,m4_1,m8_18,m9_19,m13_162,m14_163,Heap.get_set]),(Sep.sub sp.var.var (by simp +contextual))⟩) ?_
    refine⟨?_,trivial⟩
    refine RunT.step (v:=.undef) Ty_ok rfl rfl (by simp[hh,m4_1,m8_18,m9_19,m13_162,m14_163];first | exact⟨rfl,rfl⟩ | exact rfl) (fun _=>⟨(by simp[hh,m4_1,m8_18,m9_19,m13_162,m14_163,Heap.get_set]),(by simp[hh,m4_1,m8_18,m9_19,m13_162,m14_163,Heap.get_set]),(by simp[hh,m4_1,m8_18,m9_19,m13_162,m14_163,Heap.get_set]),(by simp[hh,m4_1,m8_18,m9_19,m13_162,m14_163,Heap.get_set]),(by simp[hh,m4_1,m8_18,m9_19,m13_162,m14_163,Heap.get_set]),(Sep.sub sp.var.var (by simp +contextual))⟩) ?_
    refine⟨?_,trivial⟩
    refine RunT.step (v:=.undef) Ty_ok rfl rfl (by simp[hh,m4_1,m8_18,m9_19,m13_162,m14_163];first | exact⟨rfl,rfl⟩ | exact rfl) (fun _=>⟨(by simp[hh,m4_1,m8_18,m9_19,m13_162,m14_163,Heap.get_set]),(by simp[hh,m4_1,m8_18,m9_19,m13_162,m14_163,Heap.get_set]),(by simp[hh,m4_1,m8_18,m9_19,m13_162,m14_163,Heap.get_set]),(by simp[hh,m4_1,m8_18,m9_19,m13_162,m14_163,Heap.get_set]),(by simp[hh,m4_1,m8_18,m9_19,m13_162,m14_163,Heap.get_set]),(Sep.sub (Sep.setVar (w:=(n363,20)) sp.var.var (by simp)) (by simp +contextual))⟩) ?_
    refine⟨?_,trivial⟩
    refine RunT.same (v:=(bool r369.2.2)) Ty_ok rfl rfl (by simp[hh,m4_1,m8_18,m9_19,m13_162,m14_163]) (fun hl=>absurd (hl.symm.trans (show lateC _ _ _=true by kernel_rfl)) (by decide)) ?_
    refine RunT.fin (by refine⟨v355,v356,v357,v358,v359,v360,v361,v362,n363+1,n363,by simp[hh,m4_1,m8_18,m9_19,m13_162,m14_163],(Sep.sub (Sep.setVar (w:=(n363,20)) sp.var.var (by simp)) (by simp +contextual))⟩)
   clear hh m4_1 m8_18 m9_19 m13_162 m14_163
   rintro ρ H n382 ⟨v372,v373,v374,v375,v376,v377,v378,v379,a380,a381,⟨hh,m8_18,m9_19,m13_162,m14_163,m19_369,m20_370⟩,sp⟩
   refine Runs.seq ?_
   refine zE fun k' hk'=>?_
   obtain⟨J443,hJ444,hr445⟩:=h
   have fin455:∀ (sJ:Bool) (ρ:Env) (H:Heap) (n:Nat),J443 sJ→(match sJ with | b446=>∃ (v447 v448 v449 v450 v451 v452 v453 v454:AVal),((ρ 13=pA n130 13∧ρ 14=pA (n130+1) 14∧ρ 17=int r315.2∧ρ 147=bool b446)∧H (n130,13)=some ⟨6,[[int r127.1.roots,v447,v448,int r127.1.edges,v449,v450]]⟩∧H (n130+1,14)=some ⟨6,[[int r127.2.1.roots,v451,v452,int r127.2.1.edges,v453,v454]]⟩)∧Sep H n [oN v447 r293.1.nodes,oI v448 r293.1.sites,oS v449 r293.1.outer,oW v450 r293.1.inner,oN v451 r315.1.nodes,oI v452 r315.1.sites,oS v453 r315.1.outer,oW v454 r315.1.inner] [(n130+1,14),(n130,13)])→Runs Tryz.prog 3 161 k' ρ H n Q:=by
    rintro b446 ρ H n456 h ⟨v447,v448,v449,v450,v451,v452,v453,v454,⟨hh,m13_162,m14_163⟩,sp⟩
    replace h:=hr445 _ h
    apply hk'
    refine Runs.ite (b:=b446) (by simp[hh,m13_162,m14_163]) (fun db446=>?_) (fun db446=>?_)
    ·replace h:=h.1 db446
     refine zE fun k' hk'=>?_
     simp[hh,m13_162,m14_163,db446]
     apply hk'
     exact Runs.ret1 (v:=bool false) Tryz.func3 Tryz.results3 (by simp[hh,m13_162,m14_163,db446]) (hQ _ _ _ _ (.of (.v _)) ⟨false,h,rfl⟩)
    replace h:=h.2 db446
    refine Runs.skip ?_
    refine zE fun k' hk'=>?_
    simp[hh,m13_162,m14_163,db446]
    apply hk'
    refine zE fun k' hk'=>?_
    obtain⟨hb457,h⟩:=h
    obtain⟨r458,er458,h⟩:=atm h
    simp[hh,m13_162,m14_163,db446]
    refine RunK.callA Ty_ok (heldBig_ok (Big.mk r127.1.roots r293.1.nodes r293.1.sites r127.1.edges r293.1.outer r293.1.inner) 1 hb457) e17 (.cons (ArgOk.agg (.cons (.v _ _ _) (.cons (Sep.argOk' sp (old_nest_Node true r293.1.nodes)) (.cons (Sep.argOk' sp.f1 (old_listF (by simp))) (.cons (.v _ _ _) (.cons (Sep.argOk' sp.f2 (old_listF (by simp))) (.cons (Sep.argOk' sp.f3 (old_listF (by simp))) .nil))))))) (.cons (.v _ _ _) .nil)) (by decide) (by decide) rfl (by simp[hh,m13_162,m14_163,db446]) ?_
    rintro _ rfl
    rw[← er458]
    simp[hh,m13_162,m14_163,db446]
    apply hk'
    refine Runs.seq ?_
    refine zE fun k' hk'=>?_
    obtain⟨c459,ec459,h⟩:=atm h
    have f460:=ib_lss (k:=.i64) ec459
    simp[hh,m13_162,m14_163,f460,db446,-intBin]
    apply hk'
    refine Runs.ite (b:=c459) (by simp[hh,m13_162,m14_163,db446]) (fun dc459=>?_) (fun dc459=>?_)
    ·replace h:=h.1 dc459
     refine zE fun k' hk'=>?_
     simp[hh,m13_162,m14_163,db446,dc459]
     apply hk'
     exact Runs.ret1 (v:=bool false) Tryz.func3 Tryz.results3 (by simp[hh,m13_162,m14_163,db446,dc459]) (hQ _ _ _ _ (.of (.v _)) ⟨false,h,rfl⟩)
    replace h:=h.2 dc459
    refine Runs.skip ?_
    refine zE fun k' hk'=>?_
    obtain⟨hb461,h⟩:=h
    obtain⟨r462,er462,h⟩:=atm h
    simp[hh,m13_162,m14_163,db446,dc459]
    refine RunK.callA Ty_ok (heldBig_ok (Big.mk r127.2.1.roots r315.1.nodes r315.1.sites r127.2.1.edges r315.1.outer r315.1.inner) r458 hb461) e17 (.cons (ArgOk.agg (.cons (.v _ _ _) (.cons (Sep.argOk' sp.f4 (old_nest_Node true r315.1.nodes)) (.cons (Sep.argOk' sp.f5 (old_listF (by simp))) (.cons (.v _ _ _) (.cons (Sep.argOk' sp.f6 (old_listF (by simp))) (.cons (Sep.argOk' sp.f7 (old_listF (by simp))) .nil))))))) (.cons (.v _ _ _) .nil)) (by decide) (by decide) rfl (by simp[hh,m13_162,m14_163,db446,dc459]) ?_
    rintro _ rfl
    rw[← er462]
    simp[hh,m13_162,m14_163,db446,dc459]
    apply hk'
    refine Runs.seq ?_
    refine zE fun k' hk'=>?_
    obtain⟨c463,ec463,h⟩:=atm h
    have f464:=ib_lss (k:=.i64) ec463
    simp[hh,m13_162,m14_163,f464,db446,dc459,-intBin]
    apply hk'
    refine Runs.ite (b:=c463) (by simp[hh,m13_162,m14_163,db446,dc459]) (fun dc463=>?_) (fun dc463=>?_)
    ·replace h:=h.1 dc463
     refine zE fun k' hk'=>?_
     simp[hh,m13_162,m14_163,db446,dc459,dc463]
     apply hk'
     exact Runs.ret1 (v:=bool false) Tryz.func3 Tryz.results3 (by simp[hh,m13_162,m14_163,db446,dc459,dc463]) (hQ _ _ _ _ (.of (.v _)) ⟨false,h,rfl⟩)
    replace h:=h.2 dc463
    refine Runs.skip ?_
    refine Runs.seq ?_
    refine zE fun k' hk'=>?_
    obtain⟨c465,ec465,h⟩:=atm h
    have f466:=ib_neq (k:=.i64) ec465
    simp[hh,m13_162,m14_163,f466,db446,dc459,dc463,-intBin]
    apply hk'
    refine Runs.cut (fun ρ H n=>ρ 160=bool c465∧Sep H n [] []) (by refine⟨by simp[hh,m13_162,m14_163,f466,db446,dc459,dc463,-intBin],(Sep.sub sp.dr.dr.dr.dr.dr.dr.dr.dr (by simp +contextual))⟩) ?_
    clear hh m13_162 m14_163
    rintro ρ H n467 ⟨hh,sp⟩
    refine Runs.ite (b:=c465) (by simp[hh]) (fun dc465=>?_) (fun dc465=>?_)
    ·replace h:=h.1 dc465
     refine zE fun k' hk'=>?_
     simp[hh,dc465]
     apply hk'
     exact Runs.ret1 (v:=bool false) Tryz.func3 Tryz.results3 (by simp[hh,dc465]) (hQ _ _ _ _ (.of (.v _)) ⟨false,h,rfl⟩)
    replace h:=h.2 dc465
    refine Runs.skip ?_
    refine zE fun k' hk'=>?_
    simp[hh,dc465]
    apply hk'
    exact Runs.ret1 (v:=bool true) Tryz.func3 Tryz.results3 (by simp[hh,dc465]) (hQ _ _ _ _ (.of (.v _)) ⟨true,h,rfl⟩)
   replace h:=hJ444
   obtain⟨hb468,h⟩:=h
   obtain⟨r469,er469,h⟩:=atm h
   simp[hh,m8_18,m9_19,m13_162,m14_163,m19_369,m20_370]
   refine RunK.callA Ty_ok (eqBigraph_ok r369.1 r18.1 hb468) e13 (.cons (argB true r369.1) (.cons (argB true r18.1) .nil)) (by decide) (by decide) rfl (by simp[hh,m8_18,m9_19,m13_162,m14_163,m19_369,m20_370]) ?_
   rintro _ rfl
   rw[← er469]
   rcases Bool.eq_false_or_eq_true r469 with dr469 | dr469
   ·replace h:=h.1 dr469
    obtain⟨hb470,h⟩:=h
    obtain⟨r471,er471,h⟩:=atm h
    simp[hh,m8_18,m9_19,m13_162,m14_163,m19_369,m20_370,dr469]
    refine RunK.callA Ty_ok (eqBigraph_ok r369.2.1 r18.2.1 hb470) e13 (.cons (argB true r369.2.1) (.cons (argB true r18.2.1) .nil)) (by decide) (by decide) rfl (by simp[hh,m8_18,m9_19,m13_162,m14_163,m19_369,m20_370,dr469]) ?_
    rintro _ rfl
    rw[← er471]
    rcases Bool.eq_false_or_eq_true r471 with dr471 | dr471
    ·replace h:=h.1 dr471
     obtain⟨c472,ec472,h⟩:=atm h
     have f473:=bb_neq ec472
     simp[hh,m8_18,m9_19,m13_162,m14_163,m19_369,m20_370,f473,dr469,dr471,-boolBin]
     exact fin455 (c472) _ _ _ h (by refine⟨v372,v373,v374,v375,v376,v377,v378,v379,by simp[hh,m8_18,m9_19,m13_162,m14_163,m19_369,m20_370,f473,dr469,dr471,-boolBin],(Sep.sub sp (by simp +contextual))⟩)
    replace h:=h.2 dr471
    simp[hh,m8_18,m9_19,m13_162,m14_163,m19_369,m20_370,dr469,dr471]
    exact fin455 (true) _ _ _ h (by refine⟨v372,v373,v374,v375,v376,v377,v378,v379,by simp[hh,m8_18,m9_19,m13_162,m14_163,m19_369,m20_370,dr469,dr471],(Sep.sub sp (by simp +contextual))⟩)
   replace h:=h.2 dr469
   simp[hh,m8_18,m9_19,m13_162,m14_163,m19_369,m20_370,dr469]
   exact fin455 (true) _ _ _ h (by refine⟨v372,v373,v374,v375,v376,v377,v378,v379,by simp[hh,m8_18,m9_19,m13_162,m14_163,m19_369,m20_370,dr469],(Sep.sub sp (by simp +contextual))⟩)
  replace h:=hJ279
  obtain⟨c474,ec474,h⟩:=atm h
  have f475:=ib_lss (k:=.i64) ec474
  rcases Bool.eq_false_or_eq_true c474 with dc474 | dc474
  ·replace h:=h.1 dc474
   simp[hh,m4_1,m8_18,m9_19,m13_162,m14_163,f475,dc474,-intBin]
   exact fin290 (true) _ _ _ h (by refine⟨v269,v270,v271,v272,v273,v274,v275,v276,by simp[hh,m4_1,m8_18,m9_19,m13_162,m14_163,f475,dc474,-intBin],sp⟩)
  replace h:=h.2 dc474
  obtain⟨hb476,h⟩:=h
  obtain⟨r477,er477,h⟩:=atm h
  simp[hh,m4_1,m8_18,m9_19,m13_162,m14_163,f475,dc474,-intBin]
  refine RunK.callA Ty_ok (eqBigraph_ok r127.1 r18.1 hb476) e13 (.cons (ArgOk.agg (.cons (.v _ _ _) (.cons (Sep.argOk' sp (old_nest_Node true r127.1.nodes)) (.cons (Sep.argOk' sp.f1 (old_listF (by simp))) (.cons (.v _ _ _) (.cons (Sep.argOk' sp.f2 (old_listF (by simp))) (.cons (Sep.argOk' sp.f3 (old_listF (by simp))) .nil))))))) (.cons (argB true r18.1) .nil)) (by decide) (by decide) rfl (by simp[hh,m4_1,m8_18,m9_19,m13_162,m14_163,f475,dc474,-intBin]) ?_
  rintro _ rfl
  rw[← er477]
  rcases Bool.eq_false_or_eq_true r477 with dr477 | dr477
  ·replace h:=h.1 dr477
   obtain⟨hb478,h⟩:=h
   obtain⟨r479,er479,h⟩:=atm h
   simp[hh,m4_1,m8_18,m9_19,m13_162,m14_163,f475,dc474,dr477,-intBin]
   refine RunK.callA Ty_ok (eqBigraph_ok r127.2.1 r18.2.1 hb478) e13 (.cons (ArgOk.agg (.cons (.v _ _ _) (.cons (Sep.argOk' sp.f4 (old_nest_Node true r127.2.1.nodes)) (.cons (Sep.argOk' sp.f5 (old_listF (by simp))) (.cons (.v _ _ _) (.cons (Sep.argOk' sp.f6 (old_listF (by simp))) (.cons (Sep.argOk' sp.f7 (old_listF (by simp))) .nil))))))) (.cons (argB true r18.2.1) .nil)) (by decide) (by decide) rfl (by simp[hh,m4_1,m8_18,m9_19,m13_162,m14_163,f475,dc474,dr477,-intBin]) ?_
   rintro _ rfl
   rw[← er479]
   rcases Bool.eq_false_or_eq_true r479 with dr479 | dr479
   ·replace h:=h.1 dr479
    obtain⟨c480,ec480,h⟩:=atm h
    have f481:=bb_neq ec480
    simp[hh,m4_1,m8_18,m9_19,m13_162,m14_163,f475,f481,dc474,dr477,dr479,-boolBin,-intBin]
    exact fin290 (c480) _ _ _ h (by refine⟨v269,v270,v271,v272,v273,v274,v275,v276,by simp[hh,m4_1,m8_18,m9_19,m13_162,m14_163,f475,f481,dc474,dr477,dr479,-boolBin,-intBin],sp⟩)
   replace h:=h.2 dr479
   simp[hh,m4_1,m8_18,m9_19,m13_162,m14_163,f475,dc474,dr477,dr479,-intBin]
   exact fin290 (true) _ _ _ h (by refine⟨v269,v270,v271,v272,v273,v274,v275,v276,by simp[hh,m4_1,m8_18,m9_19,m13_162,m14_163,f475,dc474,dr477,dr479,-intBin],sp⟩)
  replace h:=h.2 dr477
  simp[hh,m4_1,m8_18,m9_19,m13_162,m14_163,f475,dc474,dr477,-intBin]
  exact fin290 (true) _ _ _ h (by refine⟨v269,v270,v271,v272,v273,v274,v275,v276,by simp[hh,m4_1,m8_18,m9_19,m13_162,m14_163,f475,dc474,dr477,-intBin],sp⟩)
 replace h:=hJ188
 obtain⟨hb482,h⟩:=h
 obtain⟨r483,er483,h⟩:=atm h
 simp[hh,m4_1,m8_18,m9_19,m12_114,m13_162,m14_163]
 refine RunK.callA Ty_ok (eqBigraph_ok r127.1 r18.1 hb482) e13 (.cons (ArgOk.agg (.cons (.v _ _ _) (.cons (Sep.argOk' sp.f5 (old_nest_Node true r127.1.nodes)) (.cons (Sep.argOk' sp.f6 (old_listF (by simp))) (.cons (.v _ _ _) (.cons (Sep.argOk' sp.f7 (old_listF (by simp))) (.cons (Sep.argOk' sp.f8 (old_listF (by simp))) .nil))))))) (.cons (argB true r18.1) .nil)) (by decide) (by decide) rfl (by simp[hh,m4_1,m8_18,m9_19,m12_114,m13_162,m14_163]) ?_
 rintro _ rfl
 rw[← er483]
 rcases Bool.eq_false_or_eq_true r483 with dr483 | dr483
 ·replace h:=h.1 dr483
  obtain⟨hb484,h⟩:=h
  obtain⟨r485,er485,h⟩:=atm h
  simp[hh,m4_1,m8_18,m9_19,m12_114,m13_162,m14_163,dr483]
  refine RunK.callA Ty_ok (eqBigraph_ok r127.2.1 r18.2.1 hb484) e13 (.cons (ArgOk.agg (.cons (.v _ _ _) (.cons (Sep.argOk' sp.f9 (old_nest_Node true r127.2.1.nodes)) (.cons (Sep.argOk' sp.f10 (old_listF (by simp))) (.cons (.v _ _ _) (.cons (Sep.argOk' sp.f11 (old_listF (by simp))) (.cons (Sep.argOk' sp.f12 (old_listF (by simp))) .nil))))))) (.cons (argB true r18.2.1) .nil)) (by decide) (by decide) rfl (by simp[hh,m4_1,m8_18,m9_19,m12_114,m13_162,m14_163,dr483]) ?_
  rintro _ rfl
  rw[← er485]
  rcases Bool.eq_false_or_eq_true r485 with dr485 | dr485
  ·replace h:=h.1 dr485
   obtain⟨c486,ec486,h⟩:=atm h
   have f487:=bb_neq ec486
   simp[hh,m4_1,m8_18,m9_19,m12_114,m13_162,m14_163,f487,dr483,dr485,-boolBin]
   exact fin204 (c486) _ _ _ h (by refine⟨v173,v174,v175,v176,v177,v178,v179,v180,v181,v182,v183,v184,v185,by simp[hh,m4_1,m8_18,m9_19,m12_114,m13_162,m14_163,f487,dr483,dr485,-boolBin],sp⟩)
  replace h:=h.2 dr485
  simp[hh,m4_1,m8_18,m9_19,m12_114,m13_162,m14_163,dr483,dr485]
  exact fin204 (true) _ _ _ h (by refine⟨v173,v174,v175,v176,v177,v178,v179,v180,v181,v182,v183,v184,v185,by simp[hh,m4_1,m8_18,m9_19,m12_114,m13_162,m14_163,dr483,dr485],sp⟩)
 replace h:=h.2 dr483
 simp[hh,m4_1,m8_18,m9_19,m12_114,m13_162,m14_163,dr483]
 exact fin204 (true) _ _ _ h (by refine⟨v173,v174,v175,v176,v177,v178,v179,v180,v181,v182,v183,v184,v185,by simp[hh,m4_1,m8_18,m9_19,m12_114,m13_162,m14_163,dr483],sp⟩)
theorem lawCut_ok (aSig:List Control) (aB:Big) (aNode:Int) (hp:lawCut_pre aSig aB aNode):PureC Tryz.prog 3 [.list false (aSig.map Control.cells),.agg (bC false aB),int aNode] (fun r=>r=bool (lawCut aSig aB aNode)):=(lawCut_walk aSig aB aNode _ (lawCut_vc aSig aB aNode hp)).mono (by rintro _ ⟨_,rfl,rfl⟩;rfl)
end Go.Ab.Vg
/- The contract of laws.FnExactCutUnder: it answers true. -/
namespace Go.Ab
open Go.Proofs
theorem exactCutUnder_ok (a0:Sig) (a1:Big) (a2:Int) (h0:HugeS a0) (h1:HugeB a1):PureC Tryz.prog 3 [encSig false a0,encB false a1,int a2] (fun r=>r=bool true):=Vg.lawCut_ok a0 a1 a2 ⟨h0,h1⟩
end Go.Ab
