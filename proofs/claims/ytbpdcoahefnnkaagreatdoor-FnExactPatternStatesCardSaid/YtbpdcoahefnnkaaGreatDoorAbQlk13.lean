/- Merged texts (13 of 16) of the proof that ends in Lky: Mnw. -/
import Derived.Test.YtbpdcoahefnnkaaGreatDoorAbQlk12
/- Walks by program for YtbpdcoahefnnkaaGreatDoorAbMn. -/
namespace Go.Ab.Vg
open Go.Proofs
set_option maxRecDepth 100000
set_option linter.unusedSimpArgs false
set_option linter.unusedVariables false
attribute [local simp] GNode.cells Wire.cells Match.cells intC sliceC strC bC mC pA
theorem e132:Ent Tryz.prog 132:=Ent.of Tryz.func132 (by kernel_rfl) rfl
theorem clipI_ok (t:Bool) (l:List Int) (H:Heap) (n:Nat):StillC Tryz.prog 132 [.list t (l.map intC)] H n (fun r=>r = .clip t (l.map intV)):=by
 refine CallsA.of Tryz.func132 rfl Tryz.ntmps132 (by simp) fun Q hQ=>?_
 refine Runs.cut (fun ρ H1 n1=>ρ 0 = .list t (l.map intC)∧H1=H∧n1=n) (by simp) ?_
 rintro ρ H n1 ⟨h0,rfl,rfl⟩
 refine zE fun k' hk'=>?_
 simp[h0]
 apply hk'
 refine zE fun k' hk'=>?_
 have f1:=fun H=>len_list (H:=H) (fr:=t) (f:=intC) (l:=l) (v:=(l.length:Int)) kd_24 rfl
 simp[h0,f1]
 refine RunK.clipS (fr:=t) (vs:=l.map intV) (k1:=.i64) (k2:=.i64) Ty_ok (by decide) (by decide) kd_24 (by rw[intV_map];simp[h0]) (by simp) (by simp) ?_
 simp
 apply hk'
 exact Runs.ret1 (v:=.clip t (l.map intV)) Tryz.func132 Tryz.results132 (by simp) (hQ _ _ _ ⟨rfl,rfl,rfl⟩)
theorem e170:Ent Tryz.prog 170:=Ent.of Tryz.func170 (by kernel_rfl) rfl
theorem cloneI_walk (s:List Int) (Z:(List Int)→Prop) (h:cloneI_wp s Z):OwnS Tryz.prog 170 [.list false (s.map intC)] (.s [.c]) (fun r=>∃ y:List Int,Z y∧r = .list true (y.map intC)):=by
 unfold cloneI_wp at h
 have sp:Sep noHeap 0 [] []:=Sep.nil (by simp)
 refine OwnS.of Tryz.func170 rfl Tryz.ntmps170 (by simp) fun Q hQ=>?_
 refine Runs.cut (fun ρ H n=>ρ 0 = .list false (s.map intC)∧Sep H n [] []) (by refine⟨?_,sp⟩<;>simp ) ?_
 rintro ρ H n1 ⟨hh,sp⟩
 refine zE fun k' hk'=>?_
 simp[hh]
 apply hk'
 refine Runs.seq ?_
 refine zE fun k' hk'=>?_
 simp[hh]
 refine RunK.isNil (fr:=false) (els:=s.map intC) Ty_ok (by decide) (by decide) kd_24 (by simp[hh]) (by simp[hh]) ?_
 rintro c2 hc3
 replace h:=h c2 (fun hq=>by simpa using hc3 hq)
 simp[hh]
 apply hk'
 refine Runs.ite (b:=c2) (by simp[hh]) (fun dc2=>?_) (fun dc2=>?_)
 ·replace h:=h.1 dc2
  refine zE fun k' hk'=>?_
  simp[hh,dc2]
  apply hk'
  exact Runs.ret1 (v:=.v (.slice none 0 0)) Tryz.func170 Tryz.results170 (by simp[hh,dc2]) (hQ _ _ _ _ (Sep.sub (ids':=[]) (Sep.addNil sp) (by simp)) ⟨[],h,rfl⟩)
 replace h:=h.2 dc2
 refine Runs.skip ?_
 refine zE fun k' hk'=>?_
 obtain⟨hb6,h⟩:=h
 obtain⟨l7,el7,h⟩:=atm h
 simp[hh,dc2,-appendF]
 refine bind_append0 (s.map intC) (Sep.addEmpty (l:=[.c]) sp) (by simp) kd_24 (by simp) (by simp) (by simp[srcOf]) (by simp[-one1,o1x]) (by simpa using hb6) ?_
 rintro v8 H9 n10 sp hfr11 hle12
 replace sp:Sep H9 n10 [oI v8 l7] []:=by refine Sep.ap el7 ?_;exact sp
 simp[hh,dc2]
 apply hk'
 refine Runs.cut (fun ρ H n=>∃ (v14:AVal),ρ 2=v14∧Sep H n [oI v14 l7] []) (by refine⟨v8,?_,sp⟩<;>simp[hh,dc2]) ?_
 clear hh
 rintro ρ H n15 ⟨v14,hh,sp⟩
 exact Runs.ret1 (v:=v14) Tryz.func170 Tryz.results170 (by simp[hh]) (hQ _ _ _ _ (Sep.sub (ids':=[]) sp (by simp)) ⟨l7,h,rfl⟩)
theorem cloneI_ok (s:List Int) (hp:cloneI_pre s):OwnS Tryz.prog 170 [.list false (s.map intC)] (.s [.c]) (fun r=>r = .list true ((cloneI s).map intC)):=(cloneI_walk s _ (cloneI_vc s hp)).mono (by rintro _ ⟨_,rfl,rfl⟩;rfl)
theorem e112:Ent Tryz.prog 112:=Ent.of Tryz.func112 (by kernel_rfl) rfl
theorem l1Own_walk (l:List Int) (Z:(List Int)→Prop) (h:l1Own_wp l Z):OwnS Tryz.prog 112 [.list false (l.map intC)] (.s [.c]) (fun r=>∃ y:List Int,Z y∧r = .list true (y.map intC)):=by
 unfold l1Own_wp at h
 have sp:Sep noHeap 0 [] []:=Sep.nil (by simp)
 refine OwnS.of Tryz.func112 rfl Tryz.ntmps112 (by simp) fun Q hQ=>?_
 refine Runs.cut (fun ρ H n=>ρ 0 = .list false (l.map intC)∧Sep H n [] []) (by refine⟨?_,sp⟩<;>simp ) ?_
 rintro ρ H n1 ⟨hh,sp⟩
 refine zE fun k' hk'=>?_
 simp[hh]
 apply hk'
 refine zE fun k' hk'=>?_
 obtain⟨hb3,h⟩:=h
 obtain⟨l4,el4,h⟩:=atm h
 simp[hh,-appendF]
 refine bind_append0 (l.map intC) (Sep.addEmpty (l:=[.c]) sp) (by simp) kd_24 (by simp) (by simp) (by simp[srcOf]) (by simp[-one1,o1x]) (by simpa using hb3) ?_
 rintro v5 H6 n7 sp hfr8 hle9
 replace sp:Sep H6 n7 [oI v5 l4] []:=by refine Sep.ap el4 ?_;exact sp
 simp[hh]
 apply hk'
 refine Runs.cut (fun ρ H n=>∃ (v11:AVal),ρ 2=v11∧Sep H n [oI v11 l4] []) (by refine⟨v5,?_,sp⟩<;>simp[hh]) ?_
 clear hh
 rintro ρ H n12 ⟨v11,hh,sp⟩
 exact Runs.ret1 (v:=v11) Tryz.func112 Tryz.results112 (by simp[hh]) (hQ _ _ _ _ (Sep.sub (ids':=[]) sp (by simp)) ⟨l4,h,rfl⟩)
theorem l1Own_ok (l:List Int) (hp:l1Own_pre l):OwnS Tryz.prog 112 [.list false (l.map intC)] (.s [.c]) (fun r=>r = .list true ((l1Own l).map intC)):=(l1Own_walk l _ (l1Own_vc l hp)).mono (by rintro _ ⟨_,rfl,rfl⟩;rfl)
theorem e130:Ent Tryz.prog 130:=Ent.of Tryz.func130 (by kernel_rfl) rfl
theorem ownMatch_walk (m:Match) (Z:Match→Prop) (h:ownMatch_wp m Z):OwnS Tryz.prog 130 [.agg (mC false m)] (.a [.s [.c],.s [.c]]) (fun r=>∃ y:Match,Z y∧r = .agg (mC true y)):=by
 unfold ownMatch_wp at h
 have sp:Sep noHeap 0 [] []:=Sep.nil (by simp)
 refine OwnS.of Tryz.func130 rfl Tryz.ntmps130 (by simp) fun Q hQ=>?_
 refine Runs.cut (fun ρ H n=>ρ 0 = .agg (mC false m)∧Sep H n [] []) (by refine⟨?_,sp⟩<;>simp ) ?_
 rintro ρ H n1 ⟨hh,sp⟩
 refine zE fun k' hk'=>?_
 simp[hh]
 apply hk'
 refine Runs.cut (fun ρ H n=>(ρ 1=pA n1 1∧ρ 2=pA (n1+1) 2)∧H (n1,1)=some ⟨2,[mC false m]⟩∧H (n1+1,2)=some ⟨2,[[.v (.slice none 0 0),.v (.slice none 0 0)]]⟩∧Sep H n [] [(n1+1,2),(n1,1)]) (by refine⟨?_,?_,?_,sp.var.var⟩<;>simp[hh]) ?_
 clear hh
 rintro ρ H n4 ⟨hh,m1_1,m2_2,sp⟩
 refine Runs.cut (fun ρ H n=>(ρ 1=pA n1 1∧ρ 2=pA (n1+1) 2)∧H (n1,1)=some ⟨2,[mC false m]⟩∧H (n1+1,2)=some ⟨2,[[.v (.slice none 0 0),.v (.slice none 0 0)]]⟩∧Sep H n [] [(n1+1,2),(n1,1)]) (by refine⟨?_,?_,?_,sp⟩<;>simp[hh,m1_1,m2_2]) ?_
 clear hh m1_1 m2_2
 rintro ρ H n5 ⟨hh,m1_1,m2_2,sp⟩
 obtain⟨hb6,h⟩:=h
 obtain⟨r7,er7,h⟩:=atm h
 obtain⟨hb9,h⟩:=h
 obtain⟨r10,er10,h⟩:=atm h
 refine Runs.seqC (fun H n=>H (n1,1)=some ⟨2,[mC false m]⟩∧H (n1+1,2)=some ⟨2,[[.v (.slice none 0 0),.v (.slice none 0 0)]]⟩∧Sep H n [] [(n1+1,2),(n1,1)]) [2,5,6,7] (.free 0 (.free 1 (.free 3 (.free 4 (.hard 2 (.hard 5 (.hard 6 (.hard 7 (.fin) (.stop)) (.stop)) (.stop)) (.stop)))))) (fun ρ H n=>∃ (v12 v13:AVal),ρ 2=pA (n1+1) 2∧H (n1+1,2)=some ⟨2,[[v13,v12]]⟩∧Sep H n [oI v12 r10,oI v13 r7] [(n1+1,2)]) draws (by decide) (by kernel_rfl) ?_ ?_
 ·refine RunT.free (pA n1 1) rfl rfl ⟨m1_1,m2_2,sp⟩ (fun H n hS=>by obtain⟨m1_1,m2_2,sp⟩:=hS;exact (by exact stepF_ok Ty_ok (by rw[stepF_loc];simp[hh,m1_1,m2_2]))) ?_
  refine RunT.free (.list false (m.nodes.map intC)) rfl rfl ⟨m1_1,m2_2,sp⟩ (fun H n hS=>by obtain⟨m1_1,m2_2,sp⟩:=hS;exact (by exact stepF_ok Ty_ok (by rw[stepF_loc];simp[hh,m1_1,m2_2]))) ?_
  refine RunT.free (.ptr (n1,1) 1 0 1) rfl rfl ⟨m1_1,m2_2,sp⟩ (fun H n hS=>by obtain⟨m1_1,m2_2,sp⟩:=hS;exact (by exact stepF_ok Ty_ok (by rw[stepF_loc];simp[hh,m1_1,m2_2]))) ?_
  refine RunT.free (.list false (m.roots.map intC)) rfl rfl ⟨m1_1,m2_2,sp⟩ (fun H n hS=>by obtain⟨m1_1,m2_2,sp⟩:=hS;exact (by exact stepF_ok Ty_ok (by rw[stepF_loc];simp[hh,m1_1,m2_2]))) ?_
  refine⟨?_,trivial⟩
  refine RunT.callW (as1:=[.list false (m.nodes.map intC)]) rfl rfl (cloneI_ok m.nodes hb6) e170 (.cons (argI false m.nodes) .nil) sp (by simp[hh,m1_1,m2_2]) (by simp[hh,m1_1,m2_2]) ?_
  rintro v19 H15 n16 _ sp rfl hle18 hfr17
  rw[← er7] at sp
  replace sp:Sep H15 n16 [oI v19 r7] [(n1+1,2),(n1,1)]:=sp
  have m1_1:H15 (n1,1)=some ⟨2,[mC false m]⟩:=(hfr17 _ (by simp)).trans (by simp[hh,m1_1,m2_2,Heap.get_set])
  have m2_2:H15 (n1+1,2)=some ⟨2,[[.v (.slice none 0 0),.v (.slice none 0 0)]]⟩:=(hfr17 _ (by simp)).trans (by simp[hh,m1_1,m2_2,Heap.get_set])
  refine⟨(fun _=>⟨m1_1,m2_2,sp.dr⟩),?_⟩
  refine⟨?_,trivial⟩
  refine RunT.callW (as1:=[.list false (m.roots.map intC)]) rfl rfl (cloneI_ok m.roots hb9) e170 (.cons (argI false m.roots) .nil) sp (by simp[hh,m1_1,m2_2]) (by simp[hh,m1_1,m2_2]) ?_
  rintro v26 H22 n23 _ sp rfl hle25 hfr24
  rw[← er10] at sp
  replace sp:Sep H22 n23 [oI v26 r10,oI v19 r7] [(n1+1,2),(n1,1)]:=sp
  have m1_1:H22 (n1,1)=some ⟨2,[mC false m]⟩:=(hfr24 _ (by simp)).trans (by simp[hh,m1_1,m2_2,Heap.get_set])
  have m2_2:H22 (n1+1,2)=some ⟨2,[[.v (.slice none 0 0),.v (.slice none 0 0)]]⟩:=(hfr24 _ (by simp)).trans (by simp[hh,m1_1,m2_2,Heap.get_set])
  refine⟨(fun hl=>absurd (hl.symm.trans (show lateC _ _ _=true by kernel_rfl)) (by decide)),?_⟩
  refine⟨?_,trivial⟩
  have f35:=Sep.oc sp.f1
  have f36:=Sep.oc sp
  refine RunT.same (v:=(.agg [v19,v26])) Ty_ok rfl rfl (by simp[hh,m1_1,m2_2,f35,f36,-cellsA,-one1,cAx,o1x]) (fun hl=>absurd (hl.symm.trans (show lateC _ _ _=true by kernel_rfl)) (by decide)) ?_
  refine⟨?_,trivial⟩
  have f43:=Sep.oc sp.f1
  have f44:=Sep.oc sp
  refine RunT.step (v:=.undef) Ty_ok rfl rfl (by simp[hh,m1_1,m2_2,f35,f36,f43,f44,-cellsA,-one1,cAx,o1x];exact⟨rfl,rfl⟩) (fun hl=>absurd (hl.symm.trans (show lateC _ _ _=true by kernel_rfl)) (by decide)) ?_
  refine RunT.fin (by refine⟨v26,v19,?_,?_,(Sep.sub (Sep.setVar (w:=(n1+1,2)) sp (by simp)) (by simp +contextual))⟩<;>simp[hh,m1_1,m2_2,f35,f36,f43,f44,-cellsA,-one1,cAx,o1x])
 clear hh m1_1 m2_2
 rintro ρ H n14 ⟨v12,v13,hh,m2_2,sp⟩
 exact Runs.res1 Ty_ok (v:=.agg [v13,v12]) Tryz.func130 Tryz.results130 (by simp[hh,m2_2,resA]) (hQ _ _ _ _ (Sep.sub (ids':=[]) (Sep.pack (Fill.own (Fill.own Fill.nil)) sp.f1) (by simp)) ⟨(Match.mk r7 r10),h,rfl⟩)
theorem ownMatch_ok (m:Match) (hp:ownMatch_pre m):OwnS Tryz.prog 130 [.agg (mC false m)] (.a [.s [.c],.s [.c]]) (fun r=>r = .agg [.list true (((ownMatch m).nodes).map intC),.list true (((ownMatch m).roots).map intC)]):=(ownMatch_walk m _ (ownMatch_vc m hp)).mono (by rintro _ ⟨_,rfl,rfl⟩;rfl)
theorem e75:Ent Tryz.prog 75:=Ent.of Tryz.func75 (by kernel_rfl) rfl
theorem matchesY_walk {σ:Type} (step:σ→Match→σ × Bool) (G:σ→Prop) {gY:FuncId} {capsY:List AVal} {W:List Id} {I:σ→Heap→List OwnE→Prop} (hYe:Ent Tryz.prog gY) (hM:FrameI W I) (hY:∀ s m v,G s→MZ m→EffT Tryz.prog gY ([v]++capsY) W I s [(.a [.s [.c],.s [.c]],v,.agg (Match.cells true m))] (fun s' r=>s'=(step s m).1∧r=bool (step s m).2)) (redex:Big) (agent:Big) (nodes:List Int) (sG:σ) (Z:σ × Bool→Prop) (ih:∀ redexr agentr nodesr sGr,matchesY_pre step G redexr agentr nodesr sGr→matchesY_ms redexr agentr nodesr<matchesY_ms redex agent nodes→EffT Tryz.prog 75 [.agg (bC false redexr),.agg (bC false agentr),.list false (nodesr.map intC),.fn (.func gY) [] capsY] W I sGr [] (fun s' r=>s'=(matchesY step redexr agentr nodesr sGr).1∧r=bool ((matchesY step redexr agentr nodesr sGr).2))) (h:matchesY_wp step G redex agent nodes sG Z):EffT Tryz.prog 75 [.agg (bC false redex),.agg (bC false agent),.list false (nodes.map intC),.fn (.func gY) [] capsY] W I sG [] (fun s' r=>∃ y:Bool,Z (s',y)∧r=bool y):=by
 unfold matchesY_wp at h
 refine EffT.of Tryz.func75 rfl Tryz.ntmps75 (by simp) fun H0 n0 K0 ids0 E0 hI hWd sp Q hQ=>?_
 have h00:=sp.1
 have hid:∀ i ∈ ids0,H0 i=H0 i:=fun _ _=>rfl
 have hnn:n0≤n0:=Nat.le_refl _
 replace sp:Sep H0 n0 (E0++K0) (W++ids0):=sp
 refine Runs.cut (fun ρ H n=>∃ (E1:List OwnE),(ρ 0 = .agg (bC false redex)∧ρ 1 = .agg (bC false agent)∧ρ 2 = .list false (nodes.map intC)∧ρ 3 = .fn (.func gY) [] capsY)∧n0≤n∧(∀ i ∈ ids0,H i=H0 i)∧I sG H E1∧Sep H n ((E1++K0)) ((W++ids0))) (by refine⟨E0,?_,(by omega),hid,hI,sp⟩<;>simp ) ?_
 rintro ρ H n2 ⟨E1,hh,hnn,hid,hI,sp⟩
 have hq_n2:=hnn
 refine zE fun k' hk'=>?_
 simp[hh]
 apply hk'
 refine Runs.cut (fun ρ H n=>∃ (E5:List OwnE),(ρ 2 = .list false (nodes.map intC)∧ρ 3 = .fn (.func gY) [] capsY∧ρ 4=pA n2 4∧ρ 5=pA (n2+1) 5)∧H (n2,4)=some ⟨6,[bC false redex]⟩∧H (n2+1,5)=some ⟨6,[bC false agent]⟩∧n0≤n∧(∀ i ∈ ids0,H i=H0 i)∧I sG H E5∧Sep H n ((E5++K0)) ((n2+1,5)::(n2,4)::(W++ids0))) (by refine⟨E1,?_,?_,?_,(by omega),(by intro i hi;have hlt:=h00 i (by simp[hi]);repeat (first | exact hid i hi | rw[Heap.get_set_ne _ _ (by rintro rfl;simp at hlt;omega)])),(hM _ _ _ _ hI (by intro w hw;have hlt:=h00 w (by simp[hw]);repeat (first | rfl | rw[Heap.get_set_ne _ _ (by rintro rfl;simp at hlt;omega)]))),sp.var.var⟩<;>simp[hh]) ?_
 clear hh
 rintro ρ H n6 ⟨E5,hh,m4_2,m5_3,hnn,hid,hI,sp⟩
 have hq_n6:=hnn
 refine zE fun k' hk'=>?_
 obtain⟨len7,elen7,h⟩:=atm h
 have f8:=fun H=>len_list (H:=H) (fr:=false) (f:=intC) kd_24 elen7
 simp[hh,m4_2,m5_3,f8,-lenF]
 apply hk'
 refine Runs.seq ?_
 refine zE fun k' hk'=>?_
 obtain⟨len9,elen9,h⟩:=atm h
 have f10:=fun H=>len_list (H:=H) (fr:=false) (f:=(GNode.cells false)) kd_44 elen9
 obtain⟨c11,ec11,h⟩:=atm h
 have f12:=ib_eql (k:=.i64) ec11
 simp[hh,m4_2,m5_3,f10,f12,-intBin,-lenF]
 apply hk'
 refine Runs.ite (b:=c11) (by simp[hh,m4_2,m5_3]) (fun dc11=>?_) (fun dc11=>?_)
 ·replace h:=h.1 dc11
  refine zE fun k' hk'=>?_
  simp[hh,m4_2,m5_3,dc11]
  apply hk'
  refine Runs.cut (fun ρ H n=>∃ (E14:List OwnE),(ρ 2 = .list false (nodes.map intC)∧ρ 3 = .fn (.func gY) [] capsY∧ρ 4=pA n2 4∧ρ 5=pA (n2+1) 5∧ρ 10=pA n6 10)∧H (n2,4)=some ⟨6,[bC false redex]⟩∧H (n2+1,5)=some ⟨6,[bC false agent]⟩∧H (n6,10)=some ⟨2,[[.list false (nodes.map intC),.v (.slice none 0 0)]]⟩∧n0≤n∧(∀ i ∈ ids0,H i=H0 i)∧I sG H E14∧Sep H n ((E14++K0)) ((n6,10)::(n2+1,5)::(n2,4)::(W++ids0))) (by refine⟨E5,?_,?_,?_,?_,(by omega),(by intro i hi;have hlt:=h00 i (by simp[hi]);repeat (first | exact hid i hi | rw[Heap.get_set_ne _ _ (by rintro rfl;simp at hlt;omega)])),(hM _ _ _ _ hI (by intro w hw;have hlt:=h00 w (by simp[hw]);repeat (first | rfl | rw[Heap.get_set_ne _ _ (by rintro rfl;simp at hlt;omega)]))),sp.var⟩<;>simp[hh,m4_2,m5_3,dc11]) ?_
  clear hh m4_2 m5_3
  rintro ρ H n15 ⟨E14,hh,m4_2,m5_3,m10_12,hnn,hid,hI,sp⟩
  have hq_n15:=hnn
  refine Runs.seq ?_
  refine zE fun k' hk'=>?_
  simp[hh,m4_2,m5_3,m10_12]
  apply hk'
  refine Runs.block ?_
  refine Runs.loopW h (fun (sJ:σ × Int × (List Int)) ρ H n=>match sJ with | (sG28,v29,l30)=>∃ (v31:AVal) (E32:List OwnE),(ρ 2 = .list false (nodes.map intC)∧ρ 3 = .fn (.func gY) [] capsY∧ρ 4=pA n2 4∧ρ 5=pA (n2+1) 5∧ρ 10=pA n6 10∧ρ 27=int redex.roots∧ρ 28=int v29)∧H (n2,4)=some ⟨6,[bC false redex]⟩∧H (n2+1,5)=some ⟨6,[bC false agent]⟩∧H (n6,10)=some ⟨2,[[.list false (nodes.map intC),v31]]⟩∧n0≤n∧(∀ i ∈ ids0,H i=H0 i)∧I sG28 H E32∧Sep H n (oI v31 l30::(E32++K0)) ((n6,10)::(n2+1,5)::(n2,4)::(W++ids0))) (by refine⟨.v (.slice none 0 0),E14,?_,?_,?_,?_,(by omega),(by intro i hi;have hlt:=h00 i (by simp[hi]);repeat (first | exact hid i hi | rw[Heap.get_set_ne _ _ (by rintro rfl;simp at hlt;omega)])),(hM _ _ _ _ hI (by intro w hw;have hlt:=h00 w (by simp[hw]);repeat (first | rfl | rw[Heap.get_set_ne _ _ (by rintro rfl;simp at hlt;omega)]))),(Sep.addNil sp)⟩<;>simp[hh,m4_2,m5_3,m10_12]) ?_
  clear hh m4_2 m5_3 m10_12
  rintro⟨sG28,v29,l30⟩ ρ H n33 K h ⟨v31,E32,hh,m4_2,m5_3,m10_12,hnn,hid,hI,sp⟩ IH34
  have hq_n33:=hnn
  refine zE fun k' hk'=>?_
  obtain⟨c36,ec36,h⟩:=atm h
  have f37:=ib_lss (k:=.i64) ec36
  simp[hh,m4_2,m5_3,m10_12,f37,-intBin]
  apply hk'
  refine Runs.seq ?_
  refine Runs.ite (b:=c36) (by simp[hh,m4_2,m5_3,m10_12]) (fun dc36=>?_) (fun dc36=>?_)
  ·replace h:=h.1 dc36
   refine Runs.skip ?_
   refine Runs.seq ?_
   refine Runs.block ?_
   refine zE fun k' hk'=>?_
   simp[hh,m4_2,m5_3,m10_12,dc36]
   apply hk'
   refine zE fun k' hk'=>?_
   obtain⟨hb38,h⟩:=h
   obtain⟨v39,ev39,h⟩:=atm h
   have f40:=ib_sub hb38 ev39
   obtain⟨hb41,h⟩:=h
   obtain⟨r42,er42,h⟩:=atm h
   simp[hh,m4_2,m5_3,m10_12,f40,dc36,-intBin]
   refine RunK.callW Ty_ok (childrenOf_ok redex v39 hb41) e126 (.cons (argB false redex) (.cons (.v _ _ _) .nil)) sp (by decide) (by decide) rfl (by simp[hh,m4_2,m5_3,m10_12,f40,dc36,-intBin]) ?_
   rintro v43 H44 n45 _ sp rfl hle47 hfr46
   rw[← er42] at sp
   have hI:=hM _ _ _ _ hI (fun w hw=>hfr46 w (by simp[hw]))
   have hid:∀ i ∈ ids0,H44 i=H0 i:=fun i hi=>(hfr46 i (by simp[hi])).trans (hid i hi)
   have hnn:n0≤n45:=by omega
   have hq_n45:=hnn
   have m4_2:H44 (n2,4)=some ⟨6,[bC false redex]⟩:=(hfr46 _ (by simp)).trans (by simp[hh,m4_2,m5_3,m10_12,Heap.get_set])
   have m5_3:H44 (n2+1,5)=some ⟨6,[bC false agent]⟩:=(hfr46 _ (by simp)).trans (by simp[hh,m4_2,m5_3,m10_12,Heap.get_set])
   have m10_12:H44 (n6,10)=some ⟨2,[[.list false (nodes.map intC),v31]]⟩:=(hfr46 _ (by simp)).trans (by simp[hh,m4_2,m5_3,m10_12,Heap.get_set])
   replace sp:=Sep.unpackT sp
   obtain⟨L51,hv,hl52,sp⟩:=sp
   subst hv
   obtain⟨v49,v50,hv⟩:=len2 (by simpa using hl52)
   subst hv
   simp only[zip3,List.cons_append,List.nil_append] at sp
   replace sp:=Sep.rot sp
   try simp only[List.cons_append,List.nil_append,List.append_assoc] at sp
   replace sp:=Sep.rot sp
   try simp only[List.cons_append,List.nil_append,List.append_assoc] at sp
   replace sp:=Sep.lastsE (R:=[oI v31 l30]) (E:=E32) (K0:=K0) (D:=[oI v49 r42.1,oI v50 r42.2]) sp
   replace sp:Sep H44 n45 (oI v49 r42.1::oI v50 r42.2::oI v31 l30::(E32++K0)) ((n6,10)::(n2+1,5)::(n2,4)::(W++ids0)):=sp
   simp[hh,m4_2,m5_3,m10_12,f40,dc36,-intBin]
   apply hk'
   refine Runs.cut (fun ρ H n=>∃ (v55:AVal) (v56:AVal) (E57:List OwnE),(ρ 2 = .list false (nodes.map intC)∧ρ 3 = .fn (.func gY) [] capsY∧ρ 4=pA n2 4∧ρ 5=pA (n2+1) 5∧ρ 10=pA n6 10∧ρ 12=v55∧ρ 27=int redex.roots∧ρ 28=int v29)∧H (n2,4)=some ⟨6,[bC false redex]⟩∧H (n2+1,5)=some ⟨6,[bC false agent]⟩∧H (n6,10)=some ⟨2,[[.list false (nodes.map intC),v56]]⟩∧n0≤n∧(∀ i ∈ ids0,H i=H0 i)∧I sG28 H E57∧Sep H n (oI v55 r42.1::oI v56 l30::(E57++K0)) ((n6,10)::(n2+1,5)::(n2,4)::(W++ids0))) (by refine⟨v49,v31,E32,?_,?_,?_,?_,(by omega),hid,hI,sp.f1.dr⟩<;>simp[hh,m4_2,m5_3,m10_12,f40,dc36,-intBin]) ?_
   clear hh m4_2 m5_3 m10_12
   rintro ρ H n58 ⟨v55,v56,E57,hh,m4_2,m5_3,m10_12,hnn,hid,hI,sp⟩
   have hq_n58:=hnn
   refine Runs.evalDE Ty_ok kindOp_ok draws (by decide) (by kernel_rfl) fun k' hk'=>?_
   obtain⟨hb59,h⟩:=h
   obtain⟨id60,hv,mo61,ln62,ni63⟩:=Sep.openF sp (by simp) hb59
   subst hv
   simp at ni63
   obtain⟨x64,ex64,h⟩:=atm h
   have f65:=fun H (hm:H id60=some ⟨1,r42.1.map intC⟩)=>ix_arr (H:=H) (k:=.i64) (off:=0) (len:=r42.1.length) (g:=r42.1.length) kd_24 hm (by simp) rfl hb59
   have f66:=at_some (q:=0) hb59 ex64 rfl
   obtain⟨hb67,h⟩:=h
   obtain⟨x68,ex68,h⟩:=atm h
   have f69:=fun H=>ix_list (H:=H) (fr:=false) (f:=intC) (k:=.i64) kd_24 (fun _=>rfl) hb67 ex68
   obtain⟨hb70,h⟩:=h
   obtain⟨x71,ex71,h⟩:=atm h
   have f72:=fun H=>ix_list (H:=H) (fr:=false) (f:=(GNode.cells false)) (k:=.i64) kd_44 (fun _=>rfl) hb70 ex71
   obtain⟨hb73,h⟩:=h
   obtain⟨l74,el74,h⟩:=atm h
   simp[hh,m4_2,m5_3,m10_12,mo61,ni63,f65,f66,f69,f72,-indexAddrF,-appendF]
   refine bindD_append [] (oI (.arr id60 r42.1.length 0 r42.1.length) r42.1::(E57++K0)) [[int x71.parent]] [intC x71.parent] sp.f1 kd_24 (by simp) (by simp) (by simp) (by simp[-one1,o1x]) (rows_one (Fill.v _ Fill.nil)) (by simp) (by simpa using hb73) ?_
   rintro v75 H76 n77 sp hfr78 hle79
   replace sp:Sep H76 n77 (oI v75 l74::oI (.arr id60 r42.1.length 0 r42.1.length) r42.1::(E57++K0)) ((n6,10)::(n2+1,5)::(n2,4)::(W++ids0)):=Sep.ap el74 sp
   have hI:=hM _ _ _ _ hI (fun w hw=>hfr78 w (by simp[hw]))
   have hid:∀ i ∈ ids0,H76 i=H0 i:=fun i hi=>(hfr78 i (by simp[hi])).trans (hid i hi)
   have hnn:n0≤n77:=by omega
   have hq_n77:=hnn
   have m4_2:H76 (n2,4)=some ⟨6,[bC false redex]⟩:=(hfr78 _ (by simp)).trans (by simp[hh,m4_2,m5_3,m10_12,mo61,ni63,Heap.get_set])
   have m5_3:H76 (n2+1,5)=some ⟨6,[bC false agent]⟩:=(hfr78 _ (by simp)).trans (by simp[hh,m4_2,m5_3,m10_12,mo61,ni63,Heap.get_set])
   have m10_12:H76 (n6,10)=some ⟨2,[[.list false (nodes.map intC),v56]]⟩:=(hfr78 _ (by simp)).trans (by simp[hh,m4_2,m5_3,m10_12,mo61,ni63,Heap.get_set])
   have f81:=Sep.oc sp
   simp[hh,m4_2,m5_3,m10_12,ni63,f65,f66,f69,f72,f81,-cellsA,-indexAddrF,-one1,cAx,o1x]
   apply hk'
   refine Runs.cut (fun ρ H n=>∃ (v82:AVal) (E83:List OwnE),(ρ 2 = .list false (nodes.map intC)∧ρ 3 = .fn (.func gY) [] capsY∧ρ 4=pA n2 4∧ρ 5=pA (n2+1) 5∧ρ 10=pA n6 10∧ρ 27=int redex.roots∧ρ 28=int v29)∧H (n2,4)=some ⟨6,[bC false redex]⟩∧H (n2+1,5)=some ⟨6,[bC false agent]⟩∧H (n6,10)=some ⟨2,[[.list false (nodes.map intC),v82]]⟩∧n0≤n∧(∀ i ∈ ids0,H i=H0 i)∧I sG28 H E83∧Sep H n (oI v82 l74::(E83++K0)) ((n6,10)::(n2+1,5)::(n2,4)::(W++ids0))) (by refine⟨v75,E57,?_,?_,?_,?_,(by omega),(by intro i hi;have hlt:=h00 i (by simp[hi]);repeat (first | exact hid i hi | rw[Heap.get_set_ne _ _ (by rintro rfl;simp at hlt;omega)])),(hM _ _ _ _ hI (by intro w hw;have hlt:=h00 w (by simp[hw]);repeat (first | rfl | rw[Heap.get_set_ne _ _ (by rintro rfl;simp at hlt;omega)]))),(Sep.dr (Sep.f1 (Sep.setVar (w:=(n6,10)) sp (by simp))))⟩<;>simp[hh,m4_2,m5_3,m10_12,ni63,f65,f66,f69,f72,f81,-cellsA,-indexAddrF,-one1,cAx,o1x]) ?_
   clear hh m4_2 m5_3 m10_12 ni63
   rintro ρ H n84 ⟨v82,E83,hh,m4_2,m5_3,m10_12,hnn,hid,hI,sp⟩
   have hq_n84:=hnn
   refine Runs.inBlock ?_
   refine zF fun k' hk'=>?_
   obtain⟨hb85,h⟩:=h
   obtain⟨v86,ev86,h⟩:=atm h
   have f87:=ib_add hb85 ev86
   simp[hh,m4_2,m5_3,m10_12,f87,-intBin]
   apply hk'
   refine IH34 (sG28,v86,l74) _ _ _ h (by refine⟨v82,E83,?_,?_,?_,?_,(by omega),hid,hI,sp⟩<;>simp[hh,m4_2,m5_3,m10_12])
  replace h:=h.2 dc36
  refine Runs.exit rfl ?_
  refine Runs.seq ?_
  refine zE fun k' hk'=>?_
  obtain⟨hb88,h⟩:=h
  obtain⟨r89,er89,h⟩:=atm h
  simp[hh,m4_2,m5_3,m10_12,dc36]
  refine RunK.callA Ty_ok (isMatch_ok redex agent (Match.mk nodes l30) hb88) e103 (.cons (argB false redex) (.cons (argB false agent) (.cons (ArgOk.agg (.cons (argI false nodes) (.cons (Sep.argOk' sp (old_listF (by simp))) .nil))) .nil))) (by decide) (by decide) rfl (by simp[hh,m4_2,m5_3,m10_12,dc36]) ?_
  rintro _ rfl
  rw[← er89]
  simp[hh,m4_2,m5_3,m10_12,dc36]
  apply hk'
  refine Runs.ite (b:=r89) (by simp[hh,m4_2,m5_3,m10_12,dc36]) (fun dr89=>?_) (fun dr89=>?_)
  ·replace h:=h.1 dr89
   refine zE fun k' hk'=>?_
   obtain⟨hb90,h⟩:=h
   obtain⟨r91,er91,h⟩:=atm h
   simp[hh,m4_2,m5_3,m10_12,dc36,dr89]
   refine RunK.callW Ty_ok (ownMatch_ok (Match.mk nodes l30) hb90) e130 (.cons (ArgOk.agg (.cons (argI false nodes) (.cons (Sep.argOk' sp (old_listF (by simp))) .nil))) .nil) sp (by decide) (by decide) rfl (by simp[hh,m4_2,m5_3,m10_12,dc36,dr89]) ?_
   rintro v92 H93 n94 _ sp rfl hle96 hfr95
   rw[← er91] at sp
   have hI:=hM _ _ _ _ hI (fun w hw=>hfr95 w (by simp[hw]))
   have hid:∀ i ∈ ids0,H93 i=H0 i:=fun i hi=>(hfr95 i (by simp[hi])).trans (hid i hi)
   have hnn:n0≤n94:=by omega
   have hq_n94:=hnn
   have m4_2:H93 (n2,4)=some ⟨6,[bC false redex]⟩:=(hfr95 _ (by simp)).trans (by simp[hh,m4_2,m5_3,m10_12,Heap.get_set])
   have m5_3:H93 (n2+1,5)=some ⟨6,[bC false agent]⟩:=(hfr95 _ (by simp)).trans (by simp[hh,m4_2,m5_3,m10_12,Heap.get_set])
   have m10_12:H93 (n6,10)=some ⟨2,[[.list false (nodes.map intC),v31]]⟩:=(hfr95 _ (by simp)).trans (by simp[hh,m4_2,m5_3,m10_12,Heap.get_set])
   replace sp:=Sep.unpack sp
   obtain⟨L100,hv,hl101,sp⟩:=sp
   subst hv
   obtain⟨v98,v99,hv⟩:=len2 (by simpa using hl101)
   subst hv
   simp only[zip3,List.cons_append,List.nil_append] at sp
   replace sp:=Sep.rot sp
   try simp only[List.cons_append,List.nil_append,List.append_assoc] at sp
   replace sp:=Sep.rot sp
   try simp only[List.cons_append,List.nil_append,List.append_assoc] at sp
   replace sp:=Sep.lastsE (R:=[oI v31 l30]) (E:=E32) (K0:=K0) (D:=[oI v98 r91.nodes,oI v99 r91.roots]) sp
   replace sp:Sep H93 n94 (oI v98 r91.nodes::oI v99 r91.roots::oI v31 l30::(E32++K0)) ((n6,10)::(n2+1,5)::(n2,4)::(W++ids0)):=sp
   obtain⟨hb104,h⟩:=h
   obtain⟨r105,er105,h⟩:=atm h
   have f106:=Sep.oc sp
   have f107:=Sep.oc sp.f1
   simp[hh,m4_2,m5_3,m10_12,f106,f107,dc36,dr89,-cellsA,-one1,cAx,o1x]
   refine RunK.callEff (xsA:=[.agg [v98,v99]]) (ysA:=[.agg [v98,v99]]) (caps:=capsY) (I:=I) (s:=sG28) (M:=[(.a [.s [.c],.s [.c]],.agg [v98,v99],.agg (Match.cells true r91))]) (R:=[oI v31 l30]) (E:=E32) (K0:=K0) (A:=[(n6,10),(n2+1,5),(n2,4)]) (W:=W) (B:=ids0) Ty_ok (hY sG28 r91 (.agg [v98,v99]) hb104.1 hb104.2) (SubL.refl _) hYe hI (apartW (fun w hw=>h00 w (by simp[hw])) hWd (by simp;try omega)) (Sep.pack (Fill.own (Fill.own Fill.nil)) sp) (by decide) (by decide) (by simp[hh,m4_2,m5_3,m10_12,f106,f107,dc36,dr89,-cellsA,-one1,cAx,o1x]) (by simp[hh,m4_2,m5_3,m10_12,f106,f107,dc36,dr89,-cellsA,-one1,cAx,o1x]) ?_
   rintro _ H108 n109 _ E112 ⟨rfl,rfl⟩ hI sp hle111 hfr110
   rw[← er105] at hI
   rw[← er105]
   replace sp:Sep H108 n109 (oI v31 l30::(E112++K0)) ((n6,10)::(n2+1,5)::(n2,4)::(W++ids0)):=sp
   have hid:∀ i ∈ ids0,H108 i=H0 i:=fun i hi=>(hfr110 i (by simp[hi])).trans (hid i hi)
   have hnn:n0≤n109:=by omega
   have hq_n109:=hnn
   have m4_2:H108 (n2,4)=some ⟨6,[bC false redex]⟩:=(hfr110 _ (by simp)).trans (by simp[hh,m4_2,m5_3,m10_12,Heap.get_set])
   have m5_3:H108 (n2+1,5)=some ⟨6,[bC false agent]⟩:=(hfr110 _ (by simp)).trans (by simp[hh,m4_2,m5_3,m10_12,Heap.get_set])
   have m10_12:H108 (n6,10)=some ⟨2,[[.list false (nodes.map intC),v31]]⟩:=(hfr110 _ (by simp)).trans (by simp[hh,m4_2,m5_3,m10_12,Heap.get_set])
   simp[hh,m4_2,m5_3,m10_12,f106,f107,dc36,dr89,-cellsA,-one1,cAx,o1x]
   apply hk'
   refine Runs.cut (fun ρ H n=>∃ (E114:List OwnE),ρ 8=bool r105.2∧n0≤n∧(∀ i ∈ ids0,H i=H0 i)∧I r105.1 H E114∧Sep H n ((E114++K0)) ((W++ids0))) (by refine⟨E112,?_,(by omega),hid,hI,(Sep.sub sp.dr (by simp +contextual))⟩<;>simp[hh,m4_2,m5_3,m10_12,f106,f107,dc36,dr89,-cellsA,-one1,cAx,o1x]) ?_
   clear hh m4_2 m5_3 m10_12
   rintro ρ H n115 ⟨E114,hh,hnn,hid,hI,sp⟩
   have hq_n115:=hnn
   exact Runs.ret1 (v:=bool r105.2) Tryz.func75 Tryz.results75 (by simp[hh]) (hQ _ _ _ r105.1 E114 hI (Sep.sub sp (by simp +contextual)) hid (by omega) ⟨r105.2,h,rfl⟩)
  replace h:=h.2 dr89
  refine Runs.skip ?_
  refine zE fun k' hk'=>?_
  simp[hh,m4_2,m5_3,m10_12,dc36,dr89]
  apply hk'
  exact Runs.ret1 (v:=bool true) Tryz.func75 Tryz.results75 (by simp[hh,m4_2,m5_3,m10_12,dc36,dr89]) (hQ _ _ _ sG28 E32 hI (Sep.sub sp.dr (by simp +contextual)) hid (by omega) ⟨true,h,rfl⟩)
 replace h:=h.2 dc11
 refine Runs.skip ?_
 refine zE fun k' hk'=>?_
 obtain⟨hb116,h⟩:=h
 obtain⟨x117,ex117,h⟩:=atm h
 have f118:=fun H=>ix_list (H:=H) (fr:=false) (f:=(GNode.cells false)) (k:=.i64) kd_44 (fun _=>rfl) hb116 ex117
 simp[hh,m4_2,m5_3,f118,dc11,-indexAddrF]
 apply hk'
 refine Runs.cut (fun ρ H n=>∃ (E120:List OwnE),(ρ 2 = .list false (nodes.map intC)∧ρ 3 = .fn (.func gY) [] capsY∧ρ 4=pA n2 4∧ρ 5=pA (n2+1) 5∧ρ 14=pA n6 14)∧H (n2,4)=some ⟨6,[bC false redex]⟩∧H (n2+1,5)=some ⟨6,[bC false agent]⟩∧H (n6,14)=some ⟨3,[[int x117.control,int x117.parent,.list false (x117.links.map intC)]]⟩∧n0≤n∧(∀ i ∈ ids0,H i=H0 i)∧I sG H E120∧Sep H n ((E120++K0)) ((n6,14)::(n2+1,5)::(n2,4)::(W++ids0))) (by refine⟨E5,?_,?_,?_,?_,(by omega),(by intro i hi;have hlt:=h00 i (by simp[hi]);repeat (first | exact hid i hi | rw[Heap.get_set_ne _ _ (by rintro rfl;simp at hlt;omega)])),(hM _ _ _ _ hI (by intro w hw;have hlt:=h00 w (by simp[hw]);repeat (first | rfl | rw[Heap.get_set_ne _ _ (by rintro rfl;simp at hlt;omega)]))),sp.var⟩<;>simp[hh,m4_2,m5_3,f118,dc11,-indexAddrF]) ?_
 clear hh m4_2 m5_3
 rintro ρ H n121 ⟨E120,hh,m4_2,m5_3,m14_118,hnn,hid,hI,sp⟩
 have hq_n121:=hnn
 refine Runs.seq ?_
 refine zE fun k' hk'=>?_
 obtain⟨len122,elen122,h⟩:=atm h
 have f123:=fun H=>len_list (H:=H) (fr:=false) (f:=(GNode.cells false)) kd_44 elen122
 simp[hh,m4_2,m5_3,m14_118,f123,-lenF]
 apply hk'
 refine Runs.block ?_
 refine Runs.loopW h (fun (sJ:σ × Int) ρ H n=>match sJ with | (sG128,v129)=>∃ (E130:List OwnE),(ρ 2 = .list false (nodes.map intC)∧ρ 3 = .fn (.func gY) [] capsY∧ρ 4=pA n2 4∧ρ 5=pA (n2+1) 5∧ρ 14=pA n6 14∧ρ 69 = .list false (agent.nodes.map (GNode.cells false))∧ρ 70=int len122∧ρ 71=int v129)∧H (n2,4)=some ⟨6,[bC false redex]⟩∧H (n2+1,5)=some ⟨6,[bC false agent]⟩∧H (n6,14)=some ⟨3,[[int x117.control,int x117.parent,.list false (x117.links.map intC)]]⟩∧n0≤n∧(∀ i ∈ ids0,H i=H0 i)∧I sG128 H E130∧Sep H n ((E130++K0)) ((n6,14)::(n2+1,5)::(n2,4)::(W++ids0))) (by refine⟨E120,?_,?_,?_,?_,(by omega),hid,hI,sp⟩<;>simp[hh,m4_2,m5_3,m14_118]) ?_
 clear hh m4_2 m5_3 m14_118
 rintro⟨sG128,v129⟩ ρ H n131 K h ⟨E130,hh,m4_2,m5_3,m14_118,hnn,hid,hI,sp⟩ IH132
 have hq_n131:=hnn
 refine zE fun k' hk'=>?_
 obtain⟨c134,ec134,h⟩:=atm h
 have f135:=ib_lss (k:=.i64) ec134
 simp[hh,m4_2,m5_3,m14_118,f135,-intBin]
 apply hk'
 refine Runs.seq ?_
 refine Runs.ite (b:=c134) (by simp[hh,m4_2,m5_3,m14_118]) (fun dc134=>?_) (fun dc134=>?_)
 ·replace h:=h.1 dc134
  refine Runs.skip ?_
  refine Runs.seq ?_
  refine Runs.block ?_
  refine zE fun k' hk'=>?_
  obtain⟨hb136,h⟩:=h
  obtain⟨x137,ex137,h⟩:=atm h
  have f138:=fun H=>ix_list (H:=H) (fr:=false) (f:=(GNode.cells false)) (k:=.i64) kd_44 (fun _=>rfl) hb136 ex137
  simp[hh,m4_2,m5_3,m14_118,f138,dc134,-indexAddrF]
  apply hk'
  refine Runs.cut (fun ρ H n=>∃ (E140:List OwnE),(ρ 2 = .list false (nodes.map intC)∧ρ 3 = .fn (.func gY) [] capsY∧ρ 4=pA n2 4∧ρ 5=pA (n2+1) 5∧ρ 14=pA n6 14∧ρ 15=int v129∧ρ 16=pA n131 16∧ρ 69 = .list false (agent.nodes.map (GNode.cells false))∧ρ 70=int len122∧ρ 71=int v129)∧H (n2,4)=some ⟨6,[bC false redex]⟩∧H (n2+1,5)=some ⟨6,[bC false agent]⟩∧H (n6,14)=some ⟨3,[[int x117.control,int x117.parent,.list false (x117.links.map intC)]]⟩∧H (n131,16)=some ⟨3,[[int x137.control,int x137.parent,.list false (x137.links.map intC)]]⟩∧n0≤n∧(∀ i ∈ ids0,H i=H0 i)∧I sG128 H E140∧Sep H n ((E140++K0)) ((n131,16)::(n6,14)::(n2+1,5)::(n2,4)::(W++ids0))) (by refine⟨E130,?_,?_,?_,?_,?_,(by omega),(by intro i hi;have hlt:=h00 i (by simp[hi]);repeat (first | exact hid i hi | rw[Heap.get_set_ne _ _ (by rintro rfl;simp at hlt;omega)])),(hM _ _ _ _ hI (by intro w hw;have hlt:=h00 w (by simp[hw]);repeat (first | rfl | rw[Heap.get_set_ne _ _ (by rintro rfl;simp at hlt;omega)]))),sp.var⟩<;>simp[hh,m4_2,m5_3,m14_118,f138,dc134,-indexAddrF]) ?_
  clear hh m4_2 m5_3 m14_118
  rintro ρ H n141 ⟨E140,hh,m4_2,m5_3,m14_118,m16_138,hnn,hid,hI,sp⟩
  have hq_n141:=hnn
  refine Runs.seq ?_
  refine Runs.seqD Ty_ok kindOp_ok draws (by decide) (by kernel_rfl) fun k' hk'=>?_
  obtain⟨J142,hJ143,hr144⟩:=h
  have fin147:∀ (sJ:Bool) (ρ:Env) (H:Heap) (n:Nat),J142 sJ→(match sJ with | b145=>∃ (E146:List OwnE),(ρ 2 = .list false (nodes.map intC)∧ρ 3 = .fn (.func gY) [] capsY∧ρ 4=pA n2 4∧ρ 5=pA (n2+1) 5∧ρ 14=pA n6 14∧ρ 15=int v129∧ρ 69 = .list false (agent.nodes.map (GNode.cells false))∧ρ 70=int len122∧ρ 71=int v129∧ρ 100=bool b145)∧H (n2,4)=some ⟨6,[bC false redex]⟩∧H (n2+1,5)=some ⟨6,[bC false agent]⟩∧H (n6,14)=some ⟨3,[[int x117.control,int x117.parent,.list false (x117.links.map intC)]]⟩∧n0≤n∧(∀ i ∈ ids0,H i=H0 i)∧I sG128 H E146∧Sep H n ((E146++K0)) ((n6,14)::(n2+1,5)::(n2,4)::(W++ids0)))→Runs Tryz.prog 75 112 k' ρ H n Q:=by
   rintro b145 ρ H n148 h ⟨E146,hh,m4_2,m5_3,m14_118,hnn,hid,hI,sp⟩
   have hq_n148:=hnn
   replace h:=hr144 _ h
   apply hk'
   refine Runs.ite (b:=b145) (by simp[hh,m4_2,m5_3,m14_118]) (fun db145=>?_) (fun db145=>?_)
   ·replace h:=h.1 db145
    refine Runs.exit rfl ?_
    refine zF fun k' hk'=>?_
    obtain⟨hb149,h⟩:=h
    obtain⟨v150,ev150,h⟩:=atm h
    have f151:=ib_add hb149 ev150
    simp[hh,m4_2,m5_3,m14_118,f151,db145,-intBin]
    apply hk'
    refine IH132 (sG128,v150) _ _ _ h (by refine⟨E146,?_,?_,?_,?_,(by omega),hid,hI,sp⟩<;>simp[hh,m4_2,m5_3,m14_118,db145])
   replace h:=h.2 db145
   refine Runs.skip ?_
   refine Runs.cut (fun ρ H n=>∃ (E152:List OwnE),(ρ 2 = .list false (nodes.map intC)∧ρ 3 = .fn (.func gY) [] capsY∧ρ 4=pA n2 4∧ρ 5=pA (n2+1) 5∧ρ 14=pA n6 14∧ρ 15=int v129∧ρ 69 = .list false (agent.nodes.map (GNode.cells false))∧ρ 70=int len122∧ρ 71=int v129)∧H (n2,4)=some ⟨6,[bC false redex]⟩∧H (n2+1,5)=some ⟨6,[bC false agent]⟩∧H (n6,14)=some ⟨3,[[int x117.control,int x117.parent,.list false (x117.links.map intC)]]⟩∧n0≤n∧(∀ i ∈ ids0,H i=H0 i)∧I sG128 H E152∧Sep H n ((E152++K0)) ((n6,14)::(n2+1,5)::(n2,4)::(W++ids0))) (by refine⟨E146,?_,?_,?_,?_,(by omega),hid,hI,sp⟩<;>simp[hh,m4_2,m5_3,m14_118,db145]) ?_
   clear hh m4_2 m5_3 m14_118
   rintro ρ H n153 ⟨E152,hh,m4_2,m5_3,m14_118,hnn,hid,hI,sp⟩
   have hq_n153:=hnn
   obtain⟨hb154,h⟩:=h
   obtain⟨l155,el155,h⟩:=atm h
   obtain⟨hb156,h⟩:=h
   obtain⟨r157,er157,h⟩:=atm h
   refine Runs.seqC (fun H n=>H (n2,4)=some ⟨6,[bC false redex]⟩∧H (n2+1,5)=some ⟨6,[bC false agent]⟩∧H (n6,14)=some ⟨3,[[int x117.control,int x117.parent,.list false (x117.links.map intC)]]⟩∧Sep H n ((E152++K0)) ((n6,14)::(n2+1,5)::(n2,4)::(W++ids0))) [8,9] (.free 0 (.free 1 (.free 2 (.free 3 (.free 4 (.free 5 (.free 6 (.free 7 (.hard 8 (.hard 9 (.fin) (.stop)) (.stop)))))))))) (fun ρ H n=>∃ (E158:List OwnE),(ρ 2 = .list false (nodes.map intC)∧ρ 3 = .fn (.func gY) [] capsY∧ρ 4=pA n2 4∧ρ 5=pA (n2+1) 5∧ρ 14=pA n6 14∧ρ 69 = .list false (agent.nodes.map (GNode.cells false))∧ρ 70=int len122∧ρ 71=int v129∧ρ 110=bool (!r157.2))∧H (n2,4)=some ⟨6,[bC false redex]⟩∧H (n2+1,5)=some ⟨6,[bC false agent]⟩∧H (n6,14)=some ⟨3,[[int x117.control,int x117.parent,.list false (x117.links.map intC)]]⟩∧n0≤n∧(∀ i ∈ ids0,H i=H0 i)∧I r157.1 H E158∧Sep H n ((E158++K0)) ((n6,14)::(n2+1,5)::(n2,4)::(W++ids0))) draws (by decide) (by kernel_rfl) ?_ ?_
   ·refine RunT.free (.agg (bC false redex)) rfl rfl ⟨m4_2,m5_3,m14_118,sp⟩ (fun H n hS=>by obtain⟨m4_2,m5_3,m14_118,sp⟩:=hS;exact (by exact stepF_ok Ty_ok (by rw[stepF_loc];simp[hh,m4_2,m5_3,m14_118]))) ?_
    refine RunT.free (.agg (bC false agent)) rfl rfl ⟨m4_2,m5_3,m14_118,sp⟩ (fun H n hS=>by obtain⟨m4_2,m5_3,m14_118,sp⟩:=hS;exact (by exact stepF_ok Ty_ok (by rw[stepF_loc];simp[hh,m4_2,m5_3,m14_118]))) ?_
    refine RunT.free (.list false (nodes.map intC)) rfl rfl ⟨m4_2,m5_3,m14_118,sp⟩ (fun H n hS=>by obtain⟨m4_2,m5_3,m14_118,sp⟩:=hS;exact (by exact stepF_ok Ty_ok (by rw[stepF_loc];simp[hh,m4_2,m5_3,m14_118]))) ?_
    refine RunT.free (.clip false (nodes.map intV)) rfl rfl ⟨m4_2,m5_3,m14_118,sp⟩ (fun H n hS=>by obtain⟨m4_2,m5_3,m14_118,sp⟩:=hS;exact (OpSem.stillD (clipI_ok false nodes _ _) e132 (by simp[hh,m4_2,m5_3,m14_118]) (by simp[hh,m4_2,m5_3,m14_118]))) ?_
    refine RunT.free (int v129) rfl rfl ⟨m4_2,m5_3,m14_118,sp⟩ (fun H n hS=>by obtain⟨m4_2,m5_3,m14_118,sp⟩:=hS;exact (by exact stepF_ok Ty_ok (by rw[stepF_loc];simp[hh,m4_2,m5_3,m14_118]))) ?_
    refine RunT.free (.list true ([v129].map intC)) rfl rfl ⟨m4_2,m5_3,m14_118,sp⟩ (fun H n hS=>by obtain⟨m4_2,m5_3,m14_118,sp⟩:=hS;exact (by exact stepF_ok Ty_ok (by rw[stepF_loc];simp[hh,m4_2,m5_3,m14_118]))) ?_
    refine RunT.free (.list true (l155.map intC)) rfl rfl ⟨m4_2,m5_3,m14_118,sp⟩ (fun H n hS=>by obtain⟨m4_2,m5_3,m14_118,sp⟩:=hS;exact (by rw[el155];exact OpSem.appendD (t':=true) (fr:=false) (l:=nodes) (m:=[v129]) Ty_ok kd_24 ⟨rfl,rfl,by decide⟩ (by simp[hh,m4_2,m5_3,m14_118]) (by simp[hh,m4_2,m5_3,m14_118]) (by simp) (by simpa using hb154))) ?_
    refine RunT.free (.fn (.func gY) [] capsY) rfl rfl ⟨m4_2,m5_3,m14_118,sp⟩ (fun H n hS=>by obtain⟨m4_2,m5_3,m14_118,sp⟩:=hS;exact (by exact stepF_ok Ty_ok (by rw[stepF_loc];simp[hh,m4_2,m5_3,m14_118]))) ?_
    refine⟨?_,trivial⟩
    refine RunT.callEff (xsA:=[.agg (bC false redex),.agg (bC false agent),.list true (l155.map intC),.fn (.func gY) [] capsY]) (ysA:=[.agg (bC false redex),.agg (bC false agent),.list false (l155.map intC),.fn (.func gY) [] capsY]) (caps:=[]) (I:=I) (s:=sG128) (M:=[]) (R':=[]) (E:=E152) (K0:=K0) (A:=[(n6,14),(n2+1,5),(n2,4)]) (W:=W) (B:=ids0) rfl rfl (ih redex agent l155 sG128 hb156.1 hb156.2) (.cons (Sub.refl _) (.cons (Sub.refl _) (.cons (Sub.old _) (.cons (Sub.refl _) .nil)))) e75 hI (apartW (fun w hw=>h00 w (by simp[hw])) hWd (by simp;try omega)) sp (by simp[hh,m4_2,m5_3,m14_118]) (by simp[hh,m4_2,m5_3,m14_118]) ?_
    rintro _ H160 n161 _ E165 ⟨rfl,rfl⟩ hI sp hle163 hfr162
    rw[← er157] at hI
    rw[← er157]
    replace sp:Sep H160 n161 ((E165++K0)) ((n6,14)::(n2+1,5)::(n2,4)::(W++ids0)):=sp
    have hid:∀ i ∈ ids0,H160 i=H0 i:=fun i hi=>(hfr162 i (by simp[hi])).trans (hid i hi)
    have hnn:n0≤n161:=by omega
    have hq_n161:=hnn
    have m4_2:H160 (n2,4)=some ⟨6,[bC false redex]⟩:=(hfr162 _ (by simp)).trans (by simp[hh,m4_2,m5_3,m14_118,Heap.get_set])
    have m5_3:H160 (n2+1,5)=some ⟨6,[bC false agent]⟩:=(hfr162 _ (by simp)).trans (by simp[hh,m4_2,m5_3,m14_118,Heap.get_set])
    have m14_118:H160 (n6,14)=some ⟨3,[[int x117.control,int x117.parent,.list false (x117.links.map intC)]]⟩:=(hfr162 _ (by simp)).trans (by simp[hh,m4_2,m5_3,m14_118,Heap.get_set])
    refine⟨(fun hl=>absurd (hl.symm.trans (show lateC _ _ _=true by kernel_rfl)) (by decide)),?_⟩
    refine⟨?_,trivial⟩
    refine RunT.same (v:=(bool (!r157.2))) Ty_ok rfl rfl (by simp[hh,m4_2,m5_3,m14_118]) (fun hl=>absurd (hl.symm.trans (show lateC _ _ _=true by kernel_rfl)) (by decide)) ?_
    refine RunT.fin (by refine⟨E165,?_,?_,?_,?_,(by omega),hid,hI,sp⟩<;>simp[hh,m4_2,m5_3,m14_118])
   clear hh m4_2 m5_3 m14_118
   rintro ρ H n159 ⟨E158,hh,m4_2,m5_3,m14_118,hnn,hid,hI,sp⟩
   have hq_n159:=hnn
   refine Runs.ite (b:=(!r157.2)) (by simp[hh,m4_2,m5_3,m14_118]) (fun dr157_2=>?_) (fun dr157_2=>?_)
   ·have dr157_2:r157.2=false:=by simpa using dr157_2
    replace h:=h.2 dr157_2
    refine zE fun k' hk'=>?_
    simp[hh,m4_2,m5_3,m14_118,dr157_2]
    apply hk'
    exact Runs.ret1 (v:=bool false) Tryz.func75 Tryz.results75 (by simp[hh,m4_2,m5_3,m14_118,dr157_2]) (hQ _ _ _ r157.1 E158 hI (Sep.sub sp (by simp +contextual)) hid (by omega) ⟨false,h,rfl⟩)
   have dr157_2:r157.2=true:=by simpa using dr157_2
   replace h:=h.1 dr157_2
   refine Runs.skip ?_
   refine Runs.inBlock ?_
   refine zF fun k' hk'=>?_
   obtain⟨hb173,h⟩:=h
   obtain⟨v174,ev174,h⟩:=atm h
   have f175:=ib_add hb173 ev174
   simp[hh,m4_2,m5_3,m14_118,f175,dr157_2,-intBin]
   apply hk'
   refine IH132 (r157.1,v174) _ _ _ h (by refine⟨E158,?_,?_,?_,?_,(by omega),hid,hI,sp⟩<;>simp[hh,m4_2,m5_3,m14_118,dr157_2])
  replace h:=hJ143
  obtain⟨c176,ec176,h⟩:=atm h
  have f177:=ib_neq (k:=.i64) ec176
  rcases Bool.eq_false_or_eq_true c176 with dc176 | dc176
  ·replace h:=h.1 dc176
   simp[hh,m4_2,m5_3,m14_118,m16_138,f177,dc176,-intBin]
   exact fin147 (true) _ _ _ h (by refine⟨E140,?_,?_,?_,?_,(by omega),hid,hI,(Sep.sub sp (by simp +contextual))⟩<;>simp[hh,m4_2,m5_3,m14_118,m16_138,f177,dc176,-intBin])
  replace h:=h.2 dc176
  obtain⟨hb178,h⟩:=h
  obtain⟨r179,er179,h⟩:=atm h
  simp[hh,m4_2,m5_3,m14_118,m16_138,f177,dc176,-intBin]
  refine RunDK.callA Ty_ok kindOp_ok (hasI_ok nodes v129 hb178) e131 (.cons (argI false nodes) (.cons (.v _ _ _) .nil)) (by decide) rfl (by simp[hh,m4_2,m5_3,m14_118,m16_138,f177,dc176,-intBin]) ?_
  rw[← er179]
  rcases Bool.eq_false_or_eq_true r179 with dr179 | dr179
  ·replace h:=h.1 dr179
   simp[hh,m4_2,m5_3,m14_118,m16_138,f177,dc176,dr179,-intBin]
   exact fin147 (true) _ _ _ h (by refine⟨E140,?_,?_,?_,?_,(by omega),hid,hI,(Sep.sub sp (by simp +contextual))⟩<;>simp[hh,m4_2,m5_3,m14_118,m16_138,f177,dc176,dr179,-intBin])
  replace h:=h.2 dr179
  obtain⟨c180,ec180,h⟩:=atm h
  have f181:=ib_geq (k:=.i64) ec180
  rcases Bool.eq_false_or_eq_true c180 with dc180 | dc180
  ·replace h:=h.1 dc180
   obtain⟨hb182,h⟩:=h
   obtain⟨x183,ex183,h⟩:=atm h
   have f184:=fun H=>ix_list (H:=H) (fr:=false) (f:=intC) (k:=.i64) kd_24 (fun _=>rfl) hb182 ex183
   obtain⟨c185,ec185,h⟩:=atm h
   have f186:=ib_neq (k:=.i64) ec185
   simp[hh,m4_2,m5_3,m14_118,m16_138,f177,f181,f184,f186,dc176,dr179,dc180,-indexAddrF,-intBin]
   exact fin147 (c185) _ _ _ h (by refine⟨E140,?_,?_,?_,?_,(by omega),hid,hI,(Sep.sub sp (by simp +contextual))⟩<;>simp[hh,m4_2,m5_3,m14_118,m16_138,f177,f181,f184,f186,dc176,dr179,dc180,-indexAddrF,-intBin])
  replace h:=h.2 dc180
  simp[hh,m4_2,m5_3,m14_118,m16_138,f177,f181,dc176,dr179,dc180,-intBin]
  exact fin147 (false) _ _ _ h (by refine⟨E140,?_,?_,?_,?_,(by omega),hid,hI,(Sep.sub sp (by simp +contextual))⟩<;>simp[hh,m4_2,m5_3,m14_118,m16_138,f177,f181,dc176,dr179,dc180,-intBin])
 replace h:=h.2 dc134
 refine Runs.exit rfl ?_
 refine zE fun k' hk'=>?_
 simp[hh,m4_2,m5_3,m14_118,dc134]
 apply hk'
 exact Runs.ret1 (v:=bool true) Tryz.func75 Tryz.results75 (by simp[hh,m4_2,m5_3,m14_118,dc134]) (hQ _ _ _ sG128 E130 hI (Sep.sub sp (by simp +contextual)) hid (by omega) ⟨true,h,rfl⟩)
theorem matchesY_okm {σ:Type} (step:σ→Match→σ × Bool) (G:σ→Prop) {gY:FuncId} {capsY:List AVal} {W:List Id} {I:σ→Heap→List OwnE→Prop} (hYe:Ent Tryz.prog gY) (hM:FrameI W I) (hY:∀ s m v,G s→MZ m→EffT Tryz.prog gY ([v]++capsY) W I s [(.a [.s [.c],.s [.c]],v,.agg (Match.cells true m))] (fun s' r=>s'=(step s m).1∧r=bool (step s m).2)) (m:Nat):∀ (redex:Big) (agent:Big) (nodes:List Int) (sG:σ),matchesY_ms redex agent nodes=m→matchesY_pre step G redex agent nodes sG→EffT Tryz.prog 75 [.agg (bC false redex),.agg (bC false agent),.list false (nodes.map intC),.fn (.func gY) [] capsY] W I sG [] (fun s' r=>s'=(matchesY step redex agent nodes sG).1∧r=bool ((matchesY step redex agent nodes sG).2)):=by
 induction m using Nat.strongRecOn with
 | _ m ih=>
  rintro redex agent nodes sG rfl hp
  exact (matchesY_walk step G hYe hM hY redex agent nodes sG _ (fun redexr agentr nodesr sGr hp' hl=>ih _ hl redexr agentr nodesr sGr rfl hp') (matchesY_vc step G redex agent nodes sG hp)).mono (by rintro _ _ ⟨y,hz,rfl⟩;rw[← hz];exact⟨rfl,rfl⟩)
theorem matchesY_ok {σ:Type} (step:σ→Match→σ × Bool) (G:σ→Prop) {gY:FuncId} {capsY:List AVal} {W:List Id} {I:σ→Heap→List OwnE→Prop} (hYe:Ent Tryz.prog gY) (hM:FrameI W I) (hY:∀ s m v,G s→MZ m→EffT Tryz.prog gY ([v]++capsY) W I s [(.a [.s [.c],.s [.c]],v,.agg (Match.cells true m))] (fun s' r=>s'=(step s m).1∧r=bool (step s m).2)) (redex:Big) (agent:Big) (nodes:List Int) (sG:σ) (hp:matchesY_pre step G redex agent nodes sG):EffT Tryz.prog 75 [.agg (bC false redex),.agg (bC false agent),.list false (nodes.map intC),.fn (.func gY) [] capsY] W I sG [] (fun s' r=>s'=(matchesY step redex agent nodes sG).1∧r=bool ((matchesY step redex agent nodes sG).2)):=matchesY_okm step G hYe hM hY _ redex agent nodes sG rfl hp
theorem e113:Ent Tryz.prog 113:=Ent.of Tryz.func113 (by kernel_rfl) rfl
theorem l8Roots_walk (redex:Big) (agent:Big) (nodes:List Int) (Z:(List Int)→Prop) (h:l8Roots_wp redex agent nodes Z):OwnS Tryz.prog 113 [.agg (bC false redex),.agg (bC false agent),.list false (nodes.map intC)] (.s [.c]) (fun r=>∃ y:List Int,Z y∧r = .list true (y.map intC)):=by
 unfold l8Roots_wp at h
 have sp:Sep noHeap 0 [] []:=Sep.nil (by simp)
 refine OwnS.of Tryz.func113 rfl Tryz.ntmps113 (by simp) fun Q hQ=>?_
 refine Runs.cut (fun ρ H n=>(ρ 0 = .agg (bC false redex)∧ρ 1 = .agg (bC false agent)∧ρ 2 = .list false (nodes.map intC))∧Sep H n [] []) (by refine⟨?_,sp⟩<;>simp ) ?_
 rintro ρ H n1 ⟨hh,sp⟩
 refine zE fun k' hk'=>?_
 simp[hh]
 apply hk'
 refine Runs.cut (fun ρ H n=>(ρ 2 = .list false (nodes.map intC)∧ρ 3=pA n1 3∧ρ 4=pA (n1+1) 4)∧H (n1,3)=some ⟨6,[bC false redex]⟩∧H (n1+1,4)=some ⟨6,[bC false agent]⟩∧Sep H n [] [(n1+1,4),(n1,3)]) (by refine⟨?_,?_,?_,sp.var.var⟩<;>simp[hh]) ?_
 clear hh
 rintro ρ H n4 ⟨hh,m3_1,m4_2,sp⟩
 refine zE fun k' hk'=>?_
 simp[hh,m3_1,m4_2]
 apply hk'
 refine Runs.cut (fun ρ H n=>∃ (v6:AVal),(ρ 2 = .list false (nodes.map intC)∧ρ 3=pA n1 3∧ρ 4=pA (n1+1) 4∧ρ 7=v6)∧H (n1,3)=some ⟨6,[bC false redex]⟩∧H (n1+1,4)=some ⟨6,[bC false agent]⟩∧Sep H n [oI v6 ([]:List Int)] [(n1+1,4),(n1,3)]) (by refine⟨.arr (n4,9) 0 0 0,?_,?_,?_,(Sep.addEmpty (l:=[.c]) sp)⟩<;>simp[hh,m3_1,m4_2]) ?_
 clear hh m3_1 m4_2
 rintro ρ H n7 ⟨v6,hh,m3_1,m4_2,sp⟩
 refine Runs.seq ?_
 refine zE fun k' hk'=>?_
 simp[hh,m3_1,m4_2]
 apply hk'
 refine Runs.block ?_
 refine Runs.loopW h (fun (sJ:Int × (List Int)) ρ H n=>match sJ with | (r15,l16)=>∃ (v17:AVal),(ρ 2 = .list false (nodes.map intC)∧ρ 3=pA n1 3∧ρ 4=pA (n1+1) 4∧ρ 7=v17∧ρ 8=int r15)∧H (n1,3)=some ⟨6,[bC false redex]⟩∧H (n1+1,4)=some ⟨6,[bC false agent]⟩∧Sep H n [oI v17 l16] [(n1+1,4),(n1,3)]) (by refine⟨v6,?_,?_,?_,sp⟩<;>simp[hh,m3_1,m4_2]) ?_
 clear hh m3_1 m4_2
 rintro⟨r15,l16⟩ ρ H n18 K h ⟨v17,hh,m3_1,m4_2,sp⟩ IH19
 refine Runs.seq ?_
 refine zE fun k' hk'=>?_
 obtain⟨c21,ec21,h⟩:=atm h
 have f22:=ib_lss (k:=.i64) ec21
 simp[hh,m3_1,m4_2,f22,-intBin]
 apply hk'
 refine Runs.ite (b:=c21) (by simp[hh,m3_1,m4_2]) (fun dc21=>?_) (fun dc21=>?_)
 ·replace h:=h.1 dc21
  refine Runs.skip ?_
  refine Runs.seq ?_
  refine Runs.block ?_
  refine Runs.evalDE Ty_ok kindOp_ok draws (by decide) (by kernel_rfl) fun k' hk'=>?_
  obtain⟨hb23,h⟩:=h
  obtain⟨v24,ev24,h⟩:=atm h
  have f25:=ib_sub hb23 ev24
  obtain⟨hb26,h⟩:=h
  obtain⟨r27,er27,h⟩:=atm h
  simp[hh,m3_1,m4_2,f25,dc21,-intBin]
  refine RunDK.callA Ty_ok kindOp_ok ((l2Kids_ok redex v24 hb26).pure) e160 (.cons (argB false redex) (.cons (.v _ _ _) .nil)) (by decide) rfl (by simp[hh,m3_1,m4_2,f25,dc21,-intBin]) ?_
  rw[← er27]
  obtain⟨hb28,h⟩:=h
  obtain⟨x29,ex29,h⟩:=atm h
  have f30:=fun H=>ix_list (H:=H) (fr:=true) (f:=intC) (k:=.i64) kd_24 (fun _=>rfl) hb28 ex29
  obtain⟨hb31,h⟩:=h
  obtain⟨x32,ex32,h⟩:=atm h
  have f33:=fun H=>ix_list (H:=H) (fr:=false) (f:=intC) (k:=.i64) kd_24 (fun _=>rfl) hb31 ex32
  obtain⟨hb34,h⟩:=h
  obtain⟨x35,ex35,h⟩:=atm h
  have f36:=fun H=>ix_list (H:=H) (fr:=false) (f:=(GNode.cells false)) (k:=.i64) kd_44 (fun _=>rfl) hb34 ex35
  obtain⟨hb37,h⟩:=h
  obtain⟨l38,el38,h⟩:=atm h
  simp[hh,m3_1,m4_2,f25,f30,f33,f36,dc21,-indexAddrF,-intBin,-appendF]
  refine bindD_append [] [] [[int x35.parent]] [intC x35.parent] sp kd_24 (by simp) (by simp) (by simp) (by simp[-one1,o1x]) (rows_one (Fill.v _ Fill.nil)) (by simp) (by simpa using hb37) ?_
  rintro v39 H40 n41 sp hfr42 hle43
  replace sp:Sep H40 n41 [oI v39 l38] [(n1+1,4),(n1,3)]:=Sep.ap el38 sp
  have m3_1:H40 (n1,3)=some ⟨6,[bC false redex]⟩:=(hfr42 _ (by simp)).trans (by simp[hh,m3_1,m4_2,Heap.get_set])
  have m4_2:H40 (n1+1,4)=some ⟨6,[bC false agent]⟩:=(hfr42 _ (by simp)).trans (by simp[hh,m3_1,m4_2,Heap.get_set])
  simp[hh,m3_1,m4_2,f25,f30,f33,f36,dc21,-indexAddrF,-intBin]
  apply hk'
  refine Runs.cut (fun ρ H n=>∃ (v45:AVal),(ρ 2 = .list false (nodes.map intC)∧ρ 3=pA n1 3∧ρ 4=pA (n1+1) 4∧ρ 7=v45∧ρ 8=int r15)∧H (n1,3)=some ⟨6,[bC false redex]⟩∧H (n1+1,4)=some ⟨6,[bC false agent]⟩∧Sep H n [oI v45 l38] [(n1+1,4),(n1,3)]) (by refine⟨v39,?_,?_,?_,sp⟩<;>simp[hh,m3_1,m4_2,f25,f30,f33,f36,dc21,-indexAddrF,-intBin]) ?_
  clear hh m3_1 m4_2
  rintro ρ H n46 ⟨v45,hh,m3_1,m4_2,sp⟩
  refine Runs.inBlock ?_
  refine zF fun k' hk'=>?_
  obtain⟨hb47,h⟩:=h
  obtain⟨v48,ev48,h⟩:=atm h
  have f49:=ib_add hb47 ev48
  simp[hh,m3_1,m4_2,f49,-intBin]
  apply hk'
  refine IH19 (v48,l38) _ _ _ h (by refine⟨v45,?_,?_,?_,sp⟩<;>simp[hh,m3_1,m4_2])
 replace h:=h.2 dc21
 refine Runs.exit rfl ?_
 refine zE fun k' hk'=>?_
 simp[hh,m3_1,m4_2,dc21]
 apply hk'
 exact Runs.ret1 (v:=v17) Tryz.func113 Tryz.results113 (by simp[hh,m3_1,m4_2,dc21]) (hQ _ _ _ _ (Sep.sub (ids':=[]) sp (by simp)) ⟨l16,h,rfl⟩)
theorem l8Roots_ok (redex:Big) (agent:Big) (nodes:List Int) (hp:l8Roots_pre redex agent nodes):OwnS Tryz.prog 113 [.agg (bC false redex),.agg (bC false agent),.list false (nodes.map intC)] (.s [.c]) (fun r=>r = .list true ((l8Roots redex agent nodes).map intC)):=(l8Roots_walk redex agent nodes _ (l8Roots_vc redex agent nodes hp)).mono (by rintro _ ⟨_,rfl,rfl⟩;rfl)
theorem e114:Ent Tryz.prog 114:=Ent.of Tryz.func114 (by kernel_rfl) rfl
theorem l8Can_walk (redex:Big) (agent:Big) (nodes:List Int) (x:Int) (Z:Bool→Prop) (h:l8Can_wp redex agent nodes x Z):PureC Tryz.prog 114 [.agg (bC false redex),.agg (bC false agent),.list false (nodes.map intC),int x] (fun r=>∃ y:Bool,Z y∧r=bool y):=by
 unfold l8Can_wp at h
 refine PureC.of Tryz.func114 rfl Tryz.ntmps114 (by simp) fun Q hQ=>?_
 refine Runs.cut (fun ρ H n=>(ρ 0 = .agg (bC false redex)∧ρ 1 = .agg (bC false agent)∧ρ 2 = .list false (nodes.map intC)∧ρ 3=int x)) (by simp) ?_
 rintro ρ H n1 hh
 refine zE fun k' hk'=>?_
 simp[hh]
 apply hk'
 refine Runs.cut (fun ρ H n=>(ρ 2 = .list false (nodes.map intC)∧ρ 3=int x∧ρ 4=pA n1 4∧ρ 5=pA (n1+1) 5)∧H (n1,4)=some ⟨6,[bC false redex]⟩∧H (n1+1,5)=some ⟨6,[bC false agent]⟩) (by refine⟨?_,?_,?_⟩<;>simp[hh]) ?_
 clear hh
 rintro ρ H n4 ⟨hh,m4_1,m5_2⟩
 refine zE fun k' hk'=>?_
 obtain⟨len5,elen5,h⟩:=atm h
 have f6:=fun H=>len_list (H:=H) (fr:=false) (f:=intC) kd_24 elen5
 simp[hh,m4_1,m5_2,f6,-lenF]
 apply hk'
 refine Runs.seq ?_
 refine Runs.seqD Ty_ok kindOp_ok draws (by decide) (by kernel_rfl) fun k' hk'=>?_
 obtain⟨J7,hJ8,hr9⟩:=h
 have fin11:∀ (sJ:Bool) (ρ:Env) (H:Heap) (n:Nat),J7 sJ→(match sJ with | b10=>(ρ 2 = .list false (nodes.map intC)∧ρ 3=int x∧ρ 4=pA n1 4∧ρ 5=pA (n1+1) 5∧ρ 9=int len5∧ρ 30=bool b10)∧H (n1,4)=some ⟨6,[bC false redex]⟩∧H (n1+1,5)=some ⟨6,[bC false agent]⟩)→Runs Tryz.prog 114 52 k' ρ H n Q:=by
  rintro b10 ρ H n12 h ⟨hh,m4_1,m5_2⟩
  replace h:=hr9 _ h
  apply hk'
  refine Runs.ite (b:=b10) (by simp[hh,m4_1,m5_2]) (fun db10=>?_) (fun db10=>?_)
  ·replace h:=h.1 db10
   refine zE fun k' hk'=>?_
   simp[hh,m4_1,m5_2,db10]
   apply hk'
   exact Runs.ret1 (v:=bool false) Tryz.func114 Tryz.results114 (by simp[hh,m4_1,m5_2,db10]) (hQ _ _ _ _ (.of (.v _)) ⟨false,h,rfl⟩)
  replace h:=h.2 db10
  refine Runs.skip ?_
  refine zE fun k' hk'=>?_
  obtain⟨hb13,h⟩:=h
  obtain⟨x14,ex14,h⟩:=atm h
  have f15:=fun H=>ix_list (H:=H) (fr:=false) (f:=(GNode.cells false)) (k:=.i64) kd_44 (fun _=>rfl) hb13 ex14
  simp[hh,m4_1,m5_2,f15,db10,-indexAddrF]
  apply hk'
  refine Runs.seqD Ty_ok kindOp_ok draws (by decide) (by kernel_rfl) fun k' hk'=>?_
  obtain⟨J16,hJ17,hr18⟩:=h
  have fin20:∀ (sJ:Bool) (ρ:Env) (H:Heap) (n:Nat),J16 sJ→(match sJ with | b19=>ρ 8=bool b19)→Runs Tryz.prog 114 52 k' ρ H n Q:=by
   rintro b19 ρ H n21 h hh
   replace h:=hr18 _ h
   apply hk'
   exact Runs.ret1 (v:=bool b19) Tryz.func114 Tryz.results114 (by simp[hh]) (hQ _ _ _ _ (.of (.v _)) ⟨b19,h,rfl⟩)
  replace h:=hJ17
  obtain⟨c22,ec22,h⟩:=atm h
  have f23:=ib_lss (k:=.i64) ec22
  rcases Bool.eq_false_or_eq_true c22 with dc22 | dc22
  ·replace h:=h.1 dc22
   simp[hh,m4_1,m5_2,f23,db10,dc22,-intBin]
   exact fin20 (true) _ _ _ h (by simp[hh,m4_1,m5_2,f23,db10,dc22,-intBin])
  replace h:=h.2 dc22
  obtain⟨hb24,h⟩:=h
  obtain⟨x25,ex25,h⟩:=atm h
  have f26:=fun H=>ix_list (H:=H) (fr:=false) (f:=(GNode.cells false)) (k:=.i64) kd_44 (fun _=>rfl) hb24 ex25
  obtain⟨hb27,h⟩:=h
  obtain⟨x28,ex28,h⟩:=atm h
  have f29:=fun H=>ix_list (H:=H) (fr:=false) (f:=intC) (k:=.i64) kd_24 (fun _=>rfl) hb27 ex28
  obtain⟨c30,ec30,h⟩:=atm h
  have f31:=ib_eql (k:=.i64) ec30
  simp[hh,m4_1,m5_2,f23,f26,f29,f31,db10,dc22,-indexAddrF,-intBin]
  exact fin20 (c30) _ _ _ h (by simp[hh,m4_1,m5_2,f23,f26,f29,f31,db10,dc22,-indexAddrF,-intBin])
 replace h:=hJ8
 obtain⟨hb32,h⟩:=h
 obtain⟨x33,ex33,h⟩:=atm h
 have f34:=fun H=>ix_list (H:=H) (fr:=false) (f:=(GNode.cells false)) (k:=.i64) kd_44 (fun _=>rfl) hb32 ex33
 obtain⟨hb35,h⟩:=h
 obtain⟨x36,ex36,h⟩:=atm h
 have f37:=fun H=>ix_list (H:=H) (fr:=false) (f:=(GNode.cells false)) (k:=.i64) kd_44 (fun _=>rfl) hb35 ex36
 obtain⟨c38,ec38,h⟩:=atm h
 have f39:=ib_neq (k:=.i64) ec38
 rcases Bool.eq_false_or_eq_true c38 with dc38 | dc38
 ·replace h:=h.1 dc38
  simp[hh,m4_1,m5_2,f34,f37,f39,dc38,-indexAddrF,-intBin]
  exact fin11 (true) _ _ _ h (by refine⟨?_,?_,?_⟩<;>simp[hh,m4_1,m5_2,f34,f37,f39,dc38,-indexAddrF,-intBin])
 replace h:=h.2 dc38
 obtain⟨hb40,h⟩:=h
 obtain⟨r41,er41,h⟩:=atm h
 simp[hh,m4_1,m5_2,f34,f37,f39,dc38,-indexAddrF,-intBin]
 refine RunDK.callA Ty_ok kindOp_ok (l1HasI_ok nodes x hb40) e163 (.cons (argI false nodes) (.cons (.v _ _ _) .nil)) (by decide) rfl (by simp[hh,m4_1,m5_2,f34,f37,f39,dc38,-indexAddrF,-intBin]) ?_
 rw[← er41]
 simp[hh,m4_1,m5_2,f34,f37,f39,dc38,-indexAddrF,-intBin]
 exact fin11 (r41) _ _ _ h (by refine⟨?_,?_,?_⟩<;>simp[hh,m4_1,m5_2,f34,f37,f39,dc38,-indexAddrF,-intBin])
theorem l8Can_ok (redex:Big) (agent:Big) (nodes:List Int) (x:Int) (hp:l8Can_pre redex agent nodes x):PureC Tryz.prog 114 [.agg (bC false redex),.agg (bC false agent),.list false (nodes.map intC),int x] (fun r=>r=bool (l8Can redex agent nodes x)):=(l8Can_walk redex agent nodes x _ (l8Can_vc redex agent nodes x hp)).mono (by rintro _ ⟨_,rfl,rfl⟩;rfl)
theorem e66:Ent Tryz.prog 66:=Ent.of Tryz.func66 (by kernel_rfl) rfl
theorem l8Search_walk (redex:Big) (agent:Big) (nodes:List Int) (most:Int) (Z:(List Match)→Prop) (ih:∀ redexr agentr nodesr mostr,l8Search_pre redexr agentr nodesr mostr→l8Search_ms redexr agentr nodesr mostr<l8Search_ms redex agent nodes most→OwnS Tryz.prog 66 [.agg (bC false redexr),.agg (bC false agentr),.list false (nodesr.map intC),int mostr] (.s [.c,.c]) (fun r=>r = .list true ((l8Search redexr agentr nodesr mostr).map (Match.cells true)))) (h:l8Search_wp redex agent nodes most Z):OwnS Tryz.prog 66 [.agg (bC false redex),.agg (bC false agent),.list false (nodes.map intC),int most] (.s [.c,.c]) (fun r=>∃ y:List Match,Z y∧r = .list true (y.map (Match.cells true))):=by
 unfold l8Search_wp at h
 have sp:Sep noHeap 0 [] []:=Sep.nil (by simp)
 refine OwnS.of Tryz.func66 rfl Tryz.ntmps66 (by simp) fun Q hQ=>?_
 refine Runs.cut (fun ρ H n=>(ρ 0 = .agg (bC false redex)∧ρ 1 = .agg (bC false agent)∧ρ 2 = .list false (nodes.map intC)∧ρ 3=int most)∧Sep H n [] []) (by refine⟨?_,sp⟩<;>simp ) ?_
 rintro ρ H n1 ⟨hh,sp⟩
 refine zE fun k' hk'=>?_
 simp[hh]
 apply hk'
 refine Runs.cut (fun ρ H n=>(ρ 2 = .list false (nodes.map intC)∧ρ 3=int most∧ρ 4=pA n1 4∧ρ 5=pA (n1+1) 5)∧H (n1,4)=some ⟨6,[bC false redex]⟩∧H (n1+1,5)=some ⟨6,[bC false agent]⟩∧Sep H n [] [(n1+1,5),(n1,4)]) (by refine⟨?_,?_,?_,sp.var.var⟩<;>simp[hh]) ?_
 clear hh
 rintro ρ H n4 ⟨hh,m4_1,m5_2,sp⟩
 refine zE fun k' hk'=>?_
 simp[hh,m4_1,m5_2]
 apply hk'
 refine Runs.cut (fun ρ H n=>∃ (v6:AVal),(ρ 2 = .list false (nodes.map intC)∧ρ 3=int most∧ρ 4=pA n1 4∧ρ 5=pA (n1+1) 5∧ρ 9=v6)∧H (n1,4)=some ⟨6,[bC false redex]⟩∧H (n1+1,5)=some ⟨6,[bC false agent]⟩∧Sep H n [oE [.c,.c] (Match.cells true) v6 ([]:List Match)] [(n1+1,5),(n1,4)]) (by refine⟨.arr (n4,12) 0 0 0,?_,?_,?_,(Sep.addEmpty (l:=[.c,.c]) sp)⟩<;>simp[hh,m4_1,m5_2]) ?_
 clear hh m4_1 m5_2
 rintro ρ H n7 ⟨v6,hh,m4_1,m5_2,sp⟩
 refine Runs.seq ?_
 refine zE fun k' hk'=>?_
 obtain⟨len8,elen8,h⟩:=atm h
 have f9:=fun H=>len_list (H:=H) (fr:=false) (f:=intC) kd_24 elen8
 obtain⟨len10,elen10,h⟩:=atm h
 have f11:=fun H=>len_list (H:=H) (fr:=false) (f:=(GNode.cells false)) kd_44 elen10
 obtain⟨c12,ec12,h⟩:=atm h
 have f13:=ib_eql (k:=.i64) ec12
 simp[hh,m4_1,m5_2,f9,f11,f13,-intBin,-lenF]
 apply hk'
 refine Runs.ite (b:=c12) (by simp[hh,m4_1,m5_2]) (fun dc12=>?_) (fun dc12=>?_)
 ·replace h:=h.1 dc12
  refine Runs.cut (fun ρ H n=>∃ (v14:AVal),(ρ 2 = .list false (nodes.map intC)∧ρ 4=pA n1 4∧ρ 5=pA (n1+1) 5∧ρ 9=v14)∧H (n1,4)=some ⟨6,[bC false redex]⟩∧H (n1+1,5)=some ⟨6,[bC false agent]⟩∧Sep H n [oE [.c,.c] (Match.cells true) v14 ([]:List Match)] [(n1+1,5),(n1,4)]) (by refine⟨v6,?_,?_,?_,sp⟩<;>simp[hh,m4_1,m5_2,dc12]) ?_
  clear hh m4_1 m5_2
  rintro ρ H n15 ⟨v14,hh,m4_1,m5_2,sp⟩
  obtain⟨hb16,h⟩:=h
  obtain⟨r17,er17,h⟩:=atm h
  obtain⟨hb18,h⟩:=h
  obtain⟨r19,er19,h⟩:=atm h
  have hid21:=sp.1
  refine Runs.seq (Runs.drawI (Reg.Inv { m:=9,c:=5,a:=7,st:=8,d:=10,B:=[(2,.list false (nodes.map intC)),(4,pA n1 4),(5,pA (n1+1) 5),(9,v14)],F:=fun GI AI=>[(0,19,.list false (nodes.map intC)),(1,20,.list true (r17.map intC)),(2,21,.agg (bC false redex)),(3,22,.agg (bC false agent)),(4,23,.list false (nodes.map intC)),(5,24,.list true (r19.map intC)),(6,25,.agg [.list true (r17.map intC),.list true (r19.map intC)]),(7,10,.ptr (AI,10) 1 0 0)],ent:=fun GI=>[],ob0:=⟨2,[[.v (.slice none 0 0),.v (.slice none 0 0)]]⟩,ob1:=fun GI=>⟨2,[[.list true (r17.map intC),.list true (r19.map intC)]]⟩,RG:=fun GI=>True,onC:=[6,8],onA:=[8],H0:=H,n0:=n15,K:=[oE [.c,.c] (Match.cells true) v14 ([]:List Match)],ids:=[(n1+1,5),(n1,4)] }) draws (by decide) (Reg.init (Old.cons hh.1 (Old.cons hh.2.1 (Old.cons hh.2.2.1 (Old.cons hh.2.2.2 Old.nil)))) sp) ?_ ?_)
  ·rintro (_ | _ | _ | _ | _ | _ | _ | _ | _ | i)
   ·exact Reg.det (i:=0) rfl rfl rfl rfl (fun L' ρ' H' n' G' A' hO hT hd hG hcl hfr sp=>⟨.list false (nodes.map intC),stepF_ok Ty_ok (by rw[stepF_loc];have t2:=hO.at 0 rfl;simp[t2]),by simp⟩)
   ·exact Reg.det (i:=1) rfl rfl rfl rfl (fun L' ρ' H' n' G' A' hO hT hd hG hcl hfr sp=>⟨_,by have t19:=hT.at 0 rfl (hd ⟨0,.data⟩ (by simp) rfl);exact OpSem.callD2 (xs:=[.list false (nodes.map intC)]) ((l1Own_ok nodes hb16).pure) e112 (.cons (argI false nodes) .nil) (by simp[t19]) (by simp[t19]),by simp[er17]⟩)
   ·exact Reg.det (i:=2) rfl rfl rfl rfl (fun L' ρ' H' n' G' A' hO hT hd hG hcl hfr sp=>⟨.agg (bC false redex),stepF_ok Ty_ok (by rw[stepF_loc];have t4:=hO.at 1 rfl;have mm4_1:=(hfr (n1,4) (by simp)).trans m4_1;simp[t4,mm4_1]),by simp⟩)
   ·exact Reg.det (i:=3) rfl rfl rfl rfl (fun L' ρ' H' n' G' A' hO hT hd hG hcl hfr sp=>⟨.agg (bC false agent),stepF_ok Ty_ok (by rw[stepF_loc];have t5:=hO.at 2 rfl;have mm5_2:=(hfr (n1+1,5) (by simp)).trans m5_2;simp[t5,mm5_2]),by simp⟩)
   ·exact Reg.det (i:=4) rfl rfl rfl rfl (fun L' ρ' H' n' G' A' hO hT hd hG hcl hfr sp=>⟨.list false (nodes.map intC),stepF_ok Ty_ok (by rw[stepF_loc];have t2:=hO.at 0 rfl;simp[t2]),by simp⟩)
   ·exact Reg.callP rfl rfl rfl (fun _=>rfl) (fun _=>trivial) (fun L' ρ' H' n' G' A' hO hT hd hfr sp=>⟨_,by have t21:=hT.at 2 rfl (hd ⟨2,.data⟩ (by simp) rfl);have t22:=hT.at 3 rfl (hd ⟨3,.data⟩ (by simp) rfl);have t23:=hT.at 4 rfl (hd ⟨4,.data⟩ (by simp) rfl);exact OpSem.callD2 (xs:=[.agg (bC false redex),.agg (bC false agent),.list false (nodes.map intC)]) ((l8Roots_ok redex agent nodes hb18).pure) e113 (.cons (argB false redex) (.cons (argB false agent) (.cons (argI false nodes) .nil))) (by simp[t21,t22,t23]) (by simp[t21,t22,t23]),by simp[er19]⟩)
   ·exact Reg.det (i:=6) rfl rfl rfl rfl (fun L' ρ' H' n' G' A' hO hT hd hG hcl hfr sp=>⟨.agg [.list true (r17.map intC),.list true (r19.map intC)],stepF_ok Ty_ok (by rw[stepF_loc];have t20:=hT.at 1 rfl (hd ⟨1,.data⟩ (by simp) rfl);have t24:=hT.at 5 rfl (hd ⟨5,.data⟩ (by simp) rfl);simp[t20,t24]),by simp⟩) (hc:=fun _=>⟨⟨5,.data⟩,by simp,rfl,by simp⟩)
   ·exact Reg.alloc Ty_ok rfl Ty_55 rfl rfl rfl
   ·exact Reg.store Ty_ok rfl rfl rfl hid21 ⟨⟨6,.data⟩,by simp,rfl,by simp⟩ ⟨⟨7,.data⟩,by simp,rfl,by simp⟩ (fun L' ρ' H' G' A' hO hT hd hG hw=>by have t10:=hT.at 7 rfl (hd ⟨7,.data⟩ (by simp) rfl);have t25:=hT.at 6 rfl (hd ⟨6,.data⟩ (by simp) rfl);simp[t10,t25,hw,Ty_55,-one1,o1_int,o1_bool,o1_str,o1_nil,o1_list,o1_arr,o1_ptr])
   ·exact StepI.none (by simp)
  ·rintro L' ⟨ρ,H,n24⟩ hI hr
   obtain⟨G22,A23,hO,hT,hG,sp,hfr25,hn0_,hA_,m10_19⟩:=Reg.fin (by kernel_rfl) rfl (show (5:Nat)<9∧(7:Nat)<9∧(8:Nat)<9 by decide) (by intro G' A';simp) hI hr
   show Runs _ _ _ _ ρ H n24 _
   replace hO:Old ρ _:=hO
   replace hT:AllF ρ _:=hT
   clear hh
   have h2:=hO.at 0 rfl
   have h4:=hO.at 1 rfl
   have h5:=hO.at 2 rfl
   have h9:=hO.at 3 rfl
   have h19:=hT.at 0 rfl
   have h20:=hT.at 1 rfl
   have h21:=hT.at 2 rfl
   have h22:=hT.at 3 rfl
   have h23:=hT.at 4 rfl
   have h24:=hT.at 5 rfl
   have h25:=hT.at 6 rfl
   have h10:=hT.at 7 rfl
   have m5_2:H (n1+1,5)=some ⟨6,[bC false agent]⟩:=(hfr25 (n1+1,5) (by simp)).trans m5_2
   have m4_1:H (n1,4)=some ⟨6,[bC false redex]⟩:=(hfr25 (n1,4) (by simp)).trans m4_1
   have m10_19:H (A23,10)=some ⟨2,[[.list true (r17.map intC),.list true (r19.map intC)]]⟩:=m10_19
   replace sp:Sep H n24 [oE [.c,.c] (Match.cells true) v14 ([]:List Match)] [(A23,10),(n1+1,5),(n1,4)]:=sp
   refine Runs.cut (fun ρ H n=>∃ (v26:AVal),(ρ 4=pA n1 4∧ρ 5=pA (n1+1) 5∧ρ 9=v26∧ρ 10 = .ptr (A23,10) 1 0 0)∧H (n1,4)=some ⟨6,[bC false redex]⟩∧H (n1+1,5)=some ⟨6,[bC false agent]⟩∧H (A23,10)=some ⟨2,[[.list true (r17.map intC),.list true (r19.map intC)]]⟩∧Sep H n [oE [.c,.c] (Match.cells true) v26 ([]:List Match)] [(A23,10),(n1+1,5),(n1,4)]) (by refine⟨v14,?_,?_,?_,?_,sp⟩<;>simp[m4_1,m5_2,m10_19,h2,h4,h5,h9,h19,h20,h21,h22,h23,h24,h25,h10]) ?_
   clear m4_1 m5_2 m10_19 h2 h4 h5 h9 h19 h20 h21 h22 h23 h24 h25 h10
   rintro ρ H n27 ⟨v26,hh,m4_1,m5_2,m10_19,sp⟩
   refine Runs.seq ?_
   refine zE fun k' hk'=>?_
   obtain⟨hb28,h⟩:=h
   obtain⟨r29,er29,h⟩:=atm h
   simp[hh,m4_1,m5_2,m10_19]
   refine RunK.callA Ty_ok (l8Match_ok redex agent (Match.mk r17 r19) hb28) e93 (.cons (argB false redex) (.cons (argB false agent) (.cons (ArgOk.agg (.cons (argI true r17) (.cons (argI true r19) .nil))) .nil))) (by decide) (by decide) rfl (by simp[hh,m4_1,m5_2,m10_19]) ?_
   rintro _ rfl
   rw[← er29]
   simp[hh,m4_1,m5_2,m10_19]
   apply hk'
   refine Runs.ite (b:=r29) (by simp[hh,m4_1,m5_2,m10_19]) (fun dr29=>?_) (fun dr29=>?_)
   ·replace h:=h.1 dr29
    refine zF fun k' hk'=>?_
    obtain⟨hb30,h⟩:=h
    obtain⟨l31,el31,h⟩:=atm h
    simp[hh,m4_1,m5_2,m10_19,dr29,-appendF]
    refine bind_append [] [] [[.list true (r17.map intC),.list true (r19.map intC)]] [(Match.cells true) (Match.mk r17 r19)] sp kd_110 (by simp) (by simp) (by simp) (by simp[-one1,o1x]) (rows_one (Fill.i (by simp) (Fill.i (by simp) Fill.nil))) (by simp) (by simp) ?_
    rintro v32 H33 n34 sp hfr35 hle36
    replace sp:Sep H33 n34 [oE [.c,.c] (Match.cells true) v32 l31] [(A23,10),(n1+1,5),(n1,4)]:=Sep.ap el31 sp
    have m4_1:H33 (n1,4)=some ⟨6,[bC false redex]⟩:=(hfr35 _ (by simp)).trans (by simp[hh,m4_1,m5_2,m10_19,Heap.get_set])
    have m5_2:H33 (n1+1,5)=some ⟨6,[bC false agent]⟩:=(hfr35 _ (by simp)).trans (by simp[hh,m4_1,m5_2,m10_19,Heap.get_set])
    have m10_19:H33 (A23,10)=some ⟨2,[[.list true (r17.map intC),.list true (r19.map intC)]]⟩:=(hfr35 _ (by simp)).trans (by simp[hh,m4_1,m5_2,m10_19,Heap.get_set])
    simp[hh,m4_1,m5_2,m10_19,dr29]
    apply hk'
    refine Runs.cut (fun ρ H n=>∃ (v38:AVal),ρ 9=v38∧Sep H n [oE [.c,.c] (Match.cells true) v38 l31] []) (by refine⟨v32,?_,(Sep.sub sp (by simp +contextual))⟩<;>simp[hh,m4_1,m5_2,m10_19,dr29]) ?_
    clear hh m4_1 m5_2 m10_19
    rintro ρ H n39 ⟨v38,hh,sp⟩
    refine zE fun k' hk'=>?_
    simp[hh]
    apply hk'
    exact Runs.ret1 (v:=v38) Tryz.func66 Tryz.results66 (by simp[hh]) (hQ _ _ _ _ (Sep.sub (ids':=[]) sp (by simp)) ⟨l31,h,rfl⟩)
   replace h:=h.2 dr29
   refine Runs.skip ?_
   refine zE fun k' hk'=>?_
   simp[hh,m4_1,m5_2,m10_19,dr29]
   apply hk'
   exact Runs.ret1 (v:=v26) Tryz.func66 Tryz.results66 (by simp[hh,m4_1,m5_2,m10_19,dr29]) (hQ _ _ _ _ (Sep.sub (ids':=[]) sp (by simp)) ⟨([]:List Match),h,rfl⟩)
 replace h:=h.2 dc12
 refine Runs.skip ?_
 refine Runs.seq ?_
 refine zE fun k' hk'=>?_
 simp[hh,m4_1,m5_2,dc12]
 apply hk'
 refine Runs.block ?_
 refine Runs.loopW h (fun (sJ:Int × (List Match)) ρ H n=>match sJ with | (x47,l48)=>∃ (v49:AVal),(ρ 2 = .list false (nodes.map intC)∧ρ 3=int most∧ρ 4=pA n1 4∧ρ 5=pA (n1+1) 5∧ρ 9=v49∧ρ 11=int x47)∧H (n1,4)=some ⟨6,[bC false redex]⟩∧H (n1+1,5)=some ⟨6,[bC false agent]⟩∧Sep H n [oE [.c,.c] (Match.cells true) v49 l48] [(n1+1,5),(n1,4)]) (by refine⟨v6,?_,?_,?_,sp⟩<;>simp[hh,m4_1,m5_2,dc12]) ?_
 clear hh m4_1 m5_2
 rintro⟨x47,l48⟩ ρ H n50 K h ⟨v49,hh,m4_1,m5_2,sp⟩ IH51
 refine Runs.seq ?_
 refine zE fun k' hk'=>?_
 obtain⟨J53,hJ54,hr55⟩:=h
 have fin58:∀ (sJ:Bool) (ρ:Env) (H:Heap) (n:Nat),J53 sJ→(match sJ with | b56=>∃ (v57:AVal),(ρ 2 = .list false (nodes.map intC)∧ρ 3=int most∧ρ 4=pA n1 4∧ρ 5=pA (n1+1) 5∧ρ 9=v57∧ρ 11=int x47∧ρ 45=bool b56)∧H (n1,4)=some ⟨6,[bC false redex]⟩∧H (n1+1,5)=some ⟨6,[bC false agent]⟩∧Sep H n [oE [.c,.c] (Match.cells true) v57 l48] [(n1+1,5),(n1,4)])→Runs Tryz.prog 66 68 k' ρ H n Q:=by
  rintro b56 ρ H n59 h ⟨v57,hh,m4_1,m5_2,sp⟩
  replace h:=hr55 _ h
  apply hk'
  refine Runs.ite (b:=b56) (by simp[hh,m4_1,m5_2]) (fun db56=>?_) (fun db56=>?_)
  ·replace h:=h.1 db56
   refine Runs.skip ?_
   refine Runs.seq ?_
   refine Runs.block ?_
   refine zE fun k' hk'=>?_
   obtain⟨hb60,h⟩:=h
   obtain⟨r61,er61,h⟩:=atm h
   simp[hh,m4_1,m5_2,db56]
   refine RunK.callA Ty_ok (l8Can_ok redex agent nodes x47 hb60) e114 (.cons (argB false redex) (.cons (argB false agent) (.cons (argI false nodes) (.cons (.v _ _ _) .nil)))) (by decide) (by decide) rfl (by simp[hh,m4_1,m5_2,db56]) ?_
   rintro _ rfl
   rw[← er61]
   simp[hh,m4_1,m5_2,db56]
   apply hk'
   refine Runs.ite (b:=r61) (by simp[hh,m4_1,m5_2,db56]) (fun dr61=>?_) (fun dr61=>?_)
   ·replace h:=h.1 dr61
    refine Runs.cut (fun ρ H n=>∃ (v62:AVal),(ρ 2 = .list false (nodes.map intC)∧ρ 3=int most∧ρ 4=pA n1 4∧ρ 5=pA (n1+1) 5∧ρ 9=v62∧ρ 11=int x47)∧H (n1,4)=some ⟨6,[bC false redex]⟩∧H (n1+1,5)=some ⟨6,[bC false agent]⟩∧Sep H n [oE [.c,.c] (Match.cells true) v62 l48] [(n1+1,5),(n1,4)]) (by refine⟨v57,?_,?_,?_,sp⟩<;>simp[hh,m4_1,m5_2,db56,dr61]) ?_
    clear hh m4_1 m5_2
    rintro ρ H n63 ⟨v62,hh,m4_1,m5_2,sp⟩
    obtain⟨hb64,h⟩:=h
    obtain⟨r65,er65,h⟩:=atm h
    obtain⟨hb67,h⟩:=h
    obtain⟨l68,el68,h⟩:=atm h
    obtain⟨len69,elen69,h⟩:=atm h
    have f70:=len_own (Sep.len (m:=len69) sp kd_110 (by rw[elen69,List.length_map]))
    obtain⟨hb71,h⟩:=h
    obtain⟨v72,ev72,h⟩:=atm h
    have f73:=ib_sub hb71 ev72
    obtain⟨hb74,h⟩:=h
    obtain⟨r75,er75,h⟩:=atm h
    obtain⟨hb76,h⟩:=h
    obtain⟨l77,el77,h⟩:=atm h
    refine Runs.drawC (fun H n=>H (n1,4)=some ⟨6,[bC false redex]⟩∧H (n1+1,5)=some ⟨6,[bC false agent]⟩∧Sep H n [oE [.c,.c] (Match.cells true) v62 l48] [(n1+1,5),(n1,4)]) [4,7,12,13,14] (.free 0 (.free 1 (.free 2 (.free 3 (.free 5 (.free 6 (.free 8 (.free 9 (.free 10 (.free 11 (.hard 4 (.hard 7 (.hard 12 (.hard 13 (.hard 14 (.fin) (.stop)) (.stop)) (.stop)) (.stop)) (.stop)))))))))))) (fun ρ H n=>∃ (v78:AVal),(ρ 2 = .list false (nodes.map intC)∧ρ 3=int most∧ρ 4=pA n1 4∧ρ 5=pA (n1+1) 5∧ρ 9=v78∧ρ 11=int x47)∧H (n1,4)=some ⟨6,[bC false redex]⟩∧H (n1+1,5)=some ⟨6,[bC false agent]⟩∧Sep H n [oE [.c,.c] (Match.cells true) v78 l77] [(n1+1,5),(n1,4)]) draws (by decide) (by kernel_rfl) ?_ ?_
    ·refine RunT.free v62 rfl rfl ⟨m4_1,m5_2,sp⟩ (fun H n hS=>by obtain⟨m4_1,m5_2,sp⟩:=hS;exact (by exact stepF_ok Ty_ok (by rw[stepF_loc];simp[hh,m4_1,m5_2,f70,f73,-intBin,-lenF]))) ?_
     refine RunT.free (.agg (bC false redex)) rfl rfl ⟨m4_1,m5_2,sp⟩ (fun H n hS=>by obtain⟨m4_1,m5_2,sp⟩:=hS;exact (by exact stepF_ok Ty_ok (by rw[stepF_loc];simp[hh,m4_1,m5_2,f70,f73,-intBin,-lenF]))) ?_
     refine RunT.free (.agg (bC false agent)) rfl rfl ⟨m4_1,m5_2,sp⟩ (fun H n hS=>by obtain⟨m4_1,m5_2,sp⟩:=hS;exact (by exact stepF_ok Ty_ok (by rw[stepF_loc];simp[hh,m4_1,m5_2,f70,f73,-intBin,-lenF]))) ?_
     refine RunT.free (.list false (nodes.map intC)) rfl rfl ⟨m4_1,m5_2,sp⟩ (fun H n hS=>by obtain⟨m4_1,m5_2,sp⟩:=hS;exact (by exact stepF_ok Ty_ok (by rw[stepF_loc];simp[hh,m4_1,m5_2,f70,f73,-intBin,-lenF]))) ?_
     refine RunT.free (int x47) rfl rfl ⟨m4_1,m5_2,sp⟩ (fun H n hS=>by obtain⟨m4_1,m5_2,sp⟩:=hS;exact (by exact stepF_ok Ty_ok (by rw[stepF_loc];simp[hh,m4_1,m5_2,f70,f73,-intBin,-lenF]))) ?_
     refine RunT.free (.list true ([x47].map intC)) rfl rfl ⟨m4_1,m5_2,sp⟩ (fun H n hS=>by obtain⟨m4_1,m5_2,sp⟩:=hS;exact (by exact stepF_ok Ty_ok (by rw[stepF_loc];simp[hh,m4_1,m5_2,f70,f73,-intBin,-lenF]))) ?_
     refine RunT.free (int most) rfl rfl ⟨m4_1,m5_2,sp⟩ (fun H n hS=>by obtain⟨m4_1,m5_2,sp⟩:=hS;exact (by exact stepF_ok Ty_ok (by rw[stepF_loc];simp[hh,m4_1,m5_2,f70,f73,-intBin,-lenF]))) ?_
     refine RunT.free v62 rfl rfl ⟨m4_1,m5_2,sp⟩ (fun H n hS=>by obtain⟨m4_1,m5_2,sp⟩:=hS;exact (by exact stepF_ok Ty_ok (by rw[stepF_loc];simp[hh,m4_1,m5_2,f70,f73,-intBin,-lenF]))) ?_
     refine RunT.free (int len69) rfl rfl ⟨m4_1,m5_2,sp⟩ (fun H n hS=>by obtain⟨m4_1,m5_2,sp⟩:=hS;exact (by have f70:=len_own (Sep.len (m:=len69) sp kd_110 (by rw[elen69,List.length_map]));exact stepF_ok Ty_ok (by rw[stepF_loc];simp[hh,m4_1,m5_2,f70,f73,-intBin,-lenF]))) ?_
     refine RunT.free (int v72) rfl rfl ⟨m4_1,m5_2,sp⟩ (fun H n hS=>by obtain⟨m4_1,m5_2,sp⟩:=hS;exact (by have f73:=ib_sub hb71 ev72;exact stepF_ok Ty_ok (by rw[stepF_loc];simp[hh,m4_1,m5_2,f70,f73,-intBin,-lenF]))) ?_
     refine⟨?_,trivial⟩
     refine RunT.callW (as1:=[.list false (nodes.map intC)]) rfl rfl (l1Own_ok nodes hb64) e112 (.cons (argI false nodes) .nil) sp (by simp[hh,m4_1,m5_2,f70,f73,-intBin,-lenF]) (by simp[hh,m4_1,m5_2,f70,f73,-intBin,-lenF]) ?_
     rintro v84 H80 n81 _ sp rfl hle83 hfr82
     rw[← er65] at sp
     replace sp:Sep H80 n81 [oI v84 r65,oE [.c,.c] (Match.cells true) v62 l48] [(n1+1,5),(n1,4)]:=sp
     have m4_1:H80 (n1,4)=some ⟨6,[bC false redex]⟩:=(hfr82 _ (by simp)).trans (by simp[hh,m4_1,m5_2,Heap.get_set])
     have m5_2:H80 (n1+1,5)=some ⟨6,[bC false agent]⟩:=(hfr82 _ (by simp)).trans (by simp[hh,m4_1,m5_2,Heap.get_set])
     refine⟨(fun _=>⟨m4_1,m5_2,sp.dr⟩),?_⟩
     refine⟨?_,trivial⟩
     refine RunT.append (v:=v84) (xv:=(.list true ([x47].map intC))) Ty_ok [] [oE [.c,.c] (Match.cells true) v62 l48] [[int x47]] [intC x47] rfl rfl (by simp[hh,m4_1,m5_2,f70,f73,-intBin,-lenF]) (by simp[hh,m4_1,m5_2,f70,f73,-intBin,-lenF]) sp kd_24 (by simp) (by simp) (by simp[srcOf]) (by simp[-one1,o1x]) (rows_one (Fill.v _ Fill.nil)) (by simp) (by simpa using hb67) ?_
     rintro v91 H87 n88 sp hfr89 hle90
     replace sp:Sep H87 n88 [oI v91 l68,oE [.c,.c] (Match.cells true) v62 l48] [(n1+1,5),(n1,4)]:=by refine Sep.ap el68 ?_;exact sp
     have m4_1:H87 (n1,4)=some ⟨6,[bC false redex]⟩:=(hfr89 _ (by simp)).trans (by simp[hh,m4_1,m5_2,Heap.get_set])
     have m5_2:H87 (n1+1,5)=some ⟨6,[bC false agent]⟩:=(hfr89 _ (by simp)).trans (by simp[hh,m4_1,m5_2,Heap.get_set])
     refine⟨(fun _=>⟨m4_1,m5_2,sp.dr⟩),?_⟩
     refine⟨?_,trivial⟩
     refine RunT.callA (as1:=[.agg (bC false redex),.agg (bC false agent),v91,int v72]) rfl rfl ((ih redex agent l68 v72 hb74.1 hb74.2).pure) e66 (.cons (argB false redex) (.cons (argB false agent) (.cons (Sep.argOk' sp (old_listF (by simp))) (.cons (.v _ _ _) .nil)))) (by simp[hh,m4_1,m5_2,f70,f73,-intBin,-lenF]) (by simp[hh,m4_1,m5_2,f70,f73,-intBin,-lenF]) (fun _=>⟨m4_1,m5_2,sp.dr⟩) ?_
     rw[← er75]
     refine⟨?_,trivial⟩
     refine RunT.append0 (v:=v62) (xv:=(.list true (r75.map (Match.cells true)))) Ty_ok (r75.map (Match.cells true)) rfl rfl (by simp[hh,m4_1,m5_2,f70,f73,-intBin,-lenF]) (by simp[hh,m4_1,m5_2,f70,f73,-intBin,-lenF]) sp.f1 (by simp) kd_110 (by simp) (by simp) (by simp[srcOf]) (by simp[-one1,o1x]) (by simpa using hb76) ?_
     rintro v104 H100 n101 sp hfr102 hle103
     replace sp:Sep H100 n101 [oE [.c,.c] (Match.cells true) v104 l77,oI v91 l68] [(n1+1,5),(n1,4)]:=by refine Sep.ap el77 ?_;exact sp
     have m4_1:H100 (n1,4)=some ⟨6,[bC false redex]⟩:=(hfr102 _ (by simp)).trans (by simp[hh,m4_1,m5_2,Heap.get_set])
     have m5_2:H100 (n1+1,5)=some ⟨6,[bC false agent]⟩:=(hfr102 _ (by simp)).trans (by simp[hh,m4_1,m5_2,Heap.get_set])
     refine⟨(fun hl=>absurd (hl.symm.trans (show lateC _ _ _=true by kernel_rfl)) (by decide)),?_⟩
     refine⟨?_,trivial⟩
     have f113:=Sep.oc sp
     refine RunT.same (v:=v104) Ty_ok rfl rfl (by simp[hh,m4_1,m5_2,f70,f73,f113,-cellsA,-intBin,-lenF,-one1,cAx,o1x]) (fun hl=>absurd (hl.symm.trans (show lateC _ _ _=true by kernel_rfl)) (by decide)) ?_
     refine RunT.fin (by refine⟨v104,?_,?_,?_,sp.f1.dr⟩<;>simp[hh,m4_1,m5_2,f70,f73,f113,-cellsA,-intBin,-lenF,-one1,cAx,o1x])
    clear hh m4_1 m5_2
    rintro ρ H n79 ⟨v78,hh,m4_1,m5_2,sp⟩
    refine Runs.inBlock ?_
    refine zF fun k' hk'=>?_
    obtain⟨hb114,h⟩:=h
    obtain⟨v115,ev115,h⟩:=atm h
    have f116:=ib_add hb114 ev115
    simp[hh,m4_1,m5_2,f116,-intBin]
    apply hk'
    refine IH51 (v115,l77) _ _ _ h (by refine⟨v78,?_,?_,?_,sp⟩<;>simp[hh,m4_1,m5_2])
   replace h:=h.2 dr61
   refine Runs.skip ?_
   refine Runs.inBlock ?_
   refine zF fun k' hk'=>?_
   obtain⟨hb117,h⟩:=h
   obtain⟨v118,ev118,h⟩:=atm h
   have f119:=ib_add hb117 ev118
   simp[hh,m4_1,m5_2,f119,db56,dr61,-intBin]
   apply hk'
   refine IH51 (v118,l48) _ _ _ h (by refine⟨v57,?_,?_,?_,sp⟩<;>simp[hh,m4_1,m5_2,db56,dr61])
  replace h:=h.2 db56
  refine Runs.exit rfl ?_
  refine zE fun k' hk'=>?_
  simp[hh,m4_1,m5_2,db56]
  apply hk'
  exact Runs.ret1 (v:=v57) Tryz.func66 Tryz.results66 (by simp[hh,m4_1,m5_2,db56]) (hQ _ _ _ _ (Sep.sub (ids':=[]) sp (by simp)) ⟨l48,h,rfl⟩)
 replace h:=hJ54
 obtain⟨len120,elen120,h⟩:=atm h
 have f121:=fun H=>len_list (H:=H) (fr:=false) (f:=(GNode.cells false)) kd_44 elen120
 obtain⟨c122,ec122,h⟩:=atm h
 have f123:=ib_lss (k:=.i64) ec122
 rcases Bool.eq_false_or_eq_true c122 with dc122 | dc122
 ·replace h:=h.1 dc122
  obtain⟨len124,elen124,h⟩:=atm h
  have f125:=len_own (Sep.len (m:=len124) sp kd_110 (by rw[elen124,List.length_map]))
  obtain⟨c126,ec126,h⟩:=atm h
  have f127:=ib_leq (k:=.i64) ec126
  simp[hh,m4_1,m5_2,f121,f123,f125,f127,dc122,-intBin,-lenF]
  exact fin58 (c126) _ _ _ h (by refine⟨v49,?_,?_,?_,sp⟩<;>simp[hh,m4_1,m5_2,f121,f123,f125,f127,dc122,-intBin,-lenF])
 replace h:=h.2 dc122
 simp[hh,m4_1,m5_2,f121,f123,dc122,-intBin,-lenF]
 exact fin58 (false) _ _ _ h (by refine⟨v49,?_,?_,?_,sp⟩<;>simp[hh,m4_1,m5_2,f121,f123,dc122,-intBin,-lenF])
theorem l8Search_okm (mq:Nat):∀ (redex:Big) (agent:Big) (nodes:List Int) (most:Int),l8Search_ms redex agent nodes most=mq→l8Search_pre redex agent nodes most→OwnS Tryz.prog 66 [.agg (bC false redex),.agg (bC false agent),.list false (nodes.map intC),int most] (.s [.c,.c]) (fun r=>r = .list true ((l8Search redex agent nodes most).map (Match.cells true))):=by
 induction mq using Nat.strongRecOn with
 | _ mq ih=>
  rintro redex agent nodes most rfl hp
  exact (l8Search_walk redex agent nodes most _ (fun redexr agentr nodesr mostr hp' hl=>ih _ hl redexr agentr nodesr mostr rfl hp') (l8Search_vc redex agent nodes most hp)).mono (by rintro _ ⟨_,rfl,rfl⟩;rfl)
theorem l8Search_ok (redex:Big) (agent:Big) (nodes:List Int) (most:Int) (hp:l8Search_pre redex agent nodes most):OwnS Tryz.prog 66 [.agg (bC false redex),.agg (bC false agent),.list false (nodes.map intC),int most] (.s [.c,.c]) (fun r=>r = .list true ((l8Search redex agent nodes most).map (Match.cells true))):=l8Search_okm _ redex agent nodes most rfl hp
end Go.Ab.Vg
