/- Merged texts (11 of 15) of the proof that ends in Lly: Mbw Mcw. -/
import Derived.Test.YtbpdcoahefnnkaaGreatDoorAbQll10
/- Walks by program for YtbpdcoahefnnkaaGreatDoorAbMb. -/
namespace Go.Ab.Vg
open Go.Proofs
set_option maxRecDepth 100000
set_option linter.unusedSimpArgs false
set_option linter.unusedVariables false
attribute [local simp] Control.cells GNode.cells Wire.cells intC intC2 sliceC strC bC mC pA
theorem hasI_ok (l:List Int) (x:Int) (h:l.length≤1048576):PureC Tryz.prog 131 [.list false (l.map intC),int x] (fun r=>r=bool (hasI l x)):=contains_ok l x h
theorem l1HasI_ok (l:List Int) (x:Int) (h:l.length≤1048576):PureC Tryz.prog 163 [.list false (l.map intC),int x] (fun r=>r=bool (hasI l x)):=l1Has_ok l x h
theorem e156:Ent Tryz.prog 156:=Ent.of Tryz.func156 (by kernel_rfl) rfl
theorem isUnder_walk (b:Big) (place:Int) (nodes:List Int) (Z:Bool→Prop) (h:isUnder_wp b place nodes Z):PureC Tryz.prog 156 [.agg (bC false b),int place,.list false (nodes.map intC)] (fun r=>∃ y:Bool,Z y∧r=bool y):=by
 unfold isUnder_wp at h
 refine PureC.of Tryz.func156 rfl Tryz.ntmps156 (by simp) fun Q hQ=>?_
 refine Runs.cut (fun ρ H n=>(ρ 0 = .agg (bC false b)∧ρ 1=int place∧ρ 2 = .list false (nodes.map intC))) (by simp) ?_
 rintro ρ H n1 hh
 refine zE fun k' hk'=>?_
 simp[hh]
 apply hk'
 refine Runs.cut (fun ρ H n=>(ρ 1=int place∧ρ 2 = .list false (nodes.map intC)∧ρ 3=pA n1 3)∧H (n1,3)=some ⟨6,[bC false b]⟩) (by refine⟨?_,?_⟩<;>simp[hh]) ?_
 clear hh
 rintro ρ H n3 ⟨hh,m3_1⟩
 refine Runs.seq ?_
 refine Runs.block ?_
 refine Runs.loopW h (fun (sJ:Int) ρ H n=>match sJ with | placeV6=>(ρ 1=int placeV6∧ρ 2 = .list false (nodes.map intC)∧ρ 3=pA n1 3)∧H (n1,3)=some ⟨6,[bC false b]⟩) (by refine⟨?_,?_⟩<;>simp[hh,m3_1]) ?_
 clear hh m3_1
 rintro placeV6 ρ H n7 K h ⟨hh,m3_1⟩ IH8
 refine Runs.seq ?_
 refine zE fun k' hk'=>?_
 obtain⟨c10,ec10,h⟩:=atm h
 have f11:=ib_geq (k:=.i64) ec10
 simp[hh,m3_1,f11,-intBin]
 apply hk'
 refine Runs.ite (b:=c10) (by simp[hh,m3_1]) (fun dc10=>?_) (fun dc10=>?_)
 ·replace h:=h.1 dc10
  refine Runs.skip ?_
  refine Runs.seq ?_
  refine Runs.block ?_
  refine zE fun k' hk'=>?_
  obtain⟨hb12,h⟩:=h
  obtain⟨r13,er13,h⟩:=atm h
  simp[hh,m3_1,dc10]
  refine RunK.callA Ty_ok (hasI_ok nodes placeV6 hb12) e131 (.cons (argI false nodes) (.cons (.v _ _ _) .nil)) (by decide) (by decide) rfl (by simp[hh,m3_1,dc10]) ?_
  rintro _ rfl
  rw[← er13]
  simp[hh,m3_1,dc10]
  apply hk'
  refine Runs.ite (b:=r13) (by simp[hh,m3_1,dc10]) (fun dr13=>?_) (fun dr13=>?_)
  ·replace h:=h.1 dr13
   refine zE fun k' hk'=>?_
   simp[hh,m3_1,dc10,dr13]
   apply hk'
   exact Runs.ret1 (v:=bool true) Tryz.func156 Tryz.results156 (by simp[hh,m3_1,dc10,dr13]) (hQ _ _ _ _ (.of (.v _)) ⟨true,h,rfl⟩)
  replace h:=h.2 dr13
  refine Runs.skip ?_
  refine Runs.inBlock ?_
  refine zF fun k' hk'=>?_
  obtain⟨hb14,h⟩:=h
  obtain⟨x15,ex15,h⟩:=atm h
  have f16:=fun H=>ix_list (H:=H) (fr:=false) (f:=(GNode.cells false)) (k:=.i64) kd_44 (fun _=>rfl) hb14 ex15
  simp[hh,m3_1,f16,dc10,dr13,-indexAddrF]
  apply hk'
  refine IH8 (x15.parent) _ _ _ h (by refine⟨?_,?_⟩<;>simp[hh,m3_1,dc10,dr13])
 replace h:=h.2 dc10
 refine Runs.exit rfl ?_
 refine zE fun k' hk'=>?_
 simp[hh,m3_1,dc10]
 apply hk'
 exact Runs.ret1 (v:=bool false) Tryz.func156 Tryz.results156 (by simp[hh,m3_1,dc10]) (hQ _ _ _ _ (.of (.v _)) ⟨false,h,rfl⟩)
theorem isUnder_ok (b:Big) (place:Int) (nodes:List Int) (hp:isUnder_pre b place nodes):PureC Tryz.prog 156 [.agg (bC false b),int place,.list false (nodes.map intC)] (fun r=>r=bool (isUnder b place nodes)):=(isUnder_walk b place nodes _ (isUnder_vc b place nodes hp)).mono (by rintro _ ⟨_,rfl,rfl⟩;rfl)
theorem e172:Ent Tryz.prog 172:=Ent.of Tryz.func172 (by kernel_rfl) rfl
theorem l8Inside_walk (agent:Big) (m:Match) (place:Int) (Z:Bool→Prop) (h:l8Inside_wp agent m place Z):PureC Tryz.prog 172 [.agg (bC false agent),.agg (mC false m),int place] (fun r=>∃ y:Bool,Z y∧r=bool y):=by
 unfold l8Inside_wp at h
 refine PureC.of Tryz.func172 rfl Tryz.ntmps172 (by simp) fun Q hQ=>?_
 refine Runs.cut (fun ρ H n=>(ρ 0 = .agg (bC false agent)∧ρ 1 = .agg (mC false m)∧ρ 2=int place)) (by simp) ?_
 rintro ρ H n1 hh
 refine zE fun k' hk'=>?_
 simp[hh]
 apply hk'
 refine Runs.cut (fun ρ H n=>(ρ 2=int place∧ρ 3=pA n1 3∧ρ 4=pA (n1+1) 4)∧H (n1,3)=some ⟨6,[bC false agent]⟩∧H (n1+1,4)=some ⟨2,[mC false m]⟩) (by refine⟨?_,?_,?_⟩<;>simp[hh]) ?_
 clear hh
 rintro ρ H n4 ⟨hh,m3_1,m4_2⟩
 refine Runs.seq ?_
 refine Runs.block ?_
 refine Runs.loopW h (fun (sJ:Int) ρ H n=>match sJ with | placeV7=>(ρ 2=int placeV7∧ρ 3=pA n1 3∧ρ 4=pA (n1+1) 4)∧H (n1,3)=some ⟨6,[bC false agent]⟩∧H (n1+1,4)=some ⟨2,[mC false m]⟩) (by refine⟨?_,?_,?_⟩<;>simp[hh,m3_1,m4_2]) ?_
 clear hh m3_1 m4_2
 rintro placeV7 ρ H n8 K h ⟨hh,m3_1,m4_2⟩ IH9
 refine Runs.seq ?_
 refine zE fun k' hk'=>?_
 obtain⟨c11,ec11,h⟩:=atm h
 have f12:=ib_geq (k:=.i64) ec11
 simp[hh,m3_1,m4_2,f12,-intBin]
 apply hk'
 refine Runs.ite (b:=c11) (by simp[hh,m3_1,m4_2]) (fun dc11=>?_) (fun dc11=>?_)
 ·replace h:=h.1 dc11
  refine Runs.skip ?_
  refine Runs.block ?_
  refine Runs.seq ?_
  refine zE fun k' hk'=>?_
  obtain⟨hb13,h⟩:=h
  obtain⟨r14,er14,h⟩:=atm h
  simp[hh,m3_1,m4_2,dc11]
  refine RunK.callA Ty_ok (l1HasI_ok m.nodes placeV7 hb13) e163 (.cons (argI false m.nodes) (.cons (.v _ _ _) .nil)) (by decide) (by decide) rfl (by simp[hh,m3_1,m4_2,dc11]) ?_
  rintro _ rfl
  rw[← er14]
  simp[hh,m3_1,m4_2,dc11]
  apply hk'
  refine Runs.ite (b:=r14) (by simp[hh,m3_1,m4_2,dc11]) (fun dr14=>?_) (fun dr14=>?_)
  ·replace h:=h.1 dr14
   refine zE fun k' hk'=>?_
   simp[hh,m3_1,m4_2,dc11,dr14]
   apply hk'
   exact Runs.ret1 (v:=bool true) Tryz.func172 Tryz.results172 (by simp[hh,m3_1,m4_2,dc11,dr14]) (hQ _ _ _ _ (.of (.v _)) ⟨true,h,rfl⟩)
  replace h:=h.2 dr14
  refine Runs.skip ?_
  refine zF fun k' hk'=>?_
  obtain⟨hb15,h⟩:=h
  obtain⟨x16,ex16,h⟩:=atm h
  have f17:=fun H=>ix_list (H:=H) (fr:=false) (f:=(GNode.cells false)) (k:=.i64) kd_44 (fun _=>rfl) hb15 ex16
  simp[hh,m3_1,m4_2,f17,dc11,dr14,-indexAddrF]
  apply hk'
  refine Runs.inBlock ?_
  refine IH9 (x16.parent) _ _ _ h (by refine⟨?_,?_,?_⟩<;>simp[hh,m3_1,m4_2,dc11,dr14])
 replace h:=h.2 dc11
 refine Runs.exit rfl ?_
 refine zE fun k' hk'=>?_
 simp[hh,m3_1,m4_2,dc11]
 apply hk'
 exact Runs.ret1 (v:=bool false) Tryz.func172 Tryz.results172 (by simp[hh,m3_1,m4_2,dc11]) (hQ _ _ _ _ (.of (.v _)) ⟨false,h,rfl⟩)
theorem l8Inside_ok (agent:Big) (m:Match) (place:Int) (hp:l8Inside_pre agent m place):PureC Tryz.prog 172 [.agg (bC false agent),.agg (mC false m),int place] (fun r=>r=bool (l8Inside agent m place)):=(l8Inside_walk agent m place _ (l8Inside_vc agent m place hp)).mono (by rintro _ ⟨_,rfl,rfl⟩;rfl)
theorem e181:Ent Tryz.prog 181:=Ent.of Tryz.func181 (by kernel_rfl) rfl
theorem areImages1_walk {H0:Heap} {n0:Nat} {X1:Id} (c:Int) (v_:Match) (hX1:H0 X1=some ⟨2,[mC false v_]⟩) (Z:Bool→Prop) (h:areImages1_wp c v_ Z):ClosC Tryz.prog H0 n0 (.fn (.func 181) [] [.ptr X1 1 0 0]) [int c] (fun r=>∃ y:Bool,Z y∧r=bool y):=by
 unfold areImages1_wp at h
 refine⟨181,[],[.ptr X1 1 0 0],rfl,e181,?_⟩
 refine StillC.of Tryz.func181 rfl Tryz.ntmps181 (by simp) fun Q hB hQ=>?_
 have lX1:X1.1<n0:=(hB X1 _ hX1).1
 have neX1:∀ m d,n0≤m→(X1=(m,d))=False:=fun m d hm=>by simp only[eq_iff_iff,iff_false];rintro rfl;simp at lX1;omega
 have hfr:Frame n0 H0 H0:=Frame.refl _ _
 have hn0:n0≤n0:=Nat.le_refl _
 refine Runs.cut (fun ρ H n=>(ρ 0=int c∧ρ 1 = .ptr X1 1 0 0)∧H X1=some ⟨2,[mC false v_]⟩∧n0≤n∧Frame n0 H0 H) (by refine⟨?_,?_,?_,?_⟩<;>first | ((repeat (first | exact hfr | refine Frame.set (by first | omega | (simp;omega)) ?_));done) | omega | simp[hX1]) ?_
 rintro ρ H n1 ⟨hh,mX1,hn0,hfr⟩
 have hn1:=Nat.le_succ_of_le hn0
 have hn2:=Nat.le_succ_of_le hn1
 refine zE fun k' hk'=>?_
 simp[hh,mX1,hn0,hn1,hn2,neX1]
 apply hk'
 refine zE fun k' hk'=>?_
 obtain⟨hb2,h⟩:=h
 obtain⟨r3,er3,h⟩:=atm h
 simp[hh,mX1,hn0,hn1,hn2,neX1]
 refine RunK.callA Ty_ok (hasI_ok v_.nodes c hb2) e131 (.cons (argI false v_.nodes) (.cons (.v _ _ _) .nil)) (by decide) (by decide) rfl (by simp[hh,mX1,hn0,hn1,hn2,neX1]) ?_
 rintro _ rfl
 rw[← er3]
 simp[hh,mX1,hn0,hn1,hn2,neX1]
 apply hk'
 exact Runs.ret1 (v:=bool (!r3)) Tryz.func181 Tryz.results181 (by simp[hh,mX1,hn0,hn1,hn2,neX1]) (hQ _ _ _ _ (.bnd (.v _)) (hfr) ⟨(!r3),h,rfl⟩)
theorem areImages1_ok {H0:Heap} {n0:Nat} {X1:Id} (c:Int) (v_:Match) (hX1:H0 X1=some ⟨2,[mC false v_]⟩) (hp:areImages1_pre c v_):ClosC Tryz.prog H0 n0 (.fn (.func 181) [] [.ptr X1 1 0 0]) [int c] (fun r=>r=bool (areImages1 c v_)):=(areImages1_walk c v_ hX1 _ (areImages1_vc c v_ hp)).mono (by rintro _ ⟨_,rfl,rfl⟩;rfl)
theorem e157:Ent Tryz.prog 157:=Ent.of Tryz.func157 (by kernel_rfl) rfl
theorem areImages_walk (redex:Big) (agent:Big) (m:Match) (Z:Bool→Prop) (h:areImages_wp redex agent m Z):PureC Tryz.prog 157 [.agg (bC false redex),.agg (bC false agent),.agg (mC false m)] (fun r=>∃ y:Bool,Z y∧r=bool y):=by
 unfold areImages_wp at h
 refine PureC.of Tryz.func157 rfl Tryz.ntmps157 (by simp) fun Q hQ=>?_
 refine Runs.cut (fun ρ H n=>(ρ 0 = .agg (bC false redex)∧ρ 1 = .agg (bC false agent)∧ρ 2 = .agg (mC false m))) (by first | (simp ;done) | omega | (simp;omega)) ?_
 rintro ρ H n1 hh
 refine zE fun k' hk'=>?_
 simp[hh]
 apply hk'
 refine Runs.cut (fun ρ H n=>(ρ 3=pA n1 3∧ρ 4=pA (n1+1) 4∧ρ 5=pA (n1+2) 5)∧H (n1,3)=some ⟨6,[bC false redex]⟩∧H (n1+1,4)=some ⟨6,[bC false agent]⟩∧H (n1+2,5)=some ⟨2,[mC false m]⟩∧n1<n∧n1+1<n∧n1+2<n) (by refine⟨?_,?_,?_,?_,?_,?_,?_⟩<;>first | (simp[hh];done) | omega | (simp;omega)) ?_
 clear hh
 rintro ρ H n5 ⟨hh,m3_1,m4_2,m5_3,g3_1,g4_2,g5_3⟩
 refine Runs.seq ?_
 refine zE fun k' hk'=>?_
 obtain⟨len6,elen6,h⟩:=atm h
 have f7:=fun H=>len_list (H:=H) (fr:=false) (f:=(GNode.cells false)) kd_44 elen6
 simp[hh,m3_1,m4_2,m5_3,g3_1,g4_2,g5_3,f7,-lenF]
 apply hk'
 refine Runs.block ?_
 refine Runs.loopW h (fun (sJ:Int) ρ H n=>match sJ with | v10=>(ρ 3=pA n1 3∧ρ 4=pA (n1+1) 4∧ρ 5=pA (n1+2) 5∧ρ 16 = .list false (redex.nodes.map (GNode.cells false))∧ρ 17=int len6∧ρ 18=int v10)∧H (n1,3)=some ⟨6,[bC false redex]⟩∧H (n1+1,4)=some ⟨6,[bC false agent]⟩∧H (n1+2,5)=some ⟨2,[mC false m]⟩∧n1<n∧n1+1<n∧n1+2<n) (by refine⟨?_,?_,?_,?_,?_,?_,?_⟩<;>first | (simp[hh,m3_1,m4_2,m5_3,g3_1,g4_2,g5_3];done) | omega | (simp;omega)) ?_
 clear hh m3_1 m4_2 m5_3 g3_1 g4_2 g5_3
 rintro v10 ρ H n11 K h ⟨hh,m3_1,m4_2,m5_3,g3_1,g4_2,g5_3⟩ IH12
 refine zE fun k' hk'=>?_
 obtain⟨c14,ec14,h⟩:=atm h
 have f15:=ib_lss (k:=.i64) ec14
 simp[hh,m3_1,m4_2,m5_3,g3_1,g4_2,g5_3,f15,-intBin]
 apply hk'
 refine Runs.seq ?_
 refine Runs.ite (b:=c14) (by simp[hh,m3_1,m4_2,m5_3,g3_1,g4_2,g5_3]) (fun dc14=>?_) (fun dc14=>?_)
 ·replace h:=h.1 dc14
  refine Runs.skip ?_
  refine Runs.seq ?_
  refine Runs.block ?_
  refine zE fun k' hk'=>?_
  obtain⟨hb16,h⟩:=h
  obtain⟨x17,ex17,h⟩:=atm h
  have f18:=fun H=>ix_list (H:=H) (fr:=false) (f:=(GNode.cells false)) (k:=.i64) kd_44 (fun _=>rfl) hb16 ex17
  simp[hh,m3_1,m4_2,m5_3,g3_1,g4_2,g5_3,f18,dc14,-indexAddrF]
  apply hk'
  refine Runs.cut (fun ρ H n=>(ρ 3=pA n1 3∧ρ 4=pA (n1+1) 4∧ρ 5=pA (n1+2) 5∧ρ 7=int v10∧ρ 8=pA n11 8∧ρ 16 = .list false (redex.nodes.map (GNode.cells false))∧ρ 17=int len6∧ρ 18=int v10)∧H (n1,3)=some ⟨6,[bC false redex]⟩∧H (n1+1,4)=some ⟨6,[bC false agent]⟩∧H (n1+2,5)=some ⟨2,[mC false m]⟩∧H (n11,8)=some ⟨3,[[int x17.control,int x17.parent,.list false (x17.links.map intC)]]⟩∧n1<n∧n1+1<n∧n1+2<n∧n11<n) (by refine⟨?_,?_,?_,?_,?_,?_,?_,?_,?_⟩<;>first | (simp[hh,m3_1,m4_2,m5_3,g3_1,g4_2,g5_3,f18,dc14,-indexAddrF];done) | omega | (simp;omega)) ?_
  clear hh m3_1 m4_2 m5_3 g3_1 g4_2 g5_3
  rintro ρ H n20 ⟨hh,m3_1,m4_2,m5_3,m8_18,g3_1,g4_2,g5_3,g8_18⟩
  refine Runs.seqN Ty_ok draws (by decide) (by kernel_rfl) fun k' hk'=>?_
  obtain⟨hb21,h⟩:=h
  obtain⟨x22,ex22,h⟩:=atm h
  have f23:=fun H=>ix_list (H:=H) (fr:=false) (f:=intC) (k:=.i64) kd_24 (fun _=>rfl) hb21 ex22
  obtain⟨hb24,h⟩:=h
  obtain⟨x25,ex25,h⟩:=atm h
  have f26:=fun H=>ix_list (H:=H) (fr:=false) (f:=(GNode.cells false)) (k:=.i64) kd_44 (fun _=>rfl) hb24 ex25
  simp[hh,m3_1,m4_2,m5_3,m8_18,g3_1,g4_2,g5_3,g8_18,f23,f26,-indexAddrF]
  intro a27 ha27 qa27;clear qa27
  refine⟨ha27,hk' _ _ _ ?_⟩
  refine Runs.cut (fun ρ H n=>(ρ 3=pA n1 3∧ρ 4=pA (n1+1) 4∧ρ 5=pA (n1+2) 5∧ρ 7=int v10∧ρ 8=pA n11 8∧ρ 9 = .ptr (a27,9) 1 0 0∧ρ 16 = .list false (redex.nodes.map (GNode.cells false))∧ρ 17=int len6∧ρ 18=int v10)∧H (n1,3)=some ⟨6,[bC false redex]⟩∧H (n1+1,4)=some ⟨6,[bC false agent]⟩∧H (n1+2,5)=some ⟨2,[mC false m]⟩∧H (n11,8)=some ⟨3,[[int x17.control,int x17.parent,.list false (x17.links.map intC)]]⟩∧H (a27,9)=some ⟨3,[[int x25.control,int x25.parent,.list false (x25.links.map intC)]]⟩∧n1<n∧n1+1<n∧n1+2<n∧n11<n∧a27<n) (by refine⟨?_,?_,?_,?_,?_,?_,?_,?_,?_,?_,?_⟩<;>first | (simp[hh,m3_1,m4_2,m5_3,m8_18,g3_1,g4_2,g5_3,g8_18,f23,f26,-indexAddrF];done) | omega | (simp;omega)) ?_
  clear hh m3_1 m4_2 m5_3 m8_18 g3_1 g4_2 g5_3 g8_18
  rintro ρ H n28 ⟨hh,m3_1,m4_2,m5_3,m8_18,m9_26,g3_1,g4_2,g5_3,g8_18,g9_26⟩
  refine zE fun k' hk'=>?_
  simp[hh,m3_1,m4_2,m5_3,m8_18,m9_26,g3_1,g4_2,g5_3,g8_18,g9_26]
  apply hk'
  refine Runs.seq ?_
  refine zE fun k' hk'=>?_
  obtain⟨c29,ec29,h⟩:=atm h
  have f30:=ib_geq (k:=.i64) ec29
  simp[hh,m3_1,m4_2,m5_3,m8_18,m9_26,g3_1,g4_2,g5_3,g8_18,g9_26,f30,-intBin]
  apply hk'
  refine Runs.ite (b:=c29) (by simp[hh,m3_1,m4_2,m5_3,m8_18,m9_26,g3_1,g4_2,g5_3,g8_18,g9_26]) (fun dc29=>?_) (fun dc29=>?_)
  ·replace h:=h.1 dc29
   refine zF fun k' hk'=>?_
   obtain⟨hb31,h⟩:=h
   obtain⟨x32,ex32,h⟩:=atm h
   have f33:=fun H=>ix_list (H:=H) (fr:=false) (f:=intC) (k:=.i64) kd_24 (fun _=>rfl) hb31 ex32
   simp[hh,m3_1,m4_2,m5_3,m8_18,m9_26,g3_1,g4_2,g5_3,g8_18,g9_26,f33,dc29,-indexAddrF]
   apply hk'
   refine Runs.seq ?_
   refine zE fun k' hk'=>?_
   obtain⟨J34,hJ35,hr36⟩:=h
   have fin38:∀ (sJ:Bool) (ρ:Env) (H:Heap) (n:Nat),J34 sJ→(match sJ with | b37=>(ρ 3=pA n1 3∧ρ 4=pA (n1+1) 4∧ρ 5=pA (n1+2) 5∧ρ 7=int v10∧ρ 16 = .list false (redex.nodes.map (GNode.cells false))∧ρ 17=int len6∧ρ 18=int v10∧ρ 58=bool b37)∧H (n1,3)=some ⟨6,[bC false redex]⟩∧H (n1+1,4)=some ⟨6,[bC false agent]⟩∧H (n1+2,5)=some ⟨2,[mC false m]⟩∧n1<n∧n1+1<n∧n1+2<n)→Runs Tryz.prog 157 82 k' ρ H n Q:=by
    rintro b37 ρ H n39 h ⟨hh,m3_1,m4_2,m5_3,g3_1,g4_2,g5_3⟩
    replace h:=hr36 _ h
    apply hk'
    refine Runs.ite (b:=b37) (by simp[hh,m3_1,m4_2,m5_3,g3_1,g4_2,g5_3]) (fun db37=>?_) (fun db37=>?_)
    ·replace h:=h.1 db37
     refine zE fun k' hk'=>?_
     simp[hh,m3_1,m4_2,m5_3,g3_1,g4_2,g5_3,db37]
     apply hk'
     exact Runs.ret1 (v:=bool false) Tryz.func157 Tryz.results157 (by simp[hh,m3_1,m4_2,m5_3,g3_1,g4_2,g5_3,db37]) (hQ _ _ _ _ (.of (.v _)) ⟨false,h,rfl⟩)
    replace h:=h.2 db37
    refine Runs.skip ?_
    refine Runs.seq ?_
    refine zE fun k' hk'=>?_
    obtain⟨hb40,h⟩:=h
    obtain⟨r41,er41,h⟩:=atm h
    simp[hh,m3_1,m4_2,m5_3,g3_1,g4_2,g5_3,db37]
    refine RunK.callA Ty_ok ((childrenOf_ok redex v10 hb40).pure) e126 (.cons (argB false redex) (.cons (.v _ _ _) .nil)) (by decide) (by decide) rfl (by simp[hh,m3_1,m4_2,m5_3,g3_1,g4_2,g5_3,db37]) ?_
    rintro _ rfl
    rw[← er41]
    simp[hh,m3_1,m4_2,m5_3,g3_1,g4_2,g5_3,db37]
    apply hk'
    refine zE fun k' hk'=>?_
    obtain⟨len42,elen42,h⟩:=atm h
    have f43:=fun H=>len_list (H:=H) (fr:=true) (f:=intC) kd_24 elen42
    obtain⟨c44,ec44,h⟩:=atm h
    have f45:=ib_gtr (k:=.i64) ec44
    simp[hh,m3_1,m4_2,m5_3,g3_1,g4_2,g5_3,f43,f45,db37,-intBin,-lenF]
    apply hk'
    refine Runs.ite (b:=c44) (by simp[hh,m3_1,m4_2,m5_3,g3_1,g4_2,g5_3,db37]) (fun dc44=>?_) (fun dc44=>?_)
    ·replace h:=h.1 dc44
     refine Runs.exit rfl ?_
     refine zF fun k' hk'=>?_
     obtain⟨hb46,h⟩:=h
     obtain⟨v47,ev47,h⟩:=atm h
     have f48:=ib_add hb46 ev47
     simp[hh,m3_1,m4_2,m5_3,g3_1,g4_2,g5_3,f48,db37,dc44,-intBin]
     apply hk'
     refine IH12 (v47) _ _ _ h (by refine⟨?_,?_,?_,?_,?_,?_,?_⟩<;>first | (simp[hh,m3_1,m4_2,m5_3,g3_1,g4_2,g5_3,db37,dc44];done) | omega | (simp;omega))
    replace h:=h.2 dc44
    refine Runs.skip ?_
    refine Runs.seqD Ty_ok kindOp_ok draws (by decide) (by kernel_rfl) fun k' hk'=>?_
    obtain⟨hb49,h⟩:=h
    obtain⟨x50,ex50,h⟩:=atm h
    have f51:=fun H=>ix_list (H:=H) (fr:=false) (f:=intC) (k:=.i64) kd_24 (fun _=>rfl) hb49 ex50
    obtain⟨hb52,h⟩:=h
    obtain⟨r53,er53,h⟩:=atm h
    simp[hh,m3_1,m4_2,m5_3,g3_1,g4_2,g5_3,f51,db37,dc44,-indexAddrF]
    refine RunDK.callA Ty_ok kindOp_ok ((childrenOf_ok agent x50 hb52).pure) e126 (.cons (argB false agent) (.cons (.v _ _ _) .nil)) (by decide) rfl (by simp[hh,m3_1,m4_2,m5_3,g3_1,g4_2,g5_3,f51,db37,dc44,-indexAddrF]) ?_
    rw[← er53]
    simp[hh,m3_1,m4_2,m5_3,g3_1,g4_2,g5_3,f51,db37,dc44,-indexAddrF]
    apply hk'
    refine Runs.cut (fun ρ H n=>(ρ 3=pA n1 3∧ρ 4=pA (n1+1) 4∧ρ 5=pA (n1+2) 5∧ρ 13 = .list true (r53.1.map intC)∧ρ 16 = .list false (redex.nodes.map (GNode.cells false))∧ρ 17=int len6∧ρ 18=int v10)∧H (n1,3)=some ⟨6,[bC false redex]⟩∧H (n1+1,4)=some ⟨6,[bC false agent]⟩∧H (n1+2,5)=some ⟨2,[mC false m]⟩∧n1<n∧n1+1<n∧n1+2<n) (by refine⟨?_,?_,?_,?_,?_,?_,?_⟩<;>first | (simp[hh,m3_1,m4_2,m5_3,g3_1,g4_2,g5_3,f51,db37,dc44,-indexAddrF];done) | omega | (simp;omega)) ?_
    clear hh m3_1 m4_2 m5_3 g3_1 g4_2 g5_3
    rintro ρ H n54 ⟨hh,m3_1,m4_2,m5_3,g3_1,g4_2,g5_3⟩
    refine zE fun k' hk'=>?_
    obtain⟨hb55,h⟩:=h
    obtain⟨r56,er56,h⟩:=atm h
    simp[hh,m3_1,m4_2,m5_3,g3_1,g4_2,g5_3]
    refine RunK.callT Ty_ok (containsFuncI_ok true r53.1 (fun z=>areImages1 z m) hb55.1 (fun z hz=>areImages1_ok z m m5_3 (hb55.2 z hz))) e99 (by decide) (by decide) rfl (by simp[hh,m3_1,m4_2,m5_3,g3_1,g4_2,g5_3]) ?_
    rintro _ rfl
    rw[← er56]
    simp[hh,m3_1,m4_2,m5_3,g3_1,g4_2,g5_3]
    apply hk'
    refine Runs.ite (b:=r56) (by simp[hh,m3_1,m4_2,m5_3,g3_1,g4_2,g5_3]) (fun dr56=>?_) (fun dr56=>?_)
    ·replace h:=h.1 dr56
     refine zE fun k' hk'=>?_
     simp[hh,m3_1,m4_2,m5_3,g3_1,g4_2,g5_3,dr56]
     apply hk'
     exact Runs.ret1 (v:=bool false) Tryz.func157 Tryz.results157 (by simp[hh,m3_1,m4_2,m5_3,g3_1,g4_2,g5_3,dr56]) (hQ _ _ _ _ (.of (.v _)) ⟨false,h,rfl⟩)
    replace h:=h.2 dr56
    refine Runs.skip ?_
    refine Runs.inBlock ?_
    refine zF fun k' hk'=>?_
    obtain⟨hb57,h⟩:=h
    obtain⟨v58,ev58,h⟩:=atm h
    have f59:=ib_add hb57 ev58
    simp[hh,m3_1,m4_2,m5_3,g3_1,g4_2,g5_3,f59,dr56,-intBin]
    apply hk'
    refine IH12 (v58) _ _ _ h (by refine⟨?_,?_,?_,?_,?_,?_,?_⟩<;>first | (simp[hh,m3_1,m4_2,m5_3,g3_1,g4_2,g5_3,dr56];done) | omega | (simp;omega))
   replace h:=hJ35
   obtain⟨c60,ec60,h⟩:=atm h
   have f61:=ib_neq (k:=.i64) ec60
   rcases Bool.eq_false_or_eq_true c60 with dc60 | dc60
   ·replace h:=h.1 dc60
    simp[hh,m3_1,m4_2,m5_3,m8_18,m9_26,g3_1,g4_2,g5_3,g8_18,g9_26,f61,dc29,dc60,-intBin]
    exact fin38 (true) _ _ _ h (by refine⟨?_,?_,?_,?_,?_,?_,?_⟩<;>first | (simp[hh,m3_1,m4_2,m5_3,m8_18,m9_26,g3_1,g4_2,g5_3,g8_18,g9_26,f61,dc29,dc60,-intBin];done) | omega | (simp;omega))
   replace h:=h.2 dc60
   obtain⟨c62,ec62,h⟩:=atm h
   have f63:=ib_neq (k:=.i64) ec62
   simp[hh,m3_1,m4_2,m5_3,m8_18,m9_26,g3_1,g4_2,g5_3,g8_18,g9_26,f61,f63,dc29,dc60,-intBin]
   exact fin38 (c62) _ _ _ h (by refine⟨?_,?_,?_,?_,?_,?_,?_⟩<;>first | (simp[hh,m3_1,m4_2,m5_3,m8_18,m9_26,g3_1,g4_2,g5_3,g8_18,g9_26,f61,f63,dc29,dc60,-intBin];done) | omega | (simp;omega))
  replace h:=h.2 dc29
  refine zF fun k' hk'=>?_
  obtain⟨hb64,h⟩:=h
  obtain⟨v65,ev65,h⟩:=atm h
  have f66:=ib_sub hb64 ev65
  obtain⟨hb67,h⟩:=h
  obtain⟨x68,ex68,h⟩:=atm h
  have f69:=fun H=>ix_list (H:=H) (fr:=false) (f:=intC) (k:=.i64) kd_24 (fun _=>rfl) hb67 ex68
  simp[hh,m3_1,m4_2,m5_3,m8_18,m9_26,g3_1,g4_2,g5_3,g8_18,g9_26,f66,f69,dc29,-indexAddrF,-intBin]
  apply hk'
  refine Runs.seq ?_
  refine zE fun k' hk'=>?_
  obtain⟨J70,hJ71,hr72⟩:=h
  have fin74:∀ (sJ:Bool) (ρ:Env) (H:Heap) (n:Nat),J70 sJ→(match sJ with | b73=>(ρ 3=pA n1 3∧ρ 4=pA (n1+1) 4∧ρ 5=pA (n1+2) 5∧ρ 7=int v10∧ρ 16 = .list false (redex.nodes.map (GNode.cells false))∧ρ 17=int len6∧ρ 18=int v10∧ρ 58=bool b73)∧H (n1,3)=some ⟨6,[bC false redex]⟩∧H (n1+1,4)=some ⟨6,[bC false agent]⟩∧H (n1+2,5)=some ⟨2,[mC false m]⟩∧n1<n∧n1+1<n∧n1+2<n)→Runs Tryz.prog 157 82 k' ρ H n Q:=by
   rintro b73 ρ H n75 h ⟨hh,m3_1,m4_2,m5_3,g3_1,g4_2,g5_3⟩
   replace h:=hr72 _ h
   apply hk'
   refine Runs.ite (b:=b73) (by simp[hh,m3_1,m4_2,m5_3,g3_1,g4_2,g5_3]) (fun db73=>?_) (fun db73=>?_)
   ·replace h:=h.1 db73
    refine zE fun k' hk'=>?_
    simp[hh,m3_1,m4_2,m5_3,g3_1,g4_2,g5_3,db73]
    apply hk'
    exact Runs.ret1 (v:=bool false) Tryz.func157 Tryz.results157 (by simp[hh,m3_1,m4_2,m5_3,g3_1,g4_2,g5_3,db73]) (hQ _ _ _ _ (.of (.v _)) ⟨false,h,rfl⟩)
   replace h:=h.2 db73
   refine Runs.skip ?_
   refine Runs.seq ?_
   refine zE fun k' hk'=>?_
   obtain⟨hb76,h⟩:=h
   obtain⟨r77,er77,h⟩:=atm h
   simp[hh,m3_1,m4_2,m5_3,g3_1,g4_2,g5_3,db73]
   refine RunK.callA Ty_ok ((childrenOf_ok redex v10 hb76).pure) e126 (.cons (argB false redex) (.cons (.v _ _ _) .nil)) (by decide) (by decide) rfl (by simp[hh,m3_1,m4_2,m5_3,g3_1,g4_2,g5_3,db73]) ?_
   rintro _ rfl
   rw[← er77]
   simp[hh,m3_1,m4_2,m5_3,g3_1,g4_2,g5_3,db73]
   apply hk'
   refine zE fun k' hk'=>?_
   obtain⟨len78,elen78,h⟩:=atm h
   have f79:=fun H=>len_list (H:=H) (fr:=true) (f:=intC) kd_24 elen78
   obtain⟨c80,ec80,h⟩:=atm h
   have f81:=ib_gtr (k:=.i64) ec80
   simp[hh,m3_1,m4_2,m5_3,g3_1,g4_2,g5_3,f79,f81,db73,-intBin,-lenF]
   apply hk'
   refine Runs.ite (b:=c80) (by simp[hh,m3_1,m4_2,m5_3,g3_1,g4_2,g5_3,db73]) (fun dc80=>?_) (fun dc80=>?_)
   ·replace h:=h.1 dc80
    refine Runs.exit rfl ?_
    refine zF fun k' hk'=>?_
    obtain⟨hb82,h⟩:=h
    obtain⟨v83,ev83,h⟩:=atm h
    have f84:=ib_add hb82 ev83
    simp[hh,m3_1,m4_2,m5_3,g3_1,g4_2,g5_3,f84,db73,dc80,-intBin]
    apply hk'
    refine IH12 (v83) _ _ _ h (by refine⟨?_,?_,?_,?_,?_,?_,?_⟩<;>first | (simp[hh,m3_1,m4_2,m5_3,g3_1,g4_2,g5_3,db73,dc80];done) | omega | (simp;omega))
   replace h:=h.2 dc80
   refine Runs.skip ?_
   refine Runs.seqD Ty_ok kindOp_ok draws (by decide) (by kernel_rfl) fun k' hk'=>?_
   obtain⟨hb85,h⟩:=h
   obtain⟨x86,ex86,h⟩:=atm h
   have f87:=fun H=>ix_list (H:=H) (fr:=false) (f:=intC) (k:=.i64) kd_24 (fun _=>rfl) hb85 ex86
   obtain⟨hb88,h⟩:=h
   obtain⟨r89,er89,h⟩:=atm h
   simp[hh,m3_1,m4_2,m5_3,g3_1,g4_2,g5_3,f87,db73,dc80,-indexAddrF]
   refine RunDK.callA Ty_ok kindOp_ok ((childrenOf_ok agent x86 hb88).pure) e126 (.cons (argB false agent) (.cons (.v _ _ _) .nil)) (by decide) rfl (by simp[hh,m3_1,m4_2,m5_3,g3_1,g4_2,g5_3,f87,db73,dc80,-indexAddrF]) ?_
   rw[← er89]
   simp[hh,m3_1,m4_2,m5_3,g3_1,g4_2,g5_3,f87,db73,dc80,-indexAddrF]
   apply hk'
   refine Runs.cut (fun ρ H n=>(ρ 3=pA n1 3∧ρ 4=pA (n1+1) 4∧ρ 5=pA (n1+2) 5∧ρ 13 = .list true (r89.1.map intC)∧ρ 16 = .list false (redex.nodes.map (GNode.cells false))∧ρ 17=int len6∧ρ 18=int v10)∧H (n1,3)=some ⟨6,[bC false redex]⟩∧H (n1+1,4)=some ⟨6,[bC false agent]⟩∧H (n1+2,5)=some ⟨2,[mC false m]⟩∧n1<n∧n1+1<n∧n1+2<n) (by refine⟨?_,?_,?_,?_,?_,?_,?_⟩<;>first | (simp[hh,m3_1,m4_2,m5_3,g3_1,g4_2,g5_3,f87,db73,dc80,-indexAddrF];done) | omega | (simp;omega)) ?_
   clear hh m3_1 m4_2 m5_3 g3_1 g4_2 g5_3
   rintro ρ H n90 ⟨hh,m3_1,m4_2,m5_3,g3_1,g4_2,g5_3⟩
   refine zE fun k' hk'=>?_
   obtain⟨hb91,h⟩:=h
   obtain⟨r92,er92,h⟩:=atm h
   simp[hh,m3_1,m4_2,m5_3,g3_1,g4_2,g5_3]
   refine RunK.callT Ty_ok (containsFuncI_ok true r89.1 (fun z=>areImages1 z m) hb91.1 (fun z hz=>areImages1_ok z m m5_3 (hb91.2 z hz))) e99 (by decide) (by decide) rfl (by simp[hh,m3_1,m4_2,m5_3,g3_1,g4_2,g5_3]) ?_
   rintro _ rfl
   rw[← er92]
   simp[hh,m3_1,m4_2,m5_3,g3_1,g4_2,g5_3]
   apply hk'
   refine Runs.ite (b:=r92) (by simp[hh,m3_1,m4_2,m5_3,g3_1,g4_2,g5_3]) (fun dr92=>?_) (fun dr92=>?_)
   ·replace h:=h.1 dr92
    refine zE fun k' hk'=>?_
    simp[hh,m3_1,m4_2,m5_3,g3_1,g4_2,g5_3,dr92]
    apply hk'
    exact Runs.ret1 (v:=bool false) Tryz.func157 Tryz.results157 (by simp[hh,m3_1,m4_2,m5_3,g3_1,g4_2,g5_3,dr92]) (hQ _ _ _ _ (.of (.v _)) ⟨false,h,rfl⟩)
   replace h:=h.2 dr92
   refine Runs.skip ?_
   refine Runs.inBlock ?_
   refine zF fun k' hk'=>?_
   obtain⟨hb93,h⟩:=h
   obtain⟨v94,ev94,h⟩:=atm h
   have f95:=ib_add hb93 ev94
   simp[hh,m3_1,m4_2,m5_3,g3_1,g4_2,g5_3,f95,dr92,-intBin]
   apply hk'
   refine IH12 (v94) _ _ _ h (by refine⟨?_,?_,?_,?_,?_,?_,?_⟩<;>first | (simp[hh,m3_1,m4_2,m5_3,g3_1,g4_2,g5_3,dr92];done) | omega | (simp;omega))
  replace h:=hJ71
  obtain⟨c96,ec96,h⟩:=atm h
  have f97:=ib_neq (k:=.i64) ec96
  rcases Bool.eq_false_or_eq_true c96 with dc96 | dc96
  ·replace h:=h.1 dc96
   simp[hh,m3_1,m4_2,m5_3,m8_18,m9_26,g3_1,g4_2,g5_3,g8_18,g9_26,f97,dc29,dc96,-intBin]
   exact fin74 (true) _ _ _ h (by refine⟨?_,?_,?_,?_,?_,?_,?_⟩<;>first | (simp[hh,m3_1,m4_2,m5_3,m8_18,m9_26,g3_1,g4_2,g5_3,g8_18,g9_26,f97,dc29,dc96,-intBin];done) | omega | (simp;omega))
  replace h:=h.2 dc96
  obtain⟨c98,ec98,h⟩:=atm h
  have f99:=ib_neq (k:=.i64) ec98
  simp[hh,m3_1,m4_2,m5_3,m8_18,m9_26,g3_1,g4_2,g5_3,g8_18,g9_26,f97,f99,dc29,dc96,-intBin]
  exact fin74 (c98) _ _ _ h (by refine⟨?_,?_,?_,?_,?_,?_,?_⟩<;>first | (simp[hh,m3_1,m4_2,m5_3,m8_18,m9_26,g3_1,g4_2,g5_3,g8_18,g9_26,f97,f99,dc29,dc96,-intBin];done) | omega | (simp;omega))
 replace h:=h.2 dc14
 refine Runs.exit rfl ?_
 refine zE fun k' hk'=>?_
 simp[hh,m3_1,m4_2,m5_3,g3_1,g4_2,g5_3,dc14]
 apply hk'
 exact Runs.ret1 (v:=bool true) Tryz.func157 Tryz.results157 (by simp[hh,m3_1,m4_2,m5_3,g3_1,g4_2,g5_3,dc14]) (hQ _ _ _ _ (.of (.v _)) ⟨true,h,rfl⟩)
theorem areImages_ok (redex:Big) (agent:Big) (m:Match) (hp:areImages_pre redex agent m):PureC Tryz.prog 157 [.agg (bC false redex),.agg (bC false agent),.agg (mC false m)] (fun r=>r=bool (areImages redex agent m)):=(areImages_walk redex agent m _ (areImages_vc redex agent m hp)).mono (by rintro _ ⟨_,rfl,rfl⟩;rfl)
theorem e158:Ent Tryz.prog 158:=Ent.of Tryz.func158 (by kernel_rfl) rfl
theorem matchLinks_walk (redex:Big) (agent:Big) (nodes:List Int) (Z:((List Int) × Bool)→Prop) (h:matchLinks_wp redex agent nodes Z):OwnS Tryz.prog 158 [.agg (bC false redex),.agg (bC false agent),.list false (nodes.map intC)] (.t [.s [.c],.c]) (fun r=>∃ y:(List Int) × Bool,Z y∧r = .tup [.list true (y.1.map intC),bool y.2]):=by
 unfold matchLinks_wp at h
 have sp:Sep noHeap 0 [] []:=Sep.nil (by simp)
 refine OwnS.of Tryz.func158 rfl Tryz.ntmps158 (by simp) fun Q hQ=>?_
 refine Runs.cut (fun ρ H n=>(ρ 0 = .agg (bC false redex)∧ρ 1 = .agg (bC false agent)∧ρ 2 = .list false (nodes.map intC))∧Sep H n [] []) (by refine⟨?_,sp⟩<;>simp ) ?_
 rintro ρ H n1 ⟨hh,sp⟩
 refine zE fun k' hk'=>?_
 simp[hh]
 apply hk'
 refine Runs.cut (fun ρ H n=>(ρ 2 = .list false (nodes.map intC)∧ρ 3=pA n1 3∧ρ 4=pA (n1+1) 4)∧H (n1,3)=some ⟨6,[bC false redex]⟩∧H (n1+1,4)=some ⟨6,[bC false agent]⟩∧Sep H n [] [(n1+1,4),(n1,3)]) (by refine⟨?_,?_,?_,sp.var.var⟩<;>simp[hh]) ?_
 clear hh
 rintro ρ H n4 ⟨hh,m3_1,m4_2,sp⟩
 refine zE fun k' hk'=>?_
 obtain⟨len5,elen5,h⟩:=atm h
 have f6:=fun H=>len_list (H:=H) (fr:=false) (f:=strC) kd_25 elen5
 obtain⟨hb7,h⟩:=h
 obtain⟨v8,ev8,h⟩:=atm h
 have f9:=ib_add hb7 ev8
 obtain⟨hb10,h⟩:=h
 obtain⟨r11,er11,h⟩:=atm h
 simp[hh,m3_1,m4_2,f6,f9,-intBin,-lenF]
 refine RunK.callW Ty_ok (repeatI_ok [(-1)] v8 hb10) e182 (.cons (ArgOk.listF (fr:=true) (els:=[(-1)].map intC) (by simp)) (.cons (.v _ _ _) .nil)) sp (by decide) (by decide) rfl (by simp[hh,m3_1,m4_2,f6,f9,-intBin,-lenF]) ?_
 rintro v12 H13 n14 _ sp rfl hle16 hfr15
 rw[← er11] at sp
 have m3_1:H13 (n1,3)=some ⟨6,[bC false redex]⟩:=(hfr15 _ (by simp)).trans (by simp[hh,m3_1,m4_2,Heap.get_set])
 have m4_2:H13 (n1+1,4)=some ⟨6,[bC false agent]⟩:=(hfr15 _ (by simp)).trans (by simp[hh,m3_1,m4_2,Heap.get_set])
 simp[hh,m3_1,m4_2,f6,f9,-intBin,-lenF]
 apply hk'
 refine Runs.cut (fun ρ H n=>∃ (v19:AVal),(ρ 2 = .list false (nodes.map intC)∧ρ 3=pA n1 3∧ρ 4=pA (n1+1) 4∧ρ 8=v19)∧H (n1,3)=some ⟨6,[bC false redex]⟩∧H (n1+1,4)=some ⟨6,[bC false agent]⟩∧Sep H n [oI v19 r11] [(n1+1,4),(n1,3)]) (by refine⟨v12,?_,?_,?_,sp⟩<;>simp[hh,m3_1,m4_2,f6,f9,-intBin,-lenF]) ?_
 clear hh m3_1 m4_2
 rintro ρ H n20 ⟨v19,hh,m3_1,m4_2,sp⟩
 refine Runs.seq ?_
 refine zE fun k' hk'=>?_
 obtain⟨len21,elen21,h⟩:=atm h
 have f22:=fun H=>len_list (H:=H) (fr:=false) (f:=(GNode.cells false)) kd_44 elen21
 simp[hh,m3_1,m4_2,f22,-lenF]
 apply hk'
 refine Runs.block ?_
 refine Runs.loopW h (fun (sJ:Int × (List Int)) ρ H n=>match sJ with | (v30,l31)=>∃ (v32:AVal),(ρ 2 = .list false (nodes.map intC)∧ρ 3=pA n1 3∧ρ 4=pA (n1+1) 4∧ρ 8=v32∧ρ 28 = .list false (redex.nodes.map (GNode.cells false))∧ρ 29=int len21∧ρ 30=int v30)∧H (n1,3)=some ⟨6,[bC false redex]⟩∧H (n1+1,4)=some ⟨6,[bC false agent]⟩∧Sep H n [oI v32 l31] [(n1+1,4),(n1,3)]) (by refine⟨v19,?_,?_,?_,sp⟩<;>simp[hh,m3_1,m4_2]) ?_
 clear hh m3_1 m4_2
 rintro⟨v30,l31⟩ ρ H n33 K h ⟨v32,hh,m3_1,m4_2,sp⟩ IH34
 refine zE fun k' hk'=>?_
 obtain⟨c36,ec36,h⟩:=atm h
 have f37:=ib_lss (k:=.i64) ec36
 simp[hh,m3_1,m4_2,f37,-intBin]
 apply hk'
 refine Runs.seq ?_
 refine Runs.ite (b:=c36) (by simp[hh,m3_1,m4_2]) (fun dc36=>?_) (fun dc36=>?_)
 ·replace h:=h.1 dc36
  refine Runs.skip ?_
  refine Runs.seq ?_
  refine Runs.block ?_
  refine zE fun k' hk'=>?_
  obtain⟨hb38,h⟩:=h
  obtain⟨x39,ex39,h⟩:=atm h
  have f40:=fun H=>ix_list (H:=H) (fr:=false) (f:=(GNode.cells false)) (k:=.i64) kd_44 (fun _=>rfl) hb38 ex39
  simp[hh,m3_1,m4_2,f40,dc36,-indexAddrF]
  apply hk'
  refine Runs.cut (fun ρ H n=>∃ (v42:AVal),(ρ 2 = .list false (nodes.map intC)∧ρ 3=pA n1 3∧ρ 4=pA (n1+1) 4∧ρ 8=v42∧ρ 9=int v30∧ρ 10=pA n33 10∧ρ 28 = .list false (redex.nodes.map (GNode.cells false))∧ρ 29=int len21∧ρ 30=int v30)∧H (n1,3)=some ⟨6,[bC false redex]⟩∧H (n1+1,4)=some ⟨6,[bC false agent]⟩∧H (n33,10)=some ⟨3,[[int x39.control,int x39.parent,.list false (x39.links.map intC)]]⟩∧Sep H n [oI v42 l31] [(n33,10),(n1+1,4),(n1,3)]) (by refine⟨v32,?_,?_,?_,?_,sp.var⟩<;>simp[hh,m3_1,m4_2,f40,dc36,-indexAddrF]) ?_
  clear hh m3_1 m4_2
  rintro ρ H n43 ⟨v42,hh,m3_1,m4_2,m10_40,sp⟩
  refine zE fun k' hk'=>?_
  obtain⟨len44,elen44,h⟩:=atm h
  have f45:=fun H=>len_list (H:=H) (fr:=false) (f:=intC) kd_24 elen44
  simp[hh,m3_1,m4_2,m10_40,f45,-lenF]
  apply hk'
  refine Runs.block ?_
  refine Runs.loopW h (fun (sJ:Int × (List Int)) ρ H n=>match sJ with | (v53,l54)=>∃ (v55:AVal),(ρ 2 = .list false (nodes.map intC)∧ρ 3=pA n1 3∧ρ 4=pA (n1+1) 4∧ρ 8=v55∧ρ 9=int v30∧ρ 28 = .list false (redex.nodes.map (GNode.cells false))∧ρ 29=int len21∧ρ 30=int v30∧ρ 36 = .list false (x39.links.map intC)∧ρ 37=int len44∧ρ 38=int v53)∧H (n1,3)=some ⟨6,[bC false redex]⟩∧H (n1+1,4)=some ⟨6,[bC false agent]⟩∧Sep H n [oI v55 l54] [(n1+1,4),(n1,3)]) (by refine⟨v42,?_,?_,?_,(Sep.sub sp (by simp +contextual))⟩<;>simp[hh,m3_1,m4_2,m10_40]) ?_
  clear hh m3_1 m4_2 m10_40
  rintro⟨v53,l54⟩ ρ H n56 K h ⟨v55,hh,m3_1,m4_2,sp⟩ IH57
  refine zE fun k' hk'=>?_
  obtain⟨c59,ec59,h⟩:=atm h
  have f60:=ib_lss (k:=.i64) ec59
  simp[hh,m3_1,m4_2,f60,-intBin]
  apply hk'
  refine Runs.seq ?_
  refine Runs.ite (b:=c59) (by simp[hh,m3_1,m4_2]) (fun dc59=>?_) (fun dc59=>?_)
  ·replace h:=h.1 dc59
   refine Runs.skip ?_
   refine Runs.seq ?_
   refine Runs.block ?_
   refine zE fun k' hk'=>?_
   obtain⟨hb61,h⟩:=h
   obtain⟨x62,ex62,h⟩:=atm h
   have f63:=fun H=>ix_list (H:=H) (fr:=false) (f:=intC) (k:=.i64) kd_24 (fun _=>rfl) hb61 ex62
   simp[hh,m3_1,m4_2,f63,dc59,-indexAddrF]
   apply hk'
   refine Runs.seqD Ty_ok kindOp_ok draws (by decide) (by kernel_rfl) fun k' hk'=>?_
   obtain⟨hb64,h⟩:=h
   obtain⟨x65,ex65,h⟩:=atm h
   have f66:=fun H=>ix_list (H:=H) (fr:=false) (f:=intC) (k:=.i64) kd_24 (fun _=>rfl) hb64 ex65
   obtain⟨hb67,h⟩:=h
   obtain⟨x68,ex68,h⟩:=atm h
   have f69:=fun H=>ix_list (H:=H) (fr:=false) (f:=(GNode.cells false)) (k:=.i64) kd_44 (fun _=>rfl) hb67 ex68
   obtain⟨hb70,h⟩:=h
   obtain⟨x71,ex71,h⟩:=atm h
   have f72:=fun H=>ix_list (H:=H) (fr:=false) (f:=intC) (k:=.i64) kd_24 (fun _=>rfl) hb70 ex71
   simp[hh,m3_1,m4_2,f66,f69,f72,dc59,-indexAddrF]
   apply hk'
   refine Runs.cut (fun ρ H n=>∃ (v73:AVal),(ρ 2 = .list false (nodes.map intC)∧ρ 3=pA n1 3∧ρ 4=pA (n1+1) 4∧ρ 8=v73∧ρ 9=int v30∧ρ 12=int x62∧ρ 13=int x71∧ρ 28 = .list false (redex.nodes.map (GNode.cells false))∧ρ 29=int len21∧ρ 30=int v30∧ρ 36 = .list false (x39.links.map intC)∧ρ 37=int len44∧ρ 38=int v53)∧H (n1,3)=some ⟨6,[bC false redex]⟩∧H (n1+1,4)=some ⟨6,[bC false agent]⟩∧Sep H n [oI v73 l54] [(n1+1,4),(n1,3)]) (by refine⟨v55,?_,?_,?_,sp⟩<;>simp[hh,m3_1,m4_2,f66,f69,f72,dc59,-indexAddrF]) ?_
   clear hh m3_1 m4_2
   rintro ρ H n74 ⟨v73,hh,m3_1,m4_2,sp⟩
   refine Runs.seq ?_
   refine zE fun k' hk'=>?_
   obtain⟨J75,hJ76,hr77⟩:=h
   have fin80:∀ (sJ:Bool) (ρ:Env) (H:Heap) (n:Nat),J75 sJ→(match sJ with | b78=>∃ (v79:AVal),(ρ 2 = .list false (nodes.map intC)∧ρ 3=pA n1 3∧ρ 4=pA (n1+1) 4∧ρ 8=v79∧ρ 9=int v30∧ρ 12=int x62∧ρ 13=int x71∧ρ 28 = .list false (redex.nodes.map (GNode.cells false))∧ρ 29=int len21∧ρ 30=int v30∧ρ 36 = .list false (x39.links.map intC)∧ρ 37=int len44∧ρ 38=int v53∧ρ 67=bool b78)∧H (n1,3)=some ⟨6,[bC false redex]⟩∧H (n1+1,4)=some ⟨6,[bC false agent]⟩∧Sep H n [oI v79 l54] [(n1+1,4),(n1,3)])→Runs Tryz.prog 158 110 k' ρ H n Q:=by
    rintro b78 ρ H n81 h ⟨v79,hh,m3_1,m4_2,sp⟩
    replace h:=hr77 _ h
    apply hk'
    refine Runs.ite (b:=b78) (by simp[hh,m3_1,m4_2]) (fun db78=>?_) (fun db78=>?_)
    ·replace h:=h.1 db78
     refine zE fun k' hk'=>?_
     simp[hh,m3_1,m4_2,db78]
     apply hk'
     exact Runs.ret2 (v:=.v (.slice none 0 0)) (w:=bool false) Tryz.func158 Tryz.results158 (by simp[hh,m3_1,m4_2,db78]) (by simp[hh,m3_1,m4_2,db78]) (hQ _ _ _ _ (Sep.sub (ids':=[]) (Sep.hd (Sep.packT (Fill.own (Fill.v _ Fill.nil)) (Sep.addNil sp))) (by simp)) ⟨([],false),h,rfl⟩)
    replace h:=h.2 db78
    refine Runs.skip ?_
    refine zF fun k' hk'=>?_
    obtain⟨hb84,h⟩:=h
    obtain⟨id85,hv,mo86,ln87,ni88⟩:=Sep.openF sp (by simp) hb84
    subst hv
    simp at ni88
    obtain⟨x89,ex89,h⟩:=atm h
    have f90:=fun H (hm:H id85=some ⟨1,l54.map intC⟩)=>ix_arr (H:=H) (k:=.i64) (off:=0) (len:=l54.length) (g:=l54.length) kd_24 hm (by simp) rfl hb84
    have f91:=at_some (q:=x62.toNat) hb84 ex89 rfl
    obtain⟨l92,el92,h⟩:=atm h
    simp[hh,m3_1,m4_2,mo86,ni88,f90,f91,db78,-indexAddrF,-storeF]
    refine bind_store (q:=x62.toNat) (news:=intC x71) [] [] sp (by simp) (by simp;omega) (by simp) (by simp[-one1,o1x]) (Fill.v _ Fill.nil) ?_
    rintro H93 sp hfr94
    replace sp:Sep H93 n81 [oI (.arr id85 l54.length 0 l54.length) l92] [(n1+1,4),(n1,3)]:=Sep.st el92 sp
    have m3_1:H93 (n1,3)=some ⟨6,[bC false redex]⟩:=(hfr94 _ (by simp)).trans (by simp[hh,m3_1,m4_2,mo86,ni88,Heap.get_set])
    have m4_2:H93 (n1+1,4)=some ⟨6,[bC false agent]⟩:=(hfr94 _ (by simp)).trans (by simp[hh,m3_1,m4_2,mo86,ni88,Heap.get_set])
    simp[hh,m3_1,m4_2,ni88,f90,f91,db78,-indexAddrF]
    apply hk'
    refine Runs.cut (fun ρ H n=>∃ (v96:AVal),(ρ 2 = .list false (nodes.map intC)∧ρ 3=pA n1 3∧ρ 4=pA (n1+1) 4∧ρ 8=v96∧ρ 9=int v30∧ρ 28 = .list false (redex.nodes.map (GNode.cells false))∧ρ 29=int len21∧ρ 30=int v30∧ρ 36 = .list false (x39.links.map intC)∧ρ 37=int len44∧ρ 38=int v53)∧H (n1,3)=some ⟨6,[bC false redex]⟩∧H (n1+1,4)=some ⟨6,[bC false agent]⟩∧Sep H n [oI v96 l92] [(n1+1,4),(n1,3)]) (by refine⟨.arr id85 l54.length 0 l54.length,?_,?_,?_,sp⟩<;>simp[hh,m3_1,m4_2,ni88,f90,f91,db78,-indexAddrF]) ?_
    clear hh m3_1 m4_2 ni88
    rintro ρ H n97 ⟨v96,hh,m3_1,m4_2,sp⟩
    refine Runs.inBlock ?_
    refine zF fun k' hk'=>?_
    obtain⟨hb98,h⟩:=h
    obtain⟨v99,ev99,h⟩:=atm h
    have f100:=ib_add hb98 ev99
    simp[hh,m3_1,m4_2,f100,-intBin]
    apply hk'
    refine IH57 (v99,l92) _ _ _ h (by refine⟨v96,?_,?_,?_,sp⟩<;>simp[hh,m3_1,m4_2])
   replace h:=hJ76
   obtain⟨hb101,h⟩:=h
   obtain⟨id102,hv,mo103,ln104,ni105⟩:=Sep.openF sp (by simp) hb101
   subst hv
   simp at ni105
   obtain⟨x106,ex106,h⟩:=atm h
   have f107:=fun H (hm:H id102=some ⟨1,l54.map intC⟩)=>ix_arr (H:=H) (k:=.i64) (off:=0) (len:=l54.length) (g:=l54.length) kd_24 hm (by simp) rfl hb101
   have f108:=at_some (q:=x62.toNat) hb101 ex106 rfl
   obtain⟨c109,ec109,h⟩:=atm h
   have f110:=ib_geq (k:=.i64) ec109
   rcases Bool.eq_false_or_eq_true c109 with dc109 | dc109
   ·replace h:=h.1 dc109
    obtain⟨hb111,h⟩:=h
    obtain⟨x112,ex112,h⟩:=atm h
    have hq113:=ex106.trans ex112.symm
    subst hq113
    have f114:=fun H (hm:H id102=some ⟨1,l54.map intC⟩)=>ix_arr (H:=H) (k:=.i64) (off:=0) (len:=l54.length) (g:=l54.length) kd_24 hm (by simp) rfl hb111
    have f115:=at_some (q:=x62.toNat) hb111 ex106 rfl
    obtain⟨c116,ec116,h⟩:=atm h
    have f117:=ib_neq (k:=.i64) ec116
    simp[hh,m3_1,m4_2,mo103,ni105,f107,f108,f110,f114,f115,f117,dc109,-indexAddrF,-intBin]
    exact fin80 (c116) _ _ _ h (by refine⟨.arr id102 l54.length 0 l54.length,?_,?_,?_,sp⟩<;>simp[hh,m3_1,m4_2,mo103,ni105,f107,f108,f110,f114,f115,f117,dc109,-indexAddrF,-intBin])
   replace h:=h.2 dc109
   simp[hh,m3_1,m4_2,mo103,ni105,f107,f108,f110,dc109,-indexAddrF,-intBin]
   exact fin80 (false) _ _ _ h (by refine⟨.arr id102 l54.length 0 l54.length,?_,?_,?_,sp⟩<;>simp[hh,m3_1,m4_2,mo103,ni105,f107,f108,f110,dc109,-indexAddrF,-intBin])
  replace h:=h.2 dc59
  refine Runs.exit rfl ?_
  refine Runs.inBlock ?_
  refine zF fun k' hk'=>?_
  obtain⟨hb118,h⟩:=h
  obtain⟨v119,ev119,h⟩:=atm h
  have f120:=ib_add hb118 ev119
  simp[hh,m3_1,m4_2,f120,dc59,-intBin]
  apply hk'
  refine IH34 (v119,l54) _ _ _ h (by refine⟨v55,?_,?_,?_,sp⟩<;>simp[hh,m3_1,m4_2,dc59])
 replace h:=h.2 dc36
 refine Runs.exit rfl ?_
 refine Runs.seq ?_
 refine zE fun k' hk'=>?_
 simp[hh,m3_1,m4_2,dc36]
 apply hk'
 refine Runs.block ?_
 refine Runs.loopW h (fun (sJ:Int) ρ H n=>match sJ with | v124=>∃ (v125:AVal),(ρ 3=pA n1 3∧ρ 4=pA (n1+1) 4∧ρ 8=v125∧ρ 75=int redex.edges∧ρ 76=int v124)∧H (n1,3)=some ⟨6,[bC false redex]⟩∧H (n1+1,4)=some ⟨6,[bC false agent]⟩∧Sep H n [oI v125 l31] [(n1+1,4),(n1,3)]) (by refine⟨v32,?_,?_,?_,sp⟩<;>simp[hh,m3_1,m4_2,dc36]) ?_
 clear hh m3_1 m4_2
 rintro v124 ρ H n126 K h ⟨v125,hh,m3_1,m4_2,sp⟩ IH127
 refine zE fun k' hk'=>?_
 obtain⟨c129,ec129,h⟩:=atm h
 have f130:=ib_lss (k:=.i64) ec129
 simp[hh,m3_1,m4_2,f130,-intBin]
 apply hk'
 refine Runs.seq ?_
 refine Runs.ite (b:=c129) (by simp[hh,m3_1,m4_2]) (fun dc129=>?_) (fun dc129=>?_)
 ·replace h:=h.1 dc129
  refine Runs.skip ?_
  refine Runs.seq ?_
  refine Runs.block ?_
  refine zE fun k' hk'=>?_
  simp[hh,m3_1,m4_2,dc129]
  apply hk'
  refine zE fun k' hk'=>?_
  obtain⟨hb131,h⟩:=h
  obtain⟨r132,er132,h⟩:=atm h
  simp[hh,m3_1,m4_2,dc129]
  refine RunK.callW Ty_ok (pointsOf_ok redex v124 hb131) e169 (.cons (argB false redex) (.cons (.v _ _ _) .nil)) sp (by decide) (by decide) rfl (by simp[hh,m3_1,m4_2,dc129]) ?_
  rintro v133 H134 n135 _ sp rfl hle137 hfr136
  rw[← er132] at sp
  have m3_1:H134 (n1,3)=some ⟨6,[bC false redex]⟩:=(hfr136 _ (by simp)).trans (by simp[hh,m3_1,m4_2,Heap.get_set])
  have m4_2:H134 (n1+1,4)=some ⟨6,[bC false agent]⟩:=(hfr136 _ (by simp)).trans (by simp[hh,m3_1,m4_2,Heap.get_set])
  replace sp:=Sep.unpackT sp
  obtain⟨L141,hv,hl142,sp⟩:=sp
  subst hv
  obtain⟨v139,v140,hv⟩:=len2 (by simpa using hl142)
  subst hv
  simp only[zip3,List.cons_append,List.nil_append] at sp
  replace sp:=Sep.rot sp
  try simp only[List.cons_append,List.nil_append,List.append_assoc] at sp
  replace sp:=Sep.rot sp
  try simp only[List.cons_append,List.nil_append,List.append_assoc] at sp
  replace sp:Sep H134 n135 [oI v125 l31,oE [.c,.c] intC2 v139 r132.1,oS v140 r132.2] [(n1+1,4),(n1,3)]:=sp
  simp[hh,m3_1,m4_2,dc129]
  apply hk'
  refine Runs.cut (fun ρ H n=>∃ (v145 v146:AVal),(ρ 3=pA n1 3∧ρ 4=pA (n1+1) 4∧ρ 8=v145∧ρ 14=int v124∧ρ 15=v146∧ρ 75=int redex.edges∧ρ 76=int v124)∧H (n1,3)=some ⟨6,[bC false redex]⟩∧H (n1+1,4)=some ⟨6,[bC false agent]⟩∧Sep H n [oI v145 l31,oE [.c,.c] intC2 v146 r132.1] [(n1+1,4),(n1,3)]) (by refine⟨v125,v139,?_,?_,?_,sp.f2.dr⟩<;>simp[hh,m3_1,m4_2,dc129]) ?_
  clear hh m3_1 m4_2
  rintro ρ H n147 ⟨v145,v146,hh,m3_1,m4_2,sp⟩
  refine Runs.seqD Ty_ok kindOp_ok draws (by decide) (by kernel_rfl) fun k' hk'=>?_
  obtain⟨hb148,h⟩:=h
  obtain⟨id149,hv,mo150,ln151,ni152⟩:=Sep.openF sp (by simp) hb148
  subst hv
  simp at ni152
  obtain⟨x153,ex153,h⟩:=atm h
  have f154:=fun H (hm:H id149=some ⟨1,l31.map intC⟩)=>ix_arr (H:=H) (k:=.i64) (off:=0) (len:=l31.length) (g:=l31.length) kd_24 hm (by simp) rfl hb148
  have f155:=at_some (q:=v124.toNat) hb148 ex153 rfl
  obtain⟨hb156,h⟩:=h
  obtain⟨r157,er157,h⟩:=atm h
  simp[hh,m3_1,m4_2,mo150,ni152,f154,f155,-indexAddrF]
  refine RunDK.callA Ty_ok kindOp_ok ((pointsOf_ok agent x153 hb156).pure) e169 (.cons (argB false agent) (.cons (.v _ _ _) .nil)) (by decide) rfl (by simp[hh,m3_1,m4_2,mo150,ni152,f154,f155,-indexAddrF]) ?_
  rw[← er157]
  simp[hh,m3_1,m4_2,mo150,ni152,f154,f155,-indexAddrF]
  apply hk'
  refine Runs.seqD Ty_ok kindOp_ok draws (by decide) (by kernel_rfl) fun k' hk'=>?_
  obtain⟨J158,hJ159,hr160⟩:=h
  have fin163:∀ (sJ:Bool) (ρ:Env) (H:Heap) (n:Nat),J158 sJ→(match sJ with | b161=>∃ (v162:AVal),(ρ 3=pA n1 3∧ρ 4=pA (n1+1) 4∧ρ 8=v162∧ρ 75=int redex.edges∧ρ 76=int v124∧ρ 107=bool b161)∧H (n1,3)=some ⟨6,[bC false redex]⟩∧H (n1+1,4)=some ⟨6,[bC false agent]⟩∧Sep H n [oI v162 l31] [(n1+1,4),(n1,3)])→Runs Tryz.prog 158 110 k' ρ H n Q:=by
   rintro b161 ρ H n164 h ⟨v162,hh,m3_1,m4_2,sp⟩
   replace h:=hr160 _ h
   apply hk'
   refine Runs.ite (b:=b161) (by simp[hh,m3_1,m4_2]) (fun db161=>?_) (fun db161=>?_)
   ·replace h:=h.1 db161
    refine zE fun k' hk'=>?_
    simp[hh,m3_1,m4_2,db161]
    apply hk'
    exact Runs.ret2 (v:=.v (.slice none 0 0)) (w:=bool false) Tryz.func158 Tryz.results158 (by simp[hh,m3_1,m4_2,db161]) (by simp[hh,m3_1,m4_2,db161]) (hQ _ _ _ _ (Sep.sub (ids':=[]) (Sep.hd (Sep.packT (Fill.own (Fill.v _ Fill.nil)) (Sep.addNil sp))) (by simp)) ⟨([],false),h,rfl⟩)
   replace h:=h.2 db161
   refine Runs.skip ?_
   refine Runs.inBlock ?_
   refine zF fun k' hk'=>?_
   obtain⟨hb167,h⟩:=h
   obtain⟨v168,ev168,h⟩:=atm h
   have f169:=ib_add hb167 ev168
   simp[hh,m3_1,m4_2,f169,db161,-intBin]
   apply hk'
   refine IH127 (v168) _ _ _ h (by refine⟨v162,?_,?_,?_,sp⟩<;>simp[hh,m3_1,m4_2,db161])
  replace h:=hJ159
  obtain⟨hb170,h⟩:=h
  obtain⟨x171,ex171,h⟩:=atm h
  have hq172:=ex153.trans ex171.symm
  subst hq172
  have f173:=fun H (hm:H id149=some ⟨1,l31.map intC⟩)=>ix_arr (H:=H) (k:=.i64) (off:=0) (len:=l31.length) (g:=l31.length) kd_24 hm (by simp) rfl hb170
  have f174:=at_some (q:=v124.toNat) hb170 ex153 rfl
  obtain⟨c175,ec175,h⟩:=atm h
  have f176:=ib_geq (k:=.i64) ec175
  rcases Bool.eq_false_or_eq_true c175 with dc175 | dc175
  ·replace h:=h.1 dc175
   simp[hh,m3_1,m4_2,mo150,ni152,f173,f174,f176,dc175,-indexAddrF,-intBin]
   exact fin163 (true) _ _ _ h (by refine⟨.arr id149 l31.length 0 l31.length,?_,?_,?_,sp.f1.dr⟩<;>simp[hh,m3_1,m4_2,mo150,ni152,f173,f174,f176,dc175,-indexAddrF,-intBin])
  replace h:=h.2 dc175
  obtain⟨len177,elen177,h⟩:=atm h
  have f178:=fun H=>len_list (H:=H) (fr:=true) (f:=intC2) kd_186 elen177
  obtain⟨len179,elen179,h⟩:=atm h
  have f180:=len_own (Sep.len (m:=len179) sp.f1 kd_186 (by rw[elen179,List.length_map]))
  obtain⟨c181,ec181,h⟩:=atm h
  have f182:=ib_neq (k:=.i64) ec181
  simp[hh,m3_1,m4_2,mo150,ni152,f173,f174,f176,f178,f180,f182,dc175,-indexAddrF,-intBin,-lenF]
  exact fin163 (c181) _ _ _ h (by refine⟨.arr id149 l31.length 0 l31.length,?_,?_,?_,sp.f1.dr⟩<;>simp[hh,m3_1,m4_2,mo150,ni152,f173,f174,f176,f178,f180,f182,dc175,-indexAddrF,-intBin,-lenF])
 replace h:=h.2 dc129
 refine Runs.exit rfl ?_
 refine zE fun k' hk'=>?_
 simp[hh,m3_1,m4_2,dc129]
 apply hk'
 exact Runs.ret2 (v:=v125) (w:=bool true) Tryz.func158 Tryz.results158 (by simp[hh,m3_1,m4_2,dc129]) (by simp[hh,m3_1,m4_2,dc129]) (hQ _ _ _ _ (Sep.sub (ids':=[]) (Sep.packT (Fill.own (Fill.v _ Fill.nil)) sp) (by simp)) ⟨(l31,true),h,rfl⟩)
theorem matchLinks_ok (redex:Big) (agent:Big) (nodes:List Int) (hp:matchLinks_pre redex agent nodes):OwnS Tryz.prog 158 [.agg (bC false redex),.agg (bC false agent),.list false (nodes.map intC)] (.t [.s [.c],.c]) (fun r=>r = .tup [.list true (((matchLinks redex agent nodes).1).map intC),bool ((matchLinks redex agent nodes).2)]):=(matchLinks_walk redex agent nodes _ (matchLinks_vc redex agent nodes hp)).mono (by rintro _ ⟨_,rfl,rfl⟩;rfl)
theorem e155:Ent Tryz.prog 155:=Ent.of Tryz.func155 (by kernel_rfl) rfl
theorem isMatch1_walk {H0:Heap} {n0:Nat} {X1:Id} {X2:Id} (p:Int) (v_:Big) (v_':Match) (hX1:H0 X1=some ⟨6,[bC false v_]⟩) (hX2:H0 X2=some ⟨2,[mC false v_']⟩) (Z:Bool→Prop) (h:isMatch1_wp p v_ v_' Z):ClosC Tryz.prog H0 n0 (.fn (.func 155) [] [.ptr X1 1 0 0,.ptr X2 1 0 0]) [int p] (fun r=>∃ y:Bool,Z y∧r=bool y):=by
 unfold isMatch1_wp at h
 refine⟨155,[],[.ptr X1 1 0 0,.ptr X2 1 0 0],rfl,e155,?_⟩
 refine StillC.of Tryz.func155 rfl Tryz.ntmps155 (by simp) fun Q hB hQ=>?_
 have lX1:X1.1<n0:=(hB X1 _ hX1).1
 have lX2:X2.1<n0:=(hB X2 _ hX2).1
 have neX1:∀ m d,n0≤m→(X1=(m,d))=False:=fun m d hm=>by simp only[eq_iff_iff,iff_false];rintro rfl;simp at lX1;omega
 have neX2:∀ m d,n0≤m→(X2=(m,d))=False:=fun m d hm=>by simp only[eq_iff_iff,iff_false];rintro rfl;simp at lX2;omega
 have hfr:Frame n0 H0 H0:=Frame.refl _ _
 have hn0:n0≤n0:=Nat.le_refl _
 refine Runs.cut (fun ρ H n=>(ρ 0=int p∧ρ 1 = .ptr X1 1 0 0∧ρ 2 = .ptr X2 1 0 0)∧H X1=some ⟨6,[bC false v_]⟩∧H X2=some ⟨2,[mC false v_']⟩∧n0≤n∧Frame n0 H0 H) (by refine⟨?_,?_,?_,?_,?_⟩<;>first | ((repeat (first | exact hfr | refine Frame.set (by first | omega | (simp;omega)) ?_));done) | omega | simp[hX1,hX2]) ?_
 rintro ρ H n1 ⟨hh,mX1,mX2,hn0,hfr⟩
 have hn1:=Nat.le_succ_of_le hn0
 have hn2:=Nat.le_succ_of_le hn1
 refine zE fun k' hk'=>?_
 simp[hh,mX1,mX2,hn0,hn1,hn2,neX1,neX2]
 apply hk'
 refine zE fun k' hk'=>?_
 obtain⟨J2,hJ3,hr4⟩:=h
 have fin6:∀ (sJ:Bool) (ρ:Env) (H:Heap) (n:Nat),J2 sJ→(match sJ with | b5=>ρ 4=bool b5∧H X1=some ⟨6,[bC false v_]⟩∧H X2=some ⟨2,[mC false v_']⟩∧n0≤n∧Frame n0 H0 H)→Runs Tryz.prog 155 22 k' ρ H n Q:=by
  rintro b5 ρ H n7 h ⟨hh,mX1,mX2,hn0,hfr⟩
  have hn1:=Nat.le_succ_of_le hn0
  have hn2:=Nat.le_succ_of_le hn1
  replace h:=hr4 _ h
  apply hk'
  exact Runs.ret1 (v:=bool b5) Tryz.func155 Tryz.results155 (by simp[hh,mX1,mX2,hn0,hn1,hn2,neX1,neX2]) (hQ _ _ _ _ (.bnd (.v _)) (hfr) ⟨b5,h,rfl⟩)
 replace h:=hJ3
 obtain⟨hb8,h⟩:=h
 obtain⟨v9,ev9,h⟩:=atm h
 have f10:=ub_neg hb8 ev9
 obtain⟨len11,elen11,h⟩:=atm h
 have f12:=fun H=>len_list (H:=H) (fr:=false) (f:=(GNode.cells false)) kd_44 elen11
 obtain⟨hb13,h⟩:=h
 obtain⟨v14,ev14,h⟩:=atm h
 have f15:=ib_sub hb13 ev14
 obtain⟨r16,er16,h⟩:=atm h
 simp[hh,mX1,mX2,hn0,hn1,hn2,neX1,neX2,f10,f12,f15,-intBin,-lenF,-unF,ub_not']
 refine RunK.callA Ty_ok (within_ok p v9 v14 ) e101 (.cons (.v _ _ _) (.cons (.v _ _ _) (.cons (.v _ _ _) .nil))) (by decide) (by decide) rfl (by simp[hh,mX1,mX2,hn0,hn1,hn2,neX1,neX2,f10,f12,f15,-intBin,-lenF,-unF,ub_not']) ?_
 rintro _ rfl
 rw[← er16]
 rcases Bool.eq_false_or_eq_true r16 with dr16 | dr16
 ·replace h:=h.1 dr16
  obtain⟨hb17,h⟩:=h
  obtain⟨r18,er18,h⟩:=atm h
  simp[hh,mX1,mX2,hn0,hn1,hn2,neX1,neX2,f10,f12,f15,dr16,-intBin,-lenF,-unF,ub_not']
  refine RunK.callA Ty_ok (isUnder_ok v_ p v_'.nodes hb17) e156 (.cons (argB false v_) (.cons (.v _ _ _) (.cons (argI false v_'.nodes) .nil))) (by decide) (by decide) rfl (by simp[hh,mX1,mX2,hn0,hn1,hn2,neX1,neX2,f10,f12,f15,dr16,-intBin,-lenF,-unF,ub_not']) ?_
  rintro _ rfl
  rw[← er18]
  simp[hh,mX1,mX2,hn0,hn1,hn2,neX1,neX2,f10,f12,f15,dr16,-intBin,-lenF,-unF,ub_not']
  exact fin6 (r18) _ _ _ h (by refine⟨?_,?_,?_,?_,?_⟩<;>first | ((repeat (first | exact hfr | refine Frame.set (by first | omega | (simp;omega)) ?_));done) | omega | simp[hh,mX1,mX2,hn0,hn1,hn2,neX1,neX2,f10,f12,f15,dr16,-intBin,-lenF,-unF,ub_not'])
 replace h:=h.2 dr16
 simp[hh,mX1,mX2,hn0,hn1,hn2,neX1,neX2,f10,f12,f15,dr16,-intBin,-lenF,-unF,ub_not']
 exact fin6 (true) _ _ _ h (by refine⟨?_,?_,?_,?_,?_⟩<;>first | ((repeat (first | exact hfr | refine Frame.set (by first | omega | (simp;omega)) ?_));done) | omega | simp[hh,mX1,mX2,hn0,hn1,hn2,neX1,neX2,f10,f12,f15,dr16,-intBin,-lenF,-unF,ub_not'])
theorem isMatch1_ok {H0:Heap} {n0:Nat} {X1:Id} {X2:Id} (p:Int) (v_:Big) (v_':Match) (hX1:H0 X1=some ⟨6,[bC false v_]⟩) (hX2:H0 X2=some ⟨2,[mC false v_']⟩) (hp:isMatch1_pre p v_ v_'):ClosC Tryz.prog H0 n0 (.fn (.func 155) [] [.ptr X1 1 0 0,.ptr X2 1 0 0]) [int p] (fun r=>r=bool (isMatch1 p v_ v_')):=(isMatch1_walk p v_ v_' hX1 hX2 _ (isMatch1_vc p v_ v_' hp)).mono (by rintro _ ⟨_,rfl,rfl⟩;rfl)
theorem e103:Ent Tryz.prog 103:=Ent.of Tryz.func103 (by kernel_rfl) rfl
theorem isMatch_walk (redex:Big) (agent:Big) (m:Match) (Z:Bool→Prop) (h:isMatch_wp redex agent m Z):PureC Tryz.prog 103 [.agg (bC false redex),.agg (bC false agent),.agg (mC false m)] (fun r=>∃ y:Bool,Z y∧r=bool y):=by
 unfold isMatch_wp at h
 refine PureC.of Tryz.func103 rfl Tryz.ntmps103 (by simp) fun Q hQ=>?_
 refine Runs.cut (fun ρ H n=>(ρ 0 = .agg (bC false redex)∧ρ 1 = .agg (bC false agent)∧ρ 2 = .agg (mC false m))) (by simp) ?_
 rintro ρ H n1 hh
 refine zE fun k' hk'=>?_
 simp[hh]
 apply hk'
 refine Runs.cut (fun ρ H n=>(ρ 3=pA n1 3∧ρ 4=pA (n1+1) 4∧ρ 5=pA (n1+2) 5)∧H (n1,3)=some ⟨6,[bC false redex]⟩∧H (n1+1,4)=some ⟨6,[bC false agent]⟩∧H (n1+2,5)=some ⟨2,[mC false m]⟩) (by refine⟨?_,?_,?_,?_⟩<;>simp[hh]) ?_
 clear hh
 rintro ρ H n5 ⟨hh,m3_1,m4_2,m5_3⟩
 refine Runs.seq ?_
 refine zE fun k' hk'=>?_
 obtain⟨J6,hJ7,hr8⟩:=h
 have fin10:∀ (sJ:Bool) (ρ:Env) (H:Heap) (n:Nat),J6 sJ→(match sJ with | b9=>(ρ 3=pA n1 3∧ρ 4=pA (n1+1) 4∧ρ 5=pA (n1+2) 5∧ρ 25=bool b9)∧H (n1,3)=some ⟨6,[bC false redex]⟩∧H (n1+1,4)=some ⟨6,[bC false agent]⟩∧H (n1+2,5)=some ⟨2,[mC false m]⟩)→Runs Tryz.prog 103 65 k' ρ H n Q:=by
  rintro b9 ρ H n11 h ⟨hh,m3_1,m4_2,m5_3⟩
  replace h:=hr8 _ h
  apply hk'
  refine Runs.ite (b:=b9) (by simp[hh,m3_1,m4_2,m5_3]) (fun db9=>?_) (fun db9=>?_)
  ·replace h:=h.1 db9
   refine zE fun k' hk'=>?_
   simp[hh,m3_1,m4_2,m5_3,db9]
   apply hk'
   exact Runs.ret1 (v:=bool false) Tryz.func103 Tryz.results103 (by simp[hh,m3_1,m4_2,m5_3,db9]) (hQ _ _ _ _ (.of (.v _)) ⟨false,h,rfl⟩)
  replace h:=h.2 db9
  refine Runs.skip ?_
  refine Runs.seq ?_
  refine zE fun k' hk'=>?_
  obtain⟨len12,elen12,h⟩:=atm h
  have f13:=fun H=>len_list (H:=H) (fr:=false) (f:=intC) kd_24 elen12
  simp[hh,m3_1,m4_2,m5_3,f13,db9,-lenF]
  apply hk'
  refine Runs.block ?_
  refine Runs.loopW h (fun (sJ:Int) ρ H n=>match sJ with | v16=>(ρ 3=pA n1 3∧ρ 4=pA (n1+1) 4∧ρ 5=pA (n1+2) 5∧ρ 27 = .list false (m.nodes.map intC)∧ρ 28=int len12∧ρ 29=int v16)∧H (n1,3)=some ⟨6,[bC false redex]⟩∧H (n1+1,4)=some ⟨6,[bC false agent]⟩∧H (n1+2,5)=some ⟨2,[mC false m]⟩) (by refine⟨?_,?_,?_,?_⟩<;>simp[hh,m3_1,m4_2,m5_3,db9]) ?_
  clear hh m3_1 m4_2 m5_3
  rintro v16 ρ H n17 K h ⟨hh,m3_1,m4_2,m5_3⟩ IH18
  refine zE fun k' hk'=>?_
  obtain⟨c20,ec20,h⟩:=atm h
  have f21:=ib_lss (k:=.i64) ec20
  simp[hh,m3_1,m4_2,m5_3,f21,-intBin]
  apply hk'
  refine Runs.seq ?_
  refine Runs.ite (b:=c20) (by simp[hh,m3_1,m4_2,m5_3]) (fun dc20=>?_) (fun dc20=>?_)
  ·replace h:=h.1 dc20
   refine Runs.skip ?_
   refine Runs.seq ?_
   refine Runs.block ?_
   refine zE fun k' hk'=>?_
   obtain⟨hb22,h⟩:=h
   obtain⟨x23,ex23,h⟩:=atm h
   have f24:=fun H=>ix_list (H:=H) (fr:=false) (f:=intC) (k:=.i64) kd_24 (fun _=>rfl) hb22 ex23
   simp[hh,m3_1,m4_2,m5_3,f24,dc20,-indexAddrF]
   apply hk'
   refine zE fun k' hk'=>?_
   obtain⟨J25,hJ26,hr27⟩:=h
   have fin29:∀ (sJ:Bool) (ρ:Env) (H:Heap) (n:Nat),J25 sJ→(match sJ with | b28=>(ρ 3=pA n1 3∧ρ 4=pA (n1+1) 4∧ρ 5=pA (n1+2) 5∧ρ 27 = .list false (m.nodes.map intC)∧ρ 28=int len12∧ρ 29=int v16∧ρ 45=bool b28)∧H (n1,3)=some ⟨6,[bC false redex]⟩∧H (n1+1,4)=some ⟨6,[bC false agent]⟩∧H (n1+2,5)=some ⟨2,[mC false m]⟩)→Runs Tryz.prog 103 65 k' ρ H n Q:=by
    rintro b28 ρ H n30 h ⟨hh,m3_1,m4_2,m5_3⟩
    replace h:=hr27 _ h
    apply hk'
    refine Runs.ite (b:=b28) (by simp[hh,m3_1,m4_2,m5_3]) (fun db28=>?_) (fun db28=>?_)
    ·replace h:=h.1 db28
     refine zE fun k' hk'=>?_
     simp[hh,m3_1,m4_2,m5_3,db28]
     apply hk'
     exact Runs.ret1 (v:=bool false) Tryz.func103 Tryz.results103 (by simp[hh,m3_1,m4_2,m5_3,db28]) (hQ _ _ _ _ (.of (.v _)) ⟨false,h,rfl⟩)
    replace h:=h.2 db28
    refine Runs.skip ?_
    refine Runs.inBlock ?_
    refine zF fun k' hk'=>?_
    obtain⟨hb31,h⟩:=h
    obtain⟨v32,ev32,h⟩:=atm h
    have f33:=ib_add hb31 ev32
    simp[hh,m3_1,m4_2,m5_3,f33,db28,-intBin]
    apply hk'
    refine IH18 (v32) _ _ _ h (by refine⟨?_,?_,?_,?_⟩<;>simp[hh,m3_1,m4_2,m5_3,db28])
   replace h:=hJ26
   obtain⟨hb34,h⟩:=h
   obtain⟨r35,er35,h⟩:=atm h
   simp[hh,m3_1,m4_2,m5_3,dc20]
   refine RunK.callA Ty_ok (isNodeB_ok agent x23 hb34) e154 (.cons (argB false agent) (.cons (.v _ _ _) .nil)) (by decide) (by decide) rfl (by simp[hh,m3_1,m4_2,m5_3,dc20]) ?_
   rintro _ rfl
   rw[← er35]
   rcases Bool.eq_false_or_eq_true r35 with dr35 | dr35
   ·replace h:=h.1 dr35
    obtain⟨hb36,h⟩:=h
    obtain⟨l37,el37,h⟩:=atm h
    have f38:=fun H=>sl_list (H:=H) (fr:=false) (f:=intC) (lo:=none) (hi:=some (int v16)) (a:=0) (b:=v16) (by simp[boundOf]) (by simp[boundOf]) kd_24 (fun _=>rfl) hb36 el37
    obtain⟨hb39,h⟩:=h
    obtain⟨r40,er40,h⟩:=atm h
    simp[hh,m3_1,m4_2,m5_3,f38,dc20,dr35,-sliceF]
    refine RunK.callA Ty_ok (hasI_ok l37 x23 hb39) e131 (.cons (argI false l37) (.cons (.v _ _ _) .nil)) (by decide) (by decide) rfl (by simp[hh,m3_1,m4_2,m5_3,f38,dc20,dr35,-sliceF]) ?_
    rintro _ rfl
    rw[← er40]
    simp[hh,m3_1,m4_2,m5_3,f38,dc20,dr35,-sliceF]
    exact fin29 (r40) _ _ _ h (by refine⟨?_,?_,?_,?_⟩<;>simp[hh,m3_1,m4_2,m5_3,f38,dc20,dr35,-sliceF])
   replace h:=h.2 dr35
   simp[hh,m3_1,m4_2,m5_3,dc20,dr35]
   exact fin29 (true) _ _ _ h (by refine⟨?_,?_,?_,?_⟩<;>simp[hh,m3_1,m4_2,m5_3,dc20,dr35])
  replace h:=h.2 dc20
  refine Runs.exit rfl ?_
  refine Runs.seq ?_
  refine zE fun k' hk'=>?_
  obtain⟨hb41,h⟩:=h
  obtain⟨r42,er42,h⟩:=atm h
  simp[hh,m3_1,m4_2,m5_3,dc20]
  refine RunK.callT Ty_ok (containsFuncI_ok false m.roots (fun z=>isMatch1 z agent m) hb41.1 (fun z hz=>isMatch1_ok z agent m m4_2 m5_3 (hb41.2 z hz))) e99 (by decide) (by decide) rfl (by simp[hh,m3_1,m4_2,m5_3,dc20]) ?_
  rintro _ rfl
  rw[← er42]
  simp[hh,m3_1,m4_2,m5_3,dc20]
  apply hk'
  refine Runs.ite (b:=r42) (by simp[hh,m3_1,m4_2,m5_3,dc20]) (fun dr42=>?_) (fun dr42=>?_)
  ·replace h:=h.1 dr42
   refine zE fun k' hk'=>?_
   simp[hh,m3_1,m4_2,m5_3,dc20,dr42]
   apply hk'
   exact Runs.ret1 (v:=bool false) Tryz.func103 Tryz.results103 (by simp[hh,m3_1,m4_2,m5_3,dc20,dr42]) (hQ _ _ _ _ (.of (.v _)) ⟨false,h,rfl⟩)
  replace h:=h.2 dr42
  refine Runs.skip ?_
  refine Runs.seq ?_
  refine zE fun k' hk'=>?_
  obtain⟨hb43,h⟩:=h
  obtain⟨r44,er44,h⟩:=atm h
  simp[hh,m3_1,m4_2,m5_3,dc20,dr42]
  refine RunK.callA Ty_ok (areImages_ok redex agent m hb43) e157 (.cons (argB false redex) (.cons (argB false agent) (.cons (argM false m) .nil))) (by decide) (by decide) rfl (by simp[hh,m3_1,m4_2,m5_3,dc20,dr42]) ?_
  rintro _ rfl
  rw[← er44]
  simp[hh,m3_1,m4_2,m5_3,dc20,dr42]
  apply hk'
  refine Runs.ite (b:=(!r44)) (by simp[hh,m3_1,m4_2,m5_3,dc20,dr42]) (fun dr44=>?_) (fun dr44=>?_)
  ·have dr44:r44=false:=by simpa using dr44
   replace h:=h.2 dr44
   refine zE fun k' hk'=>?_
   simp[hh,m3_1,m4_2,m5_3,dc20,dr42,dr44]
   apply hk'
   exact Runs.ret1 (v:=bool false) Tryz.func103 Tryz.results103 (by simp[hh,m3_1,m4_2,m5_3,dc20,dr42,dr44]) (hQ _ _ _ _ (.of (.v _)) ⟨false,h,rfl⟩)
  have dr44:r44=true:=by simpa using dr44
  replace h:=h.1 dr44
  refine Runs.skip ?_
  refine zE fun k' hk'=>?_
  obtain⟨hb45,h⟩:=h
  obtain⟨r46,er46,h⟩:=atm h
  simp[hh,m3_1,m4_2,m5_3,dc20,dr42,dr44]
  refine RunK.callA Ty_ok ((matchLinks_ok redex agent m.nodes hb45).pure) e158 (.cons (argB false redex) (.cons (argB false agent) (.cons (argI false m.nodes) .nil))) (by decide) (by decide) rfl (by simp[hh,m3_1,m4_2,m5_3,dc20,dr42,dr44]) ?_
  rintro _ rfl
  rw[← er46]
  simp[hh,m3_1,m4_2,m5_3,dc20,dr42,dr44]
  apply hk'
  refine Runs.cut (fun ρ H n=>ρ 10=bool r46.2) (by simp[hh,m3_1,m4_2,m5_3,dc20,dr42,dr44]) ?_
  clear hh m3_1 m4_2 m5_3
  rintro ρ H n47 hh
  refine zE fun k' hk'=>?_
  simp[hh]
  apply hk'
  exact Runs.ret1 (v:=bool r46.2) Tryz.func103 Tryz.results103 (by simp[hh]) (hQ _ _ _ _ (.of (.v _)) ⟨r46.2,h,rfl⟩)
 replace h:=hJ7
 obtain⟨len48,elen48,h⟩:=atm h
 have f49:=fun H=>len_list (H:=H) (fr:=false) (f:=intC) kd_24 elen48
 obtain⟨len50,elen50,h⟩:=atm h
 have f51:=fun H=>len_list (H:=H) (fr:=false) (f:=(GNode.cells false)) kd_44 elen50
 obtain⟨c52,ec52,h⟩:=atm h
 have f53:=ib_neq (k:=.i64) ec52
 rcases Bool.eq_false_or_eq_true c52 with dc52 | dc52
 ·replace h:=h.1 dc52
  simp[hh,m3_1,m4_2,m5_3,f49,f51,f53,dc52,-intBin,-lenF]
  exact fin10 (true) _ _ _ h (by refine⟨?_,?_,?_,?_⟩<;>simp[hh,m3_1,m4_2,m5_3,f49,f51,f53,dc52,-intBin,-lenF])
 replace h:=h.2 dc52
 obtain⟨len54,elen54,h⟩:=atm h
 have f55:=fun H=>len_list (H:=H) (fr:=false) (f:=intC) kd_24 elen54
 obtain⟨c56,ec56,h⟩:=atm h
 have f57:=ib_neq (k:=.i64) ec56
 simp[hh,m3_1,m4_2,m5_3,f49,f51,f53,f55,f57,dc52,-intBin,-lenF]
 exact fin10 (c56) _ _ _ h (by refine⟨?_,?_,?_,?_⟩<;>simp[hh,m3_1,m4_2,m5_3,f49,f51,f53,f55,f57,dc52,-intBin,-lenF])
theorem isMatch_ok (redex:Big) (agent:Big) (m:Match) (hp:isMatch_pre redex agent m):PureC Tryz.prog 103 [.agg (bC false redex),.agg (bC false agent),.agg (mC false m)] (fun r=>r=bool (isMatch redex agent m)):=(isMatch_walk redex agent m _ (isMatch_vc redex agent m hp)).mono (by rintro _ ⟨_,rfl,rfl⟩;rfl)
theorem e102:Ent Tryz.prog 102:=Ent.of Tryz.func102 (by kernel_rfl) rfl
theorem isMatching_walk (sig:List Control) (redex:Big) (agent:Big) (Z:Bool→Prop) (h:isMatching_wp sig redex agent Z):PureC Tryz.prog 102 [.list false (sig.map Control.cells),.agg (bC false redex),.agg (bC false agent)] (fun r=>∃ y:Bool,Z y∧r=bool y):=by
 unfold isMatching_wp at h
 refine PureC.of Tryz.func102 rfl Tryz.ntmps102 (by simp) fun Q hQ=>?_
 refine Runs.cut (fun ρ H n=>(ρ 0 = .list false (sig.map Control.cells)∧ρ 1 = .agg (bC false redex)∧ρ 2 = .agg (bC false agent))) (by simp) ?_
 rintro ρ H n1 hh
 refine zE fun k' hk'=>?_
 simp[hh]
 apply hk'
 refine Runs.cut (fun ρ H n=>(ρ 0 = .list false (sig.map Control.cells)∧ρ 4=pA n1 4∧ρ 5=pA (n1+1) 5)∧H (n1,4)=some ⟨6,[bC false redex]⟩∧H (n1+1,5)=some ⟨6,[bC false agent]⟩) (by refine⟨?_,?_,?_⟩<;>simp[hh]) ?_
 clear hh
 rintro ρ H n4 ⟨hh,m4_1,m5_2⟩
 refine zE fun k' hk'=>?_
 obtain⟨J5,hJ6,hr7⟩:=h
 have fin9:∀ (sJ:Bool) (ρ:Env) (H:Heap) (n:Nat),J5 sJ→(match sJ with | b8=>ρ 6=bool b8)→Runs Tryz.prog 102 19 k' ρ H n Q:=by
  rintro b8 ρ H n10 h hh
  replace h:=hr7 _ h
  apply hk'
  exact Runs.ret1 (v:=bool b8) Tryz.func102 Tryz.results102 (by simp[hh]) (hQ _ _ _ _ (.of (.v _)) ⟨b8,h,rfl⟩)
 replace h:=hJ6
 obtain⟨hb11,h⟩:=h
 obtain⟨r12,er12,h⟩:=atm h
 simp[hh,m4_1,m5_2]
 refine RunK.callA Ty_ok (IsBigraph_ok sig redex hb11) e70 (.cons (argC false sig) (.cons (argB false redex) .nil)) (by decide) (by decide) rfl (by simp[hh,m4_1,m5_2]) ?_
 rintro _ rfl
 rw[← er12]
 rcases Bool.eq_false_or_eq_true r12 with dr12 | dr12
 ·replace h:=h.1 dr12
  obtain⟨hb13,h⟩:=h
  obtain⟨r14,er14,h⟩:=atm h
  simp[hh,m4_1,m5_2,dr12]
  refine RunK.callA Ty_ok (isRedex_ok redex hb13) e71 (.cons (argB false redex) .nil) (by decide) (by decide) rfl (by simp[hh,m4_1,m5_2,dr12]) ?_
  rintro _ rfl
  rw[← er14]
  rcases Bool.eq_false_or_eq_true r14 with dr14 | dr14
  ·replace h:=h.1 dr14
   obtain⟨hb15,h⟩:=h
   obtain⟨r16,er16,h⟩:=atm h
   simp[hh,m4_1,m5_2,dr12,dr14]
   refine RunK.callA Ty_ok (agentB_ok sig agent hb15) e74 (.cons (argC false sig) (.cons (argB false agent) .nil)) (by decide) (by decide) rfl (by simp[hh,m4_1,m5_2,dr12,dr14]) ?_
   rintro _ rfl
   rw[← er16]
   simp[hh,m4_1,m5_2,dr12,dr14]
   exact fin9 (r16) _ _ _ h (by simp[hh,m4_1,m5_2,dr12,dr14])
  replace h:=h.2 dr14
  simp[hh,m4_1,m5_2,dr12,dr14]
  exact fin9 (false) _ _ _ h (by simp[hh,m4_1,m5_2,dr12,dr14])
 replace h:=h.2 dr12
 simp[hh,m4_1,m5_2,dr12]
 exact fin9 (false) _ _ _ h (by simp[hh,m4_1,m5_2,dr12])
theorem isMatching_ok (sig:List Control) (redex:Big) (agent:Big) (hp:isMatching_pre sig redex agent):PureC Tryz.prog 102 [.list false (sig.map Control.cells),.agg (bC false redex),.agg (bC false agent)] (fun r=>r=bool (isMatching sig redex agent)):=(isMatching_walk sig redex agent _ (isMatching_vc sig redex agent hp)).mono (by rintro _ ⟨_,rfl,rfl⟩;rfl)
theorem e56:Ent Tryz.prog 56:=Ent.of Tryz.func56 (by kernel_rfl) rfl
theorem isMatched_walk (sig:List Control) (redex:Big) (agent:Big) (m:Match) (Z:Bool→Prop) (h:isMatched_wp sig redex agent m Z):PureC Tryz.prog 56 [.list false (sig.map Control.cells),.agg (bC false redex),.agg (bC false agent),.agg (mC false m)] (fun r=>∃ y:Bool,Z y∧r=bool y):=by
 unfold isMatched_wp at h
 refine PureC.of Tryz.func56 rfl Tryz.ntmps56 (by simp) fun Q hQ=>?_
 refine Runs.cut (fun ρ H n=>(ρ 0 = .list false (sig.map Control.cells)∧ρ 1 = .agg (bC false redex)∧ρ 2 = .agg (bC false agent)∧ρ 3 = .agg (mC false m))) (by simp) ?_
 rintro ρ H n1 hh
 refine zE fun k' hk'=>?_
 simp[hh]
 apply hk'
 refine Runs.cut (fun ρ H n=>(ρ 0 = .list false (sig.map Control.cells)∧ρ 5=pA n1 5∧ρ 6=pA (n1+1) 6∧ρ 7=pA (n1+2) 7)∧H (n1,5)=some ⟨6,[bC false redex]⟩∧H (n1+1,6)=some ⟨6,[bC false agent]⟩∧H (n1+2,7)=some ⟨2,[mC false m]⟩) (by refine⟨?_,?_,?_,?_⟩<;>simp[hh]) ?_
 clear hh
 rintro ρ H n5 ⟨hh,m5_1,m6_2,m7_3⟩
 refine zE fun k' hk'=>?_
 obtain⟨J6,hJ7,hr8⟩:=h
 have fin10:∀ (sJ:Bool) (ρ:Env) (H:Heap) (n:Nat),J6 sJ→(match sJ with | b9=>ρ 8=bool b9)→Runs Tryz.prog 56 19 k' ρ H n Q:=by
  rintro b9 ρ H n11 h hh
  replace h:=hr8 _ h
  apply hk'
  exact Runs.ret1 (v:=bool b9) Tryz.func56 Tryz.results56 (by simp[hh]) (hQ _ _ _ _ (.of (.v _)) ⟨b9,h,rfl⟩)
 replace h:=hJ7
 obtain⟨hb12,h⟩:=h
 obtain⟨r13,er13,h⟩:=atm h
 simp[hh,m5_1,m6_2,m7_3]
 refine RunK.callA Ty_ok (isMatching_ok sig redex agent hb12) e102 (.cons (argC false sig) (.cons (argB false redex) (.cons (argB false agent) .nil))) (by decide) (by decide) rfl (by simp[hh,m5_1,m6_2,m7_3]) ?_
 rintro _ rfl
 rw[← er13]
 rcases Bool.eq_false_or_eq_true r13 with dr13 | dr13
 ·replace h:=h.1 dr13
  obtain⟨hb14,h⟩:=h
  obtain⟨r15,er15,h⟩:=atm h
  simp[hh,m5_1,m6_2,m7_3,dr13]
  refine RunK.callA Ty_ok (isMatch_ok redex agent m hb14) e103 (.cons (argB false redex) (.cons (argB false agent) (.cons (argM false m) .nil))) (by decide) (by decide) rfl (by simp[hh,m5_1,m6_2,m7_3,dr13]) ?_
  rintro _ rfl
  rw[← er15]
  simp[hh,m5_1,m6_2,m7_3,dr13]
  exact fin10 (r15) _ _ _ h (by simp[hh,m5_1,m6_2,m7_3,dr13])
 replace h:=h.2 dr13
 simp[hh,m5_1,m6_2,m7_3,dr13]
 exact fin10 (false) _ _ _ h (by simp[hh,m5_1,m6_2,m7_3,dr13])
theorem isMatched_ok (sig:List Control) (redex:Big) (agent:Big) (m:Match) (hp:isMatched_pre sig redex agent m):PureC Tryz.prog 56 [.list false (sig.map Control.cells),.agg (bC false redex),.agg (bC false agent),.agg (mC false m)] (fun r=>r=bool (isMatched sig redex agent m)):=(isMatched_walk sig redex agent m _ (isMatched_vc sig redex agent m hp)).mono (by rintro _ ⟨_,rfl,rfl⟩;rfl)
end Go.Ab.Vg
/- Walks by program for YtbpdcoahefnnkaaGreatDoorAbMc. -/
namespace Go.Ab.Vg
open Go.Proofs
set_option maxRecDepth 100000
set_option linter.unusedSimpArgs false
set_option linter.unusedVariables false
attribute [local simp] Control.cells GNode.cells Wire.cells intC intC2 sliceC strC bC mC pA
theorem e64:Ent Tryz.prog 64:=Ent.of Tryz.func64 (by kernel_rfl) rfl
theorem l8Redex_walk (sig:List Control) (b:Big) (Z:Bool→Prop) (h:l8Redex_wp sig b Z):PureC Tryz.prog 64 [.list false (sig.map Control.cells),.agg (bC false b)] (fun r=>∃ y:Bool,Z y∧r=bool y):=by
 unfold l8Redex_wp at h
 refine PureC.of Tryz.func64 rfl Tryz.ntmps64 (by simp) fun Q hQ=>?_
 refine Runs.cut (fun ρ H n=>(ρ 0 = .list false (sig.map Control.cells)∧ρ 1 = .agg (bC false b))) (by simp) ?_
 rintro ρ H n1 hh
 refine zE fun k' hk'=>?_
 simp[hh]
 apply hk'
 refine Runs.cut (fun ρ H n=>(ρ 0 = .list false (sig.map Control.cells)∧ρ 3=pA n1 3)∧H (n1,3)=some ⟨6,[bC false b]⟩) (by refine⟨?_,?_⟩<;>simp[hh]) ?_
 clear hh
 rintro ρ H n3 ⟨hh,m3_1⟩
 refine zE fun k' hk'=>?_
 obtain⟨J4,hJ5,hr6⟩:=h
 have fin8:∀ (sJ:Bool) (ρ:Env) (H:Heap) (n:Nat),J4 sJ→(match sJ with | b7=>ρ 4=bool b7)→Runs Tryz.prog 64 12 k' ρ H n Q:=by
  rintro b7 ρ H n9 h hh
  replace h:=hr6 _ h
  apply hk'
  exact Runs.ret1 (v:=bool b7) Tryz.func64 Tryz.results64 (by simp[hh]) (hQ _ _ _ _ (.of (.v _)) ⟨b7,h,rfl⟩)
 replace h:=hJ5
 obtain⟨hb10,h⟩:=h
 obtain⟨r11,er11,h⟩:=atm h
 simp[hh,m3_1]
 refine RunK.callA Ty_ok (l2Good_ok sig b hb10) e89 (.cons (argC false sig) (.cons (argB false b) .nil)) (by decide) (by decide) rfl (by simp[hh,m3_1]) ?_
 rintro _ rfl
 rw[← er11]
 rcases Bool.eq_false_or_eq_true r11 with dr11 | dr11
 ·replace h:=h.1 dr11
  obtain⟨hb12,h⟩:=h
  obtain⟨r13,er13,h⟩:=atm h
  simp[hh,m3_1,dr11]
  refine RunK.callA Ty_ok (l8Solid_ok b hb12) e111 (.cons (argB false b) .nil) (by decide) (by decide) rfl (by simp[hh,m3_1,dr11]) ?_
  rintro _ rfl
  rw[← er13]
  simp[hh,m3_1,dr11]
  exact fin8 (r13) _ _ _ h (by simp[hh,m3_1,dr11])
 replace h:=h.2 dr11
 simp[hh,m3_1,dr11]
 exact fin8 (false) _ _ _ h (by simp[hh,m3_1,dr11])
theorem l8Redex_ok (sig:List Control) (b:Big) (hp:l8Redex_pre sig b):PureC Tryz.prog 64 [.list false (sig.map Control.cells),.agg (bC false b)] (fun r=>r=bool (l8Redex sig b)):=(l8Redex_walk sig b _ (l8Redex_vc sig b hp)).mono (by rintro _ ⟨_,rfl,rfl⟩;rfl)
theorem e92:Ent Tryz.prog 92:=Ent.of Tryz.func92 (by kernel_rfl) rfl
theorem l8Both_walk (sig:List Control) (redex:Big) (agent:Big) (Z:Bool→Prop) (h:l8Both_wp sig redex agent Z):PureC Tryz.prog 92 [.list false (sig.map Control.cells),.agg (bC false redex),.agg (bC false agent)] (fun r=>∃ y:Bool,Z y∧r=bool y):=by
 unfold l8Both_wp at h
 refine PureC.of Tryz.func92 rfl Tryz.ntmps92 (by simp) fun Q hQ=>?_
 refine Runs.cut (fun ρ H n=>(ρ 0 = .list false (sig.map Control.cells)∧ρ 1 = .agg (bC false redex)∧ρ 2 = .agg (bC false agent))) (by simp) ?_
 rintro ρ H n1 hh
 refine zE fun k' hk'=>?_
 simp[hh]
 apply hk'
 refine Runs.cut (fun ρ H n=>(ρ 0 = .list false (sig.map Control.cells)∧ρ 4=pA n1 4∧ρ 5=pA (n1+1) 5)∧H (n1,4)=some ⟨6,[bC false redex]⟩∧H (n1+1,5)=some ⟨6,[bC false agent]⟩) (by refine⟨?_,?_,?_⟩<;>simp[hh]) ?_
 clear hh
 rintro ρ H n4 ⟨hh,m4_1,m5_2⟩
 refine zE fun k' hk'=>?_
 obtain⟨J5,hJ6,hr7⟩:=h
 have fin9:∀ (sJ:Bool) (ρ:Env) (H:Heap) (n:Nat),J5 sJ→(match sJ with | b8=>ρ 6=bool b8)→Runs Tryz.prog 92 15 k' ρ H n Q:=by
  rintro b8 ρ H n10 h hh
  replace h:=hr7 _ h
  apply hk'
  exact Runs.ret1 (v:=bool b8) Tryz.func92 Tryz.results92 (by simp[hh]) (hQ _ _ _ _ (.of (.v _)) ⟨b8,h,rfl⟩)
 replace h:=hJ6
 obtain⟨hb11,h⟩:=h
 obtain⟨r12,er12,h⟩:=atm h
 simp[hh,m4_1,m5_2]
 refine RunK.callA Ty_ok (l8Redex_ok sig redex hb11) e64 (.cons (argC false sig) (.cons (argB false redex) .nil)) (by decide) (by decide) rfl (by simp[hh,m4_1,m5_2]) ?_
 rintro _ rfl
 rw[← er12]
 rcases Bool.eq_false_or_eq_true r12 with dr12 | dr12
 ·replace h:=h.1 dr12
  obtain⟨hb13,h⟩:=h
  obtain⟨r14,er14,h⟩:=atm h
  simp[hh,m4_1,m5_2,dr12]
  refine RunK.callA Ty_ok (l2Agent_ok sig agent hb13) e65 (.cons (argC false sig) (.cons (argB false agent) .nil)) (by decide) (by decide) rfl (by simp[hh,m4_1,m5_2,dr12]) ?_
  rintro _ rfl
  rw[← er14]
  simp[hh,m4_1,m5_2,dr12]
  exact fin9 (r14) _ _ _ h (by simp[hh,m4_1,m5_2,dr12])
 replace h:=h.2 dr12
 simp[hh,m4_1,m5_2,dr12]
 exact fin9 (false) _ _ _ h (by simp[hh,m4_1,m5_2,dr12])
theorem l8Both_ok (sig:List Control) (redex:Big) (agent:Big) (hp:l8Both_pre sig redex agent):PureC Tryz.prog 92 [.list false (sig.map Control.cells),.agg (bC false redex),.agg (bC false agent)] (fun r=>r=bool (l8Both sig redex agent)):=(l8Both_walk sig redex agent _ (l8Both_vc sig redex agent hp)).mono (by rintro _ ⟨_,rfl,rfl⟩;rfl)
theorem e147:Ent Tryz.prog 147:=Ent.of Tryz.func147 (by kernel_rfl) rfl
theorem l8Images_walk (redex:Big) (agent:Big) (nodes:List Int) (Z:Bool→Prop) (h:l8Images_wp redex agent nodes Z):PureC Tryz.prog 147 [.agg (bC false redex),.agg (bC false agent),.list false (nodes.map intC)] (fun r=>∃ y:Bool,Z y∧r=bool y):=by
 unfold l8Images_wp at h
 refine PureC.of Tryz.func147 rfl Tryz.ntmps147 (by simp) fun Q hQ=>?_
 refine Runs.cut (fun ρ H n=>(ρ 0 = .agg (bC false redex)∧ρ 1 = .agg (bC false agent)∧ρ 2 = .list false (nodes.map intC))) (by simp) ?_
 rintro ρ H n1 hh
 refine zE fun k' hk'=>?_
 simp[hh]
 apply hk'
 refine Runs.cut (fun ρ H n=>(ρ 2 = .list false (nodes.map intC)∧ρ 3=pA n1 3∧ρ 4=pA (n1+1) 4)∧H (n1,3)=some ⟨6,[bC false redex]⟩∧H (n1+1,4)=some ⟨6,[bC false agent]⟩) (by refine⟨?_,?_,?_⟩<;>simp[hh]) ?_
 clear hh
 rintro ρ H n4 ⟨hh,m3_1,m4_2⟩
 refine Runs.seq ?_
 refine zE fun k' hk'=>?_
 obtain⟨len5,elen5,h⟩:=atm h
 have f6:=fun H=>len_list (H:=H) (fr:=false) (f:=intC) kd_24 elen5
 obtain⟨len7,elen7,h⟩:=atm h
 have f8:=fun H=>len_list (H:=H) (fr:=false) (f:=(GNode.cells false)) kd_44 elen7
 obtain⟨c9,ec9,h⟩:=atm h
 have f10:=ib_neq (k:=.i64) ec9
 simp[hh,m3_1,m4_2,f6,f8,f10,-intBin,-lenF]
 apply hk'
 refine Runs.ite (b:=c9) (by simp[hh,m3_1,m4_2]) (fun dc9=>?_) (fun dc9=>?_)
 ·replace h:=h.1 dc9
  refine zE fun k' hk'=>?_
  simp[hh,m3_1,m4_2,dc9]
  apply hk'
  exact Runs.ret1 (v:=bool false) Tryz.func147 Tryz.results147 (by simp[hh,m3_1,m4_2,dc9]) (hQ _ _ _ _ (.of (.v _)) ⟨false,h,rfl⟩)
 replace h:=h.2 dc9
 refine Runs.skip ?_
 refine Runs.seq ?_
 refine zE fun k' hk'=>?_
 simp[hh,m3_1,m4_2,dc9]
 apply hk'
 refine Runs.block ?_
 refine Runs.loopW h (fun (sJ:Int) ρ H n=>match sJ with | i13=>(ρ 2 = .list false (nodes.map intC)∧ρ 3=pA n1 3∧ρ 4=pA (n1+1) 4∧ρ 7=int i13)∧H (n1,3)=some ⟨6,[bC false redex]⟩∧H (n1+1,4)=some ⟨6,[bC false agent]⟩) (by refine⟨?_,?_,?_⟩<;>simp[hh,m3_1,m4_2,dc9]) ?_
 clear hh m3_1 m4_2
 rintro i13 ρ H n14 K h ⟨hh,m3_1,m4_2⟩ IH15
 refine Runs.seq ?_
 refine zE fun k' hk'=>?_
 obtain⟨len17,elen17,h⟩:=atm h
 have f18:=fun H=>len_list (H:=H) (fr:=false) (f:=intC) kd_24 elen17
 obtain⟨c19,ec19,h⟩:=atm h
 have f20:=ib_lss (k:=.i64) ec19
 simp[hh,m3_1,m4_2,f18,f20,-intBin,-lenF]
 apply hk'
 refine Runs.ite (b:=c19) (by simp[hh,m3_1,m4_2]) (fun dc19=>?_) (fun dc19=>?_)
 ·replace h:=h.1 dc19
  refine Runs.skip ?_
  refine Runs.seq ?_
  refine Runs.block ?_
  refine Runs.seqD Ty_ok kindOp_ok draws (by decide) (by kernel_rfl) fun k' hk'=>?_
  obtain⟨J21,hJ22,hr23⟩:=h
  have fin25:∀ (sJ:Bool) (ρ:Env) (H:Heap) (n:Nat),J21 sJ→(match sJ with | b24=>(ρ 2 = .list false (nodes.map intC)∧ρ 3=pA n1 3∧ρ 4=pA (n1+1) 4∧ρ 7=int i13∧ρ 54=bool b24)∧H (n1,3)=some ⟨6,[bC false redex]⟩∧H (n1+1,4)=some ⟨6,[bC false agent]⟩)→Runs Tryz.prog 147 55 k' ρ H n Q:=by
   rintro b24 ρ H n26 h ⟨hh,m3_1,m4_2⟩
   replace h:=hr23 _ h
   apply hk'
   refine Runs.ite (b:=b24) (by simp[hh,m3_1,m4_2]) (fun db24=>?_) (fun db24=>?_)
   ·replace h:=h.1 db24
    refine zE fun k' hk'=>?_
    simp[hh,m3_1,m4_2,db24]
    apply hk'
    exact Runs.ret1 (v:=bool false) Tryz.func147 Tryz.results147 (by simp[hh,m3_1,m4_2,db24]) (hQ _ _ _ _ (.of (.v _)) ⟨false,h,rfl⟩)
   replace h:=h.2 db24
   refine Runs.skip ?_
   refine Runs.inBlock ?_
   refine zF fun k' hk'=>?_
   obtain⟨hb27,h⟩:=h
   obtain⟨v28,ev28,h⟩:=atm h
   have f29:=ib_add hb27 ev28
   simp[hh,m3_1,m4_2,f29,db24,-intBin]
   apply hk'
   refine IH15 (v28) _ _ _ h (by refine⟨?_,?_,?_⟩<;>simp[hh,m3_1,m4_2,db24])
  replace h:=hJ22
  obtain⟨hb30,h⟩:=h
  obtain⟨x31,ex31,h⟩:=atm h
  have f32:=fun H=>ix_list (H:=H) (fr:=false) (f:=intC) (k:=.i64) kd_24 (fun _=>rfl) hb30 ex31
  obtain⟨hb33,h⟩:=h
  obtain⟨r34,er34,h⟩:=atm h
  simp[hh,m3_1,m4_2,f32,dc19,-indexAddrF]
  refine RunDK.callA Ty_ok kindOp_ok (l2Is_ok agent x31 hb33) e178 (.cons (argB false agent) (.cons (.v _ _ _) .nil)) (by decide) rfl (by simp[hh,m3_1,m4_2,f32,dc19,-indexAddrF]) ?_
  rw[← er34]
  rcases Bool.eq_false_or_eq_true r34 with dr34 | dr34
  ·replace h:=h.1 dr34
   obtain⟨hb35,h⟩:=h
   obtain⟨l36,el36,h⟩:=atm h
   have f37:=fun H=>sl_list (H:=H) (fr:=false) (f:=intC) (lo:=none) (hi:=some (int i13)) (a:=0) (b:=i13) (by simp[boundOf]) (by simp[boundOf]) kd_24 (fun _=>rfl) hb35 el36
   obtain⟨hb38,h⟩:=h
   obtain⟨x39,ex39,h⟩:=atm h
   have hq40:=ex31.trans ex39.symm
   subst hq40
   have f41:=fun H=>ix_list (H:=H) (fr:=false) (f:=intC) (k:=.i64) kd_24 (fun _=>rfl) hb38 ex31
   obtain⟨hb42,h⟩:=h
   obtain⟨r43,er43,h⟩:=atm h
   simp[hh,m3_1,m4_2,f32,f37,f41,dc19,dr34,-indexAddrF,-sliceF]
   refine RunDK.callA Ty_ok kindOp_ok (l1HasI_ok l36 x31 hb42) e163 (.cons (argI false l36) (.cons (.v _ _ _) .nil)) (by decide) rfl (by simp[hh,m3_1,m4_2,f32,f37,f41,dc19,dr34,-indexAddrF,-sliceF]) ?_
   rw[← er43]
   rcases Bool.eq_false_or_eq_true r43 with dr43 | dr43
   ·replace h:=h.1 dr43
    simp[hh,m3_1,m4_2,f32,f37,f41,dc19,dr34,dr43,-indexAddrF,-sliceF]
    exact fin25 (true) _ _ _ h (by refine⟨?_,?_,?_⟩<;>simp[hh,m3_1,m4_2,f32,f37,f41,dc19,dr34,dr43,-indexAddrF,-sliceF])
   replace h:=h.2 dr43
   obtain⟨hb44,h⟩:=h
   obtain⟨x45,ex45,h⟩:=atm h
   have hq46:=ex31.trans ex45.symm
   subst hq46
   have f47:=fun H=>ix_list (H:=H) (fr:=false) (f:=intC) (k:=.i64) kd_24 (fun _=>rfl) hb44 ex31
   obtain⟨hb48,h⟩:=h
   obtain⟨x49,ex49,h⟩:=atm h
   have f50:=fun H=>ix_list (H:=H) (fr:=false) (f:=(GNode.cells false)) (k:=.i64) kd_44 (fun _=>rfl) hb48 ex49
   obtain⟨hb51,h⟩:=h
   obtain⟨x52,ex52,h⟩:=atm h
   have f53:=fun H=>ix_list (H:=H) (fr:=false) (f:=(GNode.cells false)) (k:=.i64) kd_44 (fun _=>rfl) hb51 ex52
   obtain⟨c54,ec54,h⟩:=atm h
   have f55:=ib_neq (k:=.i64) ec54
   simp[hh,m3_1,m4_2,f32,f37,f41,f47,f50,f53,f55,dc19,dr34,dr43,-indexAddrF,-intBin,-sliceF]
   exact fin25 (c54) _ _ _ h (by refine⟨?_,?_,?_⟩<;>simp[hh,m3_1,m4_2,f32,f37,f41,f47,f50,f53,f55,dc19,dr34,dr43,-indexAddrF,-intBin,-sliceF])
  replace h:=h.2 dr34
  simp[hh,m3_1,m4_2,f32,dc19,dr34,-indexAddrF]
  exact fin25 (true) _ _ _ h (by refine⟨?_,?_,?_⟩<;>simp[hh,m3_1,m4_2,f32,dc19,dr34,-indexAddrF])
 replace h:=h.2 dc19
 refine Runs.exit rfl ?_
 refine zE fun k' hk'=>?_
 simp[hh,m3_1,m4_2,dc19]
 apply hk'
 exact Runs.ret1 (v:=bool true) Tryz.func147 Tryz.results147 (by simp[hh,m3_1,m4_2,dc19]) (hQ _ _ _ _ (.of (.v _)) ⟨true,h,rfl⟩)
theorem l8Images_ok (redex:Big) (agent:Big) (nodes:List Int) (hp:l8Images_pre redex agent nodes):PureC Tryz.prog 147 [.agg (bC false redex),.agg (bC false agent),.list false (nodes.map intC)] (fun r=>r=bool (l8Images redex agent nodes)):=(l8Images_walk redex agent nodes _ (l8Images_vc redex agent nodes hp)).mono (by rintro _ ⟨_,rfl,rfl⟩;rfl)
theorem e149:Ent Tryz.prog 149:=Ent.of Tryz.func149 (by kernel_rfl) rfl
theorem l8Parents_walk (redex:Big) (agent:Big) (m:Match) (Z:Bool→Prop) (h:l8Parents_wp redex agent m Z):PureC Tryz.prog 149 [.agg (bC false redex),.agg (bC false agent),.agg (mC false m)] (fun r=>∃ y:Bool,Z y∧r=bool y):=by
 unfold l8Parents_wp at h
 refine PureC.of Tryz.func149 rfl Tryz.ntmps149 (by simp) fun Q hQ=>?_
 refine Runs.cut (fun ρ H n=>(ρ 0 = .agg (bC false redex)∧ρ 1 = .agg (bC false agent)∧ρ 2 = .agg (mC false m))) (by simp) ?_
 rintro ρ H n1 hh
 refine zE fun k' hk'=>?_
 simp[hh]
 apply hk'
 refine Runs.cut (fun ρ H n=>(ρ 3=pA n1 3∧ρ 4=pA (n1+1) 4∧ρ 5=pA (n1+2) 5)∧H (n1,3)=some ⟨6,[bC false redex]⟩∧H (n1+1,4)=some ⟨6,[bC false agent]⟩∧H (n1+2,5)=some ⟨2,[mC false m]⟩) (by refine⟨?_,?_,?_,?_⟩<;>simp[hh]) ?_
 clear hh
 rintro ρ H n5 ⟨hh,m3_1,m4_2,m5_3⟩
 refine Runs.seq ?_
 refine zE fun k' hk'=>?_
 simp[hh,m3_1,m4_2,m5_3]
 apply hk'
 refine Runs.block ?_
 refine Runs.loopW h (fun (sJ:Int) ρ H n=>match sJ with | i8=>(ρ 3=pA n1 3∧ρ 4=pA (n1+1) 4∧ρ 5=pA (n1+2) 5∧ρ 7=int i8)∧H (n1,3)=some ⟨6,[bC false redex]⟩∧H (n1+1,4)=some ⟨6,[bC false agent]⟩∧H (n1+2,5)=some ⟨2,[mC false m]⟩) (by refine⟨?_,?_,?_,?_⟩<;>simp[hh,m3_1,m4_2,m5_3]) ?_
 clear hh m3_1 m4_2 m5_3
 rintro i8 ρ H n9 K h ⟨hh,m3_1,m4_2,m5_3⟩ IH10
 refine Runs.seq ?_
 refine zE fun k' hk'=>?_
 obtain⟨len12,elen12,h⟩:=atm h
 have f13:=fun H=>len_list (H:=H) (fr:=false) (f:=intC) kd_24 elen12
 obtain⟨c14,ec14,h⟩:=atm h
 have f15:=ib_lss (k:=.i64) ec14
 simp[hh,m3_1,m4_2,m5_3,f13,f15,-intBin,-lenF]
 apply hk'
 refine Runs.ite (b:=c14) (by simp[hh,m3_1,m4_2,m5_3]) (fun dc14=>?_) (fun dc14=>?_)
 ·replace h:=h.1 dc14
  refine Runs.skip ?_
  refine Runs.seq ?_
  refine Runs.block ?_
  refine zE fun k' hk'=>?_
  simp[hh,m3_1,m4_2,m5_3,dc14]
  apply hk'
  refine Runs.seq ?_
  refine zE fun k' hk'=>?_
  obtain⟨hb16,h⟩:=h
  obtain⟨x17,ex17,h⟩:=atm h
  have f18:=fun H=>ix_list (H:=H) (fr:=false) (f:=(GNode.cells false)) (k:=.i64) kd_44 (fun _=>rfl) hb16 ex17
  simp[hh,m3_1,m4_2,m5_3,f18,dc14,-indexAddrF]
  apply hk'
  refine zE fun k' hk'=>?_
  obtain⟨c19,ec19,h⟩:=atm h
  have f20:=ib_geq (k:=.i64) ec19
  simp[hh,m3_1,m4_2,m5_3,f20,dc14,-intBin]
  apply hk'
  refine Runs.cut (fun ρ H n=>(ρ 3=pA n1 3∧ρ 4=pA (n1+1) 4∧ρ 5=pA (n1+2) 5∧ρ 7=int i8∧ρ 9=int x17.parent∧ρ 24=bool c19)∧H (n1,3)=some ⟨6,[bC false redex]⟩∧H (n1+1,4)=some ⟨6,[bC false agent]⟩∧H (n1+2,5)=some ⟨2,[mC false m]⟩) (by refine⟨?_,?_,?_,?_⟩<;>simp[hh,m3_1,m4_2,m5_3,f20,dc14,-intBin]) ?_
  clear hh m3_1 m4_2 m5_3
  rintro ρ H n21 ⟨hh,m3_1,m4_2,m5_3⟩
  refine Runs.ite (b:=c19) (by simp[hh,m3_1,m4_2,m5_3]) (fun dc19=>?_) (fun dc19=>?_)
  ·replace h:=h.1 dc19
   refine zF fun k' hk'=>?_
   obtain⟨hb22,h⟩:=h
   obtain⟨x23,ex23,h⟩:=atm h
   have f24:=fun H=>ix_list (H:=H) (fr:=false) (f:=intC) (k:=.i64) kd_24 (fun _=>rfl) hb22 ex23
   simp[hh,m3_1,m4_2,m5_3,f24,dc19,-indexAddrF]
   apply hk'
   refine Runs.seqD Ty_ok kindOp_ok draws (by decide) (by kernel_rfl) fun k' hk'=>?_
   obtain⟨hb25,h⟩:=h
   obtain⟨x26,ex26,h⟩:=atm h
   have f27:=fun H=>ix_list (H:=H) (fr:=false) (f:=intC) (k:=.i64) kd_24 (fun _=>rfl) hb25 ex26
   obtain⟨hb28,h⟩:=h
   obtain⟨x29,ex29,h⟩:=atm h
   have f30:=fun H=>ix_list (H:=H) (fr:=false) (f:=(GNode.cells false)) (k:=.i64) kd_44 (fun _=>rfl) hb28 ex29
   obtain⟨c31,ec31,h⟩:=atm h
   have f32:=ib_neq (k:=.i64) ec31
   simp[hh,m3_1,m4_2,m5_3,f27,f30,f32,dc19,-indexAddrF,-intBin]
   apply hk'
   refine Runs.cut (fun ρ H n=>(ρ 3=pA n1 3∧ρ 4=pA (n1+1) 4∧ρ 5=pA (n1+2) 5∧ρ 7=int i8∧ρ 47=bool c31)∧H (n1,3)=some ⟨6,[bC false redex]⟩∧H (n1+1,4)=some ⟨6,[bC false agent]⟩∧H (n1+2,5)=some ⟨2,[mC false m]⟩) (by refine⟨?_,?_,?_,?_⟩<;>simp[hh,m3_1,m4_2,m5_3,f27,f30,f32,dc19,-indexAddrF,-intBin]) ?_
   clear hh m3_1 m4_2 m5_3
   rintro ρ H n33 ⟨hh,m3_1,m4_2,m5_3⟩
   refine Runs.ite (b:=c31) (by simp[hh,m3_1,m4_2,m5_3]) (fun dc31=>?_) (fun dc31=>?_)
   ·replace h:=h.1 dc31
    refine zE fun k' hk'=>?_
    simp[hh,m3_1,m4_2,m5_3,dc31]
    apply hk'
    exact Runs.ret1 (v:=bool false) Tryz.func149 Tryz.results149 (by simp[hh,m3_1,m4_2,m5_3,dc31]) (hQ _ _ _ _ (.of (.v _)) ⟨false,h,rfl⟩)
   replace h:=h.2 dc31
   refine Runs.skip ?_
   refine Runs.inBlock ?_
   refine zF fun k' hk'=>?_
   obtain⟨hb34,h⟩:=h
   obtain⟨v35,ev35,h⟩:=atm h
   have f36:=ib_add hb34 ev35
   simp[hh,m3_1,m4_2,m5_3,f36,dc31,-intBin]
   apply hk'
   refine IH10 (v35) _ _ _ h (by refine⟨?_,?_,?_,?_⟩<;>simp[hh,m3_1,m4_2,m5_3,dc31])
  replace h:=h.2 dc19
  refine zF fun k' hk'=>?_
  obtain⟨hb37,h⟩:=h
  obtain⟨v38,ev38,h⟩:=atm h
  have f39:=ib_sub hb37 ev38
  obtain⟨hb40,h⟩:=h
  obtain⟨x41,ex41,h⟩:=atm h
  have f42:=fun H=>ix_list (H:=H) (fr:=false) (f:=intC) (k:=.i64) kd_24 (fun _=>rfl) hb40 ex41
  simp[hh,m3_1,m4_2,m5_3,f39,f42,dc19,-indexAddrF,-intBin]
  apply hk'
  refine Runs.seqD Ty_ok kindOp_ok draws (by decide) (by kernel_rfl) fun k' hk'=>?_
  obtain⟨hb43,h⟩:=h
  obtain⟨x44,ex44,h⟩:=atm h
  have f45:=fun H=>ix_list (H:=H) (fr:=false) (f:=intC) (k:=.i64) kd_24 (fun _=>rfl) hb43 ex44
  obtain⟨hb46,h⟩:=h
  obtain⟨x47,ex47,h⟩:=atm h
  have f48:=fun H=>ix_list (H:=H) (fr:=false) (f:=(GNode.cells false)) (k:=.i64) kd_44 (fun _=>rfl) hb46 ex47
  obtain⟨c49,ec49,h⟩:=atm h
  have f50:=ib_neq (k:=.i64) ec49
  simp[hh,m3_1,m4_2,m5_3,f45,f48,f50,dc19,-indexAddrF,-intBin]
  apply hk'
  refine Runs.cut (fun ρ H n=>(ρ 3=pA n1 3∧ρ 4=pA (n1+1) 4∧ρ 5=pA (n1+2) 5∧ρ 7=int i8∧ρ 47=bool c49)∧H (n1,3)=some ⟨6,[bC false redex]⟩∧H (n1+1,4)=some ⟨6,[bC false agent]⟩∧H (n1+2,5)=some ⟨2,[mC false m]⟩) (by refine⟨?_,?_,?_,?_⟩<;>simp[hh,m3_1,m4_2,m5_3,f45,f48,f50,dc19,-indexAddrF,-intBin]) ?_
  clear hh m3_1 m4_2 m5_3
  rintro ρ H n51 ⟨hh,m3_1,m4_2,m5_3⟩
  refine Runs.ite (b:=c49) (by simp[hh,m3_1,m4_2,m5_3]) (fun dc49=>?_) (fun dc49=>?_)
  ·replace h:=h.1 dc49
   refine zE fun k' hk'=>?_
   simp[hh,m3_1,m4_2,m5_3,dc49]
   apply hk'
   exact Runs.ret1 (v:=bool false) Tryz.func149 Tryz.results149 (by simp[hh,m3_1,m4_2,m5_3,dc49]) (hQ _ _ _ _ (.of (.v _)) ⟨false,h,rfl⟩)
  replace h:=h.2 dc49
  refine Runs.skip ?_
  refine Runs.inBlock ?_
  refine zF fun k' hk'=>?_
  obtain⟨hb52,h⟩:=h
  obtain⟨v53,ev53,h⟩:=atm h
  have f54:=ib_add hb52 ev53
  simp[hh,m3_1,m4_2,m5_3,f54,dc49,-intBin]
  apply hk'
  refine IH10 (v53) _ _ _ h (by refine⟨?_,?_,?_,?_⟩<;>simp[hh,m3_1,m4_2,m5_3,dc49])
 replace h:=h.2 dc14
 refine Runs.exit rfl ?_
 refine zE fun k' hk'=>?_
 simp[hh,m3_1,m4_2,m5_3,dc14]
 apply hk'
 exact Runs.ret1 (v:=bool true) Tryz.func149 Tryz.results149 (by simp[hh,m3_1,m4_2,m5_3,dc14]) (hQ _ _ _ _ (.of (.v _)) ⟨true,h,rfl⟩)
theorem l8Parents_ok (redex:Big) (agent:Big) (m:Match) (hp:l8Parents_pre redex agent m):PureC Tryz.prog 149 [.agg (bC false redex),.agg (bC false agent),.agg (mC false m)] (fun r=>r=bool (l8Parents redex agent m)):=(l8Parents_walk redex agent m _ (l8Parents_vc redex agent m hp)).mono (by rintro _ ⟨_,rfl,rfl⟩;rfl)
theorem e150:Ent Tryz.prog 150:=Ent.of Tryz.func150 (by kernel_rfl) rfl
theorem l8Kids_walk (redex:Big) (agent:Big) (m:Match) (Z:Bool→Prop) (h:l8Kids_wp redex agent m Z):PureC Tryz.prog 150 [.agg (bC false redex),.agg (bC false agent),.agg (mC false m)] (fun r=>∃ y:Bool,Z y∧r=bool y):=by
 unfold l8Kids_wp at h
 refine PureC.of Tryz.func150 rfl Tryz.ntmps150 (by simp) fun Q hQ=>?_
 refine Runs.cut (fun ρ H n=>(ρ 0 = .agg (bC false redex)∧ρ 1 = .agg (bC false agent)∧ρ 2 = .agg (mC false m))) (by simp) ?_
 rintro ρ H n1 hh
 refine zE fun k' hk'=>?_
 simp[hh]
 apply hk'
 refine Runs.cut (fun ρ H n=>(ρ 3=pA n1 3∧ρ 4=pA (n1+1) 4∧ρ 5=pA (n1+2) 5)∧H (n1,3)=some ⟨6,[bC false redex]⟩∧H (n1+1,4)=some ⟨6,[bC false agent]⟩∧H (n1+2,5)=some ⟨2,[mC false m]⟩) (by refine⟨?_,?_,?_,?_⟩<;>simp[hh]) ?_
 clear hh
 rintro ρ H n5 ⟨hh,m3_1,m4_2,m5_3⟩
 refine Runs.seq ?_
 refine zE fun k' hk'=>?_
 simp[hh,m3_1,m4_2,m5_3]
 apply hk'
 refine Runs.block ?_
 refine Runs.loopW h (fun (sJ:Int) ρ H n=>match sJ with | i8=>(ρ 3=pA n1 3∧ρ 4=pA (n1+1) 4∧ρ 5=pA (n1+2) 5∧ρ 7=int i8)∧H (n1,3)=some ⟨6,[bC false redex]⟩∧H (n1+1,4)=some ⟨6,[bC false agent]⟩∧H (n1+2,5)=some ⟨2,[mC false m]⟩) (by refine⟨?_,?_,?_,?_⟩<;>simp[hh,m3_1,m4_2,m5_3]) ?_
 clear hh m3_1 m4_2 m5_3
 rintro i8 ρ H n9 K h ⟨hh,m3_1,m4_2,m5_3⟩ IH10
 refine Runs.seq ?_
 refine zE fun k' hk'=>?_
 obtain⟨len12,elen12,h⟩:=atm h
 have f13:=fun H=>len_list (H:=H) (fr:=false) (f:=intC) kd_24 elen12
 obtain⟨c14,ec14,h⟩:=atm h
 have f15:=ib_lss (k:=.i64) ec14
 simp[hh,m3_1,m4_2,m5_3,f13,f15,-intBin,-lenF]
 apply hk'
 refine Runs.ite (b:=c14) (by simp[hh,m3_1,m4_2,m5_3]) (fun dc14=>?_) (fun dc14=>?_)
 ·replace h:=h.1 dc14
  refine Runs.skip ?_
  refine Runs.seq ?_
  refine Runs.block ?_
  refine Runs.seqD Ty_ok kindOp_ok draws (by decide) (by kernel_rfl) fun k' hk'=>?_
  obtain⟨hb16,h⟩:=h
  obtain⟨x17,ex17,h⟩:=atm h
  have f18:=fun H=>ix_list (H:=H) (fr:=false) (f:=intC) (k:=.i64) kd_24 (fun _=>rfl) hb16 ex17
  obtain⟨hb19,h⟩:=h
  obtain⟨r20,er20,h⟩:=atm h
  simp[hh,m3_1,m4_2,m5_3,f18,dc14,-indexAddrF]
  refine RunDK.callA Ty_ok kindOp_ok ((l2Kids_ok agent x17 hb19).pure) e160 (.cons (argB false agent) (.cons (.v _ _ _) .nil)) (by decide) rfl (by simp[hh,m3_1,m4_2,m5_3,f18,dc14,-indexAddrF]) ?_
  rw[← er20]
  simp[hh,m3_1,m4_2,m5_3,f18,dc14,-indexAddrF]
  apply hk'
  refine zE fun k' hk'=>?_
  simp[hh,m3_1,m4_2,m5_3,dc14]
  apply hk'
  refine Runs.block ?_
  refine Runs.loopW h (fun (sJ:Int) ρ H n=>match sJ with | k23=>(ρ 3=pA n1 3∧ρ 4=pA (n1+1) 4∧ρ 5=pA (n1+2) 5∧ρ 7=int i8∧ρ 8 = .list true (r20.map intC)∧ρ 9=int k23)∧H (n1,3)=some ⟨6,[bC false redex]⟩∧H (n1+1,4)=some ⟨6,[bC false agent]⟩∧H (n1+2,5)=some ⟨2,[mC false m]⟩) (by refine⟨?_,?_,?_,?_⟩<;>simp[hh,m3_1,m4_2,m5_3,dc14]) ?_
  clear hh m3_1 m4_2 m5_3
  rintro k23 ρ H n24 K h ⟨hh,m3_1,m4_2,m5_3⟩ IH25
  refine Runs.seq ?_
  refine zE fun k' hk'=>?_
  obtain⟨J27,hJ28,hr29⟩:=h
  have fin31:∀ (sJ:Bool) (ρ:Env) (H:Heap) (n:Nat),J27 sJ→(match sJ with | b30=>(ρ 3=pA n1 3∧ρ 4=pA (n1+1) 4∧ρ 5=pA (n1+2) 5∧ρ 7=int i8∧ρ 8 = .list true (r20.map intC)∧ρ 9=int k23∧ρ 34=bool b30)∧H (n1,3)=some ⟨6,[bC false redex]⟩∧H (n1+1,4)=some ⟨6,[bC false agent]⟩∧H (n1+2,5)=some ⟨2,[mC false m]⟩)→Runs Tryz.prog 150 45 k' ρ H n Q:=by
   rintro b30 ρ H n32 h ⟨hh,m3_1,m4_2,m5_3⟩
   replace h:=hr29 _ h
   apply hk'
   refine Runs.ite (b:=b30) (by simp[hh,m3_1,m4_2,m5_3]) (fun db30=>?_) (fun db30=>?_)
   ·replace h:=h.1 db30
    refine Runs.skip ?_
    refine Runs.seq ?_
    refine Runs.block ?_
    refine Runs.seqD Ty_ok kindOp_ok draws (by decide) (by kernel_rfl) fun k' hk'=>?_
    obtain⟨hb33,h⟩:=h
    obtain⟨x34,ex34,h⟩:=atm h
    have f35:=fun H=>ix_list (H:=H) (fr:=true) (f:=intC) (k:=.i64) kd_24 (fun _=>rfl) hb33 ex34
    obtain⟨hb36,h⟩:=h
    obtain⟨r37,er37,h⟩:=atm h
    simp[hh,m3_1,m4_2,m5_3,f35,db30,-indexAddrF]
    refine RunDK.callA Ty_ok kindOp_ok (l1HasI_ok m.nodes x34 hb36) e163 (.cons (argI false m.nodes) (.cons (.v _ _ _) .nil)) (by decide) rfl (by simp[hh,m3_1,m4_2,m5_3,f35,db30,-indexAddrF]) ?_
    rw[← er37]
    simp[hh,m3_1,m4_2,m5_3,f35,db30,-indexAddrF]
    apply hk'
    refine Runs.ite (b:=(!r37)) (by simp[hh,m3_1,m4_2,m5_3,db30]) (fun dr37=>?_) (fun dr37=>?_)
    ·have dr37:r37=false:=by simpa using dr37
     replace h:=h.2 dr37
     refine zE fun k' hk'=>?_
     simp[hh,m3_1,m4_2,m5_3,db30,dr37]
     apply hk'
     exact Runs.ret1 (v:=bool false) Tryz.func150 Tryz.results150 (by simp[hh,m3_1,m4_2,m5_3,db30,dr37]) (hQ _ _ _ _ (.of (.v _)) ⟨false,h,rfl⟩)
    have dr37:r37=true:=by simpa using dr37
    replace h:=h.1 dr37
    refine Runs.skip ?_
    refine Runs.inBlock ?_
    refine zF fun k' hk'=>?_
    obtain⟨hb38,h⟩:=h
    obtain⟨v39,ev39,h⟩:=atm h
    have f40:=ib_add hb38 ev39
    simp[hh,m3_1,m4_2,m5_3,f40,db30,dr37,-intBin]
    apply hk'
    refine IH25 (v39) _ _ _ h (by refine⟨?_,?_,?_,?_⟩<;>simp[hh,m3_1,m4_2,m5_3,db30,dr37])
   replace h:=h.2 db30
   refine Runs.exit rfl ?_
   refine Runs.inBlock ?_
   refine zF fun k' hk'=>?_
   obtain⟨hb41,h⟩:=h
   obtain⟨v42,ev42,h⟩:=atm h
   have f43:=ib_add hb41 ev42
   simp[hh,m3_1,m4_2,m5_3,f43,db30,-intBin]
   apply hk'
   refine IH10 (v42) _ _ _ h (by refine⟨?_,?_,?_,?_⟩<;>simp[hh,m3_1,m4_2,m5_3,db30])
  replace h:=hJ28
  obtain⟨len44,elen44,h⟩:=atm h
  have f45:=fun H=>len_list (H:=H) (fr:=true) (f:=intC) kd_24 elen44
  obtain⟨c46,ec46,h⟩:=atm h
  have f47:=ib_lss (k:=.i64) ec46
  rcases Bool.eq_false_or_eq_true c46 with dc46 | dc46
  ·replace h:=h.1 dc46
   obtain⟨hb48,h⟩:=h
   obtain⟨r49,er49,h⟩:=atm h
   simp[hh,m3_1,m4_2,m5_3,f45,f47,dc46,-intBin,-lenF]
   refine RunK.callA Ty_ok ((l2Holes_ok redex i8 hb48).pure) e161 (.cons (argB false redex) (.cons (.v _ _ _) .nil)) (by decide) (by decide) rfl (by simp[hh,m3_1,m4_2,m5_3,f45,f47,dc46,-intBin,-lenF]) ?_
   rintro _ rfl
   rw[← er49]
   obtain⟨len50,elen50,h⟩:=atm h
   have f51:=fun H=>len_list (H:=H) (fr:=true) (f:=intC) kd_24 elen50
   obtain⟨c52,ec52,h⟩:=atm h
   have f53:=ib_eql (k:=.i64) ec52
   simp[hh,m3_1,m4_2,m5_3,f45,f47,f51,f53,dc46,-intBin,-lenF]
   exact fin31 (c52) _ _ _ h (by refine⟨?_,?_,?_,?_⟩<;>simp[hh,m3_1,m4_2,m5_3,f45,f47,f51,f53,dc46,-intBin,-lenF])
  replace h:=h.2 dc46
  simp[hh,m3_1,m4_2,m5_3,f45,f47,dc46,-intBin,-lenF]
  exact fin31 (false) _ _ _ h (by refine⟨?_,?_,?_,?_⟩<;>simp[hh,m3_1,m4_2,m5_3,f45,f47,dc46,-intBin,-lenF])
 replace h:=h.2 dc14
 refine Runs.exit rfl ?_
 refine zE fun k' hk'=>?_
 simp[hh,m3_1,m4_2,m5_3,dc14]
 apply hk'
 exact Runs.ret1 (v:=bool true) Tryz.func150 Tryz.results150 (by simp[hh,m3_1,m4_2,m5_3,dc14]) (hQ _ _ _ _ (.of (.v _)) ⟨true,h,rfl⟩)
theorem l8Kids_ok (redex:Big) (agent:Big) (m:Match) (hp:l8Kids_pre redex agent m):PureC Tryz.prog 150 [.agg (bC false redex),.agg (bC false agent),.agg (mC false m)] (fun r=>r=bool (l8Kids redex agent m)):=(l8Kids_walk redex agent m _ (l8Kids_vc redex agent m hp)).mono (by rintro _ ⟨_,rfl,rfl⟩;rfl)
theorem e179:Ent Tryz.prog 179:=Ent.of Tryz.func179 (by kernel_rfl) rfl
theorem l2Place_walk (b:Big) (x:Int) (Z:Bool→Prop) (h:l2Place_wp b x Z):PureC Tryz.prog 179 [.agg (bC false b),int x] (fun r=>∃ y:Bool,Z y∧r=bool y):=by
 unfold l2Place_wp at h
 refine PureC.of Tryz.func179 rfl Tryz.ntmps179 (by simp) fun Q hQ=>?_
 refine Runs.cut (fun ρ H n=>(ρ 0 = .agg (bC false b)∧ρ 1=int x)) (by simp) ?_
 rintro ρ H n1 hh
 refine zE fun k' hk'=>?_
 simp[hh]
 apply hk'
 refine Runs.cut (fun ρ H n=>(ρ 1=int x∧ρ 2=pA n1 2)∧H (n1,2)=some ⟨6,[bC false b]⟩) (by refine⟨?_,?_⟩<;>simp[hh]) ?_
 clear hh
 rintro ρ H n3 ⟨hh,m2_1⟩
 refine zE fun k' hk'=>?_
 obtain⟨hb4,h⟩:=h
 obtain⟨v5,ev5,h⟩:=atm h
 have f6:=ub_neg hb4 ev5
 obtain⟨len7,elen7,h⟩:=atm h
 have f8:=fun H=>len_list (H:=H) (fr:=false) (f:=(GNode.cells false)) kd_44 elen7
 obtain⟨hb9,h⟩:=h
 obtain⟨v10,ev10,h⟩:=atm h
 have f11:=ib_sub hb9 ev10
 obtain⟨r12,er12,h⟩:=atm h
 simp[hh,m2_1,f6,f8,f11,-intBin,-lenF,-unF,ub_not']
 refine RunK.callA Ty_ok (l1In_ok x v5 v10) e88 (.cons (.v _ _ _) (.cons (.v _ _ _) (.cons (.v _ _ _) .nil))) (by decide) (by decide) rfl (by simp[hh,m2_1,f6,f8,f11,-intBin,-lenF,-unF,ub_not']) ?_
 rintro _ rfl
 rw[← er12]
 simp[hh,m2_1,f6,f8,f11,-intBin,-lenF,-unF,ub_not']
 apply hk'
 exact Runs.ret1 (v:=bool r12) Tryz.func179 Tryz.results179 (by simp[hh,m2_1]) (hQ _ _ _ _ (.of (.v _)) ⟨r12,h,rfl⟩)
theorem l2Place_ok (b:Big) (x:Int) (hp:l2Place_pre b x):PureC Tryz.prog 179 [.agg (bC false b),int x] (fun r=>r=bool (l2Place b x)):=(l2Place_walk b x _ (l2Place_vc b x hp)).mono (by rintro _ ⟨_,rfl,rfl⟩;rfl)
theorem e148:Ent Tryz.prog 148:=Ent.of Tryz.func148 (by kernel_rfl) rfl
theorem l8Places_walk (redex:Big) (agent:Big) (m:Match) (Z:Bool→Prop) (h:l8Places_wp redex agent m Z):PureC Tryz.prog 148 [.agg (bC false redex),.agg (bC false agent),.agg (mC false m)] (fun r=>∃ y:Bool,Z y∧r=bool y):=by
 unfold l8Places_wp at h
 refine PureC.of Tryz.func148 rfl Tryz.ntmps148 (by simp) fun Q hQ=>?_
 refine Runs.cut (fun ρ H n=>(ρ 0 = .agg (bC false redex)∧ρ 1 = .agg (bC false agent)∧ρ 2 = .agg (mC false m))) (by simp) ?_
 rintro ρ H n1 hh
 refine zE fun k' hk'=>?_
 simp[hh]
 apply hk'
 refine Runs.cut (fun ρ H n=>(ρ 3=pA n1 3∧ρ 4=pA (n1+1) 4∧ρ 5=pA (n1+2) 5)∧H (n1,3)=some ⟨6,[bC false redex]⟩∧H (n1+1,4)=some ⟨6,[bC false agent]⟩∧H (n1+2,5)=some ⟨2,[mC false m]⟩) (by refine⟨?_,?_,?_,?_⟩<;>simp[hh]) ?_
 clear hh
 rintro ρ H n5 ⟨hh,m3_1,m4_2,m5_3⟩
 refine Runs.seq ?_
 refine zE fun k' hk'=>?_
 simp[hh,m3_1,m4_2,m5_3]
 apply hk'
 refine Runs.block ?_
 refine Runs.loopW h (fun (sJ:Int) ρ H n=>match sJ with | r8=>(ρ 3=pA n1 3∧ρ 4=pA (n1+1) 4∧ρ 5=pA (n1+2) 5∧ρ 7=int r8)∧H (n1,3)=some ⟨6,[bC false redex]⟩∧H (n1+1,4)=some ⟨6,[bC false agent]⟩∧H (n1+2,5)=some ⟨2,[mC false m]⟩) (by refine⟨?_,?_,?_,?_⟩<;>simp[hh,m3_1,m4_2,m5_3]) ?_
 clear hh m3_1 m4_2 m5_3
 rintro r8 ρ H n9 K h ⟨hh,m3_1,m4_2,m5_3⟩ IH10
 refine Runs.seq ?_
 refine zE fun k' hk'=>?_
 obtain⟨len12,elen12,h⟩:=atm h
 have f13:=fun H=>len_list (H:=H) (fr:=false) (f:=intC) kd_24 elen12
 obtain⟨c14,ec14,h⟩:=atm h
 have f15:=ib_lss (k:=.i64) ec14
 simp[hh,m3_1,m4_2,m5_3,f13,f15,-intBin,-lenF]
 apply hk'
 refine Runs.ite (b:=c14) (by simp[hh,m3_1,m4_2,m5_3]) (fun dc14=>?_) (fun dc14=>?_)
 ·replace h:=h.1 dc14
  refine Runs.skip ?_
  refine Runs.seq ?_
  refine Runs.block ?_
  refine Runs.seqD Ty_ok kindOp_ok draws (by decide) (by kernel_rfl) fun k' hk'=>?_
  obtain⟨J16,hJ17,hr18⟩:=h
  have fin20:∀ (sJ:Bool) (ρ:Env) (H:Heap) (n:Nat),J16 sJ→(match sJ with | b19=>(ρ 3=pA n1 3∧ρ 4=pA (n1+1) 4∧ρ 5=pA (n1+2) 5∧ρ 7=int r8∧ρ 32=bool b19)∧H (n1,3)=some ⟨6,[bC false redex]⟩∧H (n1+1,4)=some ⟨6,[bC false agent]⟩∧H (n1+2,5)=some ⟨2,[mC false m]⟩)→Runs Tryz.prog 148 39 k' ρ H n Q:=by
   rintro b19 ρ H n21 h ⟨hh,m3_1,m4_2,m5_3⟩
   replace h:=hr18 _ h
   apply hk'
   refine Runs.ite (b:=b19) (by simp[hh,m3_1,m4_2,m5_3]) (fun db19=>?_) (fun db19=>?_)
   ·replace h:=h.1 db19
    refine zE fun k' hk'=>?_
    simp[hh,m3_1,m4_2,m5_3,db19]
    apply hk'
    exact Runs.ret1 (v:=bool false) Tryz.func148 Tryz.results148 (by simp[hh,m3_1,m4_2,m5_3,db19]) (hQ _ _ _ _ (.of (.v _)) ⟨false,h,rfl⟩)
   replace h:=h.2 db19
   refine Runs.skip ?_
   refine Runs.inBlock ?_
   refine zF fun k' hk'=>?_
   obtain⟨hb22,h⟩:=h
   obtain⟨v23,ev23,h⟩:=atm h
   have f24:=ib_add hb22 ev23
   simp[hh,m3_1,m4_2,m5_3,f24,db19,-intBin]
   apply hk'
   refine IH10 (v23) _ _ _ h (by refine⟨?_,?_,?_,?_⟩<;>simp[hh,m3_1,m4_2,m5_3,db19])
  replace h:=hJ17
  obtain⟨hb25,h⟩:=h
  obtain⟨x26,ex26,h⟩:=atm h
  have f27:=fun H=>ix_list (H:=H) (fr:=false) (f:=intC) (k:=.i64) kd_24 (fun _=>rfl) hb25 ex26
  obtain⟨hb28,h⟩:=h
  obtain⟨r29,er29,h⟩:=atm h
  simp[hh,m3_1,m4_2,m5_3,f27,dc14,-indexAddrF]
  refine RunDK.callA Ty_ok kindOp_ok (l2Place_ok agent x26 hb28) e179 (.cons (argB false agent) (.cons (.v _ _ _) .nil)) (by decide) rfl (by simp[hh,m3_1,m4_2,m5_3,f27,dc14,-indexAddrF]) ?_
  rw[← er29]
  rcases Bool.eq_false_or_eq_true r29 with dr29 | dr29
  ·replace h:=h.1 dr29
   obtain⟨hb30,h⟩:=h
   obtain⟨x31,ex31,h⟩:=atm h
   have hq32:=ex26.trans ex31.symm
   subst hq32
   have f33:=fun H=>ix_list (H:=H) (fr:=false) (f:=intC) (k:=.i64) kd_24 (fun _=>rfl) hb30 ex26
   obtain⟨hb34,h⟩:=h
   obtain⟨r35,er35,h⟩:=atm h
   simp[hh,m3_1,m4_2,m5_3,f27,f33,dc14,dr29,-indexAddrF]
   refine RunDK.callA Ty_ok kindOp_ok (l8Inside_ok agent m x26 hb34) e172 (.cons (argB false agent) (.cons (argM false m) (.cons (.v _ _ _) .nil))) (by decide) rfl (by simp[hh,m3_1,m4_2,m5_3,f27,f33,dc14,dr29,-indexAddrF]) ?_
   rw[← er35]
   simp[hh,m3_1,m4_2,m5_3,f27,f33,dc14,dr29,-indexAddrF]
   exact fin20 (r35) _ _ _ h (by refine⟨?_,?_,?_,?_⟩<;>simp[hh,m3_1,m4_2,m5_3,f27,f33,dc14,dr29,-indexAddrF])
  replace h:=h.2 dr29
  simp[hh,m3_1,m4_2,m5_3,f27,dc14,dr29,-indexAddrF]
  exact fin20 (true) _ _ _ h (by refine⟨?_,?_,?_,?_⟩<;>simp[hh,m3_1,m4_2,m5_3,f27,dc14,dr29,-indexAddrF])
 replace h:=h.2 dc14
 refine Runs.exit rfl ?_
 refine zE fun k' hk'=>?_
 obtain⟨len36,elen36,h⟩:=atm h
 have f37:=fun H=>len_list (H:=H) (fr:=false) (f:=intC) kd_24 elen36
 obtain⟨c38,ec38,h⟩:=atm h
 have f39:=ib_eql (k:=.i64) ec38
 simp[hh,m3_1,m4_2,m5_3,f37,f39,dc14,-intBin,-lenF]
 apply hk'
 exact Runs.ret1 (v:=bool c38) Tryz.func148 Tryz.results148 (by simp[hh,m3_1,m4_2,m5_3,dc14]) (hQ _ _ _ _ (.of (.v _)) ⟨c38,h,rfl⟩)
theorem l8Places_ok (redex:Big) (agent:Big) (m:Match) (hp:l8Places_pre redex agent m):PureC Tryz.prog 148 [.agg (bC false redex),.agg (bC false agent),.agg (mC false m)] (fun r=>r=bool (l8Places redex agent m)):=(l8Places_walk redex agent m _ (l8Places_vc redex agent m hp)).mono (by rintro _ ⟨_,rfl,rfl⟩;rfl)
theorem e180:Ent Tryz.prog 180:=Ent.of Tryz.func180 (by kernel_rfl) rfl
theorem l8Image_walk (redex:Big) (agent:Big) (m:Match) (link:Int) (Z:(Int × Bool)→Prop) (h:l8Image_wp redex agent m link Z):PureC Tryz.prog 180 [.agg (bC false redex),.agg (bC false agent),.agg (mC false m),int link] (fun r=>∃ y:Int × Bool,Z y∧r = .tup [int y.1,bool y.2]):=by
 unfold l8Image_wp at h
 refine PureC.of Tryz.func180 rfl Tryz.ntmps180 (by simp) fun Q hQ=>?_
 refine Runs.cut (fun ρ H n=>(ρ 0 = .agg (bC false redex)∧ρ 1 = .agg (bC false agent)∧ρ 2 = .agg (mC false m)∧ρ 3=int link)) (by simp) ?_
 rintro ρ H n1 hh
 refine zE fun k' hk'=>?_
 simp[hh]
 apply hk'
 refine Runs.cut (fun ρ H n=>(ρ 3=int link∧ρ 4=pA n1 4∧ρ 5=pA (n1+1) 5∧ρ 6=pA (n1+2) 6)∧H (n1,4)=some ⟨6,[bC false redex]⟩∧H (n1+1,5)=some ⟨6,[bC false agent]⟩∧H (n1+2,6)=some ⟨2,[mC false m]⟩) (by refine⟨?_,?_,?_,?_⟩<;>simp[hh]) ?_
 clear hh
 rintro ρ H n5 ⟨hh,m4_1,m5_2,m6_3⟩
 refine zE fun k' hk'=>?_
 obtain⟨hb6,h⟩:=h
 obtain⟨r7,er7,h⟩:=atm h
 simp[hh,m4_1,m5_2,m6_3]
 refine RunK.callA Ty_ok ((l2Ports_ok redex link hb6).pure) e173 (.cons (argB false redex) (.cons (.v _ _ _) .nil)) (by decide) (by decide) rfl (by simp[hh,m4_1,m5_2,m6_3]) ?_
 rintro _ rfl
 rw[← er7]
 simp[hh,m4_1,m5_2,m6_3]
 apply hk'
 refine Runs.seqD Ty_ok kindOp_ok draws (by decide) (by kernel_rfl) fun k' hk'=>?_
 obtain⟨hb8,h⟩:=h
 obtain⟨x9,ex9,h⟩:=atm h
 have f10:=fun H=>ix_list (H:=H) (fr:=true) (f:=intC2) (k:=.i64) kd_186 (fun _=>rfl) hb8 ex9
 have f11:=fun H=>ixa_i (H:=H) (k:=.i64) (i:=0) (fr:=true) (cs:=[int x9.1,int x9.2]) kd_191 (by decide)
 obtain⟨hb12,h⟩:=h
 obtain⟨x13,ex13,h⟩:=atm h
 have f14:=fun H=>ix_list (H:=H) (fr:=false) (f:=intC) (k:=.i64) kd_24 (fun _=>rfl) hb12 ex13
 obtain⟨hb15,h⟩:=h
 obtain⟨x16,ex16,h⟩:=atm h
 have f17:=fun H=>ix_list (H:=H) (fr:=false) (f:=(GNode.cells false)) (k:=.i64) kd_44 (fun _=>rfl) hb15 ex16
 obtain⟨hb18,h⟩:=h
 obtain⟨x19,ex19,h⟩:=atm h
 have hq20:=ex9.trans ex19.symm
 subst hq20
 have f21:=fun H=>ix_list (H:=H) (fr:=true) (f:=intC2) (k:=.i64) kd_186 (fun _=>rfl) hb18 ex9
 have f22:=fun H=>ixa_i (H:=H) (k:=.i64) (i:=1) (fr:=true) (cs:=[int x9.1,int x9.2]) kd_191 (by decide)
 obtain⟨hb23,h⟩:=h
 obtain⟨x24,ex24,h⟩:=atm h
 have f25:=fun H=>ix_list (H:=H) (fr:=false) (f:=intC) (k:=.i64) kd_24 (fun _=>rfl) hb23 ex24
 simp[hh,m4_1,m5_2,m6_3,f10,f11,f14,f17,f21,f22,f25,-indexAddrF]
 apply hk'
 refine Runs.cut (fun ρ H n=>(ρ 3=int link∧ρ 4=pA n1 4∧ρ 5=pA (n1+1) 5∧ρ 6=pA (n1+2) 6∧ρ 10 = .list true (r7.map intC2)∧ρ 11=int x24)∧H (n1,4)=some ⟨6,[bC false redex]⟩∧H (n1+1,5)=some ⟨6,[bC false agent]⟩∧H (n1+2,6)=some ⟨2,[mC false m]⟩) (by refine⟨?_,?_,?_,?_⟩<;>simp[hh,m4_1,m5_2,m6_3,f10,f11,f14,f17,f21,f22,f25,-indexAddrF]) ?_
 clear hh m4_1 m5_2 m6_3
 rintro ρ H n26 ⟨hh,m4_1,m5_2,m6_3⟩
 refine Runs.seq ?_
 refine zE fun k' hk'=>?_
 simp[hh,m4_1,m5_2,m6_3]
 apply hk'
 refine Runs.block ?_
 refine Runs.loopW h (fun (sJ:Int) ρ H n=>match sJ with | i29=>(ρ 3=int link∧ρ 4=pA n1 4∧ρ 5=pA (n1+1) 5∧ρ 6=pA (n1+2) 6∧ρ 10 = .list true (r7.map intC2)∧ρ 11=int x24∧ρ 12=int i29)∧H (n1,4)=some ⟨6,[bC false redex]⟩∧H (n1+1,5)=some ⟨6,[bC false agent]⟩∧H (n1+2,6)=some ⟨2,[mC false m]⟩) (by refine⟨?_,?_,?_,?_⟩<;>simp[hh,m4_1,m5_2,m6_3]) ?_
 clear hh m4_1 m5_2 m6_3
 rintro i29 ρ H n30 K h ⟨hh,m4_1,m5_2,m6_3⟩ IH31
 refine Runs.seq ?_
 refine zE fun k' hk'=>?_
 obtain⟨len33,elen33,h⟩:=atm h
 have f34:=fun H=>len_list (H:=H) (fr:=true) (f:=intC2) kd_186 elen33
 obtain⟨c35,ec35,h⟩:=atm h
 have f36:=ib_lss (k:=.i64) ec35
 simp[hh,m4_1,m5_2,m6_3,f34,f36,-intBin,-lenF]
 apply hk'
 refine Runs.ite (b:=c35) (by simp[hh,m4_1,m5_2,m6_3]) (fun dc35=>?_) (fun dc35=>?_)
 ·replace h:=h.1 dc35
  refine Runs.skip ?_
  refine Runs.seq ?_
  refine Runs.block ?_
  refine Runs.seqD Ty_ok kindOp_ok draws (by decide) (by kernel_rfl) fun k' hk'=>?_
  obtain⟨hb37,h⟩:=h
  obtain⟨x38,ex38,h⟩:=atm h
  have f39:=fun H=>ix_list (H:=H) (fr:=true) (f:=intC2) (k:=.i64) kd_186 (fun _=>rfl) hb37 ex38
  have f40:=fun H=>ixa_i (H:=H) (k:=.i64) (i:=0) (fr:=true) (cs:=[int x38.1,int x38.2]) kd_191 (by decide)
  obtain⟨hb41,h⟩:=h
  obtain⟨x42,ex42,h⟩:=atm h
  have f43:=fun H=>ix_list (H:=H) (fr:=false) (f:=intC) (k:=.i64) kd_24 (fun _=>rfl) hb41 ex42
  obtain⟨hb44,h⟩:=h
  obtain⟨x45,ex45,h⟩:=atm h
  have f46:=fun H=>ix_list (H:=H) (fr:=false) (f:=(GNode.cells false)) (k:=.i64) kd_44 (fun _=>rfl) hb44 ex45
  obtain⟨hb47,h⟩:=h
  obtain⟨x48,ex48,h⟩:=atm h
  have hq49:=ex38.trans ex48.symm
  subst hq49
  have f50:=fun H=>ix_list (H:=H) (fr:=true) (f:=intC2) (k:=.i64) kd_186 (fun _=>rfl) hb47 ex38
  have f51:=fun H=>ixa_i (H:=H) (k:=.i64) (i:=1) (fr:=true) (cs:=[int x38.1,int x38.2]) kd_191 (by decide)
  obtain⟨hb52,h⟩:=h
  obtain⟨x53,ex53,h⟩:=atm h
  have f54:=fun H=>ix_list (H:=H) (fr:=false) (f:=intC) (k:=.i64) kd_24 (fun _=>rfl) hb52 ex53
  obtain⟨c55,ec55,h⟩:=atm h
  have f56:=ib_neq (k:=.i64) ec55
  simp[hh,m4_1,m5_2,m6_3,f39,f40,f43,f46,f50,f51,f54,f56,dc35,-indexAddrF,-intBin]
  apply hk'
  refine Runs.cut (fun ρ H n=>(ρ 3=int link∧ρ 4=pA n1 4∧ρ 5=pA (n1+1) 5∧ρ 6=pA (n1+2) 6∧ρ 10 = .list true (r7.map intC2)∧ρ 11=int x24∧ρ 12=int i29∧ρ 63=bool c55)∧H (n1,4)=some ⟨6,[bC false redex]⟩∧H (n1+1,5)=some ⟨6,[bC false agent]⟩∧H (n1+2,6)=some ⟨2,[mC false m]⟩) (by refine⟨?_,?_,?_,?_⟩<;>simp[hh,m4_1,m5_2,m6_3,f39,f40,f43,f46,f50,f51,f54,f56,dc35,-indexAddrF,-intBin]) ?_
  clear hh m4_1 m5_2 m6_3
  rintro ρ H n57 ⟨hh,m4_1,m5_2,m6_3⟩
  refine Runs.ite (b:=c55) (by simp[hh,m4_1,m5_2,m6_3]) (fun dc55=>?_) (fun dc55=>?_)
  ·replace h:=h.1 dc55
   refine zE fun k' hk'=>?_
   simp[hh,m4_1,m5_2,m6_3,dc55]
   apply hk'
   exact Runs.ret2 (v:=int x24) (w:=bool false) Tryz.func180 Tryz.results180 (by simp[hh,m4_1,m5_2,m6_3,dc55]) (by simp[hh,m4_1,m5_2,m6_3,dc55]) (hQ _ _ _ _ (.of (.tupL (.cons (.v _) (.cons (.v _) .nil)))) ⟨(x24,false),h,rfl⟩)
  replace h:=h.2 dc55
  refine Runs.skip ?_
  refine Runs.inBlock ?_
  refine zF fun k' hk'=>?_
  obtain⟨hb58,h⟩:=h
  obtain⟨v59,ev59,h⟩:=atm h
  have f60:=ib_add hb58 ev59
  simp[hh,m4_1,m5_2,m6_3,f60,dc55,-intBin]
  apply hk'
  refine IH31 (v59) _ _ _ h (by refine⟨?_,?_,?_,?_⟩<;>simp[hh,m4_1,m5_2,m6_3,dc55])
 replace h:=h.2 dc35
 refine Runs.exit rfl ?_
 refine Runs.seq ?_
 refine zE fun k' hk'=>?_
 obtain⟨c61,ec61,h⟩:=atm h
 have f62:=ib_lss (k:=.i64) ec61
 simp[hh,m4_1,m5_2,m6_3,f62,dc35,-intBin]
 apply hk'
 refine Runs.ite (b:=c61) (by simp[hh,m4_1,m5_2,m6_3,dc35]) (fun dc61=>?_) (fun dc61=>?_)
 ·replace h:=h.1 dc61
  refine zE fun k' hk'=>?_
  obtain⟨J63,hJ64,hr65⟩:=h
  have fin67:∀ (sJ:Bool) (ρ:Env) (H:Heap) (n:Nat),J63 sJ→(match sJ with | b66=>(ρ 8=int x24∧ρ 9=bool b66))→Runs Tryz.prog 180 84 k' ρ H n Q:=by
   rintro b66 ρ H n68 h hh
   replace h:=hr65 _ h
   apply hk'
   exact Runs.ret2 (v:=int x24) (w:=bool b66) Tryz.func180 Tryz.results180 (by simp[hh]) (by simp[hh]) (hQ _ _ _ _ (.of (.tupL (.cons (.v _) (.cons (.v _) .nil)))) ⟨(x24,b66),h,rfl⟩)
  replace h:=hJ64
  obtain⟨c69,ec69,h⟩:=atm h
  have f70:=ib_lss (k:=.i64) ec69
  rcases Bool.eq_false_or_eq_true c69 with dc69 | dc69
  ·replace h:=h.1 dc69
   obtain⟨hb71,h⟩:=h
   obtain⟨r72,er72,h⟩:=atm h
   simp[hh,m4_1,m5_2,m6_3,f70,dc35,dc61,dc69,-intBin]
   refine RunK.callA Ty_ok ((l2Ports_ok agent x24 hb71).pure) e173 (.cons (argB false agent) (.cons (.v _ _ _) .nil)) (by decide) (by decide) rfl (by simp[hh,m4_1,m5_2,m6_3,f70,dc35,dc61,dc69,-intBin]) ?_
   rintro _ rfl
   rw[← er72]
   obtain⟨len73,elen73,h⟩:=atm h
   have f74:=fun H=>len_list (H:=H) (fr:=true) (f:=intC2) kd_186 elen73
   obtain⟨len75,elen75,h⟩:=atm h
   have f76:=fun H=>len_list (H:=H) (fr:=true) (f:=intC2) kd_186 elen75
   obtain⟨c77,ec77,h⟩:=atm h
   have f78:=ib_eql (k:=.i64) ec77
   simp[hh,m4_1,m5_2,m6_3,f70,f74,f76,f78,dc35,dc61,dc69,-intBin,-lenF]
   exact fin67 (c77) _ _ _ h (by simp[hh,m4_1,m5_2,m6_3,f70,f74,f76,f78,dc35,dc61,dc69,-intBin,-lenF])
  replace h:=h.2 dc69
  simp[hh,m4_1,m5_2,m6_3,f70,dc35,dc61,dc69,-intBin]
  exact fin67 (false) _ _ _ h (by simp[hh,m4_1,m5_2,m6_3,f70,dc35,dc61,dc69,-intBin])
 replace h:=h.2 dc61
 refine Runs.skip ?_
 refine zE fun k' hk'=>?_
 simp[hh,m4_1,m5_2,m6_3,dc35,dc61]
 apply hk'
 exact Runs.ret2 (v:=int x24) (w:=bool true) Tryz.func180 Tryz.results180 (by simp[hh,m4_1,m5_2,m6_3,dc35,dc61]) (by simp[hh,m4_1,m5_2,m6_3,dc35,dc61]) (hQ _ _ _ _ (.of (.tupL (.cons (.v _) (.cons (.v _) .nil)))) ⟨(x24,true),h,rfl⟩)
theorem l8Image_ok (redex:Big) (agent:Big) (m:Match) (link:Int) (hp:l8Image_pre redex agent m link):PureC Tryz.prog 180 [.agg (bC false redex),.agg (bC false agent),.agg (mC false m),int link] (fun r=>r = .tup [int ((l8Image redex agent m link).1),bool ((l8Image redex agent m link).2)]):=(l8Image_walk redex agent m link _ (l8Image_vc redex agent m link hp)).mono (by rintro _ ⟨_,rfl,rfl⟩;rfl)
theorem e151:Ent Tryz.prog 151:=Ent.of Tryz.func151 (by kernel_rfl) rfl
theorem l8Links_walk (redex:Big) (agent:Big) (m:Match) (Z:((List Int) × Bool)→Prop) (h:l8Links_wp redex agent m Z):OwnS Tryz.prog 151 [.agg (bC false redex),.agg (bC false agent),.agg (mC false m)] (.t [.s [.c],.c]) (fun r=>∃ y:(List Int) × Bool,Z y∧r = .tup [.list true (y.1.map intC),bool y.2]):=by
 unfold l8Links_wp at h
 have sp:Sep noHeap 0 [] []:=Sep.nil (by simp)
 refine OwnS.of Tryz.func151 rfl Tryz.ntmps151 (by simp) fun Q hQ=>?_
 refine Runs.cut (fun ρ H n=>(ρ 0 = .agg (bC false redex)∧ρ 1 = .agg (bC false agent)∧ρ 2 = .agg (mC false m))∧Sep H n [] []) (by refine⟨?_,sp⟩<;>simp ) ?_
 rintro ρ H n1 ⟨hh,sp⟩
 refine zE fun k' hk'=>?_
 simp[hh]
 apply hk'
 refine Runs.cut (fun ρ H n=>(ρ 3=pA n1 3∧ρ 4=pA (n1+1) 4∧ρ 5=pA (n1+2) 5)∧H (n1,3)=some ⟨6,[bC false redex]⟩∧H (n1+1,4)=some ⟨6,[bC false agent]⟩∧H (n1+2,5)=some ⟨2,[mC false m]⟩∧Sep H n [] [(n1+2,5),(n1+1,4),(n1,3)]) (by refine⟨?_,?_,?_,?_,sp.var.var.var⟩<;>simp[hh]) ?_
 clear hh
 rintro ρ H n5 ⟨hh,m3_1,m4_2,m5_3,sp⟩
 refine zE fun k' hk'=>?_
 simp[hh,m3_1,m4_2,m5_3]
 apply hk'
 refine Runs.cut (fun ρ H n=>∃ (v7:AVal),(ρ 3=pA n1 3∧ρ 4=pA (n1+1) 4∧ρ 5=pA (n1+2) 5∧ρ 8=v7)∧H (n1,3)=some ⟨6,[bC false redex]⟩∧H (n1+1,4)=some ⟨6,[bC false agent]⟩∧H (n1+2,5)=some ⟨2,[mC false m]⟩∧Sep H n [oI v7 ([]:List Int)] [(n1+2,5),(n1+1,4),(n1,3)]) (by refine⟨.arr (n5,12) 0 0 0,?_,?_,?_,?_,(Sep.addEmpty (l:=[.c]) sp)⟩<;>simp[hh,m3_1,m4_2,m5_3]) ?_
 clear hh m3_1 m4_2 m5_3
 rintro ρ H n8 ⟨v7,hh,m3_1,m4_2,m5_3,sp⟩
 refine Runs.seq ?_
 refine zE fun k' hk'=>?_
 simp[hh,m3_1,m4_2,m5_3]
 apply hk'
 refine Runs.block ?_
 refine Runs.loopW h (fun (sJ:Int × (List Int)) ρ H n=>match sJ with | (link16,l17)=>∃ (v18:AVal),(ρ 3=pA n1 3∧ρ 4=pA (n1+1) 4∧ρ 5=pA (n1+2) 5∧ρ 8=v18∧ρ 9=int link16)∧H (n1,3)=some ⟨6,[bC false redex]⟩∧H (n1+1,4)=some ⟨6,[bC false agent]⟩∧H (n1+2,5)=some ⟨2,[mC false m]⟩∧Sep H n [oI v18 l17] [(n1+2,5),(n1+1,4),(n1,3)]) (by refine⟨v7,?_,?_,?_,?_,sp⟩<;>simp[hh,m3_1,m4_2,m5_3]) ?_
 clear hh m3_1 m4_2 m5_3
 rintro⟨link16,l17⟩ ρ H n19 K h ⟨v18,hh,m3_1,m4_2,m5_3,sp⟩ IH20
 refine Runs.seq ?_
 refine zE fun k' hk'=>?_
 obtain⟨len22,elen22,h⟩:=atm h
 have f23:=fun H=>len_list (H:=H) (fr:=false) (f:=strC) kd_25 elen22
 obtain⟨hb24,h⟩:=h
 obtain⟨v25,ev25,h⟩:=atm h
 have f26:=ib_add hb24 ev25
 obtain⟨c27,ec27,h⟩:=atm h
 have f28:=ib_lss (k:=.i64) ec27
 simp[hh,m3_1,m4_2,m5_3,f23,f26,f28,-intBin,-lenF]
 apply hk'
 refine Runs.ite (b:=c27) (by simp[hh,m3_1,m4_2,m5_3]) (fun dc27=>?_) (fun dc27=>?_)
 ·replace h:=h.1 dc27
  refine Runs.skip ?_
  refine Runs.seq ?_
  refine Runs.block ?_
  refine zE fun k' hk'=>?_
  obtain⟨hb29,h⟩:=h
  obtain⟨r30,er30,h⟩:=atm h
  simp[hh,m3_1,m4_2,m5_3,dc27]
  refine RunK.callA Ty_ok (l8Image_ok redex agent m link16 hb29) e180 (.cons (argB false redex) (.cons (argB false agent) (.cons (argM false m) (.cons (.v _ _ _) .nil)))) (by decide) (by decide) rfl (by simp[hh,m3_1,m4_2,m5_3,dc27]) ?_
  rintro _ rfl
  rw[← er30]
  simp[hh,m3_1,m4_2,m5_3,dc27]
  apply hk'
  refine Runs.cut (fun ρ H n=>∃ (v31:AVal),(ρ 3=pA n1 3∧ρ 4=pA (n1+1) 4∧ρ 5=pA (n1+2) 5∧ρ 8=v31∧ρ 9=int link16∧ρ 10=int r30.1∧ρ 11=bool r30.2)∧H (n1,3)=some ⟨6,[bC false redex]⟩∧H (n1+1,4)=some ⟨6,[bC false agent]⟩∧H (n1+2,5)=some ⟨2,[mC false m]⟩∧Sep H n [oI v31 l17] [(n1+2,5),(n1+1,4),(n1,3)]) (by refine⟨v18,?_,?_,?_,?_,sp⟩<;>simp[hh,m3_1,m4_2,m5_3,dc27]) ?_
  clear hh m3_1 m4_2 m5_3
  rintro ρ H n32 ⟨v31,hh,m3_1,m4_2,m5_3,sp⟩
  refine Runs.seq ?_
  refine zE fun k' hk'=>?_
  simp[hh,m3_1,m4_2,m5_3]
  apply hk'
  refine Runs.ite (b:=(!r30.2)) (by simp[hh,m3_1,m4_2,m5_3]) (fun dr30_2=>?_) (fun dr30_2=>?_)
  ·have dr30_2:r30.2=false:=by simpa using dr30_2
   replace h:=h.2 dr30_2
   refine zE fun k' hk'=>?_
   simp[hh,m3_1,m4_2,m5_3,dr30_2]
   apply hk'
   refine Runs.cut (fun ρ H n=>∃ (v34:AVal),(ρ 6=v34∧ρ 7=bool false)∧Sep H n [oI v34 ([]:List Int)] []) (by refine⟨.arr (n32,33) 0 0 0,?_,(Sep.sub (Sep.dr (Sep.f1 (Sep.addEmpty (l:=[.c]) sp))) (by simp +contextual))⟩<;>simp[hh,m3_1,m4_2,m5_3,dr30_2]) ?_
   clear hh m3_1 m4_2 m5_3
   rintro ρ H n35 ⟨v34,hh,sp⟩
   exact Runs.ret2 (v:=v34) (w:=bool false) Tryz.func151 Tryz.results151 (by simp[hh]) (by simp[hh]) (hQ _ _ _ _ (Sep.sub (ids':=[]) (Sep.packT (Fill.own (Fill.v _ Fill.nil)) sp) (by simp)) ⟨(([]:List Int),false),h,rfl⟩)
  have dr30_2:r30.2=true:=by simpa using dr30_2
  replace h:=h.1 dr30_2
  refine Runs.skip ?_
  refine zF fun k' hk'=>?_
  obtain⟨hb37,h⟩:=h
  obtain⟨l38,el38,h⟩:=atm h
  simp[hh,m3_1,m4_2,m5_3,dr30_2,-appendF]
  refine bind_append [] [] [[int r30.1]] [intC r30.1] sp kd_24 (by simp) (by simp) (by simp) (by simp[-one1,o1x]) (rows_one (Fill.v _ Fill.nil)) (by simp) (by simpa using hb37) ?_
  rintro v39 H40 n41 sp hfr42 hle43
  replace sp:Sep H40 n41 [oI v39 l38] [(n1+2,5),(n1+1,4),(n1,3)]:=Sep.ap el38 sp
  have m3_1:H40 (n1,3)=some ⟨6,[bC false redex]⟩:=(hfr42 _ (by simp)).trans (by simp[hh,m3_1,m4_2,m5_3,Heap.get_set])
  have m4_2:H40 (n1+1,4)=some ⟨6,[bC false agent]⟩:=(hfr42 _ (by simp)).trans (by simp[hh,m3_1,m4_2,m5_3,Heap.get_set])
  have m5_3:H40 (n1+2,5)=some ⟨2,[mC false m]⟩:=(hfr42 _ (by simp)).trans (by simp[hh,m3_1,m4_2,m5_3,Heap.get_set])
  simp[hh,m3_1,m4_2,m5_3,dr30_2]
  apply hk'
  refine Runs.cut (fun ρ H n=>∃ (v45:AVal),(ρ 3=pA n1 3∧ρ 4=pA (n1+1) 4∧ρ 5=pA (n1+2) 5∧ρ 8=v45∧ρ 9=int link16)∧H (n1,3)=some ⟨6,[bC false redex]⟩∧H (n1+1,4)=some ⟨6,[bC false agent]⟩∧H (n1+2,5)=some ⟨2,[mC false m]⟩∧Sep H n [oI v45 l38] [(n1+2,5),(n1+1,4),(n1,3)]) (by refine⟨v39,?_,?_,?_,?_,sp⟩<;>simp[hh,m3_1,m4_2,m5_3,dr30_2]) ?_
  clear hh m3_1 m4_2 m5_3
  rintro ρ H n46 ⟨v45,hh,m3_1,m4_2,m5_3,sp⟩
  refine Runs.inBlock ?_
  refine zF fun k' hk'=>?_
  obtain⟨hb47,h⟩:=h
  obtain⟨v48,ev48,h⟩:=atm h
  have f49:=ib_add hb47 ev48
  simp[hh,m3_1,m4_2,m5_3,f49,-intBin]
  apply hk'
  refine IH20 (v48,l38) _ _ _ h (by refine⟨v45,?_,?_,?_,?_,sp⟩<;>simp[hh,m3_1,m4_2,m5_3])
 replace h:=h.2 dc27
 refine Runs.exit rfl ?_
 refine zE fun k' hk'=>?_
 simp[hh,m3_1,m4_2,m5_3,dc27]
 apply hk'
 exact Runs.ret2 (v:=v18) (w:=bool true) Tryz.func151 Tryz.results151 (by simp[hh,m3_1,m4_2,m5_3,dc27]) (by simp[hh,m3_1,m4_2,m5_3,dc27]) (hQ _ _ _ _ (Sep.sub (ids':=[]) (Sep.packT (Fill.own (Fill.v _ Fill.nil)) sp) (by simp)) ⟨(l17,true),h,rfl⟩)
theorem l8Links_ok (redex:Big) (agent:Big) (m:Match) (hp:l8Links_pre redex agent m):OwnS Tryz.prog 151 [.agg (bC false redex),.agg (bC false agent),.agg (mC false m)] (.t [.s [.c],.c]) (fun r=>r = .tup [.list true (((l8Links redex agent m).1).map intC),bool ((l8Links redex agent m).2)]):=(l8Links_walk redex agent m _ (l8Links_vc redex agent m hp)).mono (by rintro _ ⟨_,rfl,rfl⟩;rfl)
theorem e93:Ent Tryz.prog 93:=Ent.of Tryz.func93 (by kernel_rfl) rfl
theorem l8Match_walk (redex:Big) (agent:Big) (m:Match) (Z:Bool→Prop) (h:l8Match_wp redex agent m Z):PureC Tryz.prog 93 [.agg (bC false redex),.agg (bC false agent),.agg (mC false m)] (fun r=>∃ y:Bool,Z y∧r=bool y):=by
 unfold l8Match_wp at h
 refine PureC.of Tryz.func93 rfl Tryz.ntmps93 (by simp) fun Q hQ=>?_
 refine Runs.cut (fun ρ H n=>(ρ 0 = .agg (bC false redex)∧ρ 1 = .agg (bC false agent)∧ρ 2 = .agg (mC false m))) (by simp) ?_
 rintro ρ H n1 hh
 refine zE fun k' hk'=>?_
 simp[hh]
 apply hk'
 refine Runs.cut (fun ρ H n=>(ρ 3=pA n1 3∧ρ 4=pA (n1+1) 4∧ρ 5=pA (n1+2) 5)∧H (n1,3)=some ⟨6,[bC false redex]⟩∧H (n1+1,4)=some ⟨6,[bC false agent]⟩∧H (n1+2,5)=some ⟨2,[mC false m]⟩) (by refine⟨?_,?_,?_,?_⟩<;>simp[hh]) ?_
 clear hh
 rintro ρ H n5 ⟨hh,m3_1,m4_2,m5_3⟩
 refine Runs.seq ?_
 refine zE fun k' hk'=>?_
 obtain⟨J6,hJ7,hr8⟩:=h
 have fin10:∀ (sJ:Bool) (ρ:Env) (H:Heap) (n:Nat),J6 sJ→(match sJ with | b9=>(ρ 3=pA n1 3∧ρ 4=pA (n1+1) 4∧ρ 5=pA (n1+2) 5∧ρ 35=bool b9)∧H (n1,3)=some ⟨6,[bC false redex]⟩∧H (n1+1,4)=some ⟨6,[bC false agent]⟩∧H (n1+2,5)=some ⟨2,[mC false m]⟩)→Runs Tryz.prog 93 44 k' ρ H n Q:=by
  rintro b9 ρ H n11 h ⟨hh,m3_1,m4_2,m5_3⟩
  replace h:=hr8 _ h
  apply hk'
  refine Runs.ite (b:=b9) (by simp[hh,m3_1,m4_2,m5_3]) (fun db9=>?_) (fun db9=>?_)
  ·replace h:=h.1 db9
   refine zE fun k' hk'=>?_
   simp[hh,m3_1,m4_2,m5_3,db9]
   apply hk'
   exact Runs.ret1 (v:=bool false) Tryz.func93 Tryz.results93 (by simp[hh,m3_1,m4_2,m5_3,db9]) (hQ _ _ _ _ (.of (.v _)) ⟨false,h,rfl⟩)
  replace h:=h.2 db9
  refine Runs.skip ?_
  refine zE fun k' hk'=>?_
  obtain⟨hb12,h⟩:=h
  obtain⟨r13,er13,h⟩:=atm h
  simp[hh,m3_1,m4_2,m5_3,db9]
  refine RunK.callA Ty_ok ((l8Links_ok redex agent m hb12).pure) e151 (.cons (argB false redex) (.cons (argB false agent) (.cons (argM false m) .nil))) (by decide) (by decide) rfl (by simp[hh,m3_1,m4_2,m5_3,db9]) ?_
  rintro _ rfl
  rw[← er13]
  simp[hh,m3_1,m4_2,m5_3,db9]
  apply hk'
  refine zE fun k' hk'=>?_
  simp[hh,m3_1,m4_2,m5_3,db9]
  apply hk'
  exact Runs.ret1 (v:=bool r13.2) Tryz.func93 Tryz.results93 (by simp[hh,m3_1,m4_2,m5_3,db9]) (hQ _ _ _ _ (.of (.v _)) ⟨r13.2,h,rfl⟩)
 replace h:=hJ7
 obtain⟨hb14,h⟩:=h
 obtain⟨r15,er15,h⟩:=atm h
 simp[hh,m3_1,m4_2,m5_3]
 refine RunK.callA Ty_ok (l8Images_ok redex agent m.nodes hb14) e147 (.cons (argB false redex) (.cons (argB false agent) (.cons (argI false m.nodes) .nil))) (by decide) (by decide) rfl (by simp[hh,m3_1,m4_2,m5_3]) ?_
 rintro _ rfl
 rw[← er15]
 rcases Bool.eq_false_or_eq_true r15 with dr15 | dr15
 ·replace h:=h.1 dr15
  obtain⟨hb16,h⟩:=h
  obtain⟨r17,er17,h⟩:=atm h
  simp[hh,m3_1,m4_2,m5_3,dr15]
  refine RunK.callA Ty_ok (l8Places_ok redex agent m hb16) e148 (.cons (argB false redex) (.cons (argB false agent) (.cons (argM false m) .nil))) (by decide) (by decide) rfl (by simp[hh,m3_1,m4_2,m5_3,dr15]) ?_
  rintro _ rfl
  rw[← er17]
  rcases Bool.eq_false_or_eq_true r17 with dr17 | dr17
  ·replace h:=h.1 dr17
   obtain⟨hb18,h⟩:=h
   obtain⟨r19,er19,h⟩:=atm h
   simp[hh,m3_1,m4_2,m5_3,dr15,dr17]
   refine RunK.callA Ty_ok (l8Parents_ok redex agent m hb18) e149 (.cons (argB false redex) (.cons (argB false agent) (.cons (argM false m) .nil))) (by decide) (by decide) rfl (by simp[hh,m3_1,m4_2,m5_3,dr15,dr17]) ?_
   rintro _ rfl
   rw[← er19]
   rcases Bool.eq_false_or_eq_true r19 with dr19 | dr19
   ·replace h:=h.1 dr19
    obtain⟨hb20,h⟩:=h
    obtain⟨r21,er21,h⟩:=atm h
    simp[hh,m3_1,m4_2,m5_3,dr15,dr17,dr19]
    refine RunK.callA Ty_ok (l8Kids_ok redex agent m hb20) e150 (.cons (argB false redex) (.cons (argB false agent) (.cons (argM false m) .nil))) (by decide) (by decide) rfl (by simp[hh,m3_1,m4_2,m5_3,dr15,dr17,dr19]) ?_
    rintro _ rfl
    rw[← er21]
    simp[hh,m3_1,m4_2,m5_3,dr15,dr17,dr19]
    exact fin10 ((!r21)) _ _ _ h (by refine⟨?_,?_,?_,?_⟩<;>simp[hh,m3_1,m4_2,m5_3,dr15,dr17,dr19])
   replace h:=h.2 dr19
   simp[hh,m3_1,m4_2,m5_3,dr15,dr17,dr19]
   exact fin10 (true) _ _ _ h (by refine⟨?_,?_,?_,?_⟩<;>simp[hh,m3_1,m4_2,m5_3,dr15,dr17,dr19])
  replace h:=h.2 dr17
  simp[hh,m3_1,m4_2,m5_3,dr15,dr17]
  exact fin10 (true) _ _ _ h (by refine⟨?_,?_,?_,?_⟩<;>simp[hh,m3_1,m4_2,m5_3,dr15,dr17])
 replace h:=h.2 dr15
 simp[hh,m3_1,m4_2,m5_3,dr15]
 exact fin10 (true) _ _ _ h (by refine⟨?_,?_,?_,?_⟩<;>simp[hh,m3_1,m4_2,m5_3,dr15])
theorem l8Match_ok (redex:Big) (agent:Big) (m:Match) (hp:l8Match_pre redex agent m):PureC Tryz.prog 93 [.agg (bC false redex),.agg (bC false agent),.agg (mC false m)] (fun r=>r=bool (l8Match redex agent m)):=(l8Match_walk redex agent m _ (l8Match_vc redex agent m hp)).mono (by rintro _ ⟨_,rfl,rfl⟩;rfl)
theorem e47:Ent Tryz.prog 47:=Ent.of Tryz.func47 (by kernel_rfl) rfl
theorem l8Given_walk (sig:List Control) (redex:Big) (agent:Big) (m:Match) (Z:Bool→Prop) (h:l8Given_wp sig redex agent m Z):PureC Tryz.prog 47 [.list false (sig.map Control.cells),.agg (bC false redex),.agg (bC false agent),.agg (mC false m)] (fun r=>∃ y:Bool,Z y∧r=bool y):=by
 unfold l8Given_wp at h
 refine PureC.of Tryz.func47 rfl Tryz.ntmps47 (by simp) fun Q hQ=>?_
 refine Runs.cut (fun ρ H n=>(ρ 0 = .list false (sig.map Control.cells)∧ρ 1 = .agg (bC false redex)∧ρ 2 = .agg (bC false agent)∧ρ 3 = .agg (mC false m))) (by simp) ?_
 rintro ρ H n1 hh
 refine zE fun k' hk'=>?_
 simp[hh]
 apply hk'
 refine Runs.cut (fun ρ H n=>(ρ 0 = .list false (sig.map Control.cells)∧ρ 5=pA n1 5∧ρ 6=pA (n1+1) 6∧ρ 7=pA (n1+2) 7)∧H (n1,5)=some ⟨6,[bC false redex]⟩∧H (n1+1,6)=some ⟨6,[bC false agent]⟩∧H (n1+2,7)=some ⟨2,[mC false m]⟩) (by refine⟨?_,?_,?_,?_⟩<;>simp[hh]) ?_
 clear hh
 rintro ρ H n5 ⟨hh,m5_1,m6_2,m7_3⟩
 refine zE fun k' hk'=>?_
 obtain⟨J6,hJ7,hr8⟩:=h
 have fin10:∀ (sJ:Bool) (ρ:Env) (H:Heap) (n:Nat),J6 sJ→(match sJ with | b9=>ρ 8=bool b9)→Runs Tryz.prog 47 19 k' ρ H n Q:=by
  rintro b9 ρ H n11 h hh
  replace h:=hr8 _ h
  apply hk'
  exact Runs.ret1 (v:=bool b9) Tryz.func47 Tryz.results47 (by simp[hh]) (hQ _ _ _ _ (.of (.v _)) ⟨b9,h,rfl⟩)
 replace h:=hJ7
 obtain⟨hb12,h⟩:=h
 obtain⟨r13,er13,h⟩:=atm h
 simp[hh,m5_1,m6_2,m7_3]
 refine RunK.callA Ty_ok (l8Both_ok sig redex agent hb12) e92 (.cons (argC false sig) (.cons (argB false redex) (.cons (argB false agent) .nil))) (by decide) (by decide) rfl (by simp[hh,m5_1,m6_2,m7_3]) ?_
 rintro _ rfl
 rw[← er13]
 rcases Bool.eq_false_or_eq_true r13 with dr13 | dr13
 ·replace h:=h.1 dr13
  obtain⟨hb14,h⟩:=h
  obtain⟨r15,er15,h⟩:=atm h
  simp[hh,m5_1,m6_2,m7_3,dr13]
  refine RunK.callA Ty_ok (l8Match_ok redex agent m hb14) e93 (.cons (argB false redex) (.cons (argB false agent) (.cons (argM false m) .nil))) (by decide) (by decide) rfl (by simp[hh,m5_1,m6_2,m7_3,dr13]) ?_
  rintro _ rfl
  rw[← er15]
  simp[hh,m5_1,m6_2,m7_3,dr13]
  exact fin10 (r15) _ _ _ h (by simp[hh,m5_1,m6_2,m7_3,dr13])
 replace h:=h.2 dr13
 simp[hh,m5_1,m6_2,m7_3,dr13]
 exact fin10 (false) _ _ _ h (by simp[hh,m5_1,m6_2,m7_3,dr13])
theorem l8Given_ok (sig:List Control) (redex:Big) (agent:Big) (m:Match) (hp:l8Given_pre sig redex agent m):PureC Tryz.prog 47 [.list false (sig.map Control.cells),.agg (bC false redex),.agg (bC false agent),.agg (mC false m)] (fun r=>r=bool (l8Given sig redex agent m)):=(l8Given_walk sig redex agent m _ (l8Given_vc sig redex agent m hp)).mono (by rintro _ ⟨_,rfl,rfl⟩;rfl)
end Go.Ab.Vg
