/- Merged texts (15 of 17) of the proof that ends in Icy: Ksw Sa Eqw Mnw Muw. -/
import Derived.Test.YtkocdlgoncmdbaaGreatDoorAbQic14
import Derived.Laws.StructEq
import Derived.ChangeKeysEq
/- Walks by program for YtkocdlgoncmdbaaGreatDoorAbKs. -/
namespace Go.Ab.Vg
open Go.Proofs
set_option maxRecDepth 100000
set_option linter.unusedSimpArgs false
set_option linter.unusedVariables false
attribute [local simp] GNode.cells Wire.cells intC sliceC strC bC pA zB
theorem e108:Ent Tryz.prog 108:=Ent.of Tryz.func108 (by kernel_rfl) rfl
theorem canF1_walk (l:Int) (v_:Big) (v_':List Int) (Z:Int→Prop) (h:canF1_wp l v_ v_' Z):PureC Tryz.prog 108 [int l,.iptr false (bC false v_),.iptr false [.list false (v_'.map intC)]] (fun r=>∃ y:Int,Z y∧r=int y):=by
 unfold canF1_wp at h
 refine PureC.of Tryz.func108 rfl Tryz.ntmps108 (by simp) fun Q hQ=>?_
 refine Runs.cut (fun ρ H n=>(ρ 0=int l∧ρ 1 = .iptr false (bC false v_)∧ρ 2 = .iptr false [.list false (v_'.map intC)])) (by simp) ?_
 rintro ρ H n1 hh
 refine zE fun k' hk'=>?_
 simp[hh]
 apply hk'
 refine Runs.seq ?_
 refine zE fun k' hk'=>?_
 obtain⟨c2,ec2,h⟩:=atm h
 have f3:=ib_geq (k:=.i64) ec2
 simp[hh,f3,-intBin]
 apply hk'
 refine Runs.ite (b:=c2) (by simp[hh]) (fun dc2=>?_) (fun dc2=>?_)
 ·replace h:=h.1 dc2
  refine zE fun k' hk'=>?_
  simp[hh,dc2]
  apply hk'
  exact Runs.ret1 (v:=int l) Tryz.func108 Tryz.results108 (by simp[hh,dc2]) (hQ _ _ _ _ (.of (.v _)) ⟨l,h,rfl⟩)
 replace h:=h.2 dc2
 refine Runs.skip ?_
 refine zE fun k' hk'=>?_
 obtain⟨hb4,h⟩:=h
 obtain⟨r5,er5,h⟩:=atm h
 simp[hh,dc2]
 refine RunK.callA Ty_ok (indexZ_ok v_' l hb4) e109 (.cons (argI false v_') (.cons (.v _ _ _) .nil)) (by decide) (by decide) rfl (by simp[hh,dc2]) ?_
 rintro _ rfl
 rw[← er5]
 simp[hh,dc2]
 apply hk'
 exact Runs.ret1 (v:=int r5) Tryz.func108 Tryz.results108 (by simp[hh,dc2]) (hQ _ _ _ _ (.of (.v _)) ⟨r5,h,rfl⟩)
theorem canF1_ok (l:Int) (v_:Big) (v_':List Int) (hp:canF1_pre l v_ v_'):PureC Tryz.prog 108 [int l,.iptr false (bC false v_),.iptr false [.list false (v_'.map intC)]] (fun r=>r=int (canF1 l v_ v_')):=(canF1_walk l v_ v_' _ (canF1_vc l v_ v_' hp)).mono (by rintro _ ⟨_,rfl,rfl⟩;rfl)
theorem e110:Ent Tryz.prog 110:=Ent.of Tryz.func110 (by kernel_rfl) rfl
theorem canF2_walk (p:Int) (v_:CoderV) (Z:Int→Prop) (h:canF2_wp p v_ Z):PureC Tryz.prog 110 [int p,.iptr false [.undef,.undef,.undef,.undef,.undef,.undef,.list false (v_.edges.map intC),.list false (v_.places.map intC),.undef]] (fun r=>∃ y:Int,Z y∧r=int y):=by
 unfold canF2_wp at h
 refine PureC.of Tryz.func110 rfl Tryz.ntmps110 (by simp) fun Q hQ=>?_
 refine Runs.cut (fun ρ H n=>(ρ 0=int p∧ρ 1 = .iptr false [.undef,.undef,.undef,.undef,.undef,.undef,.list false (v_.edges.map intC),.list false (v_.places.map intC),.undef])) (by simp) ?_
 rintro ρ H n1 hh
 refine zE fun k' hk'=>?_
 simp[hh]
 apply hk'
 refine Runs.seq ?_
 refine zE fun k' hk'=>?_
 obtain⟨c2,ec2,h⟩:=atm h
 have f3:=ib_geq (k:=.i64) ec2
 simp[hh,f3,-intBin]
 apply hk'
 refine Runs.ite (b:=c2) (by simp[hh]) (fun dc2=>?_) (fun dc2=>?_)
 ·replace h:=h.1 dc2
  refine zE fun k' hk'=>?_
  obtain⟨hb4,h⟩:=h
  obtain⟨x5,ex5,h⟩:=atm h
  have f6:=fun H=>ix_list (H:=H) (fr:=false) (f:=intC) (k:=.i64) kd_24 (fun _=>rfl) hb4 ex5
  simp[hh,f6,dc2,-indexAddrF]
  apply hk'
  exact Runs.ret1 (v:=int x5) Tryz.func110 Tryz.results110 (by simp[hh,dc2]) (hQ _ _ _ _ (.of (.v _)) ⟨x5,h,rfl⟩)
 replace h:=h.2 dc2
 refine Runs.skip ?_
 refine zE fun k' hk'=>?_
 simp[hh,dc2]
 apply hk'
 exact Runs.ret1 (v:=int p) Tryz.func110 Tryz.results110 (by simp[hh,dc2]) (hQ _ _ _ _ (.of (.v _)) ⟨p,h,rfl⟩)
theorem canF2_ok (p:Int) (v_:CoderV) (hp:canF2_pre p v_):PureC Tryz.prog 110 [int p,.iptr false [.undef,.undef,.undef,.undef,.undef,.undef,.list false (v_.edges.map intC),.list false (v_.places.map intC),.undef]] (fun r=>r=int (canF2 p v_)):=(canF2_walk p v_ _ (canF2_vc p v_ hp)).mono (by rintro _ ⟨_,rfl,rfl⟩;rfl)
theorem e42:Ent Tryz.prog 42:=Ent.of Tryz.func42 (by kernel_rfl) rfl
set_option maxHeartbeats 2000000 in
theorem canonZ_walk (b:Big) (Z:Big→Prop) (h:canonZ_wp b Z):OwnS Tryz.prog 42 [.agg (bC false b)] (.a [.c,.s [.c,.c,.s [.c]],.s [.c],.c,.s [.c],.s [.c,.c]]) (fun r=>∃ y:Big,Z y∧r = .agg (bC true y)):=by
 unfold canonZ_wp at h
 have sp:Sep noHeap 0 [] []:=Sep.nil (by simp)
 refine OwnS.of Tryz.func42 rfl Tryz.ntmps42 (by simp) fun Q hQ=>?_
 refine Runs.cut (fun ρ H n=>ρ 0 = .agg (bC false b)∧Sep H n [] []) (by refine⟨by simp ,sp⟩) ?_
 rintro ρ H n1 ⟨hh,sp⟩
 refine zE fun k' hk'=>?_
 simp[hh]
 apply hk'
 refine Runs.cut (fun ρ H n=>((ρ 1=pA n1 1∧ρ 2=pA (n1+1) 2)∧H (n1,1)=some ⟨6,[bC false b]⟩∧H (n1+1,2)=some ⟨6,[zB]⟩)∧Sep H n [] [(n1+1,2),(n1,1)]) (by refine⟨by simp[hh],sp.var.var⟩) ?_
 clear hh
 rintro ρ H n4 ⟨⟨hh,m1_1,m2_2⟩,sp⟩
 refine zE fun k' hk'=>?_
 obtain⟨hb5,h⟩:=h
 obtain⟨r6,er6,h⟩:=atm h
 simp[hh,m1_1,m2_2]
 refine RunK.callA Ty_ok (ordC_ok b hb5) e105 (.cons (argB false b) .nil) (by decide) (by decide) rfl (by simp[hh,m1_1,m2_2]) ?_
 rintro _ ⟨y7,y8,y9,y10,y11,y12,y13,⟨hy7,hy8,hy9,hy10,hy11,hy12,hy13⟩,rfl⟩
 simp only[one] at hy7 hy8 hy9 hy10 hy11 hy12 hy13
 rw[← er6]
 simp[hh,m1_1,m2_2,hy7,hy8,hy9,hy10,hy11,hy12,hy13]
 apply hk'
 refine Runs.cut (fun ρ H n=>((ρ 1=pA n1 1∧ρ 2=pA (n1+1) 2∧ρ 3 = .list true (r6.1.map intC)∧ρ 4=pA n4 4)∧H (n1,1)=some ⟨6,[bC false b]⟩∧H (n1+1,2)=some ⟨6,[zB]⟩∧H (n4,4)=some ⟨9,[[.v y7,.v y8,.v y9,.v y10,.v y11,.v y12,.list true (r6.2.edges.map intC),.list true (r6.2.places.map intC),.v y13]]⟩)∧Sep H n [] [(n4,4),(n1+1,2),(n1,1)]) (by refine⟨by simp[hh,m1_1,m2_2,hy7,hy8,hy9,hy10,hy11,hy12,hy13],sp.var⟩) ?_
 clear hh m1_1 m2_2 hy7 hy8 hy9 hy10 hy11 hy12 hy13
 rintro ρ H n15 ⟨⟨hh,m1_1,m2_2,m4_13⟩,sp⟩
 refine zE fun k' hk'=>?_
 obtain⟨hb16,h⟩:=h
 obtain⟨r17,er17,h⟩:=atm h
 simp[hh,m1_1,m2_2,m4_13]
 refine RunK.callW Ty_ok (cloneZ_ok r6.2.edges hb16) e106 (.cons (argI true r6.2.edges) .nil) sp (by decide) (by decide) rfl (by simp[hh,m1_1,m2_2,m4_13]) ?_
 rintro v18 H19 n20 _ sp rfl hle22 hfr21
 rw[← er17] at sp
 have m1_1:=(hfr21 _ (by simp)).trans m1_1
 have m2_2:=(hfr21 _ (by simp)).trans m2_2
 have m4_13:=(hfr21 _ (by simp)).trans m4_13
 have f26:=Sep.oc sp
 simp[hh,m1_1,m2_2,m4_13,f26,-cellsA,-one1,cAx,o1x]
 apply hk'
 refine Runs.cut (fun ρ H n=>∃ (v27:AVal),((ρ 1=pA n1 1∧ρ 2=pA (n1+1) 2∧ρ 3 = .list true (r6.1.map intC)∧ρ 4=pA n4 4∧ρ 5=pA n20 5)∧H (n1,1)=some ⟨6,[bC false b]⟩∧H (n1+1,2)=some ⟨6,[zB]⟩∧H (n4,4)=some ⟨9,[[.v y7,.v y8,.v y9,.v y10,.v y11,.v y12,.list true (r6.2.edges.map intC),.list true (r6.2.places.map intC),.v y13]]⟩∧H (n20,5)=some ⟨1,[[v27]]⟩)∧Sep H n [oI v27 r17] [(n20,5),(n4,4),(n1+1,2),(n1,1)]) (by refine⟨v18,by simp[hh,m1_1,m2_2,m4_13,f26,-cellsA,-one1,cAx,o1x],sp.var⟩) ?_
 clear hh m1_1 m2_2 m4_13
 rintro ρ H n28 ⟨v27,⟨hh,m1_1,m2_2,m4_13,m5_24⟩,sp⟩
 refine Runs.seq ?_
 refine zE fun k' hk'=>?_
 simp[hh,m1_1,m2_2,m4_13,m5_24]
 apply hk'
 refine Runs.block ?_
 refine Runs.loopW h (fun (sJ:Int × (List Int)) ρ H n=>match sJ with | (v36,l37)=>∃ (v38:AVal),((ρ 1=pA n1 1∧ρ 2=pA (n1+1) 2∧ρ 3 = .list true (r6.1.map intC)∧ρ 4=pA n4 4∧ρ 5=pA n20 5∧ρ 28=int b.edges∧ρ 29=int v36)∧H (n1,1)=some ⟨6,[bC false b]⟩∧H (n1+1,2)=some ⟨6,[zB]⟩∧H (n4,4)=some ⟨9,[[.v y7,.v y8,.v y9,.v y10,.v y11,.v y12,.list true (r6.2.edges.map intC),.list true (r6.2.places.map intC),.v y13]]⟩∧H (n20,5)=some ⟨1,[[v38]]⟩)∧Sep H n [oI v38 l37] [(n20,5),(n4,4),(n1+1,2),(n1,1)]) (by refine⟨v27,by simp[hh,m1_1,m2_2,m4_13,m5_24],sp⟩) ?_
 clear hh m1_1 m2_2 m4_13 m5_24
 rintro⟨v36,l37⟩ ρ H n39 K h ⟨v38,⟨hh,m1_1,m2_2,m4_13,m5_24⟩,sp⟩ IH40
 refine zE fun k' hk'=>?_
 obtain⟨c42,ec42,h⟩:=atm h
 have f43:=ib_lss (k:=.i64) ec42
 simp[hh,m1_1,m2_2,m4_13,m5_24,f43,-intBin]
 apply hk'
 refine Runs.seq ?_
 refine Runs.ite (b:=c42) (by simp[hh,m1_1,m2_2,m4_13,m5_24]) (fun dc42=>?_) (fun dc42=>?_)
 ·replace h:=h.1 dc42
  refine Runs.skip ?_
  refine Runs.seq ?_
  refine Runs.block ?_
  refine zE fun k' hk'=>?_
  simp[hh,m1_1,m2_2,m4_13,m5_24,dc42]
  apply hk'
  refine zE fun k' hk'=>?_
  obtain⟨hb44,h⟩:=h
  obtain⟨r45,er45,h⟩:=atm h
  simp[hh,m1_1,m2_2,m4_13,m5_24,dc42]
  refine RunK.callA Ty_ok (hasI_ok l37 v36 hb44) e107 (.cons (Sep.argOk' sp (old_listF (by simp))) (.cons (.v _ _ _) .nil)) (by decide) (by decide) rfl (by simp[hh,m1_1,m2_2,m4_13,m5_24,dc42]) ?_
  rintro _ rfl
  rw[← er45]
  simp[hh,m1_1,m2_2,m4_13,m5_24,dc42]
  apply hk'
  refine Runs.ite (b:=(!r45)) (by simp[hh,m1_1,m2_2,m4_13,m5_24,dc42]) (fun dr45=>?_) (fun dr45=>?_)
  ·have dr45:r45=false:=by simpa using dr45
   replace h:=h.2 dr45
   refine zF fun k' hk'=>?_
   obtain⟨hb46,h⟩:=h
   obtain⟨l47,el47,h⟩:=atm h
   simp[hh,m1_1,m2_2,m4_13,m5_24,dc42,dr45,-appendF]
   refine bind_append [] [] [[int v36]] [intC v36] sp kd_24 (by simp) (by simp) (by simp) (by simp[-one1,o1x]) (rows_one (Fill.v _ Fill.nil)) (by simp) (by simpa using hb46) ?_
   rintro v48 H49 n50 sp hfr51 hle52
   replace sp:Sep H49 n50 [oI v48 l47] [(n20,5),(n4,4),(n1+1,2),(n1,1)]:=Sep.ap el47 sp
   have m1_1:=(hfr51 _ (by simp)).trans m1_1
   have m2_2:=(hfr51 _ (by simp)).trans m2_2
   have m4_13:=(hfr51 _ (by simp)).trans m4_13
   have m5_24:=(hfr51 _ (by simp)).trans m5_24
   have f54:=Sep.oc sp
   simp[hh,m1_1,m2_2,m4_13,m5_24,f54,dc42,dr45,-cellsA,-one1,cAx,o1x]
   apply hk'
   refine Runs.cut (fun ρ H n=>∃ (v55:AVal),((ρ 1=pA n1 1∧ρ 2=pA (n1+1) 2∧ρ 3 = .list true (r6.1.map intC)∧ρ 4=pA n4 4∧ρ 5=pA n20 5∧ρ 28=int b.edges∧ρ 29=int v36)∧H (n1,1)=some ⟨6,[bC false b]⟩∧H (n1+1,2)=some ⟨6,[zB]⟩∧H (n4,4)=some ⟨9,[[.v y7,.v y8,.v y9,.v y10,.v y11,.v y12,.list true (r6.2.edges.map intC),.list true (r6.2.places.map intC),.v y13]]⟩∧H (n20,5)=some ⟨1,[[v55]]⟩)∧Sep H n [oI v55 l47] [(n20,5),(n4,4),(n1+1,2),(n1,1)]) (by refine⟨v48,by simp[hh,m1_1,m2_2,m4_13,m5_24,f54,dc42,dr45,-cellsA,-one1,cAx,o1x],(Sep.setVar (w:=(n20,5)) sp (by simp))⟩) ?_
   clear hh m1_1 m2_2 m4_13 m5_24
   rintro ρ H n56 ⟨v55,⟨hh,m1_1,m2_2,m4_13,m5_24⟩,sp⟩
   refine Runs.inBlock ?_
   refine zF fun k' hk'=>?_
   obtain⟨hb57,h⟩:=h
   obtain⟨v58,ev58,h⟩:=atm h
   have f59:=ib_add hb57 ev58
   simp[hh,m1_1,m2_2,m4_13,m5_24,f59,-intBin]
   apply hk'
   refine IH40 (v58,l47) _ _ _ h (by refine⟨v55,by simp[hh,m1_1,m2_2,m4_13,m5_24],sp⟩)
  have dr45:r45=true:=by simpa using dr45
  replace h:=h.1 dr45
  refine Runs.skip ?_
  refine Runs.inBlock ?_
  refine zF fun k' hk'=>?_
  obtain⟨hb60,h⟩:=h
  obtain⟨v61,ev61,h⟩:=atm h
  have f62:=ib_add hb60 ev61
  simp[hh,m1_1,m2_2,m4_13,m5_24,f62,dc42,dr45,-intBin]
  apply hk'
  refine IH40 (v61,l37) _ _ _ h (by refine⟨v38,by simp[hh,m1_1,m2_2,m4_13,m5_24,dc42,dr45],sp⟩)
 replace h:=h.2 dc42
 refine Runs.exit rfl ?_
 refine zE fun k' hk'=>?_
 simp[hh,m1_1,m2_2,m4_13,m5_24,dc42]
 apply hk'
 refine zE fun k' hk'=>?_
 simp[hh,m1_1,m2_2,m4_13,m5_24,dc42]
 apply hk'
 refine Runs.cut (fun ρ H n=>∃ (v63:AVal),((ρ 1=pA n1 1∧ρ 2=pA (n1+1) 2∧ρ 3 = .list true (r6.1.map intC)∧ρ 7 = .fn (.func 108) [] [pA n1 1,pA n20 5]∧ρ 8 = .fn (.func 110) [] [pA n4 4])∧H (n1,1)=some ⟨6,[bC false b]⟩∧H (n1+1,2)=some ⟨6,[zB]⟩∧H (n20,5)=some ⟨1,[[v63]]⟩∧H (n4,4)=some ⟨9,[[.v y7,.v y8,.v y9,.v y10,.v y11,.v y12,.list true (r6.2.edges.map intC),.list true (r6.2.places.map intC),.v y13]]⟩)∧Sep H n [oI v63 l37] [(n20,5),(n4,4),(n1+1,2),(n1,1)]) (by refine⟨v38,by simp[hh,m1_1,m2_2,m4_13,m5_24,dc42],sp⟩) ?_
 clear hh m1_1 m2_2 m4_13 m5_24
 rintro ρ H n64 ⟨v63,⟨hh,m1_1,m2_2,m5_24,m4_13⟩,sp⟩
 obtain⟨hb65,h⟩:=h
 obtain⟨r66,er66,h⟩:=atm h
 have hid69:=sp.1
 refine Runs.seq (Runs.drawI (Reg.Inv { m:=10,c:=6,a:=8,st:=9,d:=9,B:=[(1,pA n1 1),(2,pA (n1+1) 2),(3,.list true (r6.1.map intC)),(7,.fn (.func 108) [] [pA n1 1,pA n20 5]),(8,.fn (.func 110) [] [pA n4 4])],F:=fun GI AI=>[(0,43,pA n1 1),(1,44,int b.roots),(2,45,.ptr (n1,1) 1 0 3),(3,46,int b.edges),(4,47,.ptr (n1,1) 1 0 4),(5,48,.list false (b.outer.map strC)),(6,49,(gv GI 0)),(7,50,.agg [int b.roots,.v (.slice none 0 0),.v (.slice none 0 0),int b.edges,(gv GI 0),.v (.slice none 0 0)]),(8,9,.ptr (AI,9) 1 0 0)],ent:=fun GI=>[(.s [.c],(gv GI 0),.list true (r66.map strC))],ob0:=⟨6,[zB]⟩,ob1:=fun GI=>⟨6,[[int b.roots,.v (.slice none 0 0),.v (.slice none 0 0),int b.edges,(gv GI 0),.v (.slice none 0 0)]]⟩,RG:=fun GI=>Ab.one1 (gv GI 0)=true,onC:=[7,9],onA:=[9],H0:=H,n0:=n64,K:=[oI v63 l37],ids:=[(n20,5),(n4,4),(n1+1,2),(n1,1)] }) draws (by decide) (Reg.init (Old.cons hh.1 (Old.cons hh.2.1 (Old.cons hh.2.2.1 (Old.cons hh.2.2.2.1 (Old.cons hh.2.2.2.2 Old.nil))))) sp) ?_ ?_)
 ·rintro (_ | _ | _ | _ | _ | _ | _ | _ | _ | _ | i)
  ·exact Reg.det (i:=0) rfl rfl rfl rfl (fun L' ρ' H' n' G' A' hO hT hd hG hcl hfr sp=>⟨pA n1 1,stepF_ok Ty_ok (by rw[stepF_loc];have t1:=hO.at 0 rfl;have mm1_1:=(hfr (n1,1) (by simp)).trans m1_1;simp[t1,mm1_1]),by simp⟩)
  ·exact Reg.det (i:=1) rfl rfl rfl rfl (fun L' ρ' H' n' G' A' hO hT hd hG hcl hfr sp=>⟨int b.roots,stepF_ok Ty_ok (by rw[stepF_loc];have t43:=hT.at 0 rfl (hd ⟨0,.data⟩ (by simp) rfl);have mm1_1:=(hfr (n1,1) (by simp)).trans m1_1;simp[t43,mm1_1]),by simp⟩)
  ·exact Reg.det (i:=2) rfl rfl rfl rfl (fun L' ρ' H' n' G' A' hO hT hd hG hcl hfr sp=>⟨.ptr (n1,1) 1 0 3,stepF_ok Ty_ok (by rw[stepF_loc];have t1:=hO.at 0 rfl;have mm1_1:=(hfr (n1,1) (by simp)).trans m1_1;simp[t1,mm1_1]),by simp⟩)
  ·exact Reg.det (i:=3) rfl rfl rfl rfl (fun L' ρ' H' n' G' A' hO hT hd hG hcl hfr sp=>⟨int b.edges,stepF_ok Ty_ok (by rw[stepF_loc];have t45:=hT.at 2 rfl (hd ⟨2,.data⟩ (by simp) rfl);have mm1_1:=(hfr (n1,1) (by simp)).trans m1_1;simp[t45,mm1_1]),by simp⟩)
  ·exact Reg.det (i:=4) rfl rfl rfl rfl (fun L' ρ' H' n' G' A' hO hT hd hG hcl hfr sp=>⟨.ptr (n1,1) 1 0 4,stepF_ok Ty_ok (by rw[stepF_loc];have t1:=hO.at 0 rfl;have mm1_1:=(hfr (n1,1) (by simp)).trans m1_1;simp[t1,mm1_1]),by simp⟩)
  ·exact Reg.det (i:=5) rfl rfl rfl rfl (fun L' ρ' H' n' G' A' hO hT hd hG hcl hfr sp=>⟨.list false (b.outer.map strC),stepF_ok Ty_ok (by rw[stepF_loc];have t47:=hT.at 4 rfl (hd ⟨4,.data⟩ (by simp) rfl);have mm1_1:=(hfr (n1,1) (by simp)).trans m1_1;simp[t47,mm1_1]),by simp⟩)
  ·refine Reg.call rfl rfl rfl ⟨_,cloneS_ok b.outer hb65,fun L' ρ' H' n' G' A' hO hT hd hfr sp=>by have t48:=hT.at 5 rfl (hd ⟨5,.data⟩ (by simp) rfl);exact⟨by simp[t48],ArgsOk.of_eq (xs:=[.list false (b.outer.map strC)]) (by simp[t48]) (.cons (argS false b.outer) .nil)⟩⟩ e111 ?_
   rintro H' n' v r ids sp rfl
   rw[← er66] at sp
   have hov:=Sep.one1 sp
   replace sp:=Sep.rot sp
   try simp only[List.cons_append,List.nil_append,List.append_assoc] at sp
   replace sp:=Sep.swap (K1:=([oI v63 l37])) (K2:=[(.s [.c],v,.list true (r66.map strC))]) sp
   exact⟨[v],hov,sp,fun A'=>by simp⟩
  ·exact Reg.det (i:=7) rfl rfl rfl rfl (fun L' ρ' H' n' G' A' hO hT hd hG hcl hfr sp=>⟨.agg [int b.roots,.v (.slice none 0 0),.v (.slice none 0 0),int b.edges,(gv G' 0),.v (.slice none 0 0)],stepF_ok Ty_ok (by rw[stepF_loc];have t44:=hT.at 1 rfl (hd ⟨1,.data⟩ (by simp) rfl);have t46:=hT.at 3 rfl (hd ⟨3,.data⟩ (by simp) rfl);have t49:=hT.at 6 rfl (hd ⟨6,.data⟩ (by simp) rfl);have hG2:Ab.one1 (gv G' 0)=true:=hG (hd ⟨6,.data⟩ (by simp) rfl);have hG3:cellsA (gv G' 0)=some [gv G' 0]:=(by simp only[one1_cells,hG2,and_self]);simp[t44,t46,t49,hG2,hG3,-one1,-cellsA,cAx,o1x]),by simp⟩) (hc:=fun _=>⟨⟨6,.data⟩,by simp,rfl,by simp⟩)
  ·exact Reg.alloc Ty_ok rfl Ty_37 rfl rfl rfl
  ·exact Reg.store Ty_ok rfl rfl rfl hid69 ⟨⟨7,.data⟩,by simp,rfl,by simp⟩ ⟨⟨8,.data⟩,by simp,rfl,by simp⟩ (fun L' ρ' H' G' A' hO hT hd hG hw=>by have t9:=hT.at 8 rfl (hd ⟨8,.data⟩ (by simp) rfl);have t50:=hT.at 7 rfl (hd ⟨7,.data⟩ (by simp) rfl);have hG2:Ab.one1 (gv G' 0)=true:=hG;simp[t9,t50,hG2,hw,Ty_37,-one1,o1_int,o1_bool,o1_str,o1_nil,o1_list,o1_arr,o1_ptr])
  ·exact StepI.none (by simp)
 ·rintro L' ⟨ρ,H,n72⟩ hI hr
  obtain⟨G70,A71,hO,hT,hG,sp,hfr73,hn0_,hA_,m9_67⟩:=Reg.fin (by kernel_rfl) rfl (show (6:Nat)<10∧(8:Nat)<10∧(9:Nat)<10 by decide) (by intro G' A';simp) hI hr
  show Runs _ _ _ _ ρ H n72 _
  replace hO:Old ρ _:=hO
  replace hT:AllF ρ _:=hT
  clear hh
  have h1:=hO.at 0 rfl
  have h2:=hO.at 1 rfl
  have h3:=hO.at 2 rfl
  have h7:=hO.at 3 rfl
  have h8:=hO.at 4 rfl
  have h43:=hT.at 0 rfl
  have h44:=hT.at 1 rfl
  have h45:=hT.at 2 rfl
  have h46:=hT.at 3 rfl
  have h47:=hT.at 4 rfl
  have h48:=hT.at 5 rfl
  have h49:=hT.at 6 rfl
  have h50:=hT.at 7 rfl
  have h9:=hT.at 8 rfl
  have m5_24:H (n20,5)=some ⟨1,[[v63]]⟩:=(hfr73 (n20,5) (by simp)).trans m5_24
  have m4_13:H (n4,4)=some ⟨9,[[.v y7,.v y8,.v y9,.v y10,.v y11,.v y12,.list true (r6.2.edges.map intC),.list true (r6.2.places.map intC),.v y13]]⟩:=(hfr73 (n4,4) (by simp)).trans m4_13
  have m2_2:H (n1+1,2)=some ⟨6,[zB]⟩:=(hfr73 (n1+1,2) (by simp)).trans m2_2
  have m1_1:H (n1,1)=some ⟨6,[bC false b]⟩:=(hfr73 (n1,1) (by simp)).trans m1_1
  have m9_67:H (A71,9)=some ⟨6,[[int b.roots,.v (.slice none 0 0),.v (.slice none 0 0),int b.edges,(gv G70 0),.v (.slice none 0 0)]]⟩:=m9_67
  replace sp:Sep H n72 [oS (gv G70 0) r66,oI v63 l37] [(A71,9),(n20,5),(n4,4),(n1+1,2),(n1,1)]:=sp
  refine Runs.cut (fun ρ H n=>∃ (v74 v75:AVal),((ρ 1=pA n1 1∧ρ 2=pA (n1+1) 2∧ρ 3 = .list true (r6.1.map intC)∧ρ 7 = .fn (.func 108) [] [pA n1 1,pA n20 5]∧ρ 8 = .fn (.func 110) [] [pA n4 4]∧ρ 9 = .ptr (A71,9) 1 0 0)∧H (n1,1)=some ⟨6,[bC false b]⟩∧H (n1+1,2)=some ⟨6,[zB]⟩∧H (n20,5)=some ⟨1,[[v75]]⟩∧H (n4,4)=some ⟨9,[[.v y7,.v y8,.v y9,.v y10,.v y11,.v y12,.list true (r6.2.edges.map intC),.list true (r6.2.places.map intC),.v y13]]⟩∧H (A71,9)=some ⟨6,[[int b.roots,.v (.slice none 0 0),.v (.slice none 0 0),int b.edges,v74,.v (.slice none 0 0)]]⟩)∧Sep H n [oS v74 r66,oI v75 l37] [(A71,9),(n20,5),(n4,4),(n1+1,2),(n1,1)]) (by refine⟨(gv G70 0),v63,by simp[m1_1,m2_2,m5_24,m4_13,m9_67,h1,h2,h3,h7,h8,h43,h44,h45,h46,h47,h48,h49,h50,h9],sp⟩) ?_
  clear m1_1 m2_2 m5_24 m4_13 m9_67 h1 h2 h3 h7 h8 h43 h44 h45 h46 h47 h48 h49 h50 h9
  rintro ρ H n76 ⟨v74,v75,⟨hh,m1_1,m2_2,m5_24,m4_13,m9_67⟩,sp⟩
  refine Runs.seq ?_
  refine zE fun k' hk'=>?_
  obtain⟨len77,elen77,h⟩:=atm h
  have f78:=fun H=>len_list (H:=H) (fr:=true) (f:=intC) kd_24 elen77
  simp[hh,m1_1,m2_2,m5_24,m4_13,m9_67,f78,-lenF]
  apply hk'
  refine Runs.block ?_
  refine Runs.loopW h (fun (sJ:Int × (List GNode)) ρ H n=>match sJ with | (v101,l102)=>∃ (v103 v104 v105 v106 v107:AVal),((ρ 1=pA n1 1∧ρ 2=pA (n1+1) 2∧ρ 7 = .fn (.func 108) [] [pA n1 1,pA n20 5]∧ρ 8 = .fn (.func 110) [] [pA n4 4]∧ρ 9 = .ptr (A71,9) 1 0 0∧ρ 51 = .list true (r6.1.map intC)∧ρ 52=int len77∧ρ 53=int v101)∧H (n1,1)=some ⟨6,[bC false b]⟩∧H (n1+1,2)=some ⟨6,[zB]⟩∧H (n20,5)=some ⟨1,[[v107]]⟩∧H (n4,4)=some ⟨9,[[.v y7,.v y8,.v y9,.v y10,.v y11,.v y12,.list true (r6.2.edges.map intC),.list true (r6.2.places.map intC),.v y13]]⟩∧H (A71,9)=some ⟨6,[[int b.roots,v105,v104,int b.edges,v106,v103]]⟩)∧Sep H n [oW v103 ([]:List Wire),oI v104 ([]:List Int),oN v105 l102,oS v106 r66,oI v107 l37] [(A71,9),(n20,5),(n4,4),(n1+1,2),(n1,1)]) (by refine⟨.v (.slice none 0 0),.v (.slice none 0 0),.v (.slice none 0 0),v74,v75,by simp[hh,m1_1,m2_2,m5_24,m4_13,m9_67],(Sep.addNil (Sep.addNil (Sep.addNil sp)))⟩) ?_
  clear hh m1_1 m2_2 m5_24 m4_13 m9_67
  rintro⟨v101,l102⟩ ρ H n108 K h ⟨v103,v104,v105,v106,v107,⟨hh,m1_1,m2_2,m5_24,m4_13,m9_67⟩,sp⟩ IH109
  refine zE fun k' hk'=>?_
  obtain⟨c111,ec111,h⟩:=atm h
  have f112:=ib_lss (k:=.i64) ec111
  simp[hh,m1_1,m2_2,m5_24,m4_13,m9_67,f112,-intBin]
  apply hk'
  refine Runs.seq ?_
  refine Runs.ite (b:=c111) (by simp[hh,m1_1,m2_2,m5_24,m4_13,m9_67]) (fun dc111=>?_) (fun dc111=>?_)
  ·replace h:=h.1 dc111
   refine Runs.skip ?_
   refine Runs.seq ?_
   refine Runs.block ?_
   refine zE fun k' hk'=>?_
   obtain⟨hb113,h⟩:=h
   obtain⟨x114,ex114,h⟩:=atm h
   have f115:=fun H=>ix_list (H:=H) (fr:=true) (f:=intC) (k:=.i64) kd_24 (fun _=>rfl) hb113 ex114
   simp[hh,m1_1,m2_2,m5_24,m4_13,m9_67,f115,dc111,-indexAddrF]
   apply hk'
   refine Runs.cut (fun ρ H n=>∃ (v116 v117 v118 v119 v120:AVal),((ρ 1=pA n1 1∧ρ 2=pA (n1+1) 2∧ρ 7 = .fn (.func 108) [] [pA n1 1,pA n20 5]∧ρ 8 = .fn (.func 110) [] [pA n4 4]∧ρ 9 = .ptr (A71,9) 1 0 0∧ρ 11=int x114∧ρ 51 = .list true (r6.1.map intC)∧ρ 52=int len77∧ρ 53=int v101)∧H (n1,1)=some ⟨6,[bC false b]⟩∧H (n1+1,2)=some ⟨6,[zB]⟩∧H (n20,5)=some ⟨1,[[v120]]⟩∧H (n4,4)=some ⟨9,[[.v y7,.v y8,.v y9,.v y10,.v y11,.v y12,.list true (r6.2.edges.map intC),.list true (r6.2.places.map intC),.v y13]]⟩∧H (A71,9)=some ⟨6,[[int b.roots,v118,v117,int b.edges,v119,v116]]⟩)∧Sep H n [oW v116 ([]:List Wire),oI v117 ([]:List Int),oN v118 l102,oS v119 r66,oI v120 l37] [(A71,9),(n20,5),(n4,4),(n1+1,2),(n1,1)]) (by refine⟨v103,v104,v105,v106,v107,by simp[hh,m1_1,m2_2,m5_24,m4_13,m9_67,dc111],sp⟩) ?_
   clear hh m1_1 m2_2 m5_24 m4_13 m9_67
   rintro ρ H n121 ⟨v116,v117,v118,v119,v120,⟨hh,m1_1,m2_2,m5_24,m4_13,m9_67⟩,sp⟩
   obtain⟨hb122,h⟩:=h
   obtain⟨x123,ex123,h⟩:=atm h
   have f124:=fun H=>ix_list (H:=H) (fr:=false) (f:=(GNode.cells false)) (k:=.i64) kd_34 (fun _=>rfl) hb122 ex123
   obtain⟨hb125,h⟩:=h
   obtain⟨x126,ex126,h⟩:=atm h
   have hq127:=ex123.trans ex126.symm
   subst hq127
   have f128:=fun H=>ix_list (H:=H) (fr:=false) (f:=(GNode.cells false)) (k:=.i64) kd_34 (fun _=>rfl) hb125 ex123
   obtain⟨hb129,h⟩:=h
   obtain⟨r130,er130,h⟩:=atm h
   have hid132:=sp.1
   refine Runs.seq (Runs.drawI (Reg.Inv { m:=17,c:=13,a:=15,st:=16,d:=12,B:=[(1,pA n1 1),(2,pA (n1+1) 2),(7,.fn (.func 108) [] [pA n1 1,pA n20 5]),(8,.fn (.func 110) [] [pA n4 4]),(9,.ptr (A71,9) 1 0 0),(11,int x114),(51,.list true (r6.1.map intC)),(52,int len77),(53,int v101)],F:=fun GI AI=>[(0,57,.ptr (n1,1) 1 0 1),(1,58,.list false (b.nodes.map (GNode.cells false))),(2,59,int x114),(3,60,.iptr false [int x123.control,int x123.parent,.list false (x123.links.map intC)]),(4,61,.iptr false [int x123.control,int x123.parent,.list false (x123.links.map intC)]),(5,62,int x123.control),(6,63,.fn (.func 110) [] [pA n4 4]),(7,64,.ptr (n1,1) 1 0 1),(8,65,.list false (b.nodes.map (GNode.cells false))),(9,66,int x114),(10,67,.iptr false [int x123.control,int x123.parent,.list false (x123.links.map intC)]),(11,68,.iptr false [int x123.parent,.list false (x123.links.map intC)]),(12,69,int x123.parent),(13,70,int r130),(14,71,.agg [int x123.control,int r130,.v (.slice none 0 0)]),(15,12,.ptr (AI,12) 1 0 0)],ent:=fun GI=>[],ob0:=⟨3,[[int 0,int 0,.v (.slice none 0 0)]]⟩,ob1:=fun GI=>⟨3,[[int x123.control,int r130,.v (.slice none 0 0)]]⟩,RG:=fun GI=>True,onC:=[14,16],onA:=[16],H0:=H,n0:=n121,K:=[oW v116 ([]:List Wire),oI v117 ([]:List Int),oN v118 l102,oS v119 r66,oI v120 l37],ids:=[(A71,9),(n20,5),(n4,4),(n1+1,2),(n1,1)] }) draws (by decide) (Reg.init (Old.cons hh.1 (Old.cons hh.2.1 (Old.cons hh.2.2.1 (Old.cons hh.2.2.2.1 (Old.cons hh.2.2.2.2.1 (Old.cons hh.2.2.2.2.2.1 (Old.cons hh.2.2.2.2.2.2.1 (Old.cons hh.2.2.2.2.2.2.2.1 (Old.cons hh.2.2.2.2.2.2.2.2 Old.nil))))))))) sp) ?_ ?_)
   ·rintro (_ | _ | _ | _ | _ | _ | _ | _ | _ | _ | _ | _ | _ | _ | _ | _ | _ | i)
    ·exact Reg.det (i:=0) rfl rfl rfl rfl (fun L' ρ' H' n' G' A' hO hT hd hG hcl hfr sp=>⟨.ptr (n1,1) 1 0 1,stepF_ok Ty_ok (by rw[stepF_loc];have t1:=hO.at 0 rfl;have mm1_1:=(hfr (n1,1) (by simp)).trans m1_1;simp[t1,mm1_1]),by simp⟩)
    ·exact Reg.det (i:=1) rfl rfl rfl rfl (fun L' ρ' H' n' G' A' hO hT hd hG hcl hfr sp=>⟨.list false (b.nodes.map (GNode.cells false)),stepF_ok Ty_ok (by rw[stepF_loc];have t57:=hT.at 0 rfl (hd ⟨0,.data⟩ (by simp) rfl);have mm1_1:=(hfr (n1,1) (by simp)).trans m1_1;simp[t57,mm1_1]),by simp⟩)
    ·exact Reg.det (i:=2) rfl rfl rfl rfl (fun L' ρ' H' n' G' A' hO hT hd hG hcl hfr sp=>⟨int x114,stepF_ok Ty_ok (by rw[stepF_loc];have t11:=hO.at 5 rfl;simp[t11]),by simp⟩)
    ·exact Reg.det (i:=3) rfl rfl rfl rfl (fun L' ρ' H' n' G' A' hO hT hd hG hcl hfr sp=>⟨.iptr false [int x123.control,int x123.parent,.list false (x123.links.map intC)],stepF_ok Ty_ok (by rw[stepF_loc];have t58:=hT.at 1 rfl (hd ⟨1,.data⟩ (by simp) rfl);have t59:=hT.at 2 rfl (hd ⟨2,.data⟩ (by simp) rfl);simp[t58,t59,f124,-indexAddrF]),by simp⟩)
    ·exact Reg.det (i:=4) rfl rfl rfl rfl (fun L' ρ' H' n' G' A' hO hT hd hG hcl hfr sp=>⟨.iptr false [int x123.control,int x123.parent,.list false (x123.links.map intC)],stepF_ok Ty_ok (by rw[stepF_loc];have t60:=hT.at 3 rfl (hd ⟨3,.data⟩ (by simp) rfl);simp[t60]),by simp⟩)
    ·exact Reg.det (i:=5) rfl rfl rfl rfl (fun L' ρ' H' n' G' A' hO hT hd hG hcl hfr sp=>⟨int x123.control,stepF_ok Ty_ok (by rw[stepF_loc];have t61:=hT.at 4 rfl (hd ⟨4,.data⟩ (by simp) rfl);simp[t61]),by simp⟩)
    ·exact Reg.det (i:=6) rfl rfl rfl rfl (fun L' ρ' H' n' G' A' hO hT hd hG hcl hfr sp=>⟨.fn (.func 110) [] [pA n4 4],stepF_ok Ty_ok (by rw[stepF_loc];have t8:=hO.at 3 rfl;have mm4_13:=(hfr (n4,4) (by simp)).trans m4_13;simp[t8,mm4_13]),by simp⟩)
    ·exact Reg.det (i:=7) rfl rfl rfl rfl (fun L' ρ' H' n' G' A' hO hT hd hG hcl hfr sp=>⟨.ptr (n1,1) 1 0 1,stepF_ok Ty_ok (by rw[stepF_loc];have t1:=hO.at 0 rfl;have mm1_1:=(hfr (n1,1) (by simp)).trans m1_1;simp[t1,mm1_1]),by simp⟩)
    ·exact Reg.det (i:=8) rfl rfl rfl rfl (fun L' ρ' H' n' G' A' hO hT hd hG hcl hfr sp=>⟨.list false (b.nodes.map (GNode.cells false)),stepF_ok Ty_ok (by rw[stepF_loc];have t64:=hT.at 7 rfl (hd ⟨7,.data⟩ (by simp) rfl);have mm1_1:=(hfr (n1,1) (by simp)).trans m1_1;simp[t64,mm1_1]),by simp⟩)
    ·exact Reg.det (i:=9) rfl rfl rfl rfl (fun L' ρ' H' n' G' A' hO hT hd hG hcl hfr sp=>⟨int x114,stepF_ok Ty_ok (by rw[stepF_loc];have t11:=hO.at 5 rfl;simp[t11]),by simp⟩)
    ·exact Reg.det (i:=10) rfl rfl rfl rfl (fun L' ρ' H' n' G' A' hO hT hd hG hcl hfr sp=>⟨.iptr false [int x123.control,int x123.parent,.list false (x123.links.map intC)],stepF_ok Ty_ok (by rw[stepF_loc];have t65:=hT.at 8 rfl (hd ⟨8,.data⟩ (by simp) rfl);have t66:=hT.at 9 rfl (hd ⟨9,.data⟩ (by simp) rfl);simp[t65,t66,f128,-indexAddrF]),by simp⟩)
    ·exact Reg.det (i:=11) rfl rfl rfl rfl (fun L' ρ' H' n' G' A' hO hT hd hG hcl hfr sp=>⟨.iptr false [int x123.parent,.list false (x123.links.map intC)],stepF_ok Ty_ok (by rw[stepF_loc];have t67:=hT.at 10 rfl (hd ⟨10,.data⟩ (by simp) rfl);simp[t67]),by simp⟩)
    ·exact Reg.det (i:=12) rfl rfl rfl rfl (fun L' ρ' H' n' G' A' hO hT hd hG hcl hfr sp=>⟨int x123.parent,stepF_ok Ty_ok (by rw[stepF_loc];have t68:=hT.at 11 rfl (hd ⟨11,.data⟩ (by simp) rfl);simp[t68]),by simp⟩)
    ·exact Reg.callP rfl rfl rfl (fun _=>rfl) (fun _=>trivial) (fun L' ρ' H' n' G' A' hO hT hd hfr sp=>⟨_,by have t63:=hT.at 6 rfl (hd ⟨6,.data⟩ (by simp) rfl);have t69:=hT.at 12 rfl (hd ⟨12,.data⟩ (by simp) rfl);have mm4_13:=(hfr (n4,4) (by simp)).trans m4_13;exact OpSem.callG (xs:=[int x123.parent]) (xs2:=[int x123.parent]) (canF2_ok x123.parent r6.2 hb129) e110 (.cons (.v _ _ _) .nil) (.cons (ArgOk.ptrVar mm4_13 (.cons ((fun _ y _ _ _ _ _ _ _=>.undef y)) (.cons ((fun _ y _ _ _ _ _ _ _=>.undef y)) (.cons ((fun _ y _ _ _ _ _ _ _=>.undef y)) (.cons ((fun _ y _ _ _ _ _ _ _=>.undef y)) (.cons ((fun _ y _ _ _ _ _ _ _=>.undef y)) (.cons ((fun _ y _ _ _ _ _ _ _=>.undef y)) (.cons (argI true r6.2.edges) (.cons (argI true r6.2.places) (.cons ((fun _ y _ _ _ _ _ _ _=>.undef y)) .nil)))))))))) .nil) (by simp[t63,t69,mm4_13]) (by simp[t63,t69,mm4_13]),by simp[er130]⟩)
    ·exact Reg.det (i:=14) rfl rfl rfl rfl (fun L' ρ' H' n' G' A' hO hT hd hG hcl hfr sp=>⟨.agg [int x123.control,int r130,.v (.slice none 0 0)],stepF_ok Ty_ok (by rw[stepF_loc];have t62:=hT.at 5 rfl (hd ⟨5,.data⟩ (by simp) rfl);have t70:=hT.at 13 rfl (hd ⟨13,.data⟩ (by simp) rfl);simp[t62,t70]),by simp⟩) (hc:=fun _=>⟨⟨13,.data⟩,by simp,rfl,by simp⟩)
    ·exact Reg.alloc Ty_ok rfl Ty_108 rfl rfl rfl
    ·exact Reg.store Ty_ok rfl rfl rfl hid132 ⟨⟨14,.data⟩,by simp,rfl,by simp⟩ ⟨⟨15,.data⟩,by simp,rfl,by simp⟩ (fun L' ρ' H' G' A' hO hT hd hG hw=>by have t12:=hT.at 15 rfl (hd ⟨15,.data⟩ (by simp) rfl);have t71:=hT.at 14 rfl (hd ⟨14,.data⟩ (by simp) rfl);simp[t12,t71,hw,Ty_108,-one1,o1_int,o1_bool,o1_str,o1_nil,o1_list,o1_arr,o1_ptr])
    ·exact StepI.none (by simp)
   ·rintro L' ⟨ρ,H,n135⟩ hI hr
    obtain⟨G133,A134,hO,hT,hG,sp,hfr136,hn0_,hA_,m12_130⟩:=Reg.fin (by kernel_rfl) rfl (show (13:Nat)<17∧(15:Nat)<17∧(16:Nat)<17 by decide) (by intro G' A';simp) hI hr
    show Runs _ _ _ _ ρ H n135 _
    replace hO:Old ρ _:=hO
    replace hT:AllF ρ _:=hT
    clear hh
    have h1:=hO.at 0 rfl
    have h2:=hO.at 1 rfl
    have h7:=hO.at 2 rfl
    have h8:=hO.at 3 rfl
    have h9:=hO.at 4 rfl
    have h11:=hO.at 5 rfl
    have h51:=hO.at 6 rfl
    have h52:=hO.at 7 rfl
    have h53:=hO.at 8 rfl
    have h57:=hT.at 0 rfl
    have h58:=hT.at 1 rfl
    have h59:=hT.at 2 rfl
    have h60:=hT.at 3 rfl
    have h61:=hT.at 4 rfl
    have h62:=hT.at 5 rfl
    have h63:=hT.at 6 rfl
    have h64:=hT.at 7 rfl
    have h65:=hT.at 8 rfl
    have h66:=hT.at 9 rfl
    have h67:=hT.at 10 rfl
    have h68:=hT.at 11 rfl
    have h69:=hT.at 12 rfl
    have h70:=hT.at 13 rfl
    have h71:=hT.at 14 rfl
    have h12:=hT.at 15 rfl
    have m9_67:H (A71,9)=some ⟨6,[[int b.roots,v118,v117,int b.edges,v119,v116]]⟩:=(hfr136 (A71,9) (by simp)).trans m9_67
    have m5_24:H (n20,5)=some ⟨1,[[v120]]⟩:=(hfr136 (n20,5) (by simp)).trans m5_24
    have m4_13:H (n4,4)=some ⟨9,[[.v y7,.v y8,.v y9,.v y10,.v y11,.v y12,.list true (r6.2.edges.map intC),.list true (r6.2.places.map intC),.v y13]]⟩:=(hfr136 (n4,4) (by simp)).trans m4_13
    have m2_2:H (n1+1,2)=some ⟨6,[zB]⟩:=(hfr136 (n1+1,2) (by simp)).trans m2_2
    have m1_1:H (n1,1)=some ⟨6,[bC false b]⟩:=(hfr136 (n1,1) (by simp)).trans m1_1
    have m12_130:H (A134,12)=some ⟨3,[[int x123.control,int r130,.v (.slice none 0 0)]]⟩:=m12_130
    replace sp:Sep H n135 [oW v116 ([]:List Wire),oI v117 ([]:List Int),oN v118 l102,oS v119 r66,oI v120 l37] [(A134,12),(A71,9),(n20,5),(n4,4),(n1+1,2),(n1,1)]:=sp
    refine Runs.cut (fun ρ H n=>∃ (v137 v138 v139 v140 v141:AVal),((ρ 1=pA n1 1∧ρ 2=pA (n1+1) 2∧ρ 7 = .fn (.func 108) [] [pA n1 1,pA n20 5]∧ρ 8 = .fn (.func 110) [] [pA n4 4]∧ρ 9 = .ptr (A71,9) 1 0 0∧ρ 11=int x114∧ρ 12 = .ptr (A134,12) 1 0 0∧ρ 51 = .list true (r6.1.map intC)∧ρ 52=int len77∧ρ 53=int v101)∧H (n1,1)=some ⟨6,[bC false b]⟩∧H (n1+1,2)=some ⟨6,[zB]⟩∧H (n20,5)=some ⟨1,[[v141]]⟩∧H (n4,4)=some ⟨9,[[.v y7,.v y8,.v y9,.v y10,.v y11,.v y12,.list true (r6.2.edges.map intC),.list true (r6.2.places.map intC),.v y13]]⟩∧H (A71,9)=some ⟨6,[[int b.roots,v139,v138,int b.edges,v140,v137]]⟩∧H (A134,12)=some ⟨3,[[int x123.control,int r130,.v (.slice none 0 0)]]⟩)∧Sep H n [oW v137 ([]:List Wire),oI v138 ([]:List Int),oN v139 l102,oS v140 r66,oI v141 l37] [(A134,12),(A71,9),(n20,5),(n4,4),(n1+1,2),(n1,1)]) (by refine⟨v116,v117,v118,v119,v120,by simp[m1_1,m2_2,m5_24,m4_13,m9_67,m12_130,h1,h2,h7,h8,h9,h11,h51,h52,h53,h57,h58,h59,h60,h61,h62,h63,h64,h65,h66,h67,h68,h69,h70,h71,h12],sp⟩) ?_
    clear m1_1 m2_2 m5_24 m4_13 m9_67 m12_130 h1 h2 h7 h8 h9 h11 h51 h52 h53 h57 h58 h59 h60 h61 h62 h63 h64 h65 h66 h67 h68 h69 h70 h71 h12
    rintro ρ H n142 ⟨v137,v138,v139,v140,v141,⟨hh,m1_1,m2_2,m5_24,m4_13,m9_67,m12_130⟩,sp⟩
    refine Runs.seq ?_
    refine zE fun k' hk'=>?_
    obtain⟨hb143,h⟩:=h
    obtain⟨x144,ex144,h⟩:=atm h
    have f145:=fun H=>ix_list (H:=H) (fr:=false) (f:=(GNode.cells false)) (k:=.i64) kd_34 (fun _=>rfl) hb143 ex144
    obtain⟨len146,elen146,h⟩:=atm h
    have f147:=fun H=>len_list (H:=H) (fr:=false) (f:=intC) kd_24 elen146
    simp[hh,m1_1,m2_2,m5_24,m4_13,m9_67,m12_130,f145,f147,-indexAddrF,-lenF]
    apply hk'
    refine Runs.block ?_
    refine Runs.loopW h (fun (sJ:Int × (List Int)) ρ H n=>match sJ with | (v173,l174)=>∃ (v175 v176 v177 v178 v179 v180:AVal),((ρ 1=pA n1 1∧ρ 2=pA (n1+1) 2∧ρ 7 = .fn (.func 108) [] [pA n1 1,pA n20 5]∧ρ 8 = .fn (.func 110) [] [pA n4 4]∧ρ 9 = .ptr (A71,9) 1 0 0∧ρ 12 = .ptr (A134,12) 1 0 0∧ρ 51 = .list true (r6.1.map intC)∧ρ 52=int len77∧ρ 53=int v101∧ρ 77 = .list false (x144.links.map intC)∧ρ 78=int len146∧ρ 79=int v173)∧H (n1,1)=some ⟨6,[bC false b]⟩∧H (n1+1,2)=some ⟨6,[zB]⟩∧H (n20,5)=some ⟨1,[[v180]]⟩∧H (n4,4)=some ⟨9,[[.v y7,.v y8,.v y9,.v y10,.v y11,.v y12,.list true (r6.2.edges.map intC),.list true (r6.2.places.map intC),.v y13]]⟩∧H (A71,9)=some ⟨6,[[int b.roots,v178,v177,int b.edges,v179,v176]]⟩∧H (A134,12)=some ⟨3,[[int x123.control,int r130,v175]]⟩)∧Sep H n [oI v175 l174,oW v176 ([]:List Wire),oI v177 ([]:List Int),oN v178 l102,oS v179 r66,oI v180 l37] [(A134,12),(A71,9),(n20,5),(n4,4),(n1+1,2),(n1,1)]) (by refine⟨.v (.slice none 0 0),v137,v138,v139,v140,v141,by simp[hh,m1_1,m2_2,m5_24,m4_13,m9_67,m12_130],(Sep.addNil sp)⟩) ?_
    clear hh m1_1 m2_2 m5_24 m4_13 m9_67 m12_130
    rintro⟨v173,l174⟩ ρ H n181 K h ⟨v175,v176,v177,v178,v179,v180,⟨hh,m1_1,m2_2,m5_24,m4_13,m9_67,m12_130⟩,sp⟩ IH182
    refine zE fun k' hk'=>?_
    obtain⟨c184,ec184,h⟩:=atm h
    have f185:=ib_lss (k:=.i64) ec184
    simp[hh,m1_1,m2_2,m5_24,m4_13,m9_67,m12_130,f185,-intBin]
    apply hk'
    refine Runs.seq ?_
    refine Runs.ite (b:=c184) (by simp[hh,m1_1,m2_2,m5_24,m4_13,m9_67,m12_130]) (fun dc184=>?_) (fun dc184=>?_)
    ·replace h:=h.1 dc184
     refine Runs.skip ?_
     refine Runs.seq ?_
     refine Runs.block ?_
     refine zE fun k' hk'=>?_
     obtain⟨hb186,h⟩:=h
     obtain⟨x187,ex187,h⟩:=atm h
     have f188:=fun H=>ix_list (H:=H) (fr:=false) (f:=intC) (k:=.i64) kd_24 (fun _=>rfl) hb186 ex187
     simp[hh,m1_1,m2_2,m5_24,m4_13,m9_67,m12_130,f188,dc184,-indexAddrF]
     apply hk'
     refine Runs.evalDE Ty_ok kindOp_ok draws (by decide) (by kernel_rfl) fun k' hk'=>?_
     obtain⟨hb189,h⟩:=h
     obtain⟨r190,er190,h⟩:=atm h
     simp[hh,m1_1,m2_2,m5_24,m4_13,m9_67,m12_130,dc184]
     refine RunDK.callG (xs1:=[int x187]) (xs2:=[int x187]) Ty_ok kindOp_ok (canF1_ok x187 b l37 hb189) e108 (.cons (.v _ _ _) .nil) (.cons (ArgOk.ptrVar m1_1 (.cons (.v _ _ _) (.cons (ArgOk.nest_Node false b.nodes) (.cons (argI false b.sites) (.cons (.v _ _ _) (.cons (argS false b.outer) (.cons (argW false b.inner) .nil))))))) (.cons (ArgOk.ptrVar m5_24 (.cons (Sep.argOk' sp.f5 (old_listF (by simp))) .nil)) .nil)) (by decide) rfl (by simp[hh,m1_1,m2_2,m5_24,m4_13,m9_67,m12_130,dc184]) ?_
     rw[← er190]
     obtain⟨hb191,h⟩:=h
     obtain⟨l192,el192,h⟩:=atm h
     simp[hh,m1_1,m2_2,m5_24,m4_13,m9_67,m12_130,dc184,-appendF]
     refine bindD_append [] [oW v176 ([]:List Wire),oI v177 ([]:List Int),oN v178 l102,oS v179 r66,oI v180 l37] [[int r190]] [intC r190] sp kd_24 (by simp) (by simp) (by simp) (by simp[-one1,o1x]) (rows_one (Fill.v _ Fill.nil)) (by simp) (by simpa using hb191) ?_
     rintro v193 H194 n195 sp hfr196 hle197
     replace sp:Sep H194 n195 [oI v193 l192,oW v176 ([]:List Wire),oI v177 ([]:List Int),oN v178 l102,oS v179 r66,oI v180 l37] [(A134,12),(A71,9),(n20,5),(n4,4),(n1+1,2),(n1,1)]:=Sep.ap el192 sp
     have m1_1:=(hfr196 _ (by simp)).trans m1_1
     have m2_2:=(hfr196 _ (by simp)).trans m2_2
     have m5_24:=(hfr196 _ (by simp)).trans m5_24
     have m4_13:=(hfr196 _ (by simp)).trans m4_13
     have m9_67:=(hfr196 _ (by simp)).trans m9_67
     have m12_130:=(hfr196 _ (by simp)).trans m12_130
     have f199:=Sep.oc sp
     simp[hh,m1_1,m2_2,m5_24,m4_13,m9_67,m12_130,f199,dc184,-cellsA,-one1,cAx,o1x]
     apply hk'
     refine Runs.cut (fun ρ H n=>∃ (v200 v201 v202 v203 v204 v205:AVal),((ρ 1=pA n1 1∧ρ 2=pA (n1+1) 2∧ρ 7 = .fn (.func 108) [] [pA n1 1,pA n20 5]∧ρ 8 = .fn (.func 110) [] [pA n4 4]∧ρ 9 = .ptr (A71,9) 1 0 0∧ρ 12 = .ptr (A134,12) 1 0 0∧ρ 51 = .list true (r6.1.map intC)∧ρ 52=int len77∧ρ 53=int v101∧ρ 77 = .list false (x144.links.map intC)∧ρ 78=int len146∧ρ 79=int v173)∧H (n1,1)=some ⟨6,[bC false b]⟩∧H (n1+1,2)=some ⟨6,[zB]⟩∧H (n20,5)=some ⟨1,[[v205]]⟩∧H (n4,4)=some ⟨9,[[.v y7,.v y8,.v y9,.v y10,.v y11,.v y12,.list true (r6.2.edges.map intC),.list true (r6.2.places.map intC),.v y13]]⟩∧H (A71,9)=some ⟨6,[[int b.roots,v203,v202,int b.edges,v204,v201]]⟩∧H (A134,12)=some ⟨3,[[int x123.control,int r130,v200]]⟩)∧Sep H n [oI v200 l192,oW v201 ([]:List Wire),oI v202 ([]:List Int),oN v203 l102,oS v204 r66,oI v205 l37] [(A134,12),(A71,9),(n20,5),(n4,4),(n1+1,2),(n1,1)]) (by refine⟨v193,v176,v177,v178,v179,v180,by simp[hh,m1_1,m2_2,m5_24,m4_13,m9_67,m12_130,f199,dc184,-cellsA,-one1,cAx,o1x],(Sep.setVar (w:=(A134,12)) sp (by simp))⟩) ?_
     clear hh m1_1 m2_2 m5_24 m4_13 m9_67 m12_130
     rintro ρ H n206 ⟨v200,v201,v202,v203,v204,v205,⟨hh,m1_1,m2_2,m5_24,m4_13,m9_67,m12_130⟩,sp⟩
     refine Runs.inBlock ?_
     refine zF fun k' hk'=>?_
     obtain⟨hb207,h⟩:=h
     obtain⟨v208,ev208,h⟩:=atm h
     have f209:=ib_add hb207 ev208
     simp[hh,m1_1,m2_2,m5_24,m4_13,m9_67,m12_130,f209,-intBin]
     apply hk'
     refine IH182 (v208,l192) _ _ _ h (by refine⟨v200,v201,v202,v203,v204,v205,by simp[hh,m1_1,m2_2,m5_24,m4_13,m9_67,m12_130],sp⟩)
    replace h:=h.2 dc184
    refine Runs.exit rfl ?_
    refine zF fun k' hk'=>?_
    obtain⟨hb210,h⟩:=h
    obtain⟨l211,el211,h⟩:=atm h
    simp[hh,m1_1,m2_2,m5_24,m4_13,m9_67,m12_130,dc184,-appendF]
    refine bind_append [oI v175 l174] [oW v176 ([]:List Wire),oI v177 ([]:List Int),oS v179 r66,oI v180 l37] [[int x123.control,int r130,v175]] [(GNode.cells true) (GNode.mk x123.control r130 l174)] sp.f3 kd_34 (by simp) (by simp) (by simp) (by simp[-one1,o1x,Sep.one1 sp.f3.dr]) (rows_one (Fill.v _ (Fill.v _ (Fill.own Fill.nil)))) (by simp) (by simpa using hb210) ?_
    rintro v212 H213 n214 sp hfr215 hle216
    replace sp:Sep H213 n214 [oN v212 l211,oW v176 ([]:List Wire),oI v177 ([]:List Int),oS v179 r66,oI v180 l37] [(A134,12),(A71,9),(n20,5),(n4,4),(n1+1,2),(n1,1)]:=Sep.ap el211 sp
    have m1_1:=(hfr215 _ (by simp)).trans m1_1
    have m2_2:=(hfr215 _ (by simp)).trans m2_2
    have m5_24:=(hfr215 _ (by simp)).trans m5_24
    have m4_13:=(hfr215 _ (by simp)).trans m4_13
    have m9_67:=(hfr215 _ (by simp)).trans m9_67
    have m12_130:=(hfr215 _ (by simp)).trans m12_130
    have f218:=Sep.oc sp
    simp[hh,m1_1,m2_2,m5_24,m4_13,m9_67,m12_130,f218,dc184,-cellsA,-one1,cAx,o1x]
    apply hk'
    refine Runs.cut (fun ρ H n=>∃ (v219 v220 v221 v222 v223:AVal),((ρ 1=pA n1 1∧ρ 2=pA (n1+1) 2∧ρ 7 = .fn (.func 108) [] [pA n1 1,pA n20 5]∧ρ 8 = .fn (.func 110) [] [pA n4 4]∧ρ 9 = .ptr (A71,9) 1 0 0∧ρ 51 = .list true (r6.1.map intC)∧ρ 52=int len77∧ρ 53=int v101)∧H (n1,1)=some ⟨6,[bC false b]⟩∧H (n1+1,2)=some ⟨6,[zB]⟩∧H (n20,5)=some ⟨1,[[v223]]⟩∧H (n4,4)=some ⟨9,[[.v y7,.v y8,.v y9,.v y10,.v y11,.v y12,.list true (r6.2.edges.map intC),.list true (r6.2.places.map intC),.v y13]]⟩∧H (A71,9)=some ⟨6,[[int b.roots,v219,v221,int b.edges,v222,v220]]⟩)∧Sep H n [oN v219 l211,oW v220 ([]:List Wire),oI v221 ([]:List Int),oS v222 r66,oI v223 l37] [(A71,9),(n20,5),(n4,4),(n1+1,2),(n1,1)]) (by refine⟨v212,v176,v177,v179,v180,by simp[hh,m1_1,m2_2,m5_24,m4_13,m9_67,m12_130,f218,dc184,-cellsA,-one1,cAx,o1x],(Sep.sub (Sep.setVar (w:=(A71,9)) sp (by simp)) (by simp +contextual))⟩) ?_
    clear hh m1_1 m2_2 m5_24 m4_13 m9_67 m12_130
    rintro ρ H n224 ⟨v219,v220,v221,v222,v223,⟨hh,m1_1,m2_2,m5_24,m4_13,m9_67⟩,sp⟩
    refine Runs.inBlock ?_
    refine zF fun k' hk'=>?_
    obtain⟨hb225,h⟩:=h
    obtain⟨v226,ev226,h⟩:=atm h
    have f227:=ib_add hb225 ev226
    simp[hh,m1_1,m2_2,m5_24,m4_13,m9_67,f227,-intBin]
    apply hk'
    refine IH109 (v226,l211) _ _ _ h (by refine⟨v220,v221,v219,v222,v223,by simp[hh,m1_1,m2_2,m5_24,m4_13,m9_67],sp.f2.f2⟩)
  replace h:=h.2 dc111
  refine Runs.exit rfl ?_
  refine Runs.seq ?_
  refine zE fun k' hk'=>?_
  obtain⟨len228,elen228,h⟩:=atm h
  have f229:=fun H=>len_list (H:=H) (fr:=false) (f:=intC) kd_24 elen228
  simp[hh,m1_1,m2_2,m5_24,m4_13,m9_67,f229,dc111,-lenF]
  apply hk'
  refine Runs.block ?_
  refine Runs.loopW h (fun (sJ:Int × (List Int)) ρ H n=>match sJ with | (v245,l246)=>∃ (v247 v248 v249 v250 v251:AVal),((ρ 1=pA n1 1∧ρ 2=pA (n1+1) 2∧ρ 7 = .fn (.func 108) [] [pA n1 1,pA n20 5]∧ρ 8 = .fn (.func 110) [] [pA n4 4]∧ρ 9 = .ptr (A71,9) 1 0 0∧ρ 100 = .list false (b.sites.map intC)∧ρ 101=int len228∧ρ 102=int v245)∧H (n1,1)=some ⟨6,[bC false b]⟩∧H (n1+1,2)=some ⟨6,[zB]⟩∧H (n20,5)=some ⟨1,[[v251]]⟩∧H (n4,4)=some ⟨9,[[.v y7,.v y8,.v y9,.v y10,.v y11,.v y12,.list true (r6.2.edges.map intC),.list true (r6.2.places.map intC),.v y13]]⟩∧H (A71,9)=some ⟨6,[[int b.roots,v249,v248,int b.edges,v250,v247]]⟩)∧Sep H n [oW v247 ([]:List Wire),oI v248 l246,oN v249 l102,oS v250 r66,oI v251 l37] [(A71,9),(n20,5),(n4,4),(n1+1,2),(n1,1)]) (by refine⟨v103,v104,v105,v106,v107,by simp[hh,m1_1,m2_2,m5_24,m4_13,m9_67,dc111],sp⟩) ?_
  clear hh m1_1 m2_2 m5_24 m4_13 m9_67
  rintro⟨v245,l246⟩ ρ H n252 K h ⟨v247,v248,v249,v250,v251,⟨hh,m1_1,m2_2,m5_24,m4_13,m9_67⟩,sp⟩ IH253
  refine zE fun k' hk'=>?_
  obtain⟨c255,ec255,h⟩:=atm h
  have f256:=ib_lss (k:=.i64) ec255
  simp[hh,m1_1,m2_2,m5_24,m4_13,m9_67,f256,-intBin]
  apply hk'
  refine Runs.seq ?_
  refine Runs.ite (b:=c255) (by simp[hh,m1_1,m2_2,m5_24,m4_13,m9_67]) (fun dc255=>?_) (fun dc255=>?_)
  ·replace h:=h.1 dc255
   refine Runs.skip ?_
   refine Runs.seq ?_
   refine Runs.block ?_
   refine zE fun k' hk'=>?_
   obtain⟨hb257,h⟩:=h
   obtain⟨x258,ex258,h⟩:=atm h
   have f259:=fun H=>ix_list (H:=H) (fr:=false) (f:=intC) (k:=.i64) kd_24 (fun _=>rfl) hb257 ex258
   simp[hh,m1_1,m2_2,m5_24,m4_13,m9_67,f259,dc255,-indexAddrF]
   apply hk'
   refine Runs.evalDE Ty_ok kindOp_ok draws (by decide) (by kernel_rfl) fun k' hk'=>?_
   obtain⟨hb260,h⟩:=h
   obtain⟨r261,er261,h⟩:=atm h
   simp[hh,m1_1,m2_2,m5_24,m4_13,m9_67,dc255]
   refine RunDK.callG (xs1:=[int x258]) (xs2:=[int x258]) Ty_ok kindOp_ok (canF2_ok x258 r6.2 hb260) e110 (.cons (.v _ _ _) .nil) (.cons (ArgOk.ptrVar m4_13 (.cons ((fun _ y _ _ _ _ _ _ _=>.undef y)) (.cons ((fun _ y _ _ _ _ _ _ _=>.undef y)) (.cons ((fun _ y _ _ _ _ _ _ _=>.undef y)) (.cons ((fun _ y _ _ _ _ _ _ _=>.undef y)) (.cons ((fun _ y _ _ _ _ _ _ _=>.undef y)) (.cons ((fun _ y _ _ _ _ _ _ _=>.undef y)) (.cons (argI true r6.2.edges) (.cons (argI true r6.2.places) (.cons ((fun _ y _ _ _ _ _ _ _=>.undef y)) .nil)))))))))) .nil) (by decide) rfl (by simp[hh,m1_1,m2_2,m5_24,m4_13,m9_67,dc255]) ?_
   rw[← er261]
   obtain⟨hb262,h⟩:=h
   obtain⟨l263,el263,h⟩:=atm h
   simp[hh,m1_1,m2_2,m5_24,m4_13,m9_67,dc255,-appendF]
   refine bindD_append [] [oW v247 ([]:List Wire),oN v249 l102,oS v250 r66,oI v251 l37] [[int r261]] [intC r261] sp.f1 kd_24 (by simp) (by simp) (by simp) (by simp[-one1,o1x]) (rows_one (Fill.v _ Fill.nil)) (by simp) (by simpa using hb262) ?_
   rintro v264 H265 n266 sp hfr267 hle268
   replace sp:Sep H265 n266 [oI v264 l263,oW v247 ([]:List Wire),oN v249 l102,oS v250 r66,oI v251 l37] [(A71,9),(n20,5),(n4,4),(n1+1,2),(n1,1)]:=Sep.ap el263 sp
   have m1_1:=(hfr267 _ (by simp)).trans m1_1
   have m2_2:=(hfr267 _ (by simp)).trans m2_2
   have m5_24:=(hfr267 _ (by simp)).trans m5_24
   have m4_13:=(hfr267 _ (by simp)).trans m4_13
   have m9_67:=(hfr267 _ (by simp)).trans m9_67
   have f270:=Sep.oc sp
   simp[hh,m1_1,m2_2,m5_24,m4_13,m9_67,f270,dc255,-cellsA,-one1,cAx,o1x]
   apply hk'
   refine Runs.cut (fun ρ H n=>∃ (v271 v272 v273 v274 v275:AVal),((ρ 1=pA n1 1∧ρ 2=pA (n1+1) 2∧ρ 7 = .fn (.func 108) [] [pA n1 1,pA n20 5]∧ρ 8 = .fn (.func 110) [] [pA n4 4]∧ρ 9 = .ptr (A71,9) 1 0 0∧ρ 100 = .list false (b.sites.map intC)∧ρ 101=int len228∧ρ 102=int v245)∧H (n1,1)=some ⟨6,[bC false b]⟩∧H (n1+1,2)=some ⟨6,[zB]⟩∧H (n20,5)=some ⟨1,[[v275]]⟩∧H (n4,4)=some ⟨9,[[.v y7,.v y8,.v y9,.v y10,.v y11,.v y12,.list true (r6.2.edges.map intC),.list true (r6.2.places.map intC),.v y13]]⟩∧H (A71,9)=some ⟨6,[[int b.roots,v273,v271,int b.edges,v274,v272]]⟩)∧Sep H n [oI v271 l263,oW v272 ([]:List Wire),oN v273 l102,oS v274 r66,oI v275 l37] [(A71,9),(n20,5),(n4,4),(n1+1,2),(n1,1)]) (by refine⟨v264,v247,v249,v250,v251,by simp[hh,m1_1,m2_2,m5_24,m4_13,m9_67,f270,dc255,-cellsA,-one1,cAx,o1x],(Sep.setVar (w:=(A71,9)) sp (by simp))⟩) ?_
   clear hh m1_1 m2_2 m5_24 m4_13 m9_67
   rintro ρ H n276 ⟨v271,v272,v273,v274,v275,⟨hh,m1_1,m2_2,m5_24,m4_13,m9_67⟩,sp⟩
   refine Runs.inBlock ?_
   refine zF fun k' hk'=>?_
   obtain⟨hb277,h⟩:=h
   obtain⟨v278,ev278,h⟩:=atm h
   have f279:=ib_add hb277 ev278
   simp[hh,m1_1,m2_2,m5_24,m4_13,m9_67,f279,-intBin]
   apply hk'
   refine IH253 (v278,l263) _ _ _ h (by refine⟨v272,v271,v273,v274,v275,by simp[hh,m1_1,m2_2,m5_24,m4_13,m9_67],sp.f1⟩)
  replace h:=h.2 dc255
  refine Runs.exit rfl ?_
  refine Runs.seq ?_
  refine zE fun k' hk'=>?_
  obtain⟨len280,elen280,h⟩:=atm h
  have f281:=fun H=>len_list (H:=H) (fr:=false) (f:=Wire.cells) kd_35 elen280
  simp[hh,m1_1,m2_2,m5_24,m4_13,m9_67,f281,dc255,-lenF]
  apply hk'
  refine Runs.block ?_
  refine Runs.loopW h (fun (sJ:Int × (List Wire)) ρ H n=>match sJ with | (v297,l298)=>∃ (v299 v300 v301 v302 v303:AVal),((ρ 2=pA (n1+1) 2∧ρ 7 = .fn (.func 108) [] [pA n1 1,pA n20 5]∧ρ 9 = .ptr (A71,9) 1 0 0∧ρ 116 = .list false (b.inner.map Wire.cells)∧ρ 117=int len280∧ρ 118=int v297)∧H (n1+1,2)=some ⟨6,[zB]⟩∧H (n1,1)=some ⟨6,[bC false b]⟩∧H (n20,5)=some ⟨1,[[v303]]⟩∧H (A71,9)=some ⟨6,[[int b.roots,v301,v300,int b.edges,v302,v299]]⟩)∧Sep H n [oW v299 l298,oI v300 l246,oN v301 l102,oS v302 r66,oI v303 l37] [(A71,9),(n20,5),(n1+1,2),(n1,1)]) (by refine⟨v247,v248,v249,v250,v251,by simp[hh,m1_1,m2_2,m5_24,m4_13,m9_67,dc255],(Sep.sub sp (by simp +contextual))⟩) ?_
  clear hh m1_1 m2_2 m5_24 m4_13 m9_67
  rintro⟨v297,l298⟩ ρ H n304 K h ⟨v299,v300,v301,v302,v303,⟨hh,m2_2,m1_1,m5_24,m9_67⟩,sp⟩ IH305
  refine zE fun k' hk'=>?_
  obtain⟨c307,ec307,h⟩:=atm h
  have f308:=ib_lss (k:=.i64) ec307
  simp[hh,m2_2,m1_1,m5_24,m9_67,f308,-intBin]
  apply hk'
  refine Runs.seq ?_
  refine Runs.ite (b:=c307) (by simp[hh,m2_2,m1_1,m5_24,m9_67]) (fun dc307=>?_) (fun dc307=>?_)
  ·replace h:=h.1 dc307
   refine Runs.skip ?_
   refine Runs.seq ?_
   refine Runs.block ?_
   refine zE fun k' hk'=>?_
   obtain⟨hb309,h⟩:=h
   obtain⟨x310,ex310,h⟩:=atm h
   have f311:=fun H=>ix_list (H:=H) (fr:=false) (f:=Wire.cells) (k:=.i64) kd_35 (fun _=>rfl) hb309 ex310
   simp[hh,m2_2,m1_1,m5_24,m9_67,f311,dc307,-indexAddrF]
   apply hk'
   refine Runs.cut (fun ρ H n=>∃ (v313 v314 v315 v316 v317:AVal),((ρ 2=pA (n1+1) 2∧ρ 7 = .fn (.func 108) [] [pA n1 1,pA n20 5]∧ρ 9 = .ptr (A71,9) 1 0 0∧ρ 18=pA n304 18∧ρ 116 = .list false (b.inner.map Wire.cells)∧ρ 117=int len280∧ρ 118=int v297)∧H (n1+1,2)=some ⟨6,[zB]⟩∧H (n1,1)=some ⟨6,[bC false b]⟩∧H (n20,5)=some ⟨1,[[v317]]⟩∧H (A71,9)=some ⟨6,[[int b.roots,v315,v314,int b.edges,v316,v313]]⟩∧H (n304,18)=some ⟨2,[[str x310.name,int x310.link]]⟩)∧Sep H n [oW v313 l298,oI v314 l246,oN v315 l102,oS v316 r66,oI v317 l37] [(n304,18),(A71,9),(n20,5),(n1+1,2),(n1,1)]) (by refine⟨v299,v300,v301,v302,v303,by simp[hh,m2_2,m1_1,m5_24,m9_67,f311,dc307,-indexAddrF],sp.var⟩) ?_
   clear hh m2_2 m1_1 m5_24 m9_67
   rintro ρ H n318 ⟨v313,v314,v315,v316,v317,⟨hh,m2_2,m1_1,m5_24,m9_67,m18_311⟩,sp⟩
   refine Runs.evalDE Ty_ok kindOp_ok draws (by decide) (by kernel_rfl) fun k' hk'=>?_
   obtain⟨hb319,h⟩:=h
   obtain⟨r320,er320,h⟩:=atm h
   simp[hh,m2_2,m1_1,m5_24,m9_67,m18_311]
   refine RunDK.callG (xs1:=[int x310.link]) (xs2:=[int x310.link]) Ty_ok kindOp_ok (canF1_ok x310.link b l37 hb319) e108 (.cons (.v _ _ _) .nil) (.cons (ArgOk.ptrVar m1_1 (.cons (.v _ _ _) (.cons (ArgOk.nest_Node false b.nodes) (.cons (argI false b.sites) (.cons (.v _ _ _) (.cons (argS false b.outer) (.cons (argW false b.inner) .nil))))))) (.cons (ArgOk.ptrVar m5_24 (.cons (Sep.argOk' sp.f4 (old_listF (by simp))) .nil)) .nil)) (by decide) rfl (by simp[hh,m2_2,m1_1,m5_24,m9_67,m18_311]) ?_
   rw[← er320]
   obtain⟨hb321,h⟩:=h
   obtain⟨l322,el322,h⟩:=atm h
   simp[hh,m2_2,m1_1,m5_24,m9_67,m18_311,-appendF]
   refine bindD_append [] [oI v314 l246,oN v315 l102,oS v316 r66,oI v317 l37] [[str x310.name,int r320]] [Wire.cells (Wire.mk x310.name r320)] sp kd_35 (by simp) (by simp) (by simp) (by simp[-one1,o1x]) (rows_one (Fill.v _ (Fill.v _ Fill.nil))) (by simp) (by simpa using hb321) ?_
   rintro v323 H324 n325 sp hfr326 hle327
   replace sp:Sep H324 n325 [oW v323 l322,oI v314 l246,oN v315 l102,oS v316 r66,oI v317 l37] [(n304,18),(A71,9),(n20,5),(n1+1,2),(n1,1)]:=Sep.ap el322 sp
   have m2_2:=(hfr326 _ (by simp)).trans m2_2
   have m1_1:=(hfr326 _ (by simp)).trans m1_1
   have m5_24:=(hfr326 _ (by simp)).trans m5_24
   have m9_67:=(hfr326 _ (by simp)).trans m9_67
   have m18_311:=(hfr326 _ (by simp)).trans m18_311
   have f329:=Sep.oc sp
   simp[hh,m2_2,m1_1,m5_24,m9_67,m18_311,f329,-cellsA,-one1,cAx,o1x]
   apply hk'
   refine Runs.cut (fun ρ H n=>∃ (v330 v331 v332 v333 v334:AVal),((ρ 2=pA (n1+1) 2∧ρ 7 = .fn (.func 108) [] [pA n1 1,pA n20 5]∧ρ 9 = .ptr (A71,9) 1 0 0∧ρ 116 = .list false (b.inner.map Wire.cells)∧ρ 117=int len280∧ρ 118=int v297)∧H (n1+1,2)=some ⟨6,[zB]⟩∧H (n1,1)=some ⟨6,[bC false b]⟩∧H (n20,5)=some ⟨1,[[v334]]⟩∧H (A71,9)=some ⟨6,[[int b.roots,v332,v331,int b.edges,v333,v330]]⟩)∧Sep H n [oW v330 l322,oI v331 l246,oN v332 l102,oS v333 r66,oI v334 l37] [(A71,9),(n20,5),(n1+1,2),(n1,1)]) (by refine⟨v323,v314,v315,v316,v317,by simp[hh,m2_2,m1_1,m5_24,m9_67,m18_311,f329,-cellsA,-one1,cAx,o1x],(Sep.sub (Sep.setVar (w:=(A71,9)) sp (by simp)) (by simp +contextual))⟩) ?_
   clear hh m2_2 m1_1 m5_24 m9_67 m18_311
   rintro ρ H n335 ⟨v330,v331,v332,v333,v334,⟨hh,m2_2,m1_1,m5_24,m9_67⟩,sp⟩
   refine Runs.inBlock ?_
   refine zF fun k' hk'=>?_
   obtain⟨hb336,h⟩:=h
   obtain⟨v337,ev337,h⟩:=atm h
   have f338:=ib_add hb336 ev337
   simp[hh,m2_2,m1_1,m5_24,m9_67,f338,-intBin]
   apply hk'
   refine IH305 (v337,l322) _ _ _ h (by refine⟨v330,v331,v332,v333,v334,by simp[hh,m2_2,m1_1,m5_24,m9_67],sp⟩)
  replace h:=h.2 dc307
  refine Runs.exit rfl ?_
  refine zE fun k' hk'=>?_
  have f339:=Sep.oc sp.f2
  have f340:=Sep.oc sp.f1
  have f341:=Sep.oc sp.f3
  have f342:=Sep.oc sp
  simp[hh,m2_2,m1_1,m5_24,m9_67,f339,f340,f341,f342,dc307,-cellsA,-one1,cAx,o1x]
  apply hk'
  refine Runs.cut (fun ρ H n=>∃ (v343 v344 v345 v346:AVal),(ρ 2=pA (n1+1) 2∧H (n1+1,2)=some ⟨6,[[int b.roots,v345,v344,int b.edges,v346,v343]]⟩)∧Sep H n [oW v343 l298,oI v344 l246,oN v345 l102,oS v346 r66] [(n1+1,2)]) (by refine⟨v299,v300,v301,v302,by simp[hh,m2_2,m1_1,m5_24,m9_67,f339,f340,f341,f342,dc307,-cellsA,-one1,cAx,o1x],(Sep.sub (Sep.dr (Sep.f4 (Sep.setVar (w:=(n1+1,2)) sp (by simp)))) (by simp +contextual))⟩) ?_
  clear hh m2_2 m1_1 m5_24 m9_67
  rintro ρ H n347 ⟨v343,v344,v345,v346,⟨hh,m2_2⟩,sp⟩
  exact Runs.res1 Ty_ok (v:=.agg [int b.roots,v345,v344,int b.edges,v346,v343]) Tryz.func42 Tryz.results42 (by simp[hh,m2_2,resA]) (hQ _ _ _ _ (Sep.sub (ids':=[]) (Sep.pack (Fill.v _ (Fill.own (Fill.own (Fill.v _ (Fill.own (Fill.own Fill.nil)))))) sp.f3.f2.f3) (by simp)) ⟨(Big.mk b.roots l102 l246 b.edges r66 l298),h,rfl⟩)
theorem canonZ_ok (b:Big) (hp:canonZ_pre b):OwnS Tryz.prog 42 [.agg (bC false b)] (.a [.c,.s [.c,.c,.s [.c]],.s [.c],.c,.s [.c],.s [.c,.c]]) (fun r=>r = .agg [int ((canonZ b).roots),.list true (((canonZ b).nodes).map (GNode.cells true)),.list true (((canonZ b).sites).map intC),int ((canonZ b).edges),.list true (((canonZ b).outer).map strC),.list true (((canonZ b).inner).map Wire.cells)]):=(canonZ_walk b _ (canonZ_vc b hp)).mono (by rintro _ ⟨_,rfl,rfl⟩;rfl)
theorem e86:Ent Tryz.prog 86:=Ent.of Tryz.func86 (by kernel_rfl) rfl
theorem fillZ_walk (edges:List Int) (Z:(List Int)→Prop) (h:fillZ_wp edges Z):OwnS Tryz.prog 86 [.list false (edges.map intC)] (.s [.c]) (fun r=>∃ y:List Int,Z y∧r = .list true (y.map intC)):=by
 unfold fillZ_wp at h
 have sp:Sep noHeap 0 [] []:=Sep.nil (by simp)
 refine OwnS.of Tryz.func86 rfl Tryz.ntmps86 (by simp) fun Q hQ=>?_
 refine Runs.cut (fun ρ H n=>ρ 0 = .list false (edges.map intC)∧Sep H n [] []) (by refine⟨by simp ,sp⟩) ?_
 rintro ρ H n1 ⟨hh,sp⟩
 refine zE fun k' hk'=>?_
 simp[hh]
 apply hk'
 refine zE fun k' hk'=>?_
 obtain⟨hb2,h⟩:=h
 obtain⟨r3,er3,h⟩:=atm h
 simp[hh]
 refine RunK.callW Ty_ok (ownZ_ok edges hb2) e134 (.cons (argI false edges) .nil) sp (by decide) (by decide) rfl (by simp[hh]) ?_
 rintro v4 H5 n6 _ sp rfl hle8 hfr7
 rw[← er3] at sp
 simp[hh]
 apply hk'
 refine Runs.cut (fun ρ H n=>∃ (v11:AVal),ρ 3=v11∧Sep H n [oI v11 r3] []) (by refine⟨v4,by simp[hh],sp⟩) ?_
 clear hh
 rintro ρ H n12 ⟨v11,hh,sp⟩
 refine zE fun k' hk'=>?_
 simp[hh]
 apply hk'
 refine Runs.seq ?_
 refine zE fun k' hk'=>?_
 simp[hh]
 apply hk'
 refine Runs.block ?_
 refine Runs.loopW h (fun (sJ:Int × Int × (List Int)) ρ H n=>match sJ with | (nextV22,i23,l24)=>∃ (v25:AVal),(ρ 3=v25∧ρ 4=int nextV22∧ρ 5=int i23)∧Sep H n [oI v25 l24] []) (by refine⟨v11,by simp[hh],sp⟩) ?_
 clear hh
 rintro⟨nextV22,i23,l24⟩ ρ H n26 K h ⟨v25,hh,sp⟩ IH27
 refine Runs.seq ?_
 refine zE fun k' hk'=>?_
 obtain⟨len29,elen29,h⟩:=atm h
 have f30:=len_own (Sep.len (m:=len29) sp kd_24 (by rw[elen29,List.length_map]))
 obtain⟨c31,ec31,h⟩:=atm h
 have f32:=ib_lss (k:=.i64) ec31
 simp[hh,f30,f32,-intBin,-lenF]
 apply hk'
 refine Runs.ite (b:=c31) (by simp[hh]) (fun dc31=>?_) (fun dc31=>?_)
 ·replace h:=h.1 dc31
  refine Runs.skip ?_
  refine Runs.seq ?_
  refine Runs.block ?_
  refine zE fun k' hk'=>?_
  obtain⟨hb33,h⟩:=h
  obtain⟨id34,hv,mo35,ln36,ni37⟩:=Sep.openF sp (by simp) hb33
  subst hv
  obtain⟨x38,ex38,h⟩:=atm h
  have f39:=fun H (hm:H id34=some ⟨1,l24.map intC⟩)=>ix_arr (H:=H) (k:=.i64) (off:=0) (len:=l24.length) (g:=l24.length) kd_24 hm (by simp) rfl hb33
  have f40:=at_some (q:=i23.toNat) hb33 ex38 rfl
  obtain⟨c41,ec41,h⟩:=atm h
  have f42:=ib_lss (k:=.i64) ec41
  simp[hh,mo35,f39,f40,f42,dc31,-indexAddrF,-intBin]
  apply hk'
  refine Runs.ite (b:=c41) (by simp[hh,mo35,dc31]) (fun dc41=>?_) (fun dc41=>?_)
  ·replace h:=h.1 dc41
   refine Runs.seq ?_
   refine Runs.block ?_
   refine Runs.loopW h (fun (sJ:Int) ρ H n=>match sJ with | nextV46=>∃ (v47:AVal),(ρ 3=v47∧ρ 4=int nextV46∧ρ 5=int i23)∧Sep H n [oI v47 l24] []) (by refine⟨.arr id34 l24.length 0 l24.length,by simp[hh,mo35,dc31,dc41],sp⟩) ?_
   clear hh mo35
   rintro nextV46 ρ H n48 K h ⟨v47,hh,sp⟩ IH49
   refine Runs.seq ?_
   refine zE fun k' hk'=>?_
   obtain⟨hb51,h⟩:=h
   obtain⟨r52,er52,h⟩:=atm h
   simp[hh]
   refine RunK.callA Ty_ok (l1HasI_ok l24 nextV46 hb51) e135 (.cons (Sep.argOk' sp (old_listF (by simp))) (.cons (.v _ _ _) .nil)) (by decide) (by decide) rfl (by simp[hh]) ?_
   rintro _ rfl
   rw[← er52]
   simp[hh]
   apply hk'
   refine Runs.ite (b:=r52) (by simp[hh]) (fun dr52=>?_) (fun dr52=>?_)
   ·replace h:=h.1 dr52
    refine Runs.skip ?_
    refine Runs.block ?_
    refine zF fun k' hk'=>?_
    obtain⟨hb53,h⟩:=h
    obtain⟨v54,ev54,h⟩:=atm h
    have f55:=ib_add hb53 ev54
    simp[hh,f55,dr52,-intBin]
    apply hk'
    refine Runs.inBlock ?_
    refine IH49 (v54) _ _ _ h (by refine⟨v47,by simp[hh,dr52],sp⟩)
   replace h:=h.2 dr52
   refine Runs.exit rfl ?_
   refine zF fun k' hk'=>?_
   obtain⟨hb56,h⟩:=h
   obtain⟨id57,hv,mo58,ln59,ni60⟩:=Sep.openF sp (by simp) hb56
   subst hv
   obtain⟨x61,ex61,h⟩:=atm h
   have f62:=fun H (hm:H id57=some ⟨1,l24.map intC⟩)=>ix_arr (H:=H) (k:=.i64) (off:=0) (len:=l24.length) (g:=l24.length) kd_24 hm (by simp) rfl hb56
   have f63:=at_some (q:=i23.toNat) hb56 ex61 rfl
   obtain⟨l64,el64,h⟩:=atm h
   simp[hh,mo58,f62,f63,dr52,-indexAddrF,-storeF]
   refine bind_store (q:=i23.toNat) (news:=intC nextV46) [] [] sp (by simp) (by simp;omega) (by simp) (by simp[-one1,o1x]) (Fill.v _ Fill.nil) ?_
   rintro H65 sp hfr66
   replace sp:Sep H65 n48 [oI (.arr id57 l24.length 0 l24.length) l64] []:=Sep.st el64 sp
   simp[hh,f62,f63,dr52,-indexAddrF]
   apply hk'
   refine Runs.cut (fun ρ H n=>∃ (v68:AVal),(ρ 3=v68∧ρ 4=int nextV46∧ρ 5=int i23)∧Sep H n [oI v68 l64] []) (by refine⟨.arr id57 l24.length 0 l24.length,by simp[hh,f62,f63,dr52,-indexAddrF],sp⟩) ?_
   clear hh
   rintro ρ H n69 ⟨v68,hh,sp⟩
   refine Runs.inBlock ?_
   refine zF fun k' hk'=>?_
   obtain⟨hb70,h⟩:=h
   obtain⟨v71,ev71,h⟩:=atm h
   have f72:=ib_add hb70 ev71
   simp[hh,f72,-intBin]
   apply hk'
   refine IH27 (nextV46,v71,l64) _ _ _ h (by refine⟨v68,by simp[hh],sp⟩)
  replace h:=h.2 dc41
  refine Runs.skip ?_
  refine Runs.inBlock ?_
  refine zF fun k' hk'=>?_
  obtain⟨hb73,h⟩:=h
  obtain⟨v74,ev74,h⟩:=atm h
  have f75:=ib_add hb73 ev74
  simp[hh,mo35,f75,dc31,dc41,-intBin]
  apply hk'
  refine IH27 (nextV22,v74,l24) _ _ _ h (by refine⟨.arr id34 l24.length 0 l24.length,by simp[hh,mo35,dc31,dc41],sp⟩)
 replace h:=h.2 dc31
 refine Runs.exit rfl ?_
 refine zE fun k' hk'=>?_
 simp[hh,dc31]
 apply hk'
 exact Runs.ret1 (v:=v25) Tryz.func86 Tryz.results86 (by simp[hh,dc31]) (hQ _ _ _ _ (Sep.sub (ids':=[]) sp (by simp)) ⟨l24,h,rfl⟩)
theorem fillZ_ok (edges:List Int) (hp:fillZ_pre edges):OwnS Tryz.prog 86 [.list false (edges.map intC)] (.s [.c]) (fun r=>r = .list true ((fillZ edges).map intC)):=(fillZ_walk edges _ (fillZ_vc edges hp)).mono (by rintro _ ⟨_,rfl,rfl⟩;rfl)
theorem e132:Ent Tryz.prog 132:=Ent.of Tryz.func132 (by kernel_rfl) rfl
theorem l2Tie_walk (b:Big) (link:Int) (edges:List Int) (Z:Int→Prop) (h:l2Tie_wp b link edges Z):PureC Tryz.prog 132 [.agg (bC false b),int link,.list false (edges.map intC)] (fun r=>∃ y:Int,Z y∧r=int y):=by
 unfold l2Tie_wp at h
 refine PureC.of Tryz.func132 rfl Tryz.ntmps132 (by simp) fun Q hQ=>?_
 refine Runs.cut (fun ρ H n=>(ρ 0 = .agg (bC false b)∧ρ 1=int link∧ρ 2 = .list false (edges.map intC))) (by simp) ?_
 rintro ρ H n1 hh
 refine zE fun k' hk'=>?_
 simp[hh]
 apply hk'
 refine Runs.cut (fun ρ H n=>(ρ 1=int link∧ρ 2 = .list false (edges.map intC)∧ρ 3=pA n1 3)∧H (n1,3)=some ⟨6,[bC false b]⟩) (by refine⟨?_,?_⟩<;>simp[hh]) ?_
 clear hh
 rintro ρ H n3 ⟨hh,m3_1⟩
 refine Runs.seq ?_
 refine zE fun k' hk'=>?_
 obtain⟨c4,ec4,h⟩:=atm h
 have f5:=ib_geq (k:=.i64) ec4
 simp[hh,m3_1,f5,-intBin]
 apply hk'
 refine Runs.ite (b:=c4) (by simp[hh,m3_1]) (fun dc4=>?_) (fun dc4=>?_)
 ·replace h:=h.1 dc4
  refine zE fun k' hk'=>?_
  simp[hh,m3_1,dc4]
  apply hk'
  exact Runs.ret1 (v:=int link) Tryz.func132 Tryz.results132 (by simp[hh,m3_1,dc4]) (hQ _ _ _ _ (.of (.v _)) ⟨link,h,rfl⟩)
 replace h:=h.2 dc4
 refine Runs.skip ?_
 refine zE fun k' hk'=>?_
 obtain⟨hb6,h⟩:=h
 obtain⟨x7,ex7,h⟩:=atm h
 have f8:=fun H=>ix_list (H:=H) (fr:=false) (f:=intC) (k:=.i64) kd_24 (fun _=>rfl) hb6 ex7
 simp[hh,m3_1,f8,dc4,-indexAddrF]
 apply hk'
 exact Runs.ret1 (v:=int x7) Tryz.func132 Tryz.results132 (by simp[hh,m3_1,dc4]) (hQ _ _ _ _ (.of (.v _)) ⟨x7,h,rfl⟩)
theorem l2Tie_ok (b:Big) (link:Int) (edges:List Int) (hp:l2Tie_pre b link edges):PureC Tryz.prog 132 [.agg (bC false b),int link,.list false (edges.map intC)] (fun r=>r=int (l2Tie b link edges)):=(l2Tie_walk b link edges _ (l2Tie_vc b link edges hp)).mono (by rintro _ ⟨_,rfl,rfl⟩;rfl)
theorem e133:Ent Tryz.prog 133:=Ent.of Tryz.func133 (by kernel_rfl) rfl
theorem l2Move_walk (parent:Int) (to_:List Int) (Z:Int→Prop) (h:l2Move_wp parent to_ Z):PureC Tryz.prog 133 [int parent,.list false (to_.map intC)] (fun r=>∃ y:Int,Z y∧r=int y):=by
 unfold l2Move_wp at h
 refine PureC.of Tryz.func133 rfl Tryz.ntmps133 (by simp) fun Q hQ=>?_
 refine Runs.cut (fun ρ H n=>(ρ 0=int parent∧ρ 1 = .list false (to_.map intC))) (by simp) ?_
 rintro ρ H n1 hh
 refine zE fun k' hk'=>?_
 simp[hh]
 apply hk'
 refine Runs.seq ?_
 refine zE fun k' hk'=>?_
 obtain⟨c2,ec2,h⟩:=atm h
 have f3:=ib_lss (k:=.i64) ec2
 simp[hh,f3,-intBin]
 apply hk'
 refine Runs.ite (b:=c2) (by simp[hh]) (fun dc2=>?_) (fun dc2=>?_)
 ·replace h:=h.1 dc2
  refine zE fun k' hk'=>?_
  simp[hh,dc2]
  apply hk'
  exact Runs.ret1 (v:=int parent) Tryz.func133 Tryz.results133 (by simp[hh,dc2]) (hQ _ _ _ _ (.of (.v _)) ⟨parent,h,rfl⟩)
 replace h:=h.2 dc2
 refine Runs.skip ?_
 refine zE fun k' hk'=>?_
 obtain⟨hb4,h⟩:=h
 obtain⟨x5,ex5,h⟩:=atm h
 have f6:=fun H=>ix_list (H:=H) (fr:=false) (f:=intC) (k:=.i64) kd_24 (fun _=>rfl) hb4 ex5
 simp[hh,f6,dc2,-indexAddrF]
 apply hk'
 exact Runs.ret1 (v:=int x5) Tryz.func133 Tryz.results133 (by simp[hh,dc2]) (hQ _ _ _ _ (.of (.v _)) ⟨x5,h,rfl⟩)
theorem l2Move_ok (parent:Int) (to_:List Int) (hp:l2Move_pre parent to_):PureC Tryz.prog 133 [int parent,.list false (to_.map intC)] (fun r=>r=int (l2Move parent to_)):=(l2Move_walk parent to_ _ (l2Move_vc parent to_ hp)).mono (by rintro _ ⟨_,rfl,rfl⟩;rfl)
theorem e85:Ent Tryz.prog 85:=Ent.of Tryz.func85 (by kernel_rfl) rfl
set_option maxHeartbeats 2000000 in
theorem renumZ_walk (b:Big) (to_:List Int) (edges:List Int) (Z:Big→Prop) (h:renumZ_wp b to_ edges Z):OwnS Tryz.prog 85 [.agg (bC false b),.list false (to_.map intC),.list false (edges.map intC)] (.a [.c,.s [.c,.c,.s [.c]],.s [.c],.c,.s [.c],.s [.c,.c]]) (fun r=>∃ y:Big,Z y∧r = .agg (bC true y)):=by
 unfold renumZ_wp at h
 have sp:Sep noHeap 0 [] []:=Sep.nil (by simp)
 refine OwnS.of Tryz.func85 rfl Tryz.ntmps85 (by simp) fun Q hQ=>?_
 refine Runs.cut (fun ρ H n=>(ρ 0 = .agg (bC false b)∧ρ 1 = .list false (to_.map intC)∧ρ 2 = .list false (edges.map intC))∧Sep H n [] []) (by refine⟨by simp ,sp⟩) ?_
 rintro ρ H n1 ⟨hh,sp⟩
 refine zE fun k' hk'=>?_
 simp[hh]
 apply hk'
 refine Runs.cut (fun ρ H n=>((ρ 1 = .list false (to_.map intC)∧ρ 2 = .list false (edges.map intC)∧ρ 3=pA n1 3∧ρ 6=pA (n1+1) 6)∧H (n1,3)=some ⟨6,[bC false b]⟩∧H (n1+1,6)=some ⟨6,[zB]⟩)∧Sep H n [] [(n1+1,6),(n1,3)]) (by refine⟨by simp[hh],sp.var.var⟩) ?_
 clear hh
 rintro ρ H n4 ⟨⟨hh,m3_1,m6_2⟩,sp⟩
 refine Runs.cut (fun ρ H n=>((ρ 1 = .list false (to_.map intC)∧ρ 2 = .list false (edges.map intC)∧ρ 3=pA n1 3∧ρ 6=pA (n1+1) 6)∧H (n1,3)=some ⟨6,[bC false b]⟩∧H (n1+1,6)=some ⟨6,[zB]⟩)∧Sep H n [] [(n1+1,6),(n1,3)]) (by refine⟨by simp[hh,m3_1,m6_2],sp⟩) ?_
 clear hh m3_1 m6_2
 rintro ρ H n5 ⟨⟨hh,m3_1,m6_2⟩,sp⟩
 obtain⟨len6,elen6,h⟩:=atm h
 have f7:=fun H=>len_list (H:=H) (fr:=false) (f:=(GNode.cells false)) kd_34 elen6
 obtain⟨hb8,h⟩:=h
 obtain⟨l9,el9,h⟩:=atm h
 obtain⟨hb12,h⟩:=h
 obtain⟨l13,el13,h⟩:=atm h
 refine Runs.seqC (fun H n=>H (n1,3)=some ⟨6,[bC false b]⟩∧H (n1+1,6)=some ⟨6,[zB]⟩∧Sep H n [] [(n1+1,6),(n1,3)]) [5,8,11,13,14] (.free 0 (.free 1 (.free 2 (.free 3 (.free 4 (.free 6 (.free 7 (.free 9 (.free 10 (.hard 5 (.hard 8 (.hard 11 (.free 12 (.hard 13 (.hard 14 (.fin) (.stop)) (.stop))) (.hard 13 (.hard 11 (.free 12 (.hard 14 (.fin) (.stop))) (.stop)) (.stop))) (.hard 13 (.hard 8 (.hard 11 (.free 12 (.hard 14 (.fin) (.stop))) (.stop)) (.stop)) (.stop))) (.hard 8 (.hard 5 (.hard 11 (.free 12 (.hard 13 (.hard 14 (.fin) (.stop)) (.stop))) (.hard 13 (.hard 11 (.free 12 (.hard 14 (.fin) (.stop))) (.stop)) (.stop))) (.hard 11 (.hard 5 (.free 12 (.hard 13 (.hard 14 (.fin) (.stop)) (.stop))) (.hard 13 (.hard 5 (.free 12 (.hard 14 (.fin) (.stop))) (.stop)) (.stop))) (.hard 13 (.hard 5 (.hard 11 (.free 12 (.hard 14 (.fin) (.stop))) (.stop)) (.hard 11 (.hard 5 (.free 12 (.hard 14 (.fin) (.stop))) (.stop)) (.stop))) (.stop)))) (.hard 13 (.hard 5 (.hard 8 (.hard 11 (.free 12 (.hard 14 (.fin) (.stop))) (.stop)) (.stop)) (.hard 8 (.hard 5 (.hard 11 (.free 12 (.hard 14 (.fin) (.stop))) (.stop)) (.hard 11 (.hard 5 (.free 12 (.hard 14 (.fin) (.stop))) (.stop)) (.stop))) (.stop))) (.stop))))))))))))) (fun ρ H n=>∃ (v15:AVal) (v16:AVal) (a17:Nat),((ρ 1 = .list false (to_.map intC)∧ρ 2 = .list false (edges.map intC)∧ρ 3=pA n1 3∧ρ 6=pA (n1+1) 6∧ρ 7 = .ptr (a17,7) 1 0 0)∧H (n1,3)=some ⟨6,[bC false b]⟩∧H (n1+1,6)=some ⟨6,[zB]⟩∧H (a17,7)=some ⟨6,[[int b.roots,v16,.v (.slice none 0 0),int b.edges,v15,.v (.slice none 0 0)]]⟩)∧Sep H n [oS v15 l13,oN v16 l9] [(a17,7),(n1+1,6),(n1,3)]) draws (by decide) (by kernel_rfl) ?_ ?_
 ·refine RunT.free (pA n1 3) rfl rfl ⟨m3_1,m6_2,sp⟩ (fun H n hS=>by obtain⟨m3_1,m6_2,sp⟩:=hS;exact (by exact stepF_ok Ty_ok (by rw[stepF_loc];simp[hh,m3_1,m6_2,f7,-lenF]))) ?_
  refine RunT.free (int b.roots) rfl rfl ⟨m3_1,m6_2,sp⟩ (fun H n hS=>by obtain⟨m3_1,m6_2,sp⟩:=hS;exact (by exact stepF_ok Ty_ok (by rw[stepF_loc];simp[hh,m3_1,m6_2,f7,-lenF]))) ?_
  refine RunT.free (.ptr (n1,3) 1 0 1) rfl rfl ⟨m3_1,m6_2,sp⟩ (fun H n hS=>by obtain⟨m3_1,m6_2,sp⟩:=hS;exact (by exact stepF_ok Ty_ok (by rw[stepF_loc];simp[hh,m3_1,m6_2,f7,-lenF]))) ?_
  refine RunT.free (.list false (b.nodes.map (GNode.cells false))) rfl rfl ⟨m3_1,m6_2,sp⟩ (fun H n hS=>by obtain⟨m3_1,m6_2,sp⟩:=hS;exact (by exact stepF_ok Ty_ok (by rw[stepF_loc];simp[hh,m3_1,m6_2,f7,-lenF]))) ?_
  refine RunT.free (int len6) rfl rfl ⟨m3_1,m6_2,sp⟩ (fun H n hS=>by obtain⟨m3_1,m6_2,sp⟩:=hS;exact (by have f7:=fun H=>len_list (H:=H) (fr:=false) (f:=(GNode.cells false)) kd_34 elen6;exact stepF_ok Ty_ok (by rw[stepF_loc];simp[hh,m3_1,m6_2,f7,-lenF]))) ?_
  refine RunT.free (.ptr (n1,3) 1 0 3) rfl rfl ⟨m3_1,m6_2,sp⟩ (fun H n hS=>by obtain⟨m3_1,m6_2,sp⟩:=hS;exact (by exact stepF_ok Ty_ok (by rw[stepF_loc];simp[hh,m3_1,m6_2,f7,-lenF]))) ?_
  refine RunT.free (int b.edges) rfl rfl ⟨m3_1,m6_2,sp⟩ (fun H n hS=>by obtain⟨m3_1,m6_2,sp⟩:=hS;exact (by exact stepF_ok Ty_ok (by rw[stepF_loc];simp[hh,m3_1,m6_2,f7,-lenF]))) ?_
  refine RunT.free (.ptr (n1,3) 1 0 4) rfl rfl ⟨m3_1,m6_2,sp⟩ (fun H n hS=>by obtain⟨m3_1,m6_2,sp⟩:=hS;exact (by exact stepF_ok Ty_ok (by rw[stepF_loc];simp[hh,m3_1,m6_2,f7,-lenF]))) ?_
  refine RunT.free (.list false (b.outer.map strC)) rfl rfl ⟨m3_1,m6_2,sp⟩ (fun H n hS=>by obtain⟨m3_1,m6_2,sp⟩:=hS;exact (by exact stepF_ok Ty_ok (by rw[stepF_loc];simp[hh,m3_1,m6_2,f7,-lenF]))) ?_
  refine⟨?_,?_,?_,trivial⟩
  ·refine RunT.step (v:=.arr (n5,18) len6.toNat 0 len6.toNat) Ty_ok rfl rfl (by simp[hh,m3_1,m6_2,f7,hb8,-lenF]<;>first | exact⟨rfl,rfl⟩ | exact rfl) (fun _=>by refine⟨?_,?_,(Sep.dr (show Sep _ _ [oN (.arr (n5,18) len6.toNat 0 len6.toNat) l9] [(n1+1,6),(n1,3)] from (Sep.addRepE (z:=[int 0,int 0,.v (.slice none 0 0)]) (f:=(GNode.cells true)) (k:=len6.toNat) el9 sp (fun H=>by show Row H [.c,.c,.s [.c]] [int 0,int 0,.v (.slice none 0 0)] [int 0,int 0,.list true []] [];simp[Row,Tr]))))⟩<;>simp[hh,m3_1,m6_2,f7,Heap.get_set,-lenF]) ?_
   refine⟨?_,?_,trivial⟩
   ·refine RunT.step (v:=.arr (n5+1,21) 0 0 0) Ty_ok rfl rfl (by simp[hh,m3_1,m6_2,f7,-lenF]<;>first | exact⟨rfl,rfl⟩ | exact rfl) (fun _=>by refine⟨?_,?_,(Sep.dr (Sep.dr (show Sep _ _ [oS (.arr (n5+1,21) 0 0 0) ([]:List Str),oN (.arr (n5,18) len6.toNat 0 len6.toNat) l9] [(n1+1,6),(n1,3)] from (Sep.addEmpty (l:=[.c]) (Sep.addRepE (z:=[int 0,int 0,.v (.slice none 0 0)]) (f:=(GNode.cells true)) (k:=len6.toNat) el9 sp (fun H=>by show Row H [.c,.c,.s [.c]] [int 0,int 0,.v (.slice none 0 0)] [int 0,int 0,.list true []] [];simp[Row,Tr]))))))⟩<;>simp[hh,m3_1,m6_2,f7,Heap.get_set,-lenF]) ?_
    refine⟨?_,?_,trivial⟩
    ·refine RunT.append0 (v:=(.arr (n5+1,21) 0 0 0)) (xv:=(.list false (b.outer.map strC))) Ty_ok (b.outer.map strC) rfl rfl (by simp[hh,m3_1,m6_2,f7,-lenF]) (by simp[hh,m3_1,m6_2,f7,-lenF]) (Sep.addEmpty (l:=[.c]) (Sep.addRepE (z:=[int 0,int 0,.v (.slice none 0 0)]) (f:=(GNode.cells true)) (k:=len6.toNat) el9 sp (fun H=>by show Row H [.c,.c,.s [.c]] [int 0,int 0,.v (.slice none 0 0)] [int 0,int 0,.list true []] [];simp[Row,Tr]))) (by simp) kd_25 (by simp) (by simp) (by simp[srcOf]) (by simp[-one1,o1x]) (by simpa using hb12) ?_
     rintro v35 H31 n32 sp hfr33 hle34
     replace sp:Sep H31 n32 [oS v35 l13,oN (.arr (n5,18) len6.toNat 0 len6.toNat) l9] [(n1+1,6),(n1,3)]:=by refine Sep.ap el13 ?_;exact sp
     have m3_1:H31 (n1,3)=some ⟨6,[bC false b]⟩:=(hfr33 _ (by simp)).trans (by simp[hh,m3_1,m6_2,Heap.get_set])
     have m6_2:H31 (n1+1,6)=some ⟨6,[zB]⟩:=(hfr33 _ (by simp)).trans (by simp[hh,m3_1,m6_2,Heap.get_set])
     refine⟨(fun _=>⟨m3_1,m6_2,sp.dr.dr⟩),?_⟩
     have f38:=Sep.oc sp
     refine RunT.free (.agg [int b.roots,.arr (n5,18) len6.toNat 0 len6.toNat,.v (.slice none 0 0),int b.edges,v35,.v (.slice none 0 0)]) rfl rfl ⟨m3_1,m6_2,sp.dr.dr⟩ (fun H n hS=>by obtain⟨m3_1,m6_2,sp⟩:=hS;exact (by exact stepF_ok Ty_ok (by rw[stepF_loc];simp[hh,m3_1,m6_2,f7,f38,-cellsA,-lenF,-one1,cAx,o1x]))) ?_
     refine⟨?_,trivial⟩
     refine RunT.step (v:=pA n32 7) Ty_ok rfl rfl (by simp[hh,m3_1,m6_2,f7,f38,-cellsA,-lenF,-one1,cAx,o1x]<;>first | exact⟨rfl,rfl⟩ | exact rfl) (fun _=>by refine⟨?_,?_,(Sep.sub sp.var.dr.dr (by simp +contextual))⟩<;>simp[hh,m3_1,m6_2,f7,f38,Heap.get_set,-cellsA,-lenF,-one1,cAx,o1x]) ?_
     refine⟨?_,trivial⟩
     have f51:=Sep.oc sp
     refine RunT.step (v:=.undef) Ty_ok rfl rfl (by simp[hh,m3_1,m6_2,f7,f38,f51,-cellsA,-lenF,-one1,cAx,o1x]<;>first | exact⟨rfl,rfl⟩ | exact rfl) (fun hl=>absurd (hl.symm.trans (show lateC _ _ _=true by kernel_rfl)) (by decide)) ?_
     refine RunT.fin (by refine⟨v35,.arr (n5,18) len6.toNat 0 len6.toNat,n32,by simp[hh,m3_1,m6_2,f7,f38,f51,-cellsA,-lenF,-one1,cAx,o1x],sp.var⟩)
    refine RunT.step (v:=pA (n5+2) 7) Ty_ok rfl rfl (by simp[hh,m3_1,m6_2,f7,-lenF]<;>first | exact⟨rfl,rfl⟩ | exact rfl) (fun _=>by refine⟨?_,?_,(Sep.sub (Sep.dr (Sep.dr (Sep.var (Sep.addEmpty (l:=[.c]) (Sep.addRepE (z:=[int 0,int 0,.v (.slice none 0 0)]) (f:=(GNode.cells true)) (k:=len6.toNat) el9 sp (fun H=>by show Row H [.c,.c,.s [.c]] [int 0,int 0,.v (.slice none 0 0)] [int 0,int 0,.list true []] [];simp[Row,Tr])))))) (by simp +contextual))⟩<;>simp[hh,m3_1,m6_2,f7,Heap.get_set,-lenF]) ?_
    refine⟨?_,trivial⟩
    refine RunT.append0 (v:=(.arr (n5+1,21) 0 0 0)) (xv:=(.list false (b.outer.map strC))) Ty_ok (b.outer.map strC) rfl rfl (by simp[hh,m3_1,m6_2,f7,-lenF]) (by simp[hh,m3_1,m6_2,f7,-lenF]) (Sep.var (Sep.addEmpty (l:=[.c]) (Sep.addRepE (z:=[int 0,int 0,.v (.slice none 0 0)]) (f:=(GNode.cells true)) (k:=len6.toNat) el9 sp (fun H=>by show Row H [.c,.c,.s [.c]] [int 0,int 0,.v (.slice none 0 0)] [int 0,int 0,.list true []] [];simp[Row,Tr])))) (by simp) kd_25 (by simp) (by simp) (by simp[srcOf]) (by simp[-one1,o1x]) (by simpa using hb12) ?_
    rintro v62 H58 n59 sp hfr60 hle61
    replace sp:Sep H58 n59 [oS v62 l13,oN (.arr (n5,18) len6.toNat 0 len6.toNat) l9] [(n5+2,7),(n1+1,6),(n1,3)]:=by refine Sep.ap el13 ?_;exact sp
    have m3_1:H58 (n1,3)=some ⟨6,[bC false b]⟩:=(hfr60 _ (by simp)).trans (by simp[hh,m3_1,m6_2,Heap.get_set])
    have m6_2:H58 (n1+1,6)=some ⟨6,[zB]⟩:=(hfr60 _ (by simp)).trans (by simp[hh,m3_1,m6_2,Heap.get_set])
    have m7_13:H58 (n5+2,7)=some ⟨6,[zB]⟩:=(hfr60 _ (by simp)).trans (by simp[hh,m3_1,m6_2,Heap.get_set])
    refine⟨(fun _=>⟨m3_1,m6_2,(Sep.sub sp.dr.dr (by simp +contextual))⟩),?_⟩
    have f65:=Sep.oc sp
    refine RunT.free (.agg [int b.roots,.arr (n5,18) len6.toNat 0 len6.toNat,.v (.slice none 0 0),int b.edges,v62,.v (.slice none 0 0)]) rfl rfl ⟨m3_1,m6_2,(Sep.sub sp.dr.dr (by simp +contextual))⟩ (fun H n hS=>by obtain⟨m3_1,m6_2,sp⟩:=hS;exact (by exact stepF_ok Ty_ok (by rw[stepF_loc];simp[hh,m3_1,m6_2,m7_13,f7,f65,-cellsA,-lenF,-one1,cAx,o1x]))) ?_
    refine⟨?_,trivial⟩
    have f72:=Sep.oc sp
    refine RunT.step (v:=.undef) Ty_ok rfl rfl (by simp[hh,m3_1,m6_2,m7_13,f7,f65,f72,-cellsA,-lenF,-one1,cAx,o1x]<;>first | exact⟨rfl,rfl⟩ | exact rfl) (fun hl=>absurd (hl.symm.trans (show lateC _ _ _=true by kernel_rfl)) (by decide)) ?_
    refine RunT.fin (by refine⟨v62,.arr (n5,18) len6.toNat 0 len6.toNat,n5+2,by simp[hh,m3_1,m6_2,m7_13,f7,f65,f72,-cellsA,-lenF,-one1,cAx,o1x],(Sep.setVar (w:=(n5+2,7)) sp (by simp))⟩)
   refine RunT.step (v:=pA (n5+1) 7) Ty_ok rfl rfl (by simp[hh,m3_1,m6_2,f7,-lenF]<;>first | exact⟨rfl,rfl⟩ | exact rfl) (fun _=>by refine⟨?_,?_,(Sep.sub (Sep.dr (Sep.var (Sep.addRepE (z:=[int 0,int 0,.v (.slice none 0 0)]) (f:=(GNode.cells true)) (k:=len6.toNat) el9 sp (fun H=>by show Row H [.c,.c,.s [.c]] [int 0,int 0,.v (.slice none 0 0)] [int 0,int 0,.list true []] [];simp[Row,Tr])))) (by simp +contextual))⟩<;>simp[hh,m3_1,m6_2,f7,Heap.get_set,-lenF]) ?_
   refine⟨?_,trivial⟩
   refine RunT.step (v:=.arr (n5+2,21) 0 0 0) Ty_ok rfl rfl (by simp[hh,m3_1,m6_2,f7,-lenF]<;>first | exact⟨rfl,rfl⟩ | exact rfl) (fun _=>by refine⟨?_,?_,(Sep.sub (Sep.dr (Sep.dr (show Sep _ _ [oS (.arr (n5+2,21) 0 0 0) ([]:List Str),oN (.arr (n5,18) len6.toNat 0 len6.toNat) l9] [(n5+1,7),(n1+1,6),(n1,3)] from (Sep.addEmpty (l:=[.c]) (Sep.var (Sep.addRepE (z:=[int 0,int 0,.v (.slice none 0 0)]) (f:=(GNode.cells true)) (k:=len6.toNat) el9 sp (fun H=>by show Row H [.c,.c,.s [.c]] [int 0,int 0,.v (.slice none 0 0)] [int 0,int 0,.list true []] [];simp[Row,Tr]))))))) (by simp +contextual))⟩<;>simp[hh,m3_1,m6_2,f7,Heap.get_set,-lenF]) ?_
   refine⟨?_,trivial⟩
   refine RunT.append0 (v:=(.arr (n5+2,21) 0 0 0)) (xv:=(.list false (b.outer.map strC))) Ty_ok (b.outer.map strC) rfl rfl (by simp[hh,m3_1,m6_2,f7,-lenF]) (by simp[hh,m3_1,m6_2,f7,-lenF]) (Sep.addEmpty (l:=[.c]) (Sep.var (Sep.addRepE (z:=[int 0,int 0,.v (.slice none 0 0)]) (f:=(GNode.cells true)) (k:=len6.toNat) el9 sp (fun H=>by show Row H [.c,.c,.s [.c]] [int 0,int 0,.v (.slice none 0 0)] [int 0,int 0,.list true []] [];simp[Row,Tr])))) (by simp) kd_25 (by simp) (by simp) (by simp[srcOf]) (by simp[-one1,o1x]) (by simpa using hb12) ?_
   rintro v89 H85 n86 sp hfr87 hle88
   replace sp:Sep H85 n86 [oS v89 l13,oN (.arr (n5,18) len6.toNat 0 len6.toNat) l9] [(n5+1,7),(n1+1,6),(n1,3)]:=by refine Sep.ap el13 ?_;exact sp
   have m3_1:H85 (n1,3)=some ⟨6,[bC false b]⟩:=(hfr87 _ (by simp)).trans (by simp[hh,m3_1,m6_2,Heap.get_set])
   have m6_2:H85 (n1+1,6)=some ⟨6,[zB]⟩:=(hfr87 _ (by simp)).trans (by simp[hh,m3_1,m6_2,Heap.get_set])
   have m7_13:H85 (n5+1,7)=some ⟨6,[zB]⟩:=(hfr87 _ (by simp)).trans (by simp[hh,m3_1,m6_2,Heap.get_set])
   refine⟨(fun _=>⟨m3_1,m6_2,(Sep.sub sp.dr.dr (by simp +contextual))⟩),?_⟩
   have f92:=Sep.oc sp
   refine RunT.free (.agg [int b.roots,.arr (n5,18) len6.toNat 0 len6.toNat,.v (.slice none 0 0),int b.edges,v89,.v (.slice none 0 0)]) rfl rfl ⟨m3_1,m6_2,(Sep.sub sp.dr.dr (by simp +contextual))⟩ (fun H n hS=>by obtain⟨m3_1,m6_2,sp⟩:=hS;exact (by exact stepF_ok Ty_ok (by rw[stepF_loc];simp[hh,m3_1,m6_2,m7_13,f7,f92,-cellsA,-lenF,-one1,cAx,o1x]))) ?_
   refine⟨?_,trivial⟩
   have f99:=Sep.oc sp
   refine RunT.step (v:=.undef) Ty_ok rfl rfl (by simp[hh,m3_1,m6_2,m7_13,f7,f92,f99,-cellsA,-lenF,-one1,cAx,o1x]<;>first | exact⟨rfl,rfl⟩ | exact rfl) (fun hl=>absurd (hl.symm.trans (show lateC _ _ _=true by kernel_rfl)) (by decide)) ?_
   refine RunT.fin (by refine⟨v89,.arr (n5,18) len6.toNat 0 len6.toNat,n5+1,by simp[hh,m3_1,m6_2,m7_13,f7,f92,f99,-cellsA,-lenF,-one1,cAx,o1x],(Sep.setVar (w:=(n5+1,7)) sp (by simp))⟩)
  ·refine RunT.step (v:=.arr (n5,21) 0 0 0) Ty_ok rfl rfl (by simp[hh,m3_1,m6_2,f7,-lenF]<;>first | exact⟨rfl,rfl⟩ | exact rfl) (fun _=>by refine⟨?_,?_,(Sep.dr (show Sep _ _ [oS (.arr (n5,21) 0 0 0) ([]:List Str)] [(n1+1,6),(n1,3)] from (Sep.addEmpty (l:=[.c]) sp)))⟩<;>simp[hh,m3_1,m6_2,f7,Heap.get_set,-lenF]) ?_
   refine⟨?_,?_,?_,trivial⟩
   ·refine RunT.step (v:=.arr (n5+1,18) len6.toNat 0 len6.toNat) Ty_ok rfl rfl (by simp[hh,m3_1,m6_2,f7,hb8,-lenF]<;>first | exact⟨rfl,rfl⟩ | exact rfl) (fun _=>by refine⟨?_,?_,(Sep.dr (Sep.dr (show Sep _ _ [oN (.arr (n5+1,18) len6.toNat 0 len6.toNat) l9,oS (.arr (n5,21) 0 0 0) ([]:List Str)] [(n1+1,6),(n1,3)] from (Sep.addRepE (z:=[int 0,int 0,.v (.slice none 0 0)]) (f:=(GNode.cells true)) (k:=len6.toNat) el9 (Sep.addEmpty (l:=[.c]) sp) (fun H=>by show Row H [.c,.c,.s [.c]] [int 0,int 0,.v (.slice none 0 0)] [int 0,int 0,.list true []] [];simp[Row,Tr])))))⟩<;>simp[hh,m3_1,m6_2,f7,Heap.get_set,-lenF]) ?_
    refine⟨?_,?_,trivial⟩
    ·refine RunT.append0 (v:=(.arr (n5,21) 0 0 0)) (xv:=(.list false (b.outer.map strC))) Ty_ok (b.outer.map strC) rfl rfl (by simp[hh,m3_1,m6_2,f7,-lenF]) (by simp[hh,m3_1,m6_2,f7,-lenF]) (Sep.f1 (Sep.addRepE (z:=[int 0,int 0,.v (.slice none 0 0)]) (f:=(GNode.cells true)) (k:=len6.toNat) el9 (Sep.addEmpty (l:=[.c]) sp) (fun H=>by show Row H [.c,.c,.s [.c]] [int 0,int 0,.v (.slice none 0 0)] [int 0,int 0,.list true []] [];simp[Row,Tr]))) (by simp) kd_25 (by simp) (by simp) (by simp[srcOf]) (by simp[-one1,o1x]) (by simpa using hb12) ?_
     rintro v116 H112 n113 sp hfr114 hle115
     replace sp:Sep H112 n113 [oS v116 l13,oN (.arr (n5+1,18) len6.toNat 0 len6.toNat) l9] [(n1+1,6),(n1,3)]:=by refine Sep.ap el13 ?_;exact sp
     have m3_1:H112 (n1,3)=some ⟨6,[bC false b]⟩:=(hfr114 _ (by simp)).trans (by simp[hh,m3_1,m6_2,Heap.get_set])
     have m6_2:H112 (n1+1,6)=some ⟨6,[zB]⟩:=(hfr114 _ (by simp)).trans (by simp[hh,m3_1,m6_2,Heap.get_set])
     refine⟨(fun _=>⟨m3_1,m6_2,sp.dr.dr⟩),?_⟩
     have f119:=Sep.oc sp
     refine RunT.free (.agg [int b.roots,.arr (n5+1,18) len6.toNat 0 len6.toNat,.v (.slice none 0 0),int b.edges,v116,.v (.slice none 0 0)]) rfl rfl ⟨m3_1,m6_2,sp.dr.dr⟩ (fun H n hS=>by obtain⟨m3_1,m6_2,sp⟩:=hS;exact (by exact stepF_ok Ty_ok (by rw[stepF_loc];simp[hh,m3_1,m6_2,f7,f119,-cellsA,-lenF,-one1,cAx,o1x]))) ?_
     refine⟨?_,trivial⟩
     refine RunT.step (v:=pA n113 7) Ty_ok rfl rfl (by simp[hh,m3_1,m6_2,f7,f119,-cellsA,-lenF,-one1,cAx,o1x]<;>first | exact⟨rfl,rfl⟩ | exact rfl) (fun _=>by refine⟨?_,?_,(Sep.sub sp.var.dr.dr (by simp +contextual))⟩<;>simp[hh,m3_1,m6_2,f7,f119,Heap.get_set,-cellsA,-lenF,-one1,cAx,o1x]) ?_
     refine⟨?_,trivial⟩
     have f132:=Sep.oc sp
     refine RunT.step (v:=.undef) Ty_ok rfl rfl (by simp[hh,m3_1,m6_2,f7,f119,f132,-cellsA,-lenF,-one1,cAx,o1x]<;>first | exact⟨rfl,rfl⟩ | exact rfl) (fun hl=>absurd (hl.symm.trans (show lateC _ _ _=true by kernel_rfl)) (by decide)) ?_
     refine RunT.fin (by refine⟨v116,.arr (n5+1,18) len6.toNat 0 len6.toNat,n113,by simp[hh,m3_1,m6_2,f7,f119,f132,-cellsA,-lenF,-one1,cAx,o1x],sp.var⟩)
    refine RunT.step (v:=pA (n5+2) 7) Ty_ok rfl rfl (by simp[hh,m3_1,m6_2,f7,-lenF]<;>first | exact⟨rfl,rfl⟩ | exact rfl) (fun _=>by refine⟨?_,?_,(Sep.sub (Sep.dr (Sep.dr (Sep.var (Sep.addRepE (z:=[int 0,int 0,.v (.slice none 0 0)]) (f:=(GNode.cells true)) (k:=len6.toNat) el9 (Sep.addEmpty (l:=[.c]) sp) (fun H=>by show Row H [.c,.c,.s [.c]] [int 0,int 0,.v (.slice none 0 0)] [int 0,int 0,.list true []] [];simp[Row,Tr]))))) (by simp +contextual))⟩<;>simp[hh,m3_1,m6_2,f7,Heap.get_set,-lenF]) ?_
    refine⟨?_,trivial⟩
    refine RunT.append0 (v:=(.arr (n5,21) 0 0 0)) (xv:=(.list false (b.outer.map strC))) Ty_ok (b.outer.map strC) rfl rfl (by simp[hh,m3_1,m6_2,f7,-lenF]) (by simp[hh,m3_1,m6_2,f7,-lenF]) (Sep.f1 (Sep.var (Sep.addRepE (z:=[int 0,int 0,.v (.slice none 0 0)]) (f:=(GNode.cells true)) (k:=len6.toNat) el9 (Sep.addEmpty (l:=[.c]) sp) (fun H=>by show Row H [.c,.c,.s [.c]] [int 0,int 0,.v (.slice none 0 0)] [int 0,int 0,.list true []] [];simp[Row,Tr])))) (by simp) kd_25 (by simp) (by simp) (by simp[srcOf]) (by simp[-one1,o1x]) (by simpa using hb12) ?_
    rintro v143 H139 n140 sp hfr141 hle142
    replace sp:Sep H139 n140 [oS v143 l13,oN (.arr (n5+1,18) len6.toNat 0 len6.toNat) l9] [(n5+2,7),(n1+1,6),(n1,3)]:=by refine Sep.ap el13 ?_;exact sp
    have m3_1:H139 (n1,3)=some ⟨6,[bC false b]⟩:=(hfr141 _ (by simp)).trans (by simp[hh,m3_1,m6_2,Heap.get_set])
    have m6_2:H139 (n1+1,6)=some ⟨6,[zB]⟩:=(hfr141 _ (by simp)).trans (by simp[hh,m3_1,m6_2,Heap.get_set])
    have m7_13:H139 (n5+2,7)=some ⟨6,[zB]⟩:=(hfr141 _ (by simp)).trans (by simp[hh,m3_1,m6_2,Heap.get_set])
    refine⟨(fun _=>⟨m3_1,m6_2,(Sep.sub sp.dr.dr (by simp +contextual))⟩),?_⟩
    have f146:=Sep.oc sp
    refine RunT.free (.agg [int b.roots,.arr (n5+1,18) len6.toNat 0 len6.toNat,.v (.slice none 0 0),int b.edges,v143,.v (.slice none 0 0)]) rfl rfl ⟨m3_1,m6_2,(Sep.sub sp.dr.dr (by simp +contextual))⟩ (fun H n hS=>by obtain⟨m3_1,m6_2,sp⟩:=hS;exact (by exact stepF_ok Ty_ok (by rw[stepF_loc];simp[hh,m3_1,m6_2,m7_13,f7,f146,-cellsA,-lenF,-one1,cAx,o1x]))) ?_
    refine⟨?_,trivial⟩
    have f153:=Sep.oc sp
    refine RunT.step (v:=.undef) Ty_ok rfl rfl (by simp[hh,m3_1,m6_2,m7_13,f7,f146,f153,-cellsA,-lenF,-one1,cAx,o1x]<;>first | exact⟨rfl,rfl⟩ | exact rfl) (fun hl=>absurd (hl.symm.trans (show lateC _ _ _=true by kernel_rfl)) (by decide)) ?_
    refine RunT.fin (by refine⟨v143,.arr (n5+1,18) len6.toNat 0 len6.toNat,n5+2,by simp[hh,m3_1,m6_2,m7_13,f7,f146,f153,-cellsA,-lenF,-one1,cAx,o1x],(Sep.setVar (w:=(n5+2,7)) sp (by simp))⟩)
   ·refine RunT.append0 (v:=(.arr (n5,21) 0 0 0)) (xv:=(.list false (b.outer.map strC))) Ty_ok (b.outer.map strC) rfl rfl (by simp[hh,m3_1,m6_2,f7,-lenF]) (by simp[hh,m3_1,m6_2,f7,-lenF]) (Sep.addEmpty (l:=[.c]) sp) (by simp) kd_25 (by simp) (by simp) (by simp[srcOf]) (by simp[-one1,o1x]) (by simpa using hb12) ?_
    rintro v158 H154 n155 sp hfr156 hle157
    replace sp:Sep H154 n155 [oS v158 l13] [(n1+1,6),(n1,3)]:=by refine Sep.ap el13 ?_;exact sp
    have m3_1:H154 (n1,3)=some ⟨6,[bC false b]⟩:=(hfr156 _ (by simp)).trans (by simp[hh,m3_1,m6_2,Heap.get_set])
    have m6_2:H154 (n1+1,6)=some ⟨6,[zB]⟩:=(hfr156 _ (by simp)).trans (by simp[hh,m3_1,m6_2,Heap.get_set])
    refine⟨(fun _=>⟨m3_1,m6_2,sp.dr⟩),?_⟩
    refine⟨?_,?_,trivial⟩
    ·refine RunT.step (v:=.arr (n155,18) len6.toNat 0 len6.toNat) Ty_ok rfl rfl (by simp[hh,m3_1,m6_2,f7,hb8,-lenF]<;>first | exact⟨rfl,rfl⟩ | exact rfl) (fun _=>by refine⟨?_,?_,(Sep.dr (Sep.dr (show Sep _ _ [oN (.arr (n155,18) len6.toNat 0 len6.toNat) l9,oS v158 l13] [(n1+1,6),(n1,3)] from (Sep.addRepE (z:=[int 0,int 0,.v (.slice none 0 0)]) (f:=(GNode.cells true)) (k:=len6.toNat) el9 sp (fun H=>by show Row H [.c,.c,.s [.c]] [int 0,int 0,.v (.slice none 0 0)] [int 0,int 0,.list true []] [];simp[Row,Tr])))))⟩<;>simp[hh,m3_1,m6_2,f7,Heap.get_set,-lenF]) ?_
     have f167:=Sep.oc sp
     refine RunT.free (.agg [int b.roots,.arr (n155,18) len6.toNat 0 len6.toNat,.v (.slice none 0 0),int b.edges,v158,.v (.slice none 0 0)]) rfl rfl (by refine⟨?_,?_,(Sep.dr (Sep.dr (show Sep _ _ [oN (.arr (n155,18) len6.toNat 0 len6.toNat) l9,oS v158 l13] [(n1+1,6),(n1,3)] from (Sep.addRepE (z:=[int 0,int 0,.v (.slice none 0 0)]) (f:=(GNode.cells true)) (k:=len6.toNat) el9 sp (fun H=>by show Row H [.c,.c,.s [.c]] [int 0,int 0,.v (.slice none 0 0)] [int 0,int 0,.list true []] [];simp[Row,Tr])))))⟩<;>simp[hh,m3_1,m6_2,f7,f167,Heap.get_set,-cellsA,-lenF,-one1,cAx,o1x]) (fun H n hS=>by obtain⟨m3_1,m6_2,sp⟩:=hS;exact (by exact stepF_ok Ty_ok (by rw[stepF_loc];simp[hh,m3_1,m6_2,f7,f167,-cellsA,-lenF,-one1,cAx,o1x]))) ?_
     refine⟨?_,trivial⟩
     refine RunT.step (v:=pA (n155+1) 7) Ty_ok rfl rfl (by simp[hh,m3_1,m6_2,f7,f167,-cellsA,-lenF,-one1,cAx,o1x]<;>first | exact⟨rfl,rfl⟩ | exact rfl) (fun _=>by refine⟨?_,?_,(Sep.sub (Sep.dr (Sep.dr (Sep.var (Sep.addRepE (z:=[int 0,int 0,.v (.slice none 0 0)]) (f:=(GNode.cells true)) (k:=len6.toNat) el9 sp (fun H=>by show Row H [.c,.c,.s [.c]] [int 0,int 0,.v (.slice none 0 0)] [int 0,int 0,.list true []] [];simp[Row,Tr]))))) (by simp +contextual))⟩<;>simp[hh,m3_1,m6_2,f7,f167,Heap.get_set,-cellsA,-lenF,-one1,cAx,o1x]) ?_
     refine⟨?_,trivial⟩
     have f180:=Sep.oc sp
     refine RunT.step (v:=.undef) Ty_ok rfl rfl (by simp[hh,m3_1,m6_2,f7,f167,f180,-cellsA,-lenF,-one1,cAx,o1x]<;>first | exact⟨rfl,rfl⟩ | exact rfl) (fun hl=>absurd (hl.symm.trans (show lateC _ _ _=true by kernel_rfl)) (by decide)) ?_
     refine RunT.fin (by refine⟨v158,.arr (n155,18) len6.toNat 0 len6.toNat,n155+1,by simp[hh,m3_1,m6_2,f7,f167,f180,-cellsA,-lenF,-one1,cAx,o1x],(Sep.f1 (Sep.var (Sep.addRepE (z:=[int 0,int 0,.v (.slice none 0 0)]) (f:=(GNode.cells true)) (k:=len6.toNat) el9 sp (fun H=>by show Row H [.c,.c,.s [.c]] [int 0,int 0,.v (.slice none 0 0)] [int 0,int 0,.list true []] [];simp[Row,Tr]))))⟩)
    refine RunT.step (v:=pA n155 7) Ty_ok rfl rfl (by simp[hh,m3_1,m6_2,f7,-lenF]<;>first | exact⟨rfl,rfl⟩ | exact rfl) (fun _=>by refine⟨?_,?_,(Sep.sub sp.var.dr (by simp +contextual))⟩<;>simp[hh,m3_1,m6_2,f7,Heap.get_set,-lenF]) ?_
    refine⟨?_,trivial⟩
    refine RunT.step (v:=.arr (n155+1,18) len6.toNat 0 len6.toNat) Ty_ok rfl rfl (by simp[hh,m3_1,m6_2,f7,hb8,-lenF]<;>first | exact⟨rfl,rfl⟩ | exact rfl) (fun _=>by refine⟨?_,?_,(Sep.sub (Sep.dr (Sep.dr (show Sep _ _ [oN (.arr (n155+1,18) len6.toNat 0 len6.toNat) l9,oS v158 l13] [(n155,7),(n1+1,6),(n1,3)] from (Sep.addRepE (z:=[int 0,int 0,.v (.slice none 0 0)]) (f:=(GNode.cells true)) (k:=len6.toNat) el9 sp.var (fun H=>by show Row H [.c,.c,.s [.c]] [int 0,int 0,.v (.slice none 0 0)] [int 0,int 0,.list true []] [];simp[Row,Tr]))))) (by simp +contextual))⟩<;>simp[hh,m3_1,m6_2,f7,Heap.get_set,-lenF]) ?_
    have f193:=Sep.oc sp
    refine RunT.free (.agg [int b.roots,.arr (n155+1,18) len6.toNat 0 len6.toNat,.v (.slice none 0 0),int b.edges,v158,.v (.slice none 0 0)]) rfl rfl (by refine⟨?_,?_,(Sep.sub (Sep.dr (Sep.dr (show Sep _ _ [oN (.arr (n155+1,18) len6.toNat 0 len6.toNat) l9,oS v158 l13] [(n155,7),(n1+1,6),(n1,3)] from (Sep.addRepE (z:=[int 0,int 0,.v (.slice none 0 0)]) (f:=(GNode.cells true)) (k:=len6.toNat) el9 sp.var (fun H=>by show Row H [.c,.c,.s [.c]] [int 0,int 0,.v (.slice none 0 0)] [int 0,int 0,.list true []] [];simp[Row,Tr]))))) (by simp +contextual))⟩<;>simp[hh,m3_1,m6_2,f7,f193,Heap.get_set,-cellsA,-lenF,-one1,cAx,o1x]) (fun H n hS=>by obtain⟨m3_1,m6_2,sp⟩:=hS;exact (by exact stepF_ok Ty_ok (by rw[stepF_loc];simp[hh,m3_1,m6_2,f7,f193,-cellsA,-lenF,-one1,cAx,o1x]))) ?_
    refine⟨?_,trivial⟩
    have f200:=Sep.oc sp
    refine RunT.step (v:=.undef) Ty_ok rfl rfl (by simp[hh,m3_1,m6_2,f7,f193,f200,-cellsA,-lenF,-one1,cAx,o1x]<;>first | exact⟨rfl,rfl⟩ | exact rfl) (fun hl=>absurd (hl.symm.trans (show lateC _ _ _=true by kernel_rfl)) (by decide)) ?_
    refine RunT.fin (by refine⟨v158,.arr (n155+1,18) len6.toNat 0 len6.toNat,n155,by simp[hh,m3_1,m6_2,f7,f193,f200,-cellsA,-lenF,-one1,cAx,o1x],(Sep.f1 (Sep.setVar (w:=(n155,7)) (Sep.addRepE (z:=[int 0,int 0,.v (.slice none 0 0)]) (f:=(GNode.cells true)) (k:=len6.toNat) el9 sp.var (fun H=>by show Row H [.c,.c,.s [.c]] [int 0,int 0,.v (.slice none 0 0)] [int 0,int 0,.list true []] [];simp[Row,Tr])) (by simp)))⟩)
   refine RunT.step (v:=pA (n5+1) 7) Ty_ok rfl rfl (by simp[hh,m3_1,m6_2,f7,-lenF]<;>first | exact⟨rfl,rfl⟩ | exact rfl) (fun _=>by refine⟨?_,?_,(Sep.sub (Sep.dr (Sep.var (Sep.addEmpty (l:=[.c]) sp))) (by simp +contextual))⟩<;>simp[hh,m3_1,m6_2,f7,Heap.get_set,-lenF]) ?_
   refine⟨?_,?_,trivial⟩
   ·refine RunT.step (v:=.arr (n5+2,18) len6.toNat 0 len6.toNat) Ty_ok rfl rfl (by simp[hh,m3_1,m6_2,f7,hb8,-lenF]<;>first | exact⟨rfl,rfl⟩ | exact rfl) (fun _=>by refine⟨?_,?_,(Sep.sub (Sep.dr (Sep.dr (show Sep _ _ [oN (.arr (n5+2,18) len6.toNat 0 len6.toNat) l9,oS (.arr (n5,21) 0 0 0) ([]:List Str)] [(n5+1,7),(n1+1,6),(n1,3)] from (Sep.addRepE (z:=[int 0,int 0,.v (.slice none 0 0)]) (f:=(GNode.cells true)) (k:=len6.toNat) el9 (Sep.var (Sep.addEmpty (l:=[.c]) sp)) (fun H=>by show Row H [.c,.c,.s [.c]] [int 0,int 0,.v (.slice none 0 0)] [int 0,int 0,.list true []] [];simp[Row,Tr]))))) (by simp +contextual))⟩<;>simp[hh,m3_1,m6_2,f7,Heap.get_set,-lenF]) ?_
    refine⟨?_,trivial⟩
    refine RunT.append0 (v:=(.arr (n5,21) 0 0 0)) (xv:=(.list false (b.outer.map strC))) Ty_ok (b.outer.map strC) rfl rfl (by simp[hh,m3_1,m6_2,f7,-lenF]) (by simp[hh,m3_1,m6_2,f7,-lenF]) (Sep.f1 (Sep.addRepE (z:=[int 0,int 0,.v (.slice none 0 0)]) (f:=(GNode.cells true)) (k:=len6.toNat) el9 (Sep.var (Sep.addEmpty (l:=[.c]) sp)) (fun H=>by show Row H [.c,.c,.s [.c]] [int 0,int 0,.v (.slice none 0 0)] [int 0,int 0,.list true []] [];simp[Row,Tr]))) (by simp) kd_25 (by simp) (by simp) (by simp[srcOf]) (by simp[-one1,o1x]) (by simpa using hb12) ?_
    rintro v217 H213 n214 sp hfr215 hle216
    replace sp:Sep H213 n214 [oS v217 l13,oN (.arr (n5+2,18) len6.toNat 0 len6.toNat) l9] [(n5+1,7),(n1+1,6),(n1,3)]:=by refine Sep.ap el13 ?_;exact sp
    have m3_1:H213 (n1,3)=some ⟨6,[bC false b]⟩:=(hfr215 _ (by simp)).trans (by simp[hh,m3_1,m6_2,Heap.get_set])
    have m6_2:H213 (n1+1,6)=some ⟨6,[zB]⟩:=(hfr215 _ (by simp)).trans (by simp[hh,m3_1,m6_2,Heap.get_set])
    have m7_13:H213 (n5+1,7)=some ⟨6,[zB]⟩:=(hfr215 _ (by simp)).trans (by simp[hh,m3_1,m6_2,Heap.get_set])
    refine⟨(fun _=>⟨m3_1,m6_2,(Sep.sub sp.dr.dr (by simp +contextual))⟩),?_⟩
    have f220:=Sep.oc sp
    refine RunT.free (.agg [int b.roots,.arr (n5+2,18) len6.toNat 0 len6.toNat,.v (.slice none 0 0),int b.edges,v217,.v (.slice none 0 0)]) rfl rfl ⟨m3_1,m6_2,(Sep.sub sp.dr.dr (by simp +contextual))⟩ (fun H n hS=>by obtain⟨m3_1,m6_2,sp⟩:=hS;exact (by exact stepF_ok Ty_ok (by rw[stepF_loc];simp[hh,m3_1,m6_2,m7_13,f7,f220,-cellsA,-lenF,-one1,cAx,o1x]))) ?_
    refine⟨?_,trivial⟩
    have f227:=Sep.oc sp
    refine RunT.step (v:=.undef) Ty_ok rfl rfl (by simp[hh,m3_1,m6_2,m7_13,f7,f220,f227,-cellsA,-lenF,-one1,cAx,o1x]<;>first | exact⟨rfl,rfl⟩ | exact rfl) (fun hl=>absurd (hl.symm.trans (show lateC _ _ _=true by kernel_rfl)) (by decide)) ?_
    refine RunT.fin (by refine⟨v217,.arr (n5+2,18) len6.toNat 0 len6.toNat,n5+1,by simp[hh,m3_1,m6_2,m7_13,f7,f220,f227,-cellsA,-lenF,-one1,cAx,o1x],(Sep.setVar (w:=(n5+1,7)) sp (by simp))⟩)
   refine RunT.append0 (v:=(.arr (n5,21) 0 0 0)) (xv:=(.list false (b.outer.map strC))) Ty_ok (b.outer.map strC) rfl rfl (by simp[hh,m3_1,m6_2,f7,-lenF]) (by simp[hh,m3_1,m6_2,f7,-lenF]) (Sep.var (Sep.addEmpty (l:=[.c]) sp)) (by simp) kd_25 (by simp) (by simp) (by simp[srcOf]) (by simp[-one1,o1x]) (by simpa using hb12) ?_
   rintro v232 H228 n229 sp hfr230 hle231
   replace sp:Sep H228 n229 [oS v232 l13] [(n5+1,7),(n1+1,6),(n1,3)]:=by refine Sep.ap el13 ?_;exact sp
   have m3_1:H228 (n1,3)=some ⟨6,[bC false b]⟩:=(hfr230 _ (by simp)).trans (by simp[hh,m3_1,m6_2,Heap.get_set])
   have m6_2:H228 (n1+1,6)=some ⟨6,[zB]⟩:=(hfr230 _ (by simp)).trans (by simp[hh,m3_1,m6_2,Heap.get_set])
   have m7_13:H228 (n5+1,7)=some ⟨6,[zB]⟩:=(hfr230 _ (by simp)).trans (by simp[hh,m3_1,m6_2,Heap.get_set])
   refine⟨(fun _=>⟨m3_1,m6_2,(Sep.sub sp.dr (by simp +contextual))⟩),?_⟩
   refine⟨?_,trivial⟩
   refine RunT.step (v:=.arr (n229,18) len6.toNat 0 len6.toNat) Ty_ok rfl rfl (by simp[hh,m3_1,m6_2,m7_13,f7,hb8,-lenF]<;>first | exact⟨rfl,rfl⟩ | exact rfl) (fun _=>by refine⟨?_,?_,(Sep.sub (Sep.dr (Sep.dr (show Sep _ _ [oN (.arr (n229,18) len6.toNat 0 len6.toNat) l9,oS v232 l13] [(n5+1,7),(n1+1,6),(n1,3)] from (Sep.addRepE (z:=[int 0,int 0,.v (.slice none 0 0)]) (f:=(GNode.cells true)) (k:=len6.toNat) el9 sp (fun H=>by show Row H [.c,.c,.s [.c]] [int 0,int 0,.v (.slice none 0 0)] [int 0,int 0,.list true []] [];simp[Row,Tr]))))) (by simp +contextual))⟩<;>simp[hh,m3_1,m6_2,m7_13,f7,Heap.get_set,-lenF]) ?_
   have f241:=Sep.oc sp
   refine RunT.free (.agg [int b.roots,.arr (n229,18) len6.toNat 0 len6.toNat,.v (.slice none 0 0),int b.edges,v232,.v (.slice none 0 0)]) rfl rfl (by refine⟨?_,?_,(Sep.sub (Sep.dr (Sep.dr (show Sep _ _ [oN (.arr (n229,18) len6.toNat 0 len6.toNat) l9,oS v232 l13] [(n5+1,7),(n1+1,6),(n1,3)] from (Sep.addRepE (z:=[int 0,int 0,.v (.slice none 0 0)]) (f:=(GNode.cells true)) (k:=len6.toNat) el9 sp (fun H=>by show Row H [.c,.c,.s [.c]] [int 0,int 0,.v (.slice none 0 0)] [int 0,int 0,.list true []] [];simp[Row,Tr]))))) (by simp +contextual))⟩<;>simp[hh,m3_1,m6_2,m7_13,f7,f241,Heap.get_set,-cellsA,-lenF,-one1,cAx,o1x]) (fun H n hS=>by obtain⟨m3_1,m6_2,sp⟩:=hS;exact (by exact stepF_ok Ty_ok (by rw[stepF_loc];simp[hh,m3_1,m6_2,m7_13,f7,f241,-cellsA,-lenF,-one1,cAx,o1x]))) ?_
   refine⟨?_,trivial⟩
   have f248:=Sep.oc sp
   refine RunT.step (v:=.undef) Ty_ok rfl rfl (by simp[hh,m3_1,m6_2,m7_13,f7,f241,f248,-cellsA,-lenF,-one1,cAx,o1x]<;>first | exact⟨rfl,rfl⟩ | exact rfl) (fun hl=>absurd (hl.symm.trans (show lateC _ _ _=true by kernel_rfl)) (by decide)) ?_
   refine RunT.fin (by refine⟨v232,.arr (n229,18) len6.toNat 0 len6.toNat,n5+1,by simp[hh,m3_1,m6_2,m7_13,f7,f241,f248,-cellsA,-lenF,-one1,cAx,o1x],(Sep.f1 (Sep.setVar (w:=(n5+1,7)) (Sep.addRepE (z:=[int 0,int 0,.v (.slice none 0 0)]) (f:=(GNode.cells true)) (k:=len6.toNat) el9 sp (fun H=>by show Row H [.c,.c,.s [.c]] [int 0,int 0,.v (.slice none 0 0)] [int 0,int 0,.list true []] [];simp[Row,Tr])) (by simp)))⟩)
  refine RunT.step (v:=pA n5 7) Ty_ok rfl rfl (by simp[hh,m3_1,m6_2,f7,-lenF]<;>first | exact⟨rfl,rfl⟩ | exact rfl) (fun _=>by refine⟨?_,?_,(Sep.sub sp.var (by simp +contextual))⟩<;>simp[hh,m3_1,m6_2,f7,Heap.get_set,-lenF]) ?_
  refine⟨?_,?_,trivial⟩
  ·refine RunT.step (v:=.arr (n5+1,18) len6.toNat 0 len6.toNat) Ty_ok rfl rfl (by simp[hh,m3_1,m6_2,f7,hb8,-lenF]<;>first | exact⟨rfl,rfl⟩ | exact rfl) (fun _=>by refine⟨?_,?_,(Sep.sub (Sep.dr (show Sep _ _ [oN (.arr (n5+1,18) len6.toNat 0 len6.toNat) l9] [(n5,7),(n1+1,6),(n1,3)] from (Sep.addRepE (z:=[int 0,int 0,.v (.slice none 0 0)]) (f:=(GNode.cells true)) (k:=len6.toNat) el9 sp.var (fun H=>by show Row H [.c,.c,.s [.c]] [int 0,int 0,.v (.slice none 0 0)] [int 0,int 0,.list true []] [];simp[Row,Tr])))) (by simp +contextual))⟩<;>simp[hh,m3_1,m6_2,f7,Heap.get_set,-lenF]) ?_
   refine⟨?_,trivial⟩
   refine RunT.step (v:=.arr (n5+2,21) 0 0 0) Ty_ok rfl rfl (by simp[hh,m3_1,m6_2,f7,-lenF]<;>first | exact⟨rfl,rfl⟩ | exact rfl) (fun _=>by refine⟨?_,?_,(Sep.sub (Sep.dr (Sep.dr (show Sep _ _ [oS (.arr (n5+2,21) 0 0 0) ([]:List Str),oN (.arr (n5+1,18) len6.toNat 0 len6.toNat) l9] [(n5,7),(n1+1,6),(n1,3)] from (Sep.addEmpty (l:=[.c]) (Sep.addRepE (z:=[int 0,int 0,.v (.slice none 0 0)]) (f:=(GNode.cells true)) (k:=len6.toNat) el9 sp.var (fun H=>by show Row H [.c,.c,.s [.c]] [int 0,int 0,.v (.slice none 0 0)] [int 0,int 0,.list true []] [];simp[Row,Tr])))))) (by simp +contextual))⟩<;>simp[hh,m3_1,m6_2,f7,Heap.get_set,-lenF]) ?_
   refine⟨?_,trivial⟩
   refine RunT.append0 (v:=(.arr (n5+2,21) 0 0 0)) (xv:=(.list false (b.outer.map strC))) Ty_ok (b.outer.map strC) rfl rfl (by simp[hh,m3_1,m6_2,f7,-lenF]) (by simp[hh,m3_1,m6_2,f7,-lenF]) (Sep.addEmpty (l:=[.c]) (Sep.addRepE (z:=[int 0,int 0,.v (.slice none 0 0)]) (f:=(GNode.cells true)) (k:=len6.toNat) el9 sp.var (fun H=>by show Row H [.c,.c,.s [.c]] [int 0,int 0,.v (.slice none 0 0)] [int 0,int 0,.list true []] [];simp[Row,Tr]))) (by simp) kd_25 (by simp) (by simp) (by simp[srcOf]) (by simp[-one1,o1x]) (by simpa using hb12) ?_
   rintro v271 H267 n268 sp hfr269 hle270
   replace sp:Sep H267 n268 [oS v271 l13,oN (.arr (n5+1,18) len6.toNat 0 len6.toNat) l9] [(n5,7),(n1+1,6),(n1,3)]:=by refine Sep.ap el13 ?_;exact sp
   have m3_1:H267 (n1,3)=some ⟨6,[bC false b]⟩:=(hfr269 _ (by simp)).trans (by simp[hh,m3_1,m6_2,Heap.get_set])
   have m6_2:H267 (n1+1,6)=some ⟨6,[zB]⟩:=(hfr269 _ (by simp)).trans (by simp[hh,m3_1,m6_2,Heap.get_set])
   have m7_13:H267 (n5,7)=some ⟨6,[zB]⟩:=(hfr269 _ (by simp)).trans (by simp[hh,m3_1,m6_2,Heap.get_set])
   refine⟨(fun _=>⟨m3_1,m6_2,(Sep.sub sp.dr.dr (by simp +contextual))⟩),?_⟩
   have f274:=Sep.oc sp
   refine RunT.free (.agg [int b.roots,.arr (n5+1,18) len6.toNat 0 len6.toNat,.v (.slice none 0 0),int b.edges,v271,.v (.slice none 0 0)]) rfl rfl ⟨m3_1,m6_2,(Sep.sub sp.dr.dr (by simp +contextual))⟩ (fun H n hS=>by obtain⟨m3_1,m6_2,sp⟩:=hS;exact (by exact stepF_ok Ty_ok (by rw[stepF_loc];simp[hh,m3_1,m6_2,m7_13,f7,f274,-cellsA,-lenF,-one1,cAx,o1x]))) ?_
   refine⟨?_,trivial⟩
   have f281:=Sep.oc sp
   refine RunT.step (v:=.undef) Ty_ok rfl rfl (by simp[hh,m3_1,m6_2,m7_13,f7,f274,f281,-cellsA,-lenF,-one1,cAx,o1x]<;>first | exact⟨rfl,rfl⟩ | exact rfl) (fun hl=>absurd (hl.symm.trans (show lateC _ _ _=true by kernel_rfl)) (by decide)) ?_
   refine RunT.fin (by refine⟨v271,.arr (n5+1,18) len6.toNat 0 len6.toNat,n5,by simp[hh,m3_1,m6_2,m7_13,f7,f274,f281,-cellsA,-lenF,-one1,cAx,o1x],(Sep.setVar (w:=(n5,7)) sp (by simp))⟩)
  refine RunT.step (v:=.arr (n5+1,21) 0 0 0) Ty_ok rfl rfl (by simp[hh,m3_1,m6_2,f7,-lenF]<;>first | exact⟨rfl,rfl⟩ | exact rfl) (fun _=>by refine⟨?_,?_,(Sep.sub (Sep.dr (show Sep _ _ [oS (.arr (n5+1,21) 0 0 0) ([]:List Str)] [(n5,7),(n1+1,6),(n1,3)] from (Sep.addEmpty (l:=[.c]) sp.var))) (by simp +contextual))⟩<;>simp[hh,m3_1,m6_2,f7,Heap.get_set,-lenF]) ?_
  refine⟨?_,?_,trivial⟩
  ·refine RunT.step (v:=.arr (n5+2,18) len6.toNat 0 len6.toNat) Ty_ok rfl rfl (by simp[hh,m3_1,m6_2,f7,hb8,-lenF]<;>first | exact⟨rfl,rfl⟩ | exact rfl) (fun _=>by refine⟨?_,?_,(Sep.sub (Sep.dr (Sep.dr (show Sep _ _ [oN (.arr (n5+2,18) len6.toNat 0 len6.toNat) l9,oS (.arr (n5+1,21) 0 0 0) ([]:List Str)] [(n5,7),(n1+1,6),(n1,3)] from (Sep.addRepE (z:=[int 0,int 0,.v (.slice none 0 0)]) (f:=(GNode.cells true)) (k:=len6.toNat) el9 (Sep.addEmpty (l:=[.c]) sp.var) (fun H=>by show Row H [.c,.c,.s [.c]] [int 0,int 0,.v (.slice none 0 0)] [int 0,int 0,.list true []] [];simp[Row,Tr]))))) (by simp +contextual))⟩<;>simp[hh,m3_1,m6_2,f7,Heap.get_set,-lenF]) ?_
   refine⟨?_,trivial⟩
   refine RunT.append0 (v:=(.arr (n5+1,21) 0 0 0)) (xv:=(.list false (b.outer.map strC))) Ty_ok (b.outer.map strC) rfl rfl (by simp[hh,m3_1,m6_2,f7,-lenF]) (by simp[hh,m3_1,m6_2,f7,-lenF]) (Sep.f1 (Sep.addRepE (z:=[int 0,int 0,.v (.slice none 0 0)]) (f:=(GNode.cells true)) (k:=len6.toNat) el9 (Sep.addEmpty (l:=[.c]) sp.var) (fun H=>by show Row H [.c,.c,.s [.c]] [int 0,int 0,.v (.slice none 0 0)] [int 0,int 0,.list true []] [];simp[Row,Tr]))) (by simp) kd_25 (by simp) (by simp) (by simp[srcOf]) (by simp[-one1,o1x]) (by simpa using hb12) ?_
   rintro v298 H294 n295 sp hfr296 hle297
   replace sp:Sep H294 n295 [oS v298 l13,oN (.arr (n5+2,18) len6.toNat 0 len6.toNat) l9] [(n5,7),(n1+1,6),(n1,3)]:=by refine Sep.ap el13 ?_;exact sp
   have m3_1:H294 (n1,3)=some ⟨6,[bC false b]⟩:=(hfr296 _ (by simp)).trans (by simp[hh,m3_1,m6_2,Heap.get_set])
   have m6_2:H294 (n1+1,6)=some ⟨6,[zB]⟩:=(hfr296 _ (by simp)).trans (by simp[hh,m3_1,m6_2,Heap.get_set])
   have m7_13:H294 (n5,7)=some ⟨6,[zB]⟩:=(hfr296 _ (by simp)).trans (by simp[hh,m3_1,m6_2,Heap.get_set])
   refine⟨(fun _=>⟨m3_1,m6_2,(Sep.sub sp.dr.dr (by simp +contextual))⟩),?_⟩
   have f301:=Sep.oc sp
   refine RunT.free (.agg [int b.roots,.arr (n5+2,18) len6.toNat 0 len6.toNat,.v (.slice none 0 0),int b.edges,v298,.v (.slice none 0 0)]) rfl rfl ⟨m3_1,m6_2,(Sep.sub sp.dr.dr (by simp +contextual))⟩ (fun H n hS=>by obtain⟨m3_1,m6_2,sp⟩:=hS;exact (by exact stepF_ok Ty_ok (by rw[stepF_loc];simp[hh,m3_1,m6_2,m7_13,f7,f301,-cellsA,-lenF,-one1,cAx,o1x]))) ?_
   refine⟨?_,trivial⟩
   have f308:=Sep.oc sp
   refine RunT.step (v:=.undef) Ty_ok rfl rfl (by simp[hh,m3_1,m6_2,m7_13,f7,f301,f308,-cellsA,-lenF,-one1,cAx,o1x]<;>first | exact⟨rfl,rfl⟩ | exact rfl) (fun hl=>absurd (hl.symm.trans (show lateC _ _ _=true by kernel_rfl)) (by decide)) ?_
   refine RunT.fin (by refine⟨v298,.arr (n5+2,18) len6.toNat 0 len6.toNat,n5,by simp[hh,m3_1,m6_2,m7_13,f7,f301,f308,-cellsA,-lenF,-one1,cAx,o1x],(Sep.setVar (w:=(n5,7)) sp (by simp))⟩)
  refine RunT.append0 (v:=(.arr (n5+1,21) 0 0 0)) (xv:=(.list false (b.outer.map strC))) Ty_ok (b.outer.map strC) rfl rfl (by simp[hh,m3_1,m6_2,f7,-lenF]) (by simp[hh,m3_1,m6_2,f7,-lenF]) (Sep.addEmpty (l:=[.c]) sp.var) (by simp) kd_25 (by simp) (by simp) (by simp[srcOf]) (by simp[-one1,o1x]) (by simpa using hb12) ?_
  rintro v313 H309 n310 sp hfr311 hle312
  replace sp:Sep H309 n310 [oS v313 l13] [(n5,7),(n1+1,6),(n1,3)]:=by refine Sep.ap el13 ?_;exact sp
  have m3_1:H309 (n1,3)=some ⟨6,[bC false b]⟩:=(hfr311 _ (by simp)).trans (by simp[hh,m3_1,m6_2,Heap.get_set])
  have m6_2:H309 (n1+1,6)=some ⟨6,[zB]⟩:=(hfr311 _ (by simp)).trans (by simp[hh,m3_1,m6_2,Heap.get_set])
  have m7_13:H309 (n5,7)=some ⟨6,[zB]⟩:=(hfr311 _ (by simp)).trans (by simp[hh,m3_1,m6_2,Heap.get_set])
  refine⟨(fun _=>⟨m3_1,m6_2,(Sep.sub sp.dr (by simp +contextual))⟩),?_⟩
  refine⟨?_,trivial⟩
  refine RunT.step (v:=.arr (n310,18) len6.toNat 0 len6.toNat) Ty_ok rfl rfl (by simp[hh,m3_1,m6_2,m7_13,f7,hb8,-lenF]<;>first | exact⟨rfl,rfl⟩ | exact rfl) (fun _=>by refine⟨?_,?_,(Sep.sub (Sep.dr (Sep.dr (show Sep _ _ [oN (.arr (n310,18) len6.toNat 0 len6.toNat) l9,oS v313 l13] [(n5,7),(n1+1,6),(n1,3)] from (Sep.addRepE (z:=[int 0,int 0,.v (.slice none 0 0)]) (f:=(GNode.cells true)) (k:=len6.toNat) el9 sp (fun H=>by show Row H [.c,.c,.s [.c]] [int 0,int 0,.v (.slice none 0 0)] [int 0,int 0,.list true []] [];simp[Row,Tr]))))) (by simp +contextual))⟩<;>simp[hh,m3_1,m6_2,m7_13,f7,Heap.get_set,-lenF]) ?_
  have f322:=Sep.oc sp
  refine RunT.free (.agg [int b.roots,.arr (n310,18) len6.toNat 0 len6.toNat,.v (.slice none 0 0),int b.edges,v313,.v (.slice none 0 0)]) rfl rfl (by refine⟨?_,?_,(Sep.sub (Sep.dr (Sep.dr (show Sep _ _ [oN (.arr (n310,18) len6.toNat 0 len6.toNat) l9,oS v313 l13] [(n5,7),(n1+1,6),(n1,3)] from (Sep.addRepE (z:=[int 0,int 0,.v (.slice none 0 0)]) (f:=(GNode.cells true)) (k:=len6.toNat) el9 sp (fun H=>by show Row H [.c,.c,.s [.c]] [int 0,int 0,.v (.slice none 0 0)] [int 0,int 0,.list true []] [];simp[Row,Tr]))))) (by simp +contextual))⟩<;>simp[hh,m3_1,m6_2,m7_13,f7,f322,Heap.get_set,-cellsA,-lenF,-one1,cAx,o1x]) (fun H n hS=>by obtain⟨m3_1,m6_2,sp⟩:=hS;exact (by exact stepF_ok Ty_ok (by rw[stepF_loc];simp[hh,m3_1,m6_2,m7_13,f7,f322,-cellsA,-lenF,-one1,cAx,o1x]))) ?_
  refine⟨?_,trivial⟩
  have f329:=Sep.oc sp
  refine RunT.step (v:=.undef) Ty_ok rfl rfl (by simp[hh,m3_1,m6_2,m7_13,f7,f322,f329,-cellsA,-lenF,-one1,cAx,o1x]<;>first | exact⟨rfl,rfl⟩ | exact rfl) (fun hl=>absurd (hl.symm.trans (show lateC _ _ _=true by kernel_rfl)) (by decide)) ?_
  refine RunT.fin (by refine⟨v313,.arr (n310,18) len6.toNat 0 len6.toNat,n5,by simp[hh,m3_1,m6_2,m7_13,f7,f322,f329,-cellsA,-lenF,-one1,cAx,o1x],(Sep.f1 (Sep.setVar (w:=(n5,7)) (Sep.addRepE (z:=[int 0,int 0,.v (.slice none 0 0)]) (f:=(GNode.cells true)) (k:=len6.toNat) el9 sp (fun H=>by show Row H [.c,.c,.s [.c]] [int 0,int 0,.v (.slice none 0 0)] [int 0,int 0,.list true []] [];simp[Row,Tr])) (by simp)))⟩)
 clear hh m3_1 m6_2
 rintro ρ H n18 ⟨v15,v16,a17,⟨hh,m3_1,m6_2,m7_13⟩,sp⟩
 refine Runs.seq ?_
 refine zE fun k' hk'=>?_
 simp[hh,m3_1,m6_2,m7_13]
 apply hk'
 refine Runs.block ?_
 refine Runs.loopW h (fun (sJ:Int × (List GNode)) ρ H n=>match sJ with | (i339,l340)=>∃ (v341 v342:AVal),((ρ 1 = .list false (to_.map intC)∧ρ 2 = .list false (edges.map intC)∧ρ 3=pA n1 3∧ρ 6=pA (n1+1) 6∧ρ 7 = .ptr (a17,7) 1 0 0∧ρ 8=int i339)∧H (n1,3)=some ⟨6,[bC false b]⟩∧H (n1+1,6)=some ⟨6,[zB]⟩∧H (a17,7)=some ⟨6,[[int b.roots,v342,.v (.slice none 0 0),int b.edges,v341,.v (.slice none 0 0)]]⟩)∧Sep H n [oS v341 l13,oN v342 l340] [(a17,7),(n1+1,6),(n1,3)]) (by refine⟨v15,v16,by simp[hh,m3_1,m6_2,m7_13],sp⟩) ?_
 clear hh m3_1 m6_2 m7_13
 rintro⟨i339,l340⟩ ρ H n343 K h ⟨v341,v342,⟨hh,m3_1,m6_2,m7_13⟩,sp⟩ IH344
 refine Runs.seq ?_
 refine zE fun k' hk'=>?_
 obtain⟨len346,elen346,h⟩:=atm h
 have f347:=fun H=>len_list (H:=H) (fr:=false) (f:=(GNode.cells false)) kd_34 elen346
 obtain⟨c348,ec348,h⟩:=atm h
 have f349:=ib_lss (k:=.i64) ec348
 simp[hh,m3_1,m6_2,m7_13,f347,f349,-intBin,-lenF]
 apply hk'
 refine Runs.ite (b:=c348) (by simp[hh,m3_1,m6_2,m7_13]) (fun dc348=>?_) (fun dc348=>?_)
 ·replace h:=h.1 dc348
  refine Runs.skip ?_
  refine Runs.seq ?_
  refine Runs.block ?_
  refine zE fun k' hk'=>?_
  simp[hh,m3_1,m6_2,m7_13,dc348]
  apply hk'
  refine Runs.cut (fun ρ H n=>∃ (v351 v352 v353:AVal),((ρ 1 = .list false (to_.map intC)∧ρ 2 = .list false (edges.map intC)∧ρ 3=pA n1 3∧ρ 6=pA (n1+1) 6∧ρ 7 = .ptr (a17,7) 1 0 0∧ρ 8=int i339∧ρ 9=v351)∧H (n1,3)=some ⟨6,[bC false b]⟩∧H (n1+1,6)=some ⟨6,[zB]⟩∧H (a17,7)=some ⟨6,[[int b.roots,v353,.v (.slice none 0 0),int b.edges,v352,.v (.slice none 0 0)]]⟩)∧Sep H n [oI v351 ([]:List Int),oS v352 l13,oN v353 l340] [(a17,7),(n1+1,6),(n1,3)]) (by refine⟨.arr (n343,33) 0 0 0,v341,v342,by simp[hh,m3_1,m6_2,m7_13,dc348],(Sep.addEmpty (l:=[.c]) sp)⟩) ?_
  clear hh m3_1 m6_2 m7_13
  rintro ρ H n354 ⟨v351,v352,v353,⟨hh,m3_1,m6_2,m7_13⟩,sp⟩
  refine Runs.seq ?_
  refine zE fun k' hk'=>?_
  simp[hh,m3_1,m6_2,m7_13]
  apply hk'
  refine Runs.block ?_
  refine Runs.loopW h (fun (sJ:Int × (List Int)) ρ H n=>match sJ with | (k366,l367)=>∃ (v368 v369 v370:AVal),((ρ 1 = .list false (to_.map intC)∧ρ 2 = .list false (edges.map intC)∧ρ 3=pA n1 3∧ρ 6=pA (n1+1) 6∧ρ 7 = .ptr (a17,7) 1 0 0∧ρ 8=int i339∧ρ 9=v368∧ρ 10=int k366)∧H (n1,3)=some ⟨6,[bC false b]⟩∧H (n1+1,6)=some ⟨6,[zB]⟩∧H (a17,7)=some ⟨6,[[int b.roots,v370,.v (.slice none 0 0),int b.edges,v369,.v (.slice none 0 0)]]⟩)∧Sep H n [oI v368 l367,oS v369 l13,oN v370 l340] [(a17,7),(n1+1,6),(n1,3)]) (by refine⟨v351,v352,v353,by simp[hh,m3_1,m6_2,m7_13],sp⟩) ?_
  clear hh m3_1 m6_2 m7_13
  rintro⟨k366,l367⟩ ρ H n371 K h ⟨v368,v369,v370,⟨hh,m3_1,m6_2,m7_13⟩,sp⟩ IH372
  refine Runs.seq ?_
  refine zE fun k' hk'=>?_
  obtain⟨hb374,h⟩:=h
  obtain⟨x375,ex375,h⟩:=atm h
  have f376:=fun H=>ix_list (H:=H) (fr:=false) (f:=(GNode.cells false)) (k:=.i64) kd_34 (fun _=>rfl) hb374 ex375
  obtain⟨len377,elen377,h⟩:=atm h
  have f378:=fun H=>len_list (H:=H) (fr:=false) (f:=intC) kd_24 elen377
  obtain⟨c379,ec379,h⟩:=atm h
  have f380:=ib_lss (k:=.i64) ec379
  simp[hh,m3_1,m6_2,m7_13,f376,f378,f380,-indexAddrF,-intBin,-lenF]
  apply hk'
  refine Runs.ite (b:=c379) (by simp[hh,m3_1,m6_2,m7_13]) (fun dc379=>?_) (fun dc379=>?_)
  ·replace h:=h.1 dc379
   refine Runs.skip ?_
   refine Runs.seq ?_
   refine Runs.block ?_
   refine Runs.evalDE Ty_ok kindOp_ok draws (by decide) (by kernel_rfl) fun k' hk'=>?_
   obtain⟨hb381,h⟩:=h
   obtain⟨x382,ex382,h⟩:=atm h
   have hq383:=ex375.trans ex382.symm
   subst hq383
   have f384:=fun H=>ix_list (H:=H) (fr:=false) (f:=(GNode.cells false)) (k:=.i64) kd_34 (fun _=>rfl) hb381 ex375
   obtain⟨hb385,h⟩:=h
   obtain⟨x386,ex386,h⟩:=atm h
   have f387:=fun H=>ix_list (H:=H) (fr:=false) (f:=intC) (k:=.i64) kd_24 (fun _=>rfl) hb385 ex386
   obtain⟨hb388,h⟩:=h
   obtain⟨r389,er389,h⟩:=atm h
   simp[hh,m3_1,m6_2,m7_13,f384,f387,dc379,-indexAddrF]
   refine RunDK.callA Ty_ok kindOp_ok (l2Tie_ok b x386 edges hb388) e132 (.cons (argB false b) (.cons (.v _ _ _) (.cons (argI false edges) .nil))) (by decide) rfl (by simp[hh,m3_1,m6_2,m7_13,f384,f387,dc379,-indexAddrF]) ?_
   rw[← er389]
   obtain⟨hb390,h⟩:=h
   obtain⟨l391,el391,h⟩:=atm h
   simp[hh,m3_1,m6_2,m7_13,f384,f387,dc379,-indexAddrF,-appendF]
   refine bindD_append [] [oS v369 l13,oN v370 l340] [[int r389]] [intC r389] sp kd_24 (by simp) (by simp) (by simp) (by simp[-one1,o1x]) (rows_one (Fill.v _ Fill.nil)) (by simp) (by simpa using hb390) ?_
   rintro v392 H393 n394 sp hfr395 hle396
   replace sp:Sep H393 n394 [oI v392 l391,oS v369 l13,oN v370 l340] [(a17,7),(n1+1,6),(n1,3)]:=Sep.ap el391 sp
   have m3_1:=(hfr395 _ (by simp)).trans m3_1
   have m6_2:=(hfr395 _ (by simp)).trans m6_2
   have m7_13:=(hfr395 _ (by simp)).trans m7_13
   simp[hh,m3_1,m6_2,m7_13,f384,f387,dc379,-indexAddrF]
   apply hk'
   refine Runs.cut (fun ρ H n=>∃ (v398 v399 v400:AVal),((ρ 1 = .list false (to_.map intC)∧ρ 2 = .list false (edges.map intC)∧ρ 3=pA n1 3∧ρ 6=pA (n1+1) 6∧ρ 7 = .ptr (a17,7) 1 0 0∧ρ 8=int i339∧ρ 9=v398∧ρ 10=int k366)∧H (n1,3)=some ⟨6,[bC false b]⟩∧H (n1+1,6)=some ⟨6,[zB]⟩∧H (a17,7)=some ⟨6,[[int b.roots,v400,.v (.slice none 0 0),int b.edges,v399,.v (.slice none 0 0)]]⟩)∧Sep H n [oI v398 l391,oS v399 l13,oN v400 l340] [(a17,7),(n1+1,6),(n1,3)]) (by refine⟨v392,v369,v370,by simp[hh,m3_1,m6_2,m7_13,f384,f387,dc379,-indexAddrF],sp⟩) ?_
   clear hh m3_1 m6_2 m7_13
   rintro ρ H n401 ⟨v398,v399,v400,⟨hh,m3_1,m6_2,m7_13⟩,sp⟩
   refine Runs.inBlock ?_
   refine zF fun k' hk'=>?_
   obtain⟨hb402,h⟩:=h
   obtain⟨v403,ev403,h⟩:=atm h
   have f404:=ib_add hb402 ev403
   simp[hh,m3_1,m6_2,m7_13,f404,-intBin]
   apply hk'
   refine IH372 (v403,l391) _ _ _ h (by refine⟨v398,v399,v400,by simp[hh,m3_1,m6_2,m7_13],sp⟩)
  replace h:=h.2 dc379
  refine Runs.exit rfl ?_
  refine Runs.evalDE Ty_ok kindOp_ok draws (by decide) (by kernel_rfl) fun k' hk'=>?_
  obtain⟨hb405,h⟩:=h
  obtain⟨x406,ex406,h⟩:=atm h
  have f407:=fun H=>ix_list (H:=H) (fr:=false) (f:=intC) (k:=.i64) kd_24 (fun _=>rfl) hb405 ex406
  obtain⟨hb408,h⟩:=h
  obtain⟨x409,ex409,h⟩:=atm h
  have hq410:=ex375.trans ex409.symm
  subst hq410
  have f411:=fun H=>ix_list (H:=H) (fr:=false) (f:=(GNode.cells false)) (k:=.i64) kd_34 (fun _=>rfl) hb408 ex375
  obtain⟨hb412,h⟩:=h
  obtain⟨x413,ex413,h⟩:=atm h
  have hq414:=ex375.trans ex413.symm
  subst hq414
  have f415:=fun H=>ix_list (H:=H) (fr:=false) (f:=(GNode.cells false)) (k:=.i64) kd_34 (fun _=>rfl) hb412 ex375
  obtain⟨hb416,h⟩:=h
  obtain⟨r417,er417,h⟩:=atm h
  simp[hh,m3_1,m6_2,m7_13,f407,f411,f415,dc379,-indexAddrF]
  refine RunDK.callA Ty_ok kindOp_ok (l2Move_ok x375.parent to_ hb416) e133 (.cons (.v _ _ _) (.cons (argI false to_) .nil)) (by decide) rfl (by simp[hh,m3_1,m6_2,m7_13,f407,f411,f415,dc379,-indexAddrF]) ?_
  rw[← er417]
  have f418:=Sep.oc sp
  obtain⟨hb419,h⟩:=h
  obtain⟨x420,ex420,h⟩:=atm h
  obtain⟨id421,els422,row423,W424,hq425,mo426,moL427,moR428,hrl429,hW430,hsub431,hni432,spr433,hcl434⟩:=Sep.rowF (q:=x406.toNat) (f:=(GNode.cells true)) sp.f2 hb419 ex420 rfl
  subst hq425
  obtain⟨c435,c436,c437,hq425⟩:=len3 (by simpa using hrl429)
  subst hq425
  replace spr433:Sep _ _ [(.c,c435,int x420.control),(.c,c436,int x420.parent),(.s [.c],c437,.list true (x420.links.map intC))] W424:=spr433
  obtain rfl:=Sep.cAt (K1:=[]) (K2:=[(.c,c436,int x420.parent),(.s [.c],c437,.list true (x420.links.map intC))]) spr433
  obtain rfl:=Sep.cAt (K1:=[(.c,int x420.control,int x420.control)]) (K2:=[(.s [.c],c437,.list true (x420.links.map intC))]) spr433
  have f438:=ix_arr (k:=.i64) (off:=0) (len:=l340.length) kd_34 mo426 moL427 rfl hb419
  simp at hni432
  obtain⟨l439,el439,h⟩:=atm h
  simp[hh,m3_1,m6_2,m7_13,mo426,moL427,moR428,hni432,f407,f411,f415,f418,f438,dc379,-cellsA,-indexAddrF,-one1,cAx,o1x,-storeF]
  refine bindD_store (q:=x406.toNat) (news:=(GNode.cells true) (GNode.mk x375.control r417 l367)) [oI v368 l367] [oS v369 l13] sp.f2 (by simp) (by simp;omega) (by simp) (by simp[-one1,o1x,Sep.one1 sp.f2.dr]) (Fill.v _ (Fill.v _ (Fill.own Fill.nil))) ?_
  rintro H440 sp hfr441
  replace sp:Sep H440 n371 [oN (.arr id421 l340.length 0 l340.length) l439,oS v369 l13] [(a17,7),(n1+1,6),(n1,3)]:=Sep.st el439 sp
  have m3_1:=(hfr441 _ (by simp)).trans m3_1
  have m6_2:=(hfr441 _ (by simp)).trans m6_2
  have m7_13:=(hfr441 _ (by simp)).trans m7_13
  simp[hh,m3_1,m6_2,m7_13,hni432,f407,f411,f415,f418,f438,dc379,-cellsA,-indexAddrF,-one1,cAx,o1x]
  apply hk'
  refine Runs.cut (fun ρ H n=>∃ (v443 v444:AVal),((ρ 1 = .list false (to_.map intC)∧ρ 2 = .list false (edges.map intC)∧ρ 3=pA n1 3∧ρ 6=pA (n1+1) 6∧ρ 7 = .ptr (a17,7) 1 0 0∧ρ 8=int i339)∧H (n1,3)=some ⟨6,[bC false b]⟩∧H (n1+1,6)=some ⟨6,[zB]⟩∧H (a17,7)=some ⟨6,[[int b.roots,v443,.v (.slice none 0 0),int b.edges,v444,.v (.slice none 0 0)]]⟩)∧Sep H n [oN v443 l439,oS v444 l13] [(a17,7),(n1+1,6),(n1,3)]) (by refine⟨.arr id421 l340.length 0 l340.length,v369,by simp[hh,m3_1,m6_2,m7_13,hni432,f407,f411,f415,f418,f438,dc379,-cellsA,-indexAddrF,-one1,cAx,o1x],sp⟩) ?_
  clear hh m3_1 m6_2 m7_13 hni432
  rintro ρ H n445 ⟨v443,v444,⟨hh,m3_1,m6_2,m7_13⟩,sp⟩
  refine Runs.inBlock ?_
  refine zF fun k' hk'=>?_
  obtain⟨hb446,h⟩:=h
  obtain⟨v447,ev447,h⟩:=atm h
  have f448:=ib_add hb446 ev447
  simp[hh,m3_1,m6_2,m7_13,f448,-intBin]
  apply hk'
  refine IH344 (v447,l439) _ _ _ h (by refine⟨v444,v443,by simp[hh,m3_1,m6_2,m7_13],sp.f1⟩)
 replace h:=h.2 dc348
 refine Runs.exit rfl ?_
 refine Runs.seq ?_
 refine zE fun k' hk'=>?_
 simp[hh,m3_1,m6_2,m7_13,dc348]
 apply hk'
 refine Runs.block ?_
 refine Runs.loopW h (fun (sJ:Int × (List Int)) ρ H n=>match sJ with | (i468,l469)=>∃ (v470 v471 v472 v473:AVal),((ρ 1 = .list false (to_.map intC)∧ρ 2 = .list false (edges.map intC)∧ρ 3=pA n1 3∧ρ 6=pA (n1+1) 6∧ρ 7 = .ptr (a17,7) 1 0 0∧ρ 11=int i468)∧H (n1,3)=some ⟨6,[bC false b]⟩∧H (n1+1,6)=some ⟨6,[zB]⟩∧H (a17,7)=some ⟨6,[[int b.roots,v473,v471,int b.edges,v472,v470]]⟩)∧Sep H n [oW v470 ([]:List Wire),oI v471 l469,oS v472 l13,oN v473 l340] [(a17,7),(n1+1,6),(n1,3)]) (by refine⟨.v (.slice none 0 0),.v (.slice none 0 0),v341,v342,by simp[hh,m3_1,m6_2,m7_13,dc348],(Sep.addNil (Sep.addNil sp))⟩) ?_
 clear hh m3_1 m6_2 m7_13
 rintro⟨i468,l469⟩ ρ H n474 K h ⟨v470,v471,v472,v473,⟨hh,m3_1,m6_2,m7_13⟩,sp⟩ IH475
 refine Runs.seq ?_
 refine zE fun k' hk'=>?_
 obtain⟨len477,elen477,h⟩:=atm h
 have f478:=fun H=>len_list (H:=H) (fr:=false) (f:=intC) kd_24 elen477
 obtain⟨c479,ec479,h⟩:=atm h
 have f480:=ib_lss (k:=.i64) ec479
 simp[hh,m3_1,m6_2,m7_13,f478,f480,-intBin,-lenF]
 apply hk'
 refine Runs.ite (b:=c479) (by simp[hh,m3_1,m6_2,m7_13]) (fun dc479=>?_) (fun dc479=>?_)
 ·replace h:=h.1 dc479
  refine Runs.skip ?_
  refine Runs.seq ?_
  refine Runs.block ?_
  refine Runs.evalDE Ty_ok kindOp_ok draws (by decide) (by kernel_rfl) fun k' hk'=>?_
  obtain⟨hb481,h⟩:=h
  obtain⟨x482,ex482,h⟩:=atm h
  have f483:=fun H=>ix_list (H:=H) (fr:=false) (f:=intC) (k:=.i64) kd_24 (fun _=>rfl) hb481 ex482
  obtain⟨hb484,h⟩:=h
  obtain⟨r485,er485,h⟩:=atm h
  simp[hh,m3_1,m6_2,m7_13,f483,dc479,-indexAddrF]
  refine RunDK.callA Ty_ok kindOp_ok (l2Move_ok x482 to_ hb484) e133 (.cons (.v _ _ _) (.cons (argI false to_) .nil)) (by decide) rfl (by simp[hh,m3_1,m6_2,m7_13,f483,dc479,-indexAddrF]) ?_
  rw[← er485]
  obtain⟨hb486,h⟩:=h
  obtain⟨l487,el487,h⟩:=atm h
  simp[hh,m3_1,m6_2,m7_13,f483,dc479,-indexAddrF,-appendF]
  refine bindD_append [] [oW v470 ([]:List Wire),oS v472 l13,oN v473 l340] [[int r485]] [intC r485] sp.f1 kd_24 (by simp) (by simp) (by simp) (by simp[-one1,o1x]) (rows_one (Fill.v _ Fill.nil)) (by simp) (by simpa using hb486) ?_
  rintro v488 H489 n490 sp hfr491 hle492
  replace sp:Sep H489 n490 [oI v488 l487,oW v470 ([]:List Wire),oS v472 l13,oN v473 l340] [(a17,7),(n1+1,6),(n1,3)]:=Sep.ap el487 sp
  have m3_1:=(hfr491 _ (by simp)).trans m3_1
  have m6_2:=(hfr491 _ (by simp)).trans m6_2
  have m7_13:=(hfr491 _ (by simp)).trans m7_13
  have f494:=Sep.oc sp
  simp[hh,m3_1,m6_2,m7_13,f483,f494,dc479,-cellsA,-indexAddrF,-one1,cAx,o1x]
  apply hk'
  refine Runs.cut (fun ρ H n=>∃ (v495 v496 v497 v498:AVal),((ρ 1 = .list false (to_.map intC)∧ρ 2 = .list false (edges.map intC)∧ρ 3=pA n1 3∧ρ 6=pA (n1+1) 6∧ρ 7 = .ptr (a17,7) 1 0 0∧ρ 11=int i468)∧H (n1,3)=some ⟨6,[bC false b]⟩∧H (n1+1,6)=some ⟨6,[zB]⟩∧H (a17,7)=some ⟨6,[[int b.roots,v498,v495,int b.edges,v497,v496]]⟩)∧Sep H n [oI v495 l487,oW v496 ([]:List Wire),oS v497 l13,oN v498 l340] [(a17,7),(n1+1,6),(n1,3)]) (by refine⟨v488,v470,v472,v473,by simp[hh,m3_1,m6_2,m7_13,f483,f494,dc479,-cellsA,-indexAddrF,-one1,cAx,o1x],(Sep.setVar (w:=(a17,7)) sp (by simp))⟩) ?_
  clear hh m3_1 m6_2 m7_13
  rintro ρ H n499 ⟨v495,v496,v497,v498,⟨hh,m3_1,m6_2,m7_13⟩,sp⟩
  refine Runs.inBlock ?_
  refine zF fun k' hk'=>?_
  obtain⟨hb500,h⟩:=h
  obtain⟨v501,ev501,h⟩:=atm h
  have f502:=ib_add hb500 ev501
  simp[hh,m3_1,m6_2,m7_13,f502,-intBin]
  apply hk'
  refine IH475 (v501,l487) _ _ _ h (by refine⟨v496,v495,v497,v498,by simp[hh,m3_1,m6_2,m7_13],sp.f1⟩)
 replace h:=h.2 dc479
 refine Runs.exit rfl ?_
 refine Runs.seq ?_
 refine zE fun k' hk'=>?_
 simp[hh,m3_1,m6_2,m7_13,dc479]
 apply hk'
 refine Runs.block ?_
 refine Runs.loopW h (fun (sJ:Int × (List Wire)) ρ H n=>match sJ with | (i516,l517)=>∃ (v518 v519 v520 v521:AVal),((ρ 2 = .list false (edges.map intC)∧ρ 3=pA n1 3∧ρ 6=pA (n1+1) 6∧ρ 7 = .ptr (a17,7) 1 0 0∧ρ 12=int i516)∧H (n1,3)=some ⟨6,[bC false b]⟩∧H (n1+1,6)=some ⟨6,[zB]⟩∧H (a17,7)=some ⟨6,[[int b.roots,v521,v519,int b.edges,v520,v518]]⟩)∧Sep H n [oW v518 l517,oI v519 l469,oS v520 l13,oN v521 l340] [(a17,7),(n1+1,6),(n1,3)]) (by refine⟨v470,v471,v472,v473,by simp[hh,m3_1,m6_2,m7_13,dc479],sp⟩) ?_
 clear hh m3_1 m6_2 m7_13
 rintro⟨i516,l517⟩ ρ H n522 K h ⟨v518,v519,v520,v521,⟨hh,m3_1,m6_2,m7_13⟩,sp⟩ IH523
 refine Runs.seq ?_
 refine zE fun k' hk'=>?_
 obtain⟨len525,elen525,h⟩:=atm h
 have f526:=fun H=>len_list (H:=H) (fr:=false) (f:=Wire.cells) kd_35 elen525
 obtain⟨c527,ec527,h⟩:=atm h
 have f528:=ib_lss (k:=.i64) ec527
 simp[hh,m3_1,m6_2,m7_13,f526,f528,-intBin,-lenF]
 apply hk'
 refine Runs.ite (b:=c527) (by simp[hh,m3_1,m6_2,m7_13]) (fun dc527=>?_) (fun dc527=>?_)
 ·replace h:=h.1 dc527
  refine Runs.skip ?_
  refine Runs.seq ?_
  refine Runs.block ?_
  refine Runs.evalDE Ty_ok kindOp_ok draws (by decide) (by kernel_rfl) fun k' hk'=>?_
  obtain⟨hb529,h⟩:=h
  obtain⟨x530,ex530,h⟩:=atm h
  have f531:=fun H=>ix_list (H:=H) (fr:=false) (f:=Wire.cells) (k:=.i64) kd_35 (fun _=>rfl) hb529 ex530
  obtain⟨hb532,h⟩:=h
  obtain⟨x533,ex533,h⟩:=atm h
  have hq534:=ex530.trans ex533.symm
  subst hq534
  have f535:=fun H=>ix_list (H:=H) (fr:=false) (f:=Wire.cells) (k:=.i64) kd_35 (fun _=>rfl) hb532 ex530
  obtain⟨hb536,h⟩:=h
  obtain⟨r537,er537,h⟩:=atm h
  simp[hh,m3_1,m6_2,m7_13,f531,f535,dc527,-indexAddrF]
  refine RunDK.callA Ty_ok kindOp_ok (l2Tie_ok b x530.link edges hb536) e132 (.cons (argB false b) (.cons (.v _ _ _) (.cons (argI false edges) .nil))) (by decide) rfl (by simp[hh,m3_1,m6_2,m7_13,f531,f535,dc527,-indexAddrF]) ?_
  rw[← er537]
  obtain⟨hb538,h⟩:=h
  obtain⟨l539,el539,h⟩:=atm h
  simp[hh,m3_1,m6_2,m7_13,f531,f535,dc527,-indexAddrF,-appendF]
  refine bindD_append [] [oI v519 l469,oS v520 l13,oN v521 l340] [[str x530.name,int r537]] [Wire.cells (Wire.mk x530.name r537)] sp kd_35 (by simp) (by simp) (by simp) (by simp[-one1,o1x]) (rows_one (Fill.v _ (Fill.v _ Fill.nil))) (by simp) (by simpa using hb538) ?_
  rintro v540 H541 n542 sp hfr543 hle544
  replace sp:Sep H541 n542 [oW v540 l539,oI v519 l469,oS v520 l13,oN v521 l340] [(a17,7),(n1+1,6),(n1,3)]:=Sep.ap el539 sp
  have m3_1:=(hfr543 _ (by simp)).trans m3_1
  have m6_2:=(hfr543 _ (by simp)).trans m6_2
  have m7_13:=(hfr543 _ (by simp)).trans m7_13
  have f546:=Sep.oc sp
  simp[hh,m3_1,m6_2,m7_13,f531,f535,f546,dc527,-cellsA,-indexAddrF,-one1,cAx,o1x]
  apply hk'
  refine Runs.cut (fun ρ H n=>∃ (v547 v548 v549 v550:AVal),((ρ 2 = .list false (edges.map intC)∧ρ 3=pA n1 3∧ρ 6=pA (n1+1) 6∧ρ 7 = .ptr (a17,7) 1 0 0∧ρ 12=int i516)∧H (n1,3)=some ⟨6,[bC false b]⟩∧H (n1+1,6)=some ⟨6,[zB]⟩∧H (a17,7)=some ⟨6,[[int b.roots,v550,v548,int b.edges,v549,v547]]⟩)∧Sep H n [oW v547 l539,oI v548 l469,oS v549 l13,oN v550 l340] [(a17,7),(n1+1,6),(n1,3)]) (by refine⟨v540,v519,v520,v521,by simp[hh,m3_1,m6_2,m7_13,f531,f535,f546,dc527,-cellsA,-indexAddrF,-one1,cAx,o1x],(Sep.setVar (w:=(a17,7)) sp (by simp))⟩) ?_
  clear hh m3_1 m6_2 m7_13
  rintro ρ H n551 ⟨v547,v548,v549,v550,⟨hh,m3_1,m6_2,m7_13⟩,sp⟩
  refine Runs.inBlock ?_
  refine zF fun k' hk'=>?_
  obtain⟨hb552,h⟩:=h
  obtain⟨v553,ev553,h⟩:=atm h
  have f554:=ib_add hb552 ev553
  simp[hh,m3_1,m6_2,m7_13,f554,-intBin]
  apply hk'
  refine IH523 (v553,l539) _ _ _ h (by refine⟨v547,v548,v549,v550,by simp[hh,m3_1,m6_2,m7_13],sp⟩)
 replace h:=h.2 dc527
 refine Runs.exit rfl ?_
 refine zE fun k' hk'=>?_
 have f555:=Sep.oc sp.f3
 have f556:=Sep.oc sp.f1
 have f557:=Sep.oc sp.f2
 have f558:=Sep.oc sp
 simp[hh,m3_1,m6_2,m7_13,f555,f556,f557,f558,dc527,-cellsA,-one1,cAx,o1x]
 apply hk'
 refine Runs.cut (fun ρ H n=>∃ (v559 v560 v561 v562:AVal),(ρ 6=pA (n1+1) 6∧H (n1+1,6)=some ⟨6,[[int b.roots,v562,v560,int b.edges,v561,v559]]⟩)∧Sep H n [oW v559 l517,oI v560 l469,oS v561 l13,oN v562 l340] [(n1+1,6)]) (by refine⟨v518,v519,v520,v521,by simp[hh,m3_1,m6_2,m7_13,f555,f556,f557,f558,dc527,-cellsA,-one1,cAx,o1x],(Sep.sub (Sep.setVar (w:=(n1+1,6)) sp (by simp)) (by simp +contextual))⟩) ?_
 clear hh m3_1 m6_2 m7_13
 rintro ρ H n563 ⟨v559,v560,v561,v562,⟨hh,m6_2⟩,sp⟩
 exact Runs.res1 Ty_ok (v:=.agg [int b.roots,v562,v560,int b.edges,v561,v559]) Tryz.func85 Tryz.results85 (by simp[hh,m6_2,resA]) (hQ _ _ _ _ (Sep.sub (ids':=[]) (Sep.pack (Fill.v _ (Fill.own (Fill.own (Fill.v _ (Fill.own (Fill.own Fill.nil)))))) sp.f2.f2.f3) (by simp)) ⟨(Big.mk b.roots l340 l469 b.edges l13 l517),h,rfl⟩)
theorem renumZ_ok (b:Big) (to_:List Int) (edges:List Int) (hp:renumZ_pre b to_ edges):OwnS Tryz.prog 85 [.agg (bC false b),.list false (to_.map intC),.list false (edges.map intC)] (.a [.c,.s [.c,.c,.s [.c]],.s [.c],.c,.s [.c],.s [.c,.c]]) (fun r=>r = .agg [int ((renumZ b to_ edges).roots),.list true (((renumZ b to_ edges).nodes).map (GNode.cells true)),.list true (((renumZ b to_ edges).sites).map intC),int ((renumZ b to_ edges).edges),.list true (((renumZ b to_ edges).outer).map strC),.list true (((renumZ b to_ edges).inner).map Wire.cells)]):=(renumZ_walk b to_ edges _ (renumZ_vc b to_ edges hp)).mono (by rintro _ ⟨_,rfl,rfl⟩;rfl)
theorem e34:Ent Tryz.prog 34:=Ent.of Tryz.func34 (by kernel_rfl) rfl
theorem canonS_walk (b:Big) (Z:Big→Prop) (h:canonS_wp b Z):PureC Tryz.prog 34 [.agg (bC false b)] (fun r=>∃ y:Big,Z y∧r = .agg (bC true y)):=by
 unfold canonS_wp at h
 have sp:Sep noHeap 0 [] []:=Sep.nil (by simp)
 refine PureC.of Tryz.func34 rfl Tryz.ntmps34 (by simp) fun Q hQ=>?_
 refine Runs.cut (fun ρ H n=>ρ 0 = .agg (bC false b)∧Sep H n [] []) (by refine⟨by simp ,sp⟩) ?_
 rintro ρ H n1 ⟨hh,sp⟩
 refine zE fun k' hk'=>?_
 simp[hh]
 apply hk'
 refine Runs.cut (fun ρ H n=>((ρ 1=pA n1 1∧ρ 2=pA (n1+1) 2)∧H (n1,1)=some ⟨6,[bC false b]⟩∧H (n1+1,2)=some ⟨6,[zB]⟩)∧Sep H n [] [(n1+1,2),(n1,1)]) (by refine⟨by simp[hh],sp.var.var⟩) ?_
 clear hh
 rintro ρ H n4 ⟨⟨hh,m1_1,m2_2⟩,sp⟩
 refine zE fun k' hk'=>?_
 obtain⟨hb5,h⟩:=h
 obtain⟨r6,er6,h⟩:=atm h
 simp[hh,m1_1,m2_2]
 refine RunK.callA Ty_ok (l5Order_ok b hb5) e83 (.cons (argB false b) .nil) (by decide) (by decide) rfl (by simp[hh,m1_1,m2_2]) ?_
 rintro _ rfl
 rw[← er6]
 simp[hh,m1_1,m2_2]
 apply hk'
 refine zE fun k' hk'=>?_
 obtain⟨len7,elen7,h⟩:=atm h
 have f8:=fun H=>len_list (H:=H) (fr:=true) (f:=intC) kd_24 elen7
 obtain⟨hb9,h⟩:=h
 obtain⟨l10,el10,h⟩:=atm h
 simp[hh,m1_1,m2_2,f8,hb9,el10,-lenF]
 apply hk'
 refine Runs.cut (fun ρ H n=>∃ (v12:AVal),((ρ 1=pA n1 1∧ρ 2=pA (n1+1) 2∧ρ 3 = .list true (r6.map intC)∧ρ 4=v12)∧H (n1,1)=some ⟨6,[bC false b]⟩∧H (n1+1,2)=some ⟨6,[zB]⟩)∧Sep H n [oI v12 l10] [(n1+1,2),(n1,1)]) (by refine⟨.arr (n4,12) len7.toNat 0 len7.toNat,by simp[hh,m1_1,m2_2,f8,hb9,el10,-lenF],(Sep.addRepE (z:=[int 0]) (f:=intC) (k:=len7.toNat) el10 sp (fun H=>by show Row H [.c] [int 0] [int 0] [];simp[Row,Tr]))⟩) ?_
 clear hh m1_1 m2_2
 rintro ρ H n13 ⟨v12,⟨hh,m1_1,m2_2⟩,sp⟩
 refine Runs.seq ?_
 refine zE fun k' hk'=>?_
 simp[hh,m1_1,m2_2]
 apply hk'
 refine Runs.block ?_
 refine Runs.loopW h (fun (sJ:Int × (List Int)) ρ H n=>match sJ with | (i21,l22)=>∃ (v23:AVal),((ρ 1=pA n1 1∧ρ 2=pA (n1+1) 2∧ρ 3 = .list true (r6.map intC)∧ρ 4=v23∧ρ 5=int i21)∧H (n1,1)=some ⟨6,[bC false b]⟩∧H (n1+1,2)=some ⟨6,[zB]⟩)∧Sep H n [oI v23 l22] [(n1+1,2),(n1,1)]) (by refine⟨v12,by simp[hh,m1_1,m2_2],sp⟩) ?_
 clear hh m1_1 m2_2
 rintro⟨i21,l22⟩ ρ H n24 K h ⟨v23,⟨hh,m1_1,m2_2⟩,sp⟩ IH25
 refine Runs.seq ?_
 refine zE fun k' hk'=>?_
 obtain⟨len27,elen27,h⟩:=atm h
 have f28:=fun H=>len_list (H:=H) (fr:=true) (f:=intC) kd_24 elen27
 obtain⟨c29,ec29,h⟩:=atm h
 have f30:=ib_lss (k:=.i64) ec29
 simp[hh,m1_1,m2_2,f28,f30,-intBin,-lenF]
 apply hk'
 refine Runs.ite (b:=c29) (by simp[hh,m1_1,m2_2]) (fun dc29=>?_) (fun dc29=>?_)
 ·replace h:=h.1 dc29
  refine Runs.skip ?_
  refine Runs.seq ?_
  refine Runs.block ?_
  refine zF fun k' hk'=>?_
  obtain⟨hb31,h⟩:=h
  obtain⟨x32,ex32,h⟩:=atm h
  have f33:=fun H=>ix_list (H:=H) (fr:=true) (f:=intC) (k:=.i64) kd_24 (fun _=>rfl) hb31 ex32
  obtain⟨hb34,h⟩:=h
  obtain⟨id35,hv,mo36,ln37,ni38⟩:=Sep.openF sp (by simp) hb34
  subst hv
  simp at ni38
  obtain⟨x39,ex39,h⟩:=atm h
  have f40:=fun H (hm:H id35=some ⟨1,l22.map intC⟩)=>ix_arr (H:=H) (k:=.i64) (off:=0) (len:=l22.length) (g:=l22.length) kd_24 hm (by simp) rfl hb34
  have f41:=at_some (q:=x32.toNat) hb34 ex39 rfl
  obtain⟨l42,el42,h⟩:=atm h
  simp[hh,m1_1,m2_2,mo36,ni38,f33,f40,f41,dc29,-indexAddrF,-storeF]
  refine bind_store (q:=x32.toNat) (news:=intC i21) [] [] sp (by simp) (by simp;omega) (by simp) (by simp[-one1,o1x]) (Fill.v _ Fill.nil) ?_
  rintro H43 sp hfr44
  replace sp:Sep H43 n24 [oI (.arr id35 l22.length 0 l22.length) l42] [(n1+1,2),(n1,1)]:=Sep.st el42 sp
  have m1_1:=(hfr44 _ (by simp)).trans m1_1
  have m2_2:=(hfr44 _ (by simp)).trans m2_2
  simp[hh,m1_1,m2_2,ni38,f33,f40,f41,dc29,-indexAddrF]
  apply hk'
  refine Runs.cut (fun ρ H n=>∃ (v46:AVal),((ρ 1=pA n1 1∧ρ 2=pA (n1+1) 2∧ρ 3 = .list true (r6.map intC)∧ρ 4=v46∧ρ 5=int i21)∧H (n1,1)=some ⟨6,[bC false b]⟩∧H (n1+1,2)=some ⟨6,[zB]⟩)∧Sep H n [oI v46 l42] [(n1+1,2),(n1,1)]) (by refine⟨.arr id35 l22.length 0 l22.length,by simp[hh,m1_1,m2_2,ni38,f33,f40,f41,dc29,-indexAddrF],sp⟩) ?_
  clear hh m1_1 m2_2 ni38
  rintro ρ H n47 ⟨v46,⟨hh,m1_1,m2_2⟩,sp⟩
  refine Runs.inBlock ?_
  refine zF fun k' hk'=>?_
  obtain⟨hb48,h⟩:=h
  obtain⟨v49,ev49,h⟩:=atm h
  have f50:=ib_add hb48 ev49
  simp[hh,m1_1,m2_2,f50,-intBin]
  apply hk'
  refine IH25 (v49,l42) _ _ _ h (by refine⟨v46,by simp[hh,m1_1,m2_2],sp⟩)
 replace h:=h.2 dc29
 refine Runs.exit rfl ?_
 refine zE fun k' hk'=>?_
 obtain⟨hb51,h⟩:=h
 obtain⟨r52,er52,h⟩:=atm h
 simp[hh,m1_1,m2_2,dc29]
 refine RunK.callW Ty_ok (l5Code_ok b r6 hb51) e84 (.cons (argB false b) (.cons (argI true r6) .nil)) sp (by decide) (by decide) rfl (by simp[hh,m1_1,m2_2,dc29]) ?_
 rintro v53 H54 n55 _ sp rfl hle57 hfr56
 rw[← er52] at sp
 have m1_1:=(hfr56 _ (by simp)).trans m1_1
 have m2_2:=(hfr56 _ (by simp)).trans m2_2
 replace sp:=Sep.unpackT sp
 obtain⟨L61,hv,hl62,sp⟩:=sp
 subst hv
 obtain⟨v59,v60,hv⟩:=len2 (by simpa using hl62)
 subst hv
 simp only[zip3,List.cons_append,List.nil_append] at sp
 replace sp:=Sep.rot sp
 try simp only[List.cons_append,List.nil_append,List.append_assoc] at sp
 replace sp:=Sep.rot sp
 try simp only[List.cons_append,List.nil_append,List.append_assoc] at sp
 simp[hh,m1_1,m2_2,dc29]
 apply hk'
 refine Runs.cut (fun ρ H n=>∃ (v65 v66:AVal),((ρ 1=pA n1 1∧ρ 2=pA (n1+1) 2∧ρ 4=v65∧ρ 7=v66)∧H (n1,1)=some ⟨6,[bC false b]⟩∧H (n1+1,2)=some ⟨6,[zB]⟩)∧Sep H n [oI v65 l22,oI v66 r52.2] [(n1+1,2),(n1,1)]) (by refine⟨v23,v60,by simp[hh,m1_1,m2_2,dc29],sp.f1.dr⟩) ?_
 clear hh m1_1 m2_2
 rintro ρ H n67 ⟨v65,v66,⟨hh,m1_1,m2_2⟩,sp⟩
 refine Runs.seqD Ty_ok kindOp_ok draws (by decide) (by kernel_rfl) fun k' hk'=>?_
 obtain⟨hb68,h⟩:=h
 obtain⟨r69,er69,h⟩:=atm h
 simp[hh,m1_1,m2_2]
 refine RunDK.callA Ty_ok kindOp_ok ((fillZ_ok r52.2 hb68).pure) e86 (.cons (Sep.argOk' sp.f1 (old_listF (by simp))) .nil) (by decide) rfl (by simp[hh,m1_1,m2_2]) ?_
 rw[← er69]
 obtain⟨hb70,h⟩:=h
 obtain⟨r71,er71,h⟩:=atm h
 simp[hh,m1_1,m2_2]
 refine RunDK.callA Ty_ok kindOp_ok ((renumZ_ok b l22 r69 hb70).pure) e85 (.cons (argB false b) (.cons (Sep.argOk' sp (old_listF (by simp))) (.cons (argI true r69) .nil))) (by decide) rfl (by simp[hh,m1_1,m2_2]) ?_
 rw[← er71]
 simp[hh,m1_1,m2_2]
 apply hk'
 refine Runs.cut (fun ρ H n=>(ρ 2=pA (n1+1) 2∧H (n1+1,2)=some ⟨6,[bC true r71]⟩)∧Sep H n [] [(n1+1,2)]) (by refine⟨by simp[hh,m1_1,m2_2],(Sep.sub (Sep.dr (Sep.dr (Sep.setVar (w:=(n1+1,2)) sp (by simp)))) (by simp +contextual))⟩) ?_
 clear hh m1_1 m2_2
 rintro ρ H n72 ⟨⟨hh,m2_2⟩,sp⟩
 exact Runs.res1 Ty_ok (v:=.agg (bC true r71)) Tryz.func34 Tryz.results34 (by simp[hh,m2_2,resA]) (hQ _ _ _ _ (.of (.aggL (.cons (.v _) (.cons (.fresh (by simp)) (.cons (.fresh (by simp)) (.cons (.v _) (.cons (.fresh (by simp)) (.cons (.fresh (by simp)) .nil)))))))) ⟨r71,h,rfl⟩)
theorem canonS_ok (b:Big) (hp:canonS_pre b):PureC Tryz.prog 34 [.agg (bC false b)] (fun r=>r = .agg [int ((canonS b).roots),.list true (((canonS b).nodes).map (GNode.cells true)),.list true (((canonS b).sites).map intC),int ((canonS b).edges),.list true (((canonS b).outer).map strC),.list true (((canonS b).inner).map Wire.cells)]):=(canonS_walk b _ (canonS_vc b hp)).mono (by rintro _ ⟨_,rfl,rfl⟩;rfl)
end Go.Ab.Vg
/- The abstract machine, part Sa: when two structs or arrays of plain cells are equal. -/
namespace Go.Ab
theorem bytesEq (a c:List UInt8):((⟨a.toArray⟩:ByteArray) == ⟨c.toArray⟩)=decide (a=c):=by
 rw[beq_toListBytes,ByteArray.toList_eq,ByteArray.toList_eq]
 by_cases h:a=c<;>simp[h]
def cellEq (u:Option TypeDesc) (a b:Value):Option Bool:=
 match u,a,b with
 | some (.int _),.int k x,.int k' y=>if k=k' then some (x == y) else none
 | some .string,.string x,.string y=>some (x == y)
 | some .bool,.bool x,.bool y=>some (x == y)
 | _,_,_=>none
def andEq:Option Bool→Option Bool→Option Bool
 | some r,some q=>some (r && q)
 | _,_=>none
def fieldsEq (P:Program) (xs ys:Array Value):List Field→Option Bool
 | []=>some true
 | f :: fs => if f.name = "_" then none else match xs[f.offset]?, ys[f.offset]? with
  | some a,some b=>andEq (cellEq (P.underlying f.type) a b) (fieldsEq P xs ys fs)
  | _,_=>none
section
variable {P:Program} {Ty:Types} {N:Nat} {ρ:Env} {H:Heap} {n:Nat}
theorem cellEq_run {e:TypeId} {a b:Value} {r:Bool} (h:cellEq (P.underlying e) a b=some r) (d:Nat) (w:World):P.plainKey e=true∧(Op.equalIn (d+1) e a b).run P w = .ok r w:=by
 cases hu:P.underlying e with
 | none=>rw[hu] at h;simp[cellEq] at h
 | some u=>
  rw[hu] at h
  unfold cellEq at h
  split at h
  ·rename_i q k x k' y e1
   cases e1
   split at h
   ·rename_i hk
    subst hk
    simp only[Option.some.injEq] at h
    subst h
    exact⟨by simp[Program.plainKey,hu],by simp[Op.equalIn,run_underlying hu]⟩
   ·cases h
  ·rename_i e1
   cases e1
   simp only[Option.some.injEq] at h
   subst h
   exact⟨by simp[Program.plainKey,hu],by simp[Op.equalIn,run_underlying hu]⟩
  ·rename_i e1
   cases e1
   simp only[Option.some.injEq] at h
   subst h
   exact⟨by simp[Program.plainKey,hu],by simp[Op.equalIn,run_underlying hu]⟩
  ·cases h
theorem andEq_some {a b:Option Bool} {r:Bool} (h:andEq a b=some r):∃ x y,a=some x∧b=some y∧r=(x && y):=by
 unfold andEq at h
 split at h
 ·rename_i x y
  exact⟨x,y,rfl,rfl,by simpa using h.symm⟩
 ·cases h
theorem fieldsEq_run {xs ys:Array Value} (d:Nat) (w:World):∀ {fs:List Field} {r:Bool},fieldsEq P xs ys fs=some r→(Op.eqFields (d+1) xs ys fs).run P w = .ok r w
 | [],r,h=>by
  simp only[fieldsEq,Option.some.injEq] at h
  subst h
  simp[Op.eqFields]
 | f::fs,r,h=>by
  rw[fieldsEq] at h
  split at h
  ·cases h
  ·rename_i hn
   split at h
   ·rename_i a b ha hb
    obtain⟨x,y,h1,h2,rfl⟩:=andEq_some h
    obtain⟨hp,h3⟩:=cellEq_run h1 d w
    have h4:=fieldsEq_run d w h2
    simp only[Op.eqFields,hn,ne_eq,not_false_eq_true,if_true,Sem.run_bind,run_part_plain w hp ha,run_part_plain w hp hb,h3,Result.andThen_ok]
    cases x
    ·simp
    ·simpa using h4
   ·cases h
theorem equal_struct {t:TypeId} {xs ys:Array Value} {r:Bool} (hu:P.underlying t=some (.struct (P.fieldsOf t))) (hp:P.stoodInHeld t=false) (h:fieldsEq P xs ys (P.fieldsOf t).toList=some r) (w:World):(Op.equal t (.agg xs) (.agg ys)).run P w = .ok r w:=by
 show (Op.equalIn 10000 t (.agg xs) (.agg ys)).run P w=_
 rw[run_equalIn_struct w 9999 t xs ys hu hp]
 exact fieldsEq_run 9998 w h
def EqA (P:Program) (t:TypeId) (xs ys:List Value) (r:Bool):Prop:=P.eqGuardType P.depth t=false∧∀ w,(Op.equal t (.agg xs.toArray) (.agg ys.toArray)).run P w = .ok r w
theorem rep_aggV {c:Ctx} {xs:List Value} {v:Value} (h:Rep c (.agg (xs.map .v)) v):v = .agg xs.toArray:=by
 cases h with
 | agg _ vs hl h=>
  congr 2
  refine List.ext_getElem (by simpa using hl.symm) fun i h1 h2=>?_
  have:=h i (.v xs[i]) vs[i] (by simp[h2]) (by simp[h1])
  exact this.v_inv
theorem OpSem.eqS {d:Option Tmp} {t t' ty:TypeId} {x y:Operand} {pos:String} {af:Array Edge} {gu:Option (Nat × Bool)} {op:BinOp} {xs ys:List Value} {r:Bool} (hop:op = .eql∨op = .neq) (he:EqA P t xs ys r) (hx:ρ.ev x = .agg (xs.map .v)) (hy:ρ.ev y = .agg (ys.map .v)) :
  OpSem P N ⟨d,.binOp op t x y t',ty,pos,af,gu⟩ ρ H n (isV (.v (.bool (if op = .eql then r else !r))) H n):=
 OpSem.pure fun c a _ _ r'=>by
  obtain⟨hg,hr⟩:=he
  have ex:=rep_aggV (hx ▸ r'.ev x)
  have ey:=rep_aggV (hy ▸ r'.ev y)
  have h1:(binOp op t (.agg xs.toArray) (.agg ys.toArray)).run P c.w = .ok (.bool (if op = .eql then r else !r)) c.w:=by
   rcases hop with rfl | rfl
   ·show ((Op.equal t (.agg xs.toArray) (.agg ys.toArray)) >>= fun r=>_).run P c.w=_
    simp only[Sem.run_bind,hr,Result.andThen_ok,Sem.run_pure,if_true]
   ·show ((Op.equal t (.agg xs.toArray) (.agg ys.toArray)) >>= fun r=>_).run P c.w=_
    simp only[Sem.run_bind,hr,Result.andThen_ok,Sem.run_pure]
    rfl
  have h2:∀ X Y,(eqGuard op t X Y (.agg xs.toArray) (.agg ys.toArray)).run P c.w = .ok () c.w:=fun X Y=>by
   rcases hop with rfl | rfl<;>simp[eqGuard,hg,run_program]
  exact⟨_,by simp[execOp,ex,ey,h1,h2],.v _⟩
variable {f:FuncId} {k:List Item} {Q:AVal→Heap→Nat→Prop}
theorem RunDK.eqS (hT:TypesOk P Ty) {κ:Op→Nat} (hκ:KOk κ) {ops:Array Oper} {l:List Oper} {d:Option Tmp} {t t' ty:TypeId} {x y:Operand} {pos:String} {af:Array Edge} {op:BinOp} (xs ys:List Value) {r c:Bool} (he:EqA P t xs ys r) (hop:op = .eql∨op = .neq) (hc:c=if op = .eql then r else !r)
  (hx:ρ.ev x = .agg (xs.map .v)) (hy:ρ.ev y = .agg (ys.map .v))
  (h:evalD P f N k Q Ty κ ops l (ρ.put d (bool c)) H n):RunDK P f N k Q κ ops (⟨d,.binOp op t x y t',ty,pos,af,none⟩::l) ρ H n:=by
 subst hc
 have e1:∀ z:Operand,z=x∨z=y→(loc (.binOp op t x y t') ρ).ev z=ρ.ev z:=fun z hz=>loc_ev (by rcases hz with rfl | rfl<;>simp[Op.operands])
 exact⟨(ρ.put d (bool (if op = .eql then r else !r)),H,n),.inl ⟨by simp[gok],bool (if op = .eql then r else !r),rfl,fun _=>⟨rfl,fun H n=>OpSem.eqS hop he (by rw[e1 x (.inl rfl)];exact hx) (by rw[e1 y (.inr rfl)];exact hy)⟩,fun _=>rfl,OpSem.eqS hop he (by rw[e1 x (.inl rfl)];exact hx) (by rw[e1 y (.inr rfl)];exact hy)⟩,evalD_sound hT hκ l _ _ _ h⟩
end
end Go.Ab
/- Walks by program for YtkocdlgoncmdbaaGreatDoorAbEq. -/
namespace Go.Ab.Vg
open Go.Proofs
set_option maxRecDepth 100000
set_option linter.unusedSimpArgs false
set_option linter.unusedVariables false
theorem eqA_Wire (x y:Wire):EqA Tryz.prog 107 [.string ⟨x.name.toArray⟩,.int .i64 x.link] [.string ⟨y.name.toArray⟩,.int .i64 y.link] (decide (x=y)):=by
  refine⟨by kernel_rfl,equal_struct (by kernel_rfl) (by kernel_rfl) ?_⟩
  have h:fieldsEq Tryz.prog #[.string ⟨x.name.toArray⟩,.int .i64 x.link] #[.string ⟨y.name.toArray⟩,.int .i64 y.link] (Tryz.prog.fieldsOf 107).toList=some (((⟨x.name.toArray⟩:ByteArray) == ⟨y.name.toArray⟩) && ((x.link == y.link) && true)):=by kernel_rfl
  rw[bytesEq] at h
  refine Eq.trans h ?_
  obtain⟨a,b⟩:=x
  obtain⟨c,d⟩:=y
  simp only[Bool.and_true,Option.some.injEq,Wire.mk.injEq,Bool.decide_and]
  congr 1
end Go.Ab.Vg
/- Walks by program for YtkocdlgoncmdbaaGreatDoorAbMn. -/
namespace Go.Ab.Vg
open Go.Proofs
set_option maxRecDepth 100000
set_option linter.unusedSimpArgs false
set_option linter.unusedVariables false
attribute [local simp] intC
end Go.Ab.Vg
/- Walks by program for YtkocdlgoncmdbaaGreatDoorAbMu. -/
namespace Go.Ab.Vg
open Go.Proofs
set_option maxRecDepth 100000
set_option linter.unusedSimpArgs false
set_option linter.unusedVariables false
attribute [local simp] strC
theorem e101:Ent Tryz.prog 101:=Ent.of Tryz.func101 (by kernel_rfl) rfl
theorem eqStrs_walk (s1:List Str) (s2:List Str) (Z:Bool→Prop) (h:eqStrs_wp s1 s2 Z):PureC Tryz.prog 101 [.list false (s1.map strC),.list false (s2.map strC)] (fun r=>∃ y:Bool,Z y∧r=bool y):=by
 unfold eqStrs_wp at h
 refine PureC.of Tryz.func101 rfl Tryz.ntmps101 (by simp) fun Q hQ=>?_
 refine Runs.cut (fun ρ H n=>(ρ 0 = .list false (s1.map strC)∧ρ 1 = .list false (s2.map strC))) (by simp) ?_
 rintro ρ H n1 hh
 refine zE fun k' hk'=>?_
 simp[hh]
 apply hk'
 refine Runs.seq ?_
 refine zE fun k' hk'=>?_
 obtain⟨len2,elen2,h⟩:=atm h
 have f3:=fun H=>len_list (H:=H) (fr:=false) (f:=strC) kd_25 elen2
 obtain⟨len4,elen4,h⟩:=atm h
 have f5:=fun H=>len_list (H:=H) (fr:=false) (f:=strC) kd_25 elen4
 obtain⟨c6,ec6,h⟩:=atm h
 have f7:=ib_neq (k:=.i64) ec6
 simp[hh,f3,f5,f7,-intBin,-lenF]
 apply hk'
 refine Runs.ite (b:=c6) (by simp[hh]) (fun dc6=>?_) (fun dc6=>?_)
 ·replace h:=h.1 dc6
  refine zE fun k' hk'=>?_
  simp[hh,dc6]
  apply hk'
  exact Runs.ret1 (v:=bool false) Tryz.func101 Tryz.results101 (by simp[hh,dc6]) (hQ _ _ _ _ (.of (.v _)) ⟨false,h,rfl⟩)
 replace h:=h.2 dc6
 refine Runs.skip ?_
 refine Runs.seq ?_
 refine zE fun k' hk'=>?_
 obtain⟨len8,elen8,h⟩:=atm h
 have f9:=fun H=>len_list (H:=H) (fr:=false) (f:=strC) kd_25 elen8
 simp[hh,f9,dc6,-lenF]
 apply hk'
 refine Runs.block ?_
 refine Runs.loopW h (fun (sJ:Int) ρ H n=>match sJ with | v12=>(ρ 0 = .list false (s1.map strC)∧ρ 1 = .list false (s2.map strC)∧ρ 12=int len8∧ρ 13=int v12)) (by simp[hh,dc6]) ?_
 clear hh
 rintro v12 ρ H n13 K h hh IH14
 refine zE fun k' hk'=>?_
 obtain⟨c16,ec16,h⟩:=atm h
 have f17:=ib_lss (k:=.i64) ec16
 simp[hh,f17,-intBin]
 apply hk'
 refine Runs.seq ?_
 refine Runs.ite (b:=c16) (by simp[hh]) (fun dc16=>?_) (fun dc16=>?_)
 ·replace h:=h.1 dc16
  refine Runs.skip ?_
  refine Runs.seq ?_
  refine Runs.block ?_
  refine zE fun k' hk'=>?_
  simp[hh,dc16]
  apply hk'
  refine Runs.seqD Ty_ok kindOp_ok draws (by decide) (by kernel_rfl) fun k' hk'=>?_
  obtain⟨hb18,h⟩:=h
  obtain⟨x19,ex19,h⟩:=atm h
  have f20:=fun H=>ix_list (H:=H) (fr:=false) (f:=strC) (k:=.i64) kd_25 (fun _=>rfl) hb18 ex19
  obtain⟨hb21,h⟩:=h
  obtain⟨x22,ex22,h⟩:=atm h
  have f23:=fun H=>ix_list (H:=H) (fr:=false) (f:=strC) (k:=.i64) kd_25 (fun _=>rfl) hb21 ex22
  obtain⟨c24,ec24,h⟩:=atm h
  have f25:=sb_neq ec24
  simp[hh,f20,f23,f25,dc16,-indexAddrF,-strBin]
  apply hk'
  refine Runs.ite (b:=c24) (by simp[hh,dc16]) (fun dc24=>?_) (fun dc24=>?_)
  ·replace h:=h.1 dc24
   refine zE fun k' hk'=>?_
   simp[hh,dc16,dc24]
   apply hk'
   exact Runs.ret1 (v:=bool false) Tryz.func101 Tryz.results101 (by simp[hh,dc16,dc24]) (hQ _ _ _ _ (.of (.v _)) ⟨false,h,rfl⟩)
  replace h:=h.2 dc24
  refine Runs.skip ?_
  refine Runs.inBlock ?_
  refine zF fun k' hk'=>?_
  obtain⟨hb26,h⟩:=h
  obtain⟨v27,ev27,h⟩:=atm h
  have f28:=ib_add hb26 ev27
  simp[hh,f28,dc16,dc24,-intBin]
  apply hk'
  refine IH14 (v27) _ _ _ h (by simp[hh,dc16,dc24])
 replace h:=h.2 dc16
 refine Runs.exit rfl ?_
 refine zE fun k' hk'=>?_
 simp[hh,dc16]
 apply hk'
 exact Runs.ret1 (v:=bool true) Tryz.func101 Tryz.results101 (by simp[hh,dc16]) (hQ _ _ _ _ (.of (.v _)) ⟨true,h,rfl⟩)
theorem eqStrs_ok (s1:List Str) (s2:List Str) (hp:eqStrs_pre s1 s2):PureC Tryz.prog 101 [.list false (s1.map strC),.list false (s2.map strC)] (fun r=>r=bool (eqStrs s1 s2)):=(eqStrs_walk s1 s2 _ (eqStrs_vc s1 s2 hp)).mono (by rintro _ ⟨_,rfl,rfl⟩;rfl)
end Go.Ab.Vg
