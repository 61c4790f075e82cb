/- Merged texts (15 of 18) of the proof that ends in Cuy: Ncw Sf. -/
import Derived.Test.YtbikfokhjdjfpaaGreatDoorAbQcu14
/- Walks by program for YtbikfokhjdjfpaaGreatDoorAbNc. -/
namespace Go.Ab.Vg
open Go.Proofs
set_option maxRecDepth 100000
set_option linter.unusedSimpArgs false
set_option linter.unusedVariables false
attribute [local simp] Control.cells GNode.cells Wire.cells intC sliceC strC bC pA zB
theorem e53:Ent Tryz.prog 53:=Ent.of Tryz.func53 (by kernel_rfl) rfl
theorem indexI_walk (s:List Int) (v_:Int) (Z:Int→Prop) (h:indexI_wp s v_ Z):PureC Tryz.prog 53 [.list false (s.map intC),int v_] (fun r=>∃ y:Int,Z y∧r=int y):=by
 unfold indexI_wp at h
 refine PureC.of Tryz.func53 rfl Tryz.ntmps53 (by simp) fun Q hQ=>?_
 refine Runs.cut (fun ρ H n=>(ρ 0 = .list false (s.map intC)∧ρ 1=int v_)) (by simp) ?_
 rintro ρ H n1 hh
 refine zE fun k' hk'=>?_
 simp[hh]
 apply hk'
 refine Runs.seq ?_
 refine zE fun k' hk'=>?_
 obtain⟨len2,elen2,h⟩:=atm h
 have f3:=fun H=>len_list (H:=H) (fr:=false) (f:=intC) kd_24 elen2
 simp[hh,f3,-lenF]
 apply hk'
 refine Runs.block ?_
 refine Runs.loopW h (fun (sJ:Int) ρ H n=>match sJ with | v6=>(ρ 0 = .list false (s.map intC)∧ρ 1=int v_∧ρ 7=int len2∧ρ 8=int v6)) (by simp[hh]) ?_
 clear hh
 rintro v6 ρ H n7 K h hh IH8
 refine zE fun k' hk'=>?_
 obtain⟨c10,ec10,h⟩:=atm h
 have f11:=ib_lss (k:=.i64) ec10
 simp[hh,f11,-intBin]
 apply hk'
 refine Runs.seq ?_
 refine Runs.ite (b:=c10) (by simp[hh]) (fun dc10=>?_) (fun dc10=>?_)
 ·replace h:=h.1 dc10
  refine Runs.skip ?_
  refine Runs.seq ?_
  refine Runs.block ?_
  refine zE fun k' hk'=>?_
  simp[hh,dc10]
  apply hk'
  refine zE fun k' hk'=>?_
  obtain⟨hb12,h⟩:=h
  obtain⟨x13,ex13,h⟩:=atm h
  have f14:=fun H=>ix_list (H:=H) (fr:=false) (f:=intC) (k:=.i64) kd_24 (fun _=>rfl) hb12 ex13
  obtain⟨c15,ec15,h⟩:=atm h
  have f16:=ib_eql (k:=.i64) ec15
  simp[hh,f14,f16,dc10,-indexAddrF,-intBin]
  apply hk'
  refine Runs.ite (b:=c15) (by simp[hh,dc10]) (fun dc15=>?_) (fun dc15=>?_)
  ·replace h:=h.1 dc15
   refine zE fun k' hk'=>?_
   simp[hh,dc10,dc15]
   apply hk'
   exact Runs.ret1 (v:=int v6) Tryz.func53 Tryz.results53 (by simp[hh,dc10,dc15]) (hQ _ _ _ _ (.of (.v _)) ⟨v6,h,rfl⟩)
  replace h:=h.2 dc15
  refine Runs.skip ?_
  refine Runs.inBlock ?_
  refine zF fun k' hk'=>?_
  obtain⟨hb17,h⟩:=h
  obtain⟨v18,ev18,h⟩:=atm h
  have f19:=ib_add hb17 ev18
  simp[hh,f19,dc10,dc15,-intBin]
  apply hk'
  refine IH8 (v18) _ _ _ h (by simp[hh,dc10,dc15])
 replace h:=h.2 dc10
 refine Runs.exit rfl ?_
 refine zE fun k' hk'=>?_
 simp[hh,dc10]
 apply hk'
 exact Runs.ret1 (v:=int (-1)) Tryz.func53 Tryz.results53 (by simp[hh,dc10]) (hQ _ _ _ _ (.of (.v _)) ⟨(-1),h,rfl⟩)
theorem indexI_ok (s:List Int) (v_:Int) (hp:indexI_pre s v_):PureC Tryz.prog 53 [.list false (s.map intC),int v_] (fun r=>r=int (indexI s v_)):=(indexI_walk s v_ _ (indexI_vc s v_ hp)).mono (by rintro _ ⟨_,rfl,rfl⟩;rfl)
theorem e51:Ent Tryz.prog 51:=Ent.of Tryz.func51 (by kernel_rfl) rfl
theorem partB_walk {gF4:FuncId} {cF4:List AVal} {gF5:FuncId} {cF5:List AVal} (b:Big) (nodes:List Int) (edges:List Int) (outer:List Str) (f4:Int→Int) (D4:Int→Prop) (f5:Int→Str) (D5:Int→Prop) (heF4:Ent Tryz.prog gF4) (hcF4:∀ H n,ArgsOk H n cF4 cF4) (hF4:∀ z0,D4 z0→PureC Tryz.prog gF4 ((int z0)::cF4) (fun r=>r=int (f4 z0))) (heF5:Ent Tryz.prog gF5) (hcF5:∀ H n,ArgsOk H n cF5 cF5) (hF5:∀ z0,D5 z0→PureC Tryz.prog gF5 ((int z0)::cF5) (fun r=>r=str (f5 z0))) (Z:Big→Prop) (h:partB_wp b nodes edges outer f4 D4 f5 D5 Z):OwnS Tryz.prog 51 [.agg (bC false b),.list false (nodes.map intC),.list false (edges.map intC),.list false (outer.map strC),.fn (.func gF4) [] cF4,.fn (.func gF5) [] cF5] (.a [.c,.s [.c,.c,.s [.c]],.s [.c],.c,.s [.c],.s [.c,.c]]) (fun r=>∃ y:Big,Z y∧r = .agg (bC true y)):=by
 unfold partB_wp at h
 have sp:Sep noHeap 0 [] []:=Sep.nil (by simp)
 refine OwnS.of Tryz.func51 rfl Tryz.ntmps51 (by simp) fun Q hQ=>?_
 refine Runs.cut (fun ρ H n=>(ρ 0 = .agg (bC false b)∧ρ 1 = .list false (nodes.map intC)∧ρ 2 = .list false (edges.map intC)∧ρ 3 = .list false (outer.map strC)∧ρ 4 = .fn (.func gF4) [] cF4∧ρ 5 = .fn (.func gF5) [] cF5)∧Sep H n [] []) (by refine⟨by simp ,sp⟩) ?_
 rintro ρ H n1 ⟨hh,sp⟩
 refine zE fun k' hk'=>?_
 simp[hh]
 apply hk'
 refine Runs.cut (fun ρ H n=>((ρ 1 = .list false (nodes.map intC)∧ρ 2 = .list false (edges.map intC)∧ρ 3 = .list false (outer.map strC)∧ρ 4 = .fn (.func gF4) [] cF4∧ρ 5 = .fn (.func gF5) [] cF5∧ρ 6=pA n1 6∧ρ 12=pA (n1+1) 12)∧H (n1,6)=some ⟨6,[bC false b]⟩∧H (n1+1,12)=some ⟨6,[zB]⟩)∧Sep H n [] [(n1+1,12),(n1,6)]) (by refine⟨by simp[hh],sp.var.var⟩) ?_
 clear hh
 rintro ρ H n4 ⟨⟨hh,m6_1,m12_2⟩,sp⟩
 refine Runs.cut (fun ρ H n=>((ρ 1 = .list false (nodes.map intC)∧ρ 2 = .list false (edges.map intC)∧ρ 3 = .list false (outer.map strC)∧ρ 4 = .fn (.func gF4) [] cF4∧ρ 5 = .fn (.func gF5) [] cF5∧ρ 6=pA n1 6∧ρ 12=pA (n1+1) 12)∧H (n1,6)=some ⟨6,[bC false b]⟩∧H (n1+1,12)=some ⟨6,[zB]⟩)∧Sep H n [] [(n1+1,12),(n1,6)]) (by refine⟨by simp[hh,m6_1,m12_2],sp⟩) ?_
 clear hh m6_1 m12_2
 rintro ρ H n5 ⟨⟨hh,m6_1,m12_2⟩,sp⟩
 obtain⟨len6,elen6,h⟩:=atm h
 have f7:=fun H=>len_list (H:=H) (fr:=false) (f:=intC) kd_24 elen6
 obtain⟨hb8,h⟩:=h
 obtain⟨r9,er9,h⟩:=atm h
 have hid12:=sp.1
 refine Runs.seq (Runs.drawI (Reg.Inv { m:=9,c:=5,a:=7,st:=8,d:=13,B:=[(1,.list false (nodes.map intC)),(2,.list false (edges.map intC)),(3,.list false (outer.map strC)),(4,.fn (.func gF4) [] cF4),(5,.fn (.func gF5) [] cF5),(6,pA n1 6),(12,pA (n1+1) 12)],F:=fun GI AI=>[(0,20,pA n1 6),(1,21,int b.roots),(2,22,.list false (edges.map intC)),(3,23,int len6),(4,24,.list false (outer.map strC)),(5,25,(gv GI 0)),(6,26,.agg [int b.roots,.v (.slice none 0 0),.v (.slice none 0 0),int len6,(gv GI 0),.v (.slice none 0 0)]),(7,13,.ptr (AI,13) 1 0 0)],ent:=fun GI=>[(.s [.c],(gv GI 0),.list true (r9.map strC))],ob0:=⟨6,[zB]⟩,ob1:=fun GI=>⟨6,[[int b.roots,.v (.slice none 0 0),.v (.slice none 0 0),int len6,(gv GI 0),.v (.slice none 0 0)]]⟩,RG:=fun GI=>Ab.one1 (gv GI 0)=true,onC:=[6,8],onA:=[8],H0:=H,n0:=n5,K:=[],ids:=[(n1+1,12),(n1,6)] }) draws (by decide) (Reg.init (Old.cons hh.1 (Old.cons hh.2.1 (Old.cons hh.2.2.1 (Old.cons hh.2.2.2.1 (Old.cons hh.2.2.2.2.1 (Old.cons hh.2.2.2.2.2.1 (Old.cons hh.2.2.2.2.2.2 Old.nil))))))) sp) ?_ ?_)
 ·rintro (_ | _ | _ | _ | _ | _ | _ | _ | _ | i)
  ·exact Reg.det (i:=0) rfl rfl rfl rfl (fun L' ρ' H' n' G' A' hO hT hd hG hcl hfr sp=>⟨pA n1 6,stepF_ok Ty_ok (by rw[stepF_loc];have t6:=hO.at 5 rfl;have mm6_1:=(hfr (n1,6) (by simp)).trans m6_1;simp[t6,mm6_1]),by simp⟩)
  ·exact Reg.det (i:=1) rfl rfl rfl rfl (fun L' ρ' H' n' G' A' hO hT hd hG hcl hfr sp=>⟨int b.roots,stepF_ok Ty_ok (by rw[stepF_loc];have t20:=hT.at 0 rfl (hd ⟨0,.data⟩ (by simp) rfl);have mm6_1:=(hfr (n1,6) (by simp)).trans m6_1;simp[t20,mm6_1]),by simp⟩)
  ·exact Reg.det (i:=2) rfl rfl rfl rfl (fun L' ρ' H' n' G' A' hO hT hd hG hcl hfr sp=>⟨.list false (edges.map intC),stepF_ok Ty_ok (by rw[stepF_loc];have t2:=hO.at 1 rfl;simp[t2]),by simp⟩)
  ·exact Reg.det (i:=3) rfl rfl rfl rfl (fun L' ρ' H' n' G' A' hO hT hd hG hcl hfr sp=>⟨int len6,stepF_ok Ty_ok (by rw[stepF_loc];have t22:=hT.at 2 rfl (hd ⟨2,.data⟩ (by simp) rfl);simp[t22,f7,-lenF]),by simp⟩)
  ·exact Reg.det (i:=4) rfl rfl rfl rfl (fun L' ρ' H' n' G' A' hO hT hd hG hcl hfr sp=>⟨.list false (outer.map strC),stepF_ok Ty_ok (by rw[stepF_loc];have t3:=hO.at 2 rfl;simp[t3]),by simp⟩)
  ·refine Reg.call rfl rfl rfl ⟨_,sortedNames_ok outer hb8,fun L' ρ' H' n' G' A' hO hT hd hfr sp=>by have t24:=hT.at 4 rfl (hd ⟨4,.data⟩ (by simp) rfl);exact⟨by simp[t24],ArgsOk.of_eq (xs:=[.list false (outer.map strC)]) (by simp[t24]) (.cons (argS false outer) .nil)⟩⟩ e110 ?_
   rintro H' n' v r ids sp rfl
   rw[← er9] at sp
   have hov:=Sep.one1 sp
   replace sp:=Sep.rot sp
   try simp only[List.cons_append,List.nil_append,List.append_assoc] at sp
   replace sp:=Sep.swap (K1:=([])) (K2:=[(.s [.c],v,.list true (r9.map strC))]) sp
   exact⟨[v],hov,sp,fun A'=>by simp⟩
  ·exact Reg.det (i:=6) rfl rfl rfl rfl (fun L' ρ' H' n' G' A' hO hT hd hG hcl hfr sp=>⟨.agg [int b.roots,.v (.slice none 0 0),.v (.slice none 0 0),int len6,(gv G' 0),.v (.slice none 0 0)],stepF_ok Ty_ok (by rw[stepF_loc];have t21:=hT.at 1 rfl (hd ⟨1,.data⟩ (by simp) rfl);have t23:=hT.at 3 rfl (hd ⟨3,.data⟩ (by simp) rfl);have t25:=hT.at 5 rfl (hd ⟨5,.data⟩ (by simp) rfl);have hG2:Ab.one1 (gv G' 0)=true:=hG (hd ⟨5,.data⟩ (by simp) rfl);have hG3:cellsA (gv G' 0)=some [gv G' 0]:=(by simp only[one1_cells,hG2,and_self]);simp[t21,t23,t25,hG2,hG3,-one1,-cellsA,cAx,o1x]),by simp⟩) (hc:=fun _=>⟨⟨5,.data⟩,by simp,rfl,by simp⟩)
  ·exact Reg.alloc Ty_ok rfl Ty_34 rfl rfl rfl
  ·exact Reg.store Ty_ok rfl rfl rfl hid12 ⟨⟨6,.data⟩,by simp,rfl,by simp⟩ ⟨⟨7,.data⟩,by simp,rfl,by simp⟩ (fun L' ρ' H' G' A' hO hT hd hG hw=>by have t13:=hT.at 7 rfl (hd ⟨7,.data⟩ (by simp) rfl);have t26:=hT.at 6 rfl (hd ⟨6,.data⟩ (by simp) rfl);have hG2:Ab.one1 (gv G' 0)=true:=hG;simp[t13,t26,hG2,hw,Ty_34,-one1,o1_int,o1_bool,o1_str,o1_nil,o1_list,o1_arr,o1_ptr])
  ·exact StepI.none (by simp)
 ·rintro L' ⟨ρ,H,n15⟩ hI hr
  obtain⟨G13,A14,hO,hT,hG,sp,hfr16,hn0_,hA_,m13_10⟩:=Reg.fin (by kernel_rfl) rfl (show (5:Nat)<9∧(7:Nat)<9∧(8:Nat)<9 by decide) (by intro G' A';simp) hI hr
  show Runs _ _ _ _ ρ H n15 _
  replace hO:Old ρ _:=hO
  replace hT:AllF ρ _:=hT
  clear hh
  have h1:=hO.at 0 rfl
  have h2:=hO.at 1 rfl
  have h3:=hO.at 2 rfl
  have h4:=hO.at 3 rfl
  have h5:=hO.at 4 rfl
  have h6:=hO.at 5 rfl
  have h12:=hO.at 6 rfl
  have h20:=hT.at 0 rfl
  have h21:=hT.at 1 rfl
  have h22:=hT.at 2 rfl
  have h23:=hT.at 3 rfl
  have h24:=hT.at 4 rfl
  have h25:=hT.at 5 rfl
  have h26:=hT.at 6 rfl
  have h13:=hT.at 7 rfl
  have m12_2:H (n1+1,12)=some ⟨6,[zB]⟩:=(hfr16 (n1+1,12) (by simp)).trans m12_2
  have m6_1:H (n1,6)=some ⟨6,[bC false b]⟩:=(hfr16 (n1,6) (by simp)).trans m6_1
  have m13_10:H (A14,13)=some ⟨6,[[int b.roots,.v (.slice none 0 0),.v (.slice none 0 0),int len6,(gv G13 0),.v (.slice none 0 0)]]⟩:=m13_10
  replace sp:Sep H n15 [oS (gv G13 0) r9] [(A14,13),(n1+1,12),(n1,6)]:=sp
  refine Runs.cut (fun ρ H n=>∃ (v17:AVal),((ρ 1 = .list false (nodes.map intC)∧ρ 2 = .list false (edges.map intC)∧ρ 4 = .fn (.func gF4) [] cF4∧ρ 5 = .fn (.func gF5) [] cF5∧ρ 6=pA n1 6∧ρ 12=pA (n1+1) 12∧ρ 13 = .ptr (A14,13) 1 0 0)∧H (n1,6)=some ⟨6,[bC false b]⟩∧H (n1+1,12)=some ⟨6,[zB]⟩∧H (A14,13)=some ⟨6,[[int b.roots,.v (.slice none 0 0),.v (.slice none 0 0),int len6,v17,.v (.slice none 0 0)]]⟩)∧Sep H n [oS v17 r9] [(A14,13),(n1+1,12),(n1,6)]) (by refine⟨(gv G13 0),by simp[m6_1,m12_2,m13_10,h1,h2,h3,h4,h5,h6,h12,h20,h21,h22,h23,h24,h25,h26,h13],sp⟩) ?_
  clear m6_1 m12_2 m13_10 h1 h2 h3 h4 h5 h6 h12 h20 h21 h22 h23 h24 h25 h26 h13
  rintro ρ H n18 ⟨v17,⟨hh,m6_1,m12_2,m13_10⟩,sp⟩
  refine Runs.seq ?_
  refine zE fun k' hk'=>?_
  obtain⟨len19,elen19,h⟩:=atm h
  have f20:=fun H=>len_list (H:=H) (fr:=false) (f:=intC) kd_24 elen19
  simp[hh,m6_1,m12_2,m13_10,f20,-lenF]
  apply hk'
  refine Runs.block ?_
  refine Runs.loopW h (fun (sJ:Int × (List GNode)) ρ H n=>match sJ with | (v40,l41)=>∃ (v42 v43 v44 v45:AVal),((ρ 2 = .list false (edges.map intC)∧ρ 4 = .fn (.func gF4) [] cF4∧ρ 5 = .fn (.func gF5) [] cF5∧ρ 6=pA n1 6∧ρ 12=pA (n1+1) 12∧ρ 13 = .ptr (A14,13) 1 0 0∧ρ 27 = .list false (nodes.map intC)∧ρ 28=int len19∧ρ 29=int v40)∧H (n1,6)=some ⟨6,[bC false b]⟩∧H (n1+1,12)=some ⟨6,[zB]⟩∧H (A14,13)=some ⟨6,[[int b.roots,v44,v43,int len6,v45,v42]]⟩)∧Sep H n [oW v42 ([]:List Wire),oI v43 ([]:List Int),oN v44 l41,oS v45 r9] [(A14,13),(n1+1,12),(n1,6)]) (by refine⟨.v (.slice none 0 0),.v (.slice none 0 0),.v (.slice none 0 0),v17,by simp[hh,m6_1,m12_2,m13_10],(Sep.addNil (Sep.addNil (Sep.addNil sp)))⟩) ?_
  clear hh m6_1 m12_2 m13_10
  rintro⟨v40,l41⟩ ρ H n46 K h ⟨v42,v43,v44,v45,⟨hh,m6_1,m12_2,m13_10⟩,sp⟩ IH47
  refine zE fun k' hk'=>?_
  obtain⟨c49,ec49,h⟩:=atm h
  have f50:=ib_lss (k:=.i64) ec49
  simp[hh,m6_1,m12_2,m13_10,f50,-intBin]
  apply hk'
  refine Runs.seq ?_
  refine Runs.ite (b:=c49) (by simp[hh,m6_1,m12_2,m13_10]) (fun dc49=>?_) (fun dc49=>?_)
  ·replace h:=h.1 dc49
   refine Runs.skip ?_
   refine Runs.seq ?_
   refine Runs.block ?_
   refine zE fun k' hk'=>?_
   obtain⟨hb51,h⟩:=h
   obtain⟨x52,ex52,h⟩:=atm h
   have f53:=fun H=>ix_list (H:=H) (fr:=false) (f:=intC) (k:=.i64) kd_24 (fun _=>rfl) hb51 ex52
   simp[hh,m6_1,m12_2,m13_10,f53,dc49,-indexAddrF]
   apply hk'
   refine Runs.cut (fun ρ H n=>∃ (v54 v55 v56 v57:AVal),((ρ 2 = .list false (edges.map intC)∧ρ 4 = .fn (.func gF4) [] cF4∧ρ 5 = .fn (.func gF5) [] cF5∧ρ 6=pA n1 6∧ρ 12=pA (n1+1) 12∧ρ 13 = .ptr (A14,13) 1 0 0∧ρ 15=int x52∧ρ 27 = .list false (nodes.map intC)∧ρ 28=int len19∧ρ 29=int v40)∧H (n1,6)=some ⟨6,[bC false b]⟩∧H (n1+1,12)=some ⟨6,[zB]⟩∧H (A14,13)=some ⟨6,[[int b.roots,v56,v55,int len6,v57,v54]]⟩)∧Sep H n [oW v54 ([]:List Wire),oI v55 ([]:List Int),oN v56 l41,oS v57 r9] [(A14,13),(n1+1,12),(n1,6)]) (by refine⟨v42,v43,v44,v45,by simp[hh,m6_1,m12_2,m13_10,dc49],sp⟩) ?_
   clear hh m6_1 m12_2 m13_10
   rintro ρ H n58 ⟨v54,v55,v56,v57,⟨hh,m6_1,m12_2,m13_10⟩,sp⟩
   obtain⟨hb59,h⟩:=h
   obtain⟨x60,ex60,h⟩:=atm h
   have f61:=fun H=>ix_list (H:=H) (fr:=false) (f:=(GNode.cells false)) (k:=.i64) kd_31 (fun _=>rfl) hb59 ex60
   obtain⟨hb62,h⟩:=h
   obtain⟨x63,ex63,h⟩:=atm h
   have hq64:=ex60.trans ex63.symm
   subst hq64
   have f65:=fun H=>ix_list (H:=H) (fr:=false) (f:=(GNode.cells false)) (k:=.i64) kd_31 (fun _=>rfl) hb62 ex60
   obtain⟨hb66,h⟩:=h
   obtain⟨r67,er67,h⟩:=atm h
   have hid69:=sp.1
   refine Runs.seq (Runs.drawI (Reg.Inv { m:=17,c:=13,a:=15,st:=16,d:=16,B:=[(2,.list false (edges.map intC)),(4,.fn (.func gF4) [] cF4),(5,.fn (.func gF5) [] cF5),(6,pA n1 6),(12,pA (n1+1) 12),(13,.ptr (A14,13) 1 0 0),(15,int x52),(27,.list false (nodes.map intC)),(28,int len19),(29,int v40)],F:=fun GI AI=>[(0,33,.ptr (n1,6) 1 0 1),(1,34,.list false (b.nodes.map (GNode.cells false))),(2,35,int x52),(3,36,.iptr false [int x60.control,int x60.parent,.list false (x60.links.map intC)]),(4,37,.iptr false [int x60.control,int x60.parent,.list false (x60.links.map intC)]),(5,38,int x60.control),(6,39,.fn (.func gF4) [] cF4),(7,40,.ptr (n1,6) 1 0 1),(8,41,.list false (b.nodes.map (GNode.cells false))),(9,42,int x52),(10,43,.iptr false [int x60.control,int x60.parent,.list false (x60.links.map intC)]),(11,44,.iptr false [int x60.parent,.list false (x60.links.map intC)]),(12,45,int x60.parent),(13,46,int r67),(14,47,.agg [int x60.control,int r67,.v (.slice none 0 0)]),(15,16,.ptr (AI,16) 1 0 0)],ent:=fun GI=>[],ob0:=⟨3,[[int 0,int 0,.v (.slice none 0 0)]]⟩,ob1:=fun GI=>⟨3,[[int x60.control,int r67,.v (.slice none 0 0)]]⟩,RG:=fun GI=>True,onC:=[14,16],onA:=[16],H0:=H,n0:=n58,K:=[oW v54 ([]:List Wire),oI v55 ([]:List Int),oN v56 l41,oS v57 r9],ids:=[(A14,13),(n1+1,12),(n1,6)] }) draws (by decide) (Reg.init (Old.cons hh.1 (Old.cons hh.2.1 (Old.cons hh.2.2.1 (Old.cons hh.2.2.2.1 (Old.cons hh.2.2.2.2.1 (Old.cons hh.2.2.2.2.2.1 (Old.cons hh.2.2.2.2.2.2.1 (Old.cons hh.2.2.2.2.2.2.2.1 (Old.cons hh.2.2.2.2.2.2.2.2.1 (Old.cons hh.2.2.2.2.2.2.2.2.2 Old.nil)))))))))) sp) ?_ ?_)
   ·rintro (_ | _ | _ | _ | _ | _ | _ | _ | _ | _ | _ | _ | _ | _ | _ | _ | _ | i)
    ·exact Reg.det (i:=0) rfl rfl rfl rfl (fun L' ρ' H' n' G' A' hO hT hd hG hcl hfr sp=>⟨.ptr (n1,6) 1 0 1,stepF_ok Ty_ok (by rw[stepF_loc];have t6:=hO.at 3 rfl;have mm6_1:=(hfr (n1,6) (by simp)).trans m6_1;simp[t6,mm6_1]),by simp⟩)
    ·exact Reg.det (i:=1) rfl rfl rfl rfl (fun L' ρ' H' n' G' A' hO hT hd hG hcl hfr sp=>⟨.list false (b.nodes.map (GNode.cells false)),stepF_ok Ty_ok (by rw[stepF_loc];have t33:=hT.at 0 rfl (hd ⟨0,.data⟩ (by simp) rfl);have mm6_1:=(hfr (n1,6) (by simp)).trans m6_1;simp[t33,mm6_1]),by simp⟩)
    ·exact Reg.det (i:=2) rfl rfl rfl rfl (fun L' ρ' H' n' G' A' hO hT hd hG hcl hfr sp=>⟨int x52,stepF_ok Ty_ok (by rw[stepF_loc];have t15:=hO.at 6 rfl;simp[t15]),by simp⟩)
    ·exact Reg.det (i:=3) rfl rfl rfl rfl (fun L' ρ' H' n' G' A' hO hT hd hG hcl hfr sp=>⟨.iptr false [int x60.control,int x60.parent,.list false (x60.links.map intC)],stepF_ok Ty_ok (by rw[stepF_loc];have t34:=hT.at 1 rfl (hd ⟨1,.data⟩ (by simp) rfl);have t35:=hT.at 2 rfl (hd ⟨2,.data⟩ (by simp) rfl);simp[t34,t35,f61,-indexAddrF]),by simp⟩)
    ·exact Reg.det (i:=4) rfl rfl rfl rfl (fun L' ρ' H' n' G' A' hO hT hd hG hcl hfr sp=>⟨.iptr false [int x60.control,int x60.parent,.list false (x60.links.map intC)],stepF_ok Ty_ok (by rw[stepF_loc];have t36:=hT.at 3 rfl (hd ⟨3,.data⟩ (by simp) rfl);simp[t36]),by simp⟩)
    ·exact Reg.det (i:=5) rfl rfl rfl rfl (fun L' ρ' H' n' G' A' hO hT hd hG hcl hfr sp=>⟨int x60.control,stepF_ok Ty_ok (by rw[stepF_loc];have t37:=hT.at 4 rfl (hd ⟨4,.data⟩ (by simp) rfl);simp[t37]),by simp⟩)
    ·exact Reg.det (i:=6) rfl rfl rfl rfl (fun L' ρ' H' n' G' A' hO hT hd hG hcl hfr sp=>⟨.fn (.func gF4) [] cF4,stepF_ok Ty_ok (by rw[stepF_loc];have t4:=hO.at 1 rfl;simp[t4]),by simp⟩)
    ·exact Reg.det (i:=7) rfl rfl rfl rfl (fun L' ρ' H' n' G' A' hO hT hd hG hcl hfr sp=>⟨.ptr (n1,6) 1 0 1,stepF_ok Ty_ok (by rw[stepF_loc];have t6:=hO.at 3 rfl;have mm6_1:=(hfr (n1,6) (by simp)).trans m6_1;simp[t6,mm6_1]),by simp⟩)
    ·exact Reg.det (i:=8) rfl rfl rfl rfl (fun L' ρ' H' n' G' A' hO hT hd hG hcl hfr sp=>⟨.list false (b.nodes.map (GNode.cells false)),stepF_ok Ty_ok (by rw[stepF_loc];have t40:=hT.at 7 rfl (hd ⟨7,.data⟩ (by simp) rfl);have mm6_1:=(hfr (n1,6) (by simp)).trans m6_1;simp[t40,mm6_1]),by simp⟩)
    ·exact Reg.det (i:=9) rfl rfl rfl rfl (fun L' ρ' H' n' G' A' hO hT hd hG hcl hfr sp=>⟨int x52,stepF_ok Ty_ok (by rw[stepF_loc];have t15:=hO.at 6 rfl;simp[t15]),by simp⟩)
    ·exact Reg.det (i:=10) rfl rfl rfl rfl (fun L' ρ' H' n' G' A' hO hT hd hG hcl hfr sp=>⟨.iptr false [int x60.control,int x60.parent,.list false (x60.links.map intC)],stepF_ok Ty_ok (by rw[stepF_loc];have t41:=hT.at 8 rfl (hd ⟨8,.data⟩ (by simp) rfl);have t42:=hT.at 9 rfl (hd ⟨9,.data⟩ (by simp) rfl);simp[t41,t42,f65,-indexAddrF]),by simp⟩)
    ·exact Reg.det (i:=11) rfl rfl rfl rfl (fun L' ρ' H' n' G' A' hO hT hd hG hcl hfr sp=>⟨.iptr false [int x60.parent,.list false (x60.links.map intC)],stepF_ok Ty_ok (by rw[stepF_loc];have t43:=hT.at 10 rfl (hd ⟨10,.data⟩ (by simp) rfl);simp[t43]),by simp⟩)
    ·exact Reg.det (i:=12) rfl rfl rfl rfl (fun L' ρ' H' n' G' A' hO hT hd hG hcl hfr sp=>⟨int x60.parent,stepF_ok Ty_ok (by rw[stepF_loc];have t44:=hT.at 11 rfl (hd ⟨11,.data⟩ (by simp) rfl);simp[t44]),by simp⟩)
    ·exact Reg.callP rfl rfl rfl (fun _=>rfl) (fun _=>trivial) (fun L' ρ' H' n' G' A' hO hT hd hfr sp=>⟨_,by have t39:=hT.at 6 rfl (hd ⟨6,.data⟩ (by simp) rfl);have t45:=hT.at 12 rfl (hd ⟨12,.data⟩ (by simp) rfl);exact OpSem.callG (xs:=[int x60.parent]) (xs2:=[int x60.parent]) (hF4 x60.parent hb66) heF4 (.cons (.v _ _ _) .nil) (hcF4 _ _) (by simp[t39,t45]) (by simp[t39,t45]),by simp[er67]⟩)
    ·exact Reg.det (i:=14) rfl rfl rfl rfl (fun L' ρ' H' n' G' A' hO hT hd hG hcl hfr sp=>⟨.agg [int x60.control,int r67,.v (.slice none 0 0)],stepF_ok Ty_ok (by rw[stepF_loc];have t38:=hT.at 5 rfl (hd ⟨5,.data⟩ (by simp) rfl);have t46:=hT.at 13 rfl (hd ⟨13,.data⟩ (by simp) rfl);simp[t38,t46]),by simp⟩) (hc:=fun _=>⟨⟨13,.data⟩,by simp,rfl,by simp⟩)
    ·exact Reg.alloc Ty_ok rfl Ty_72 rfl rfl rfl
    ·exact Reg.store Ty_ok rfl rfl rfl hid69 ⟨⟨14,.data⟩,by simp,rfl,by simp⟩ ⟨⟨15,.data⟩,by simp,rfl,by simp⟩ (fun L' ρ' H' G' A' hO hT hd hG hw=>by have t16:=hT.at 15 rfl (hd ⟨15,.data⟩ (by simp) rfl);have t47:=hT.at 14 rfl (hd ⟨14,.data⟩ (by simp) rfl);simp[t16,t47,hw,Ty_72,-one1,o1_int,o1_bool,o1_str,o1_nil,o1_list,o1_arr,o1_ptr])
    ·exact StepI.none (by simp)
   ·rintro L' ⟨ρ,H,n72⟩ hI hr
    obtain⟨G70,A71,hO,hT,hG,sp,hfr73,hn0_,hA_,m16_67⟩:=Reg.fin (by kernel_rfl) rfl (show (13:Nat)<17∧(15:Nat)<17∧(16:Nat)<17 by decide) (by intro G' A';simp) hI hr
    show Runs _ _ _ _ ρ H n72 _
    replace hO:Old ρ _:=hO
    replace hT:AllF ρ _:=hT
    clear hh
    have h2:=hO.at 0 rfl
    have h4:=hO.at 1 rfl
    have h5:=hO.at 2 rfl
    have h6:=hO.at 3 rfl
    have h12:=hO.at 4 rfl
    have h13:=hO.at 5 rfl
    have h15:=hO.at 6 rfl
    have h27:=hO.at 7 rfl
    have h28:=hO.at 8 rfl
    have h29:=hO.at 9 rfl
    have h33:=hT.at 0 rfl
    have h34:=hT.at 1 rfl
    have h35:=hT.at 2 rfl
    have h36:=hT.at 3 rfl
    have h37:=hT.at 4 rfl
    have h38:=hT.at 5 rfl
    have h39:=hT.at 6 rfl
    have h40:=hT.at 7 rfl
    have h41:=hT.at 8 rfl
    have h42:=hT.at 9 rfl
    have h43:=hT.at 10 rfl
    have h44:=hT.at 11 rfl
    have h45:=hT.at 12 rfl
    have h46:=hT.at 13 rfl
    have h47:=hT.at 14 rfl
    have h16:=hT.at 15 rfl
    have m13_10:H (A14,13)=some ⟨6,[[int b.roots,v56,v55,int len6,v57,v54]]⟩:=(hfr73 (A14,13) (by simp)).trans m13_10
    have m12_2:H (n1+1,12)=some ⟨6,[zB]⟩:=(hfr73 (n1+1,12) (by simp)).trans m12_2
    have m6_1:H (n1,6)=some ⟨6,[bC false b]⟩:=(hfr73 (n1,6) (by simp)).trans m6_1
    have m16_67:H (A71,16)=some ⟨3,[[int x60.control,int r67,.v (.slice none 0 0)]]⟩:=m16_67
    replace sp:Sep H n72 [oW v54 ([]:List Wire),oI v55 ([]:List Int),oN v56 l41,oS v57 r9] [(A71,16),(A14,13),(n1+1,12),(n1,6)]:=sp
    refine Runs.cut (fun ρ H n=>∃ (v74 v75 v76 v77:AVal),((ρ 2 = .list false (edges.map intC)∧ρ 4 = .fn (.func gF4) [] cF4∧ρ 5 = .fn (.func gF5) [] cF5∧ρ 6=pA n1 6∧ρ 12=pA (n1+1) 12∧ρ 13 = .ptr (A14,13) 1 0 0∧ρ 15=int x52∧ρ 16 = .ptr (A71,16) 1 0 0∧ρ 27 = .list false (nodes.map intC)∧ρ 28=int len19∧ρ 29=int v40)∧H (n1,6)=some ⟨6,[bC false b]⟩∧H (n1+1,12)=some ⟨6,[zB]⟩∧H (A14,13)=some ⟨6,[[int b.roots,v76,v75,int len6,v77,v74]]⟩∧H (A71,16)=some ⟨3,[[int x60.control,int r67,.v (.slice none 0 0)]]⟩)∧Sep H n [oW v74 ([]:List Wire),oI v75 ([]:List Int),oN v76 l41,oS v77 r9] [(A71,16),(A14,13),(n1+1,12),(n1,6)]) (by refine⟨v54,v55,v56,v57,by simp[m6_1,m12_2,m13_10,m16_67,h2,h4,h5,h6,h12,h13,h15,h27,h28,h29,h33,h34,h35,h36,h37,h38,h39,h40,h41,h42,h43,h44,h45,h46,h47,h16],sp⟩) ?_
    clear m6_1 m12_2 m13_10 m16_67 h2 h4 h5 h6 h12 h13 h15 h27 h28 h29 h33 h34 h35 h36 h37 h38 h39 h40 h41 h42 h43 h44 h45 h46 h47 h16
    rintro ρ H n78 ⟨v74,v75,v76,v77,⟨hh,m6_1,m12_2,m13_10,m16_67⟩,sp⟩
    refine Runs.seq ?_
    refine zE fun k' hk'=>?_
    obtain⟨hb79,h⟩:=h
    obtain⟨x80,ex80,h⟩:=atm h
    have f81:=fun H=>ix_list (H:=H) (fr:=false) (f:=(GNode.cells false)) (k:=.i64) kd_31 (fun _=>rfl) hb79 ex80
    obtain⟨len82,elen82,h⟩:=atm h
    have f83:=fun H=>len_list (H:=H) (fr:=false) (f:=intC) kd_24 elen82
    simp[hh,m6_1,m12_2,m13_10,m16_67,f81,f83,-indexAddrF,-lenF]
    apply hk'
    refine Runs.block ?_
    refine Runs.loopW h (fun (sJ:Int × (List Int)) ρ H n=>match sJ with | (v106,l107)=>∃ (v108 v109 v110 v111 v112:AVal),((ρ 2 = .list false (edges.map intC)∧ρ 4 = .fn (.func gF4) [] cF4∧ρ 5 = .fn (.func gF5) [] cF5∧ρ 6=pA n1 6∧ρ 12=pA (n1+1) 12∧ρ 13 = .ptr (A14,13) 1 0 0∧ρ 16 = .ptr (A71,16) 1 0 0∧ρ 27 = .list false (nodes.map intC)∧ρ 28=int len19∧ρ 29=int v40∧ρ 53 = .list false (x80.links.map intC)∧ρ 54=int len82∧ρ 55=int v106)∧H (n1,6)=some ⟨6,[bC false b]⟩∧H (n1+1,12)=some ⟨6,[zB]⟩∧H (A14,13)=some ⟨6,[[int b.roots,v111,v110,int len6,v112,v109]]⟩∧H (A71,16)=some ⟨3,[[int x60.control,int r67,v108]]⟩)∧Sep H n [oI v108 l107,oW v109 ([]:List Wire),oI v110 ([]:List Int),oN v111 l41,oS v112 r9] [(A71,16),(A14,13),(n1+1,12),(n1,6)]) (by refine⟨.v (.slice none 0 0),v74,v75,v76,v77,by simp[hh,m6_1,m12_2,m13_10,m16_67],(Sep.addNil sp)⟩) ?_
    clear hh m6_1 m12_2 m13_10 m16_67
    rintro⟨v106,l107⟩ ρ H n113 K h ⟨v108,v109,v110,v111,v112,⟨hh,m6_1,m12_2,m13_10,m16_67⟩,sp⟩ IH114
    refine zE fun k' hk'=>?_
    obtain⟨c116,ec116,h⟩:=atm h
    have f117:=ib_lss (k:=.i64) ec116
    simp[hh,m6_1,m12_2,m13_10,m16_67,f117,-intBin]
    apply hk'
    refine Runs.seq ?_
    refine Runs.ite (b:=c116) (by simp[hh,m6_1,m12_2,m13_10,m16_67]) (fun dc116=>?_) (fun dc116=>?_)
    ·replace h:=h.1 dc116
     refine Runs.skip ?_
     refine Runs.seq ?_
     refine Runs.block ?_
     refine zE fun k' hk'=>?_
     obtain⟨hb118,h⟩:=h
     obtain⟨x119,ex119,h⟩:=atm h
     have f120:=fun H=>ix_list (H:=H) (fr:=false) (f:=intC) (k:=.i64) kd_24 (fun _=>rfl) hb118 ex119
     simp[hh,m6_1,m12_2,m13_10,m16_67,f120,dc116,-indexAddrF]
     apply hk'
     refine zE fun k' hk'=>?_
     obtain⟨hb121,h⟩:=h
     obtain⟨r122,er122,h⟩:=atm h
     simp[hh,m6_1,m12_2,m13_10,m16_67,dc116]
     refine RunK.callA Ty_ok (indexI_ok edges x119 hb121) e53 (.cons (argI false edges) (.cons (.v _ _ _) .nil)) (by decide) (by decide) rfl (by simp[hh,m6_1,m12_2,m13_10,m16_67,dc116]) ?_
     rintro _ rfl
     rw[← er122]
     simp[hh,m6_1,m12_2,m13_10,m16_67,dc116]
     apply hk'
     refine zE fun k' hk'=>?_
     obtain⟨c123,ec123,h⟩:=atm h
     have f124:=ib_geq (k:=.i64) ec123
     simp[hh,m6_1,m12_2,m13_10,m16_67,f124,dc116,-intBin]
     apply hk'
     refine Runs.ite (b:=c123) (by simp[hh,m6_1,m12_2,m13_10,m16_67,dc116]) (fun dc123=>?_) (fun dc123=>?_)
     ·replace h:=h.1 dc123
      refine zF fun k' hk'=>?_
      obtain⟨hb125,h⟩:=h
      obtain⟨l126,el126,h⟩:=atm h
      simp[hh,m6_1,m12_2,m13_10,m16_67,dc116,dc123,-appendF]
      refine bind_append [] [oW v109 ([]:List Wire),oI v110 ([]:List Int),oN v111 l41,oS v112 r9] [[int r122]] [intC r122] sp kd_24 (by simp) (by simp) (by simp) (by simp[-one1,o1x]) (rows_one (Fill.v _ Fill.nil)) (by simp) (by simpa using hb125) ?_
      rintro v127 H128 n129 sp hfr130 hle131
      replace sp:Sep H128 n129 [oI v127 l126,oW v109 ([]:List Wire),oI v110 ([]:List Int),oN v111 l41,oS v112 r9] [(A71,16),(A14,13),(n1+1,12),(n1,6)]:=Sep.ap el126 sp
      have m6_1:=(hfr130 _ (by simp)).trans m6_1
      have m12_2:=(hfr130 _ (by simp)).trans m12_2
      have m13_10:=(hfr130 _ (by simp)).trans m13_10
      have m16_67:=(hfr130 _ (by simp)).trans m16_67
      have f133:=Sep.oc sp
      simp[hh,m6_1,m12_2,m13_10,m16_67,f133,dc116,dc123,-cellsA,-one1,cAx,o1x]
      apply hk'
      refine Runs.cut (fun ρ H n=>∃ (v134 v135 v136 v137 v138:AVal),((ρ 2 = .list false (edges.map intC)∧ρ 4 = .fn (.func gF4) [] cF4∧ρ 5 = .fn (.func gF5) [] cF5∧ρ 6=pA n1 6∧ρ 12=pA (n1+1) 12∧ρ 13 = .ptr (A14,13) 1 0 0∧ρ 16 = .ptr (A71,16) 1 0 0∧ρ 27 = .list false (nodes.map intC)∧ρ 28=int len19∧ρ 29=int v40∧ρ 53 = .list false (x80.links.map intC)∧ρ 54=int len82∧ρ 55=int v106)∧H (n1,6)=some ⟨6,[bC false b]⟩∧H (n1+1,12)=some ⟨6,[zB]⟩∧H (A14,13)=some ⟨6,[[int b.roots,v137,v136,int len6,v138,v135]]⟩∧H (A71,16)=some ⟨3,[[int x60.control,int r67,v134]]⟩)∧Sep H n [oI v134 l126,oW v135 ([]:List Wire),oI v136 ([]:List Int),oN v137 l41,oS v138 r9] [(A71,16),(A14,13),(n1+1,12),(n1,6)]) (by refine⟨v127,v109,v110,v111,v112,by simp[hh,m6_1,m12_2,m13_10,m16_67,f133,dc116,dc123,-cellsA,-one1,cAx,o1x],(Sep.setVar (w:=(A71,16)) sp (by simp))⟩) ?_
      clear hh m6_1 m12_2 m13_10 m16_67
      rintro ρ H n139 ⟨v134,v135,v136,v137,v138,⟨hh,m6_1,m12_2,m13_10,m16_67⟩,sp⟩
      refine Runs.inBlock ?_
      refine zF fun k' hk'=>?_
      obtain⟨hb140,h⟩:=h
      obtain⟨v141,ev141,h⟩:=atm h
      have f142:=ib_add hb140 ev141
      simp[hh,m6_1,m12_2,m13_10,m16_67,f142,-intBin]
      apply hk'
      refine IH114 (v141,l126) _ _ _ h (by refine⟨v134,v135,v136,v137,v138,by simp[hh,m6_1,m12_2,m13_10,m16_67],sp⟩)
     replace h:=h.2 dc123
     refine Runs.evalDE Ty_ok kindOp_ok draws (by decide) (by kernel_rfl) fun k' hk'=>?_
     obtain⟨hb143,h⟩:=h
     obtain⟨r144,er144,h⟩:=atm h
     simp[hh,m6_1,m12_2,m13_10,m16_67,dc116,dc123]
     refine RunDK.callG (xs1:=[int x119]) (xs2:=[int x119]) Ty_ok kindOp_ok (hF5 x119 hb143) heF5 (.cons (.v _ _ _) .nil) (hcF5 _ _) (by decide) rfl (by simp[hh,m6_1,m12_2,m13_10,m16_67,dc116,dc123]) ?_
     rw[← er144]
     obtain⟨hb145,h⟩:=h
     obtain⟨r146,er146,h⟩:=atm h
     simp[hh,m6_1,m12_2,m13_10,m16_67,dc116,dc123]
     refine RunDK.callA Ty_ok kindOp_ok (indexS_ok r9 r144 hb145) e111 (.cons (Sep.argOk' sp.f4 (old_listF (by simp))) (.cons (.v _ _ _) .nil)) (by decide) rfl (by simp[hh,m6_1,m12_2,m13_10,m16_67,dc116,dc123]) ?_
     rw[← er146]
     obtain⟨hb147,h⟩:=h
     obtain⟨v148,ev148,h⟩:=atm h
     have f149:=ib_add hb147 ev148
     obtain⟨hb150,h⟩:=h
     obtain⟨l151,el151,h⟩:=atm h
     simp[hh,m6_1,m12_2,m13_10,m16_67,f149,dc116,dc123,-intBin,-appendF]
     refine bindD_append [] [oW v109 ([]:List Wire),oI v110 ([]:List Int),oN v111 l41,oS v112 r9] [[int v148]] [intC v148] sp kd_24 (by simp) (by simp) (by simp) (by simp[-one1,o1x]) (rows_one (Fill.v _ Fill.nil)) (by simp) (by simpa using hb150) ?_
     rintro v152 H153 n154 sp hfr155 hle156
     replace sp:Sep H153 n154 [oI v152 l151,oW v109 ([]:List Wire),oI v110 ([]:List Int),oN v111 l41,oS v112 r9] [(A71,16),(A14,13),(n1+1,12),(n1,6)]:=Sep.ap el151 sp
     have m6_1:=(hfr155 _ (by simp)).trans m6_1
     have m12_2:=(hfr155 _ (by simp)).trans m12_2
     have m13_10:=(hfr155 _ (by simp)).trans m13_10
     have m16_67:=(hfr155 _ (by simp)).trans m16_67
     have f158:=Sep.oc sp
     simp[hh,m6_1,m12_2,m13_10,m16_67,f149,f158,dc116,dc123,-cellsA,-intBin,-one1,cAx,o1x]
     apply hk'
     refine Runs.cut (fun ρ H n=>∃ (v159 v160 v161 v162 v163:AVal),((ρ 2 = .list false (edges.map intC)∧ρ 4 = .fn (.func gF4) [] cF4∧ρ 5 = .fn (.func gF5) [] cF5∧ρ 6=pA n1 6∧ρ 12=pA (n1+1) 12∧ρ 13 = .ptr (A14,13) 1 0 0∧ρ 16 = .ptr (A71,16) 1 0 0∧ρ 27 = .list false (nodes.map intC)∧ρ 28=int len19∧ρ 29=int v40∧ρ 53 = .list false (x80.links.map intC)∧ρ 54=int len82∧ρ 55=int v106)∧H (n1,6)=some ⟨6,[bC false b]⟩∧H (n1+1,12)=some ⟨6,[zB]⟩∧H (A14,13)=some ⟨6,[[int b.roots,v162,v161,int len6,v163,v160]]⟩∧H (A71,16)=some ⟨3,[[int x60.control,int r67,v159]]⟩)∧Sep H n [oI v159 l151,oW v160 ([]:List Wire),oI v161 ([]:List Int),oN v162 l41,oS v163 r9] [(A71,16),(A14,13),(n1+1,12),(n1,6)]) (by refine⟨v152,v109,v110,v111,v112,by simp[hh,m6_1,m12_2,m13_10,m16_67,f149,f158,dc116,dc123,-cellsA,-intBin,-one1,cAx,o1x],(Sep.setVar (w:=(A71,16)) sp (by simp))⟩) ?_
     clear hh m6_1 m12_2 m13_10 m16_67
     rintro ρ H n164 ⟨v159,v160,v161,v162,v163,⟨hh,m6_1,m12_2,m13_10,m16_67⟩,sp⟩
     refine Runs.inBlock ?_
     refine zF fun k' hk'=>?_
     obtain⟨hb165,h⟩:=h
     obtain⟨v166,ev166,h⟩:=atm h
     have f167:=ib_add hb165 ev166
     simp[hh,m6_1,m12_2,m13_10,m16_67,f167,-intBin]
     apply hk'
     refine IH114 (v166,l151) _ _ _ h (by refine⟨v159,v160,v161,v162,v163,by simp[hh,m6_1,m12_2,m13_10,m16_67],sp⟩)
    replace h:=h.2 dc116
    refine Runs.exit rfl ?_
    refine zF fun k' hk'=>?_
    obtain⟨hb168,h⟩:=h
    obtain⟨l169,el169,h⟩:=atm h
    simp[hh,m6_1,m12_2,m13_10,m16_67,dc116,-appendF]
    refine bind_append [oI v108 l107] [oW v109 ([]:List Wire),oI v110 ([]:List Int),oS v112 r9] [[int x60.control,int r67,v108]] [(GNode.cells true) (GNode.mk x60.control r67 l107)] sp.f3 kd_31 (by simp) (by simp) (by simp) (by simp[-one1,o1x,Sep.one1 sp.f3.dr]) (rows_one (Fill.v _ (Fill.v _ (Fill.own Fill.nil)))) (by simp) (by simpa using hb168) ?_
    rintro v170 H171 n172 sp hfr173 hle174
    replace sp:Sep H171 n172 [oN v170 l169,oW v109 ([]:List Wire),oI v110 ([]:List Int),oS v112 r9] [(A71,16),(A14,13),(n1+1,12),(n1,6)]:=Sep.ap el169 sp
    have m6_1:=(hfr173 _ (by simp)).trans m6_1
    have m12_2:=(hfr173 _ (by simp)).trans m12_2
    have m13_10:=(hfr173 _ (by simp)).trans m13_10
    have m16_67:=(hfr173 _ (by simp)).trans m16_67
    have f176:=Sep.oc sp
    simp[hh,m6_1,m12_2,m13_10,m16_67,f176,dc116,-cellsA,-one1,cAx,o1x]
    apply hk'
    refine Runs.cut (fun ρ H n=>∃ (v177 v178 v179 v180:AVal),((ρ 2 = .list false (edges.map intC)∧ρ 4 = .fn (.func gF4) [] cF4∧ρ 5 = .fn (.func gF5) [] cF5∧ρ 6=pA n1 6∧ρ 12=pA (n1+1) 12∧ρ 13 = .ptr (A14,13) 1 0 0∧ρ 27 = .list false (nodes.map intC)∧ρ 28=int len19∧ρ 29=int v40)∧H (n1,6)=some ⟨6,[bC false b]⟩∧H (n1+1,12)=some ⟨6,[zB]⟩∧H (A14,13)=some ⟨6,[[int b.roots,v177,v179,int len6,v180,v178]]⟩)∧Sep H n [oN v177 l169,oW v178 ([]:List Wire),oI v179 ([]:List Int),oS v180 r9] [(A14,13),(n1+1,12),(n1,6)]) (by refine⟨v170,v109,v110,v112,by simp[hh,m6_1,m12_2,m13_10,m16_67,f176,dc116,-cellsA,-one1,cAx,o1x],(Sep.sub (Sep.setVar (w:=(A14,13)) sp (by simp)) (by simp +contextual))⟩) ?_
    clear hh m6_1 m12_2 m13_10 m16_67
    rintro ρ H n181 ⟨v177,v178,v179,v180,⟨hh,m6_1,m12_2,m13_10⟩,sp⟩
    refine Runs.inBlock ?_
    refine zF fun k' hk'=>?_
    obtain⟨hb182,h⟩:=h
    obtain⟨v183,ev183,h⟩:=atm h
    have f184:=ib_add hb182 ev183
    simp[hh,m6_1,m12_2,m13_10,f184,-intBin]
    apply hk'
    refine IH47 (v183,l169) _ _ _ h (by refine⟨v178,v179,v177,v180,by simp[hh,m6_1,m12_2,m13_10],sp.f2.f2⟩)
  replace h:=h.2 dc49
  refine Runs.exit rfl ?_
  refine zE fun k' hk'=>?_
  have f185:=Sep.oc sp.f2
  have f186:=Sep.oc sp.f1
  have f187:=Sep.oc sp.f3
  have f188:=Sep.oc sp
  simp[hh,m6_1,m12_2,m13_10,f185,f186,f187,f188,dc49,-cellsA,-one1,cAx,o1x]
  apply hk'
  refine Runs.cut (fun ρ H n=>∃ (v189 v190 v191 v192:AVal),(ρ 12=pA (n1+1) 12∧H (n1+1,12)=some ⟨6,[[int b.roots,v191,v190,int len6,v192,v189]]⟩)∧Sep H n [oW v189 ([]:List Wire),oI v190 ([]:List Int),oN v191 l41,oS v192 r9] [(n1+1,12)]) (by refine⟨v42,v43,v44,v45,by simp[hh,m6_1,m12_2,m13_10,f185,f186,f187,f188,dc49,-cellsA,-one1,cAx,o1x],(Sep.sub (Sep.setVar (w:=(n1+1,12)) sp (by simp)) (by simp +contextual))⟩) ?_
  clear hh m6_1 m12_2 m13_10
  rintro ρ H n193 ⟨v189,v190,v191,v192,⟨hh,m12_2⟩,sp⟩
  exact Runs.res1 Ty_ok (v:=.agg [int b.roots,v191,v190,int len6,v192,v189]) Tryz.func51 Tryz.results51 (by simp[hh,m12_2,resA]) (hQ _ _ _ _ (Sep.sub (ids':=[]) (Sep.pack (Fill.v _ (Fill.own (Fill.own (Fill.v _ (Fill.own (Fill.own Fill.nil)))))) sp.f3.f2.f3) (by simp)) ⟨(Big.mk b.roots l41 ([]:List Int) len6 r9 ([]:List Wire)),h,rfl⟩)
theorem partB_ok {gF4:FuncId} {cF4:List AVal} {gF5:FuncId} {cF5:List AVal} (b:Big) (nodes:List Int) (edges:List Int) (outer:List Str) (f4:Int→Int) (D4:Int→Prop) (f5:Int→Str) (D5:Int→Prop) (heF4:Ent Tryz.prog gF4) (hcF4:∀ H n,ArgsOk H n cF4 cF4) (hF4:∀ z0,D4 z0→PureC Tryz.prog gF4 ((int z0)::cF4) (fun r=>r=int (f4 z0))) (heF5:Ent Tryz.prog gF5) (hcF5:∀ H n,ArgsOk H n cF5 cF5) (hF5:∀ z0,D5 z0→PureC Tryz.prog gF5 ((int z0)::cF5) (fun r=>r=str (f5 z0))) (hp:partB_pre b nodes edges outer f4 D4 f5 D5):OwnS Tryz.prog 51 [.agg (bC false b),.list false (nodes.map intC),.list false (edges.map intC),.list false (outer.map strC),.fn (.func gF4) [] cF4,.fn (.func gF5) [] cF5] (.a [.c,.s [.c,.c,.s [.c]],.s [.c],.c,.s [.c],.s [.c,.c]]) (fun r=>r = .agg [int ((partB b nodes edges outer f4 D4 f5 D5).roots),.list true (((partB b nodes edges outer f4 D4 f5 D5).nodes).map (GNode.cells true)),.list true (((partB b nodes edges outer f4 D4 f5 D5).sites).map intC),int ((partB b nodes edges outer f4 D4 f5 D5).edges),.list true (((partB b nodes edges outer f4 D4 f5 D5).outer).map strC),.list true (((partB b nodes edges outer f4 D4 f5 D5).inner).map Wire.cells)]):=(partB_walk b nodes edges outer f4 D4 f5 D5 heF4 hcF4 hF4 heF5 hcF5 hF5 _ (partB_vc b nodes edges outer f4 D4 f5 D5 hp)).mono (by rintro _ ⟨_,rfl,rfl⟩;rfl)
theorem e50:Ent Tryz.prog 50:=Ent.of Tryz.func50 (by kernel_rfl) rfl
theorem linkName_walk (l:Int) (Z:Str→Prop) (h:linkName_wp l Z):PureC Tryz.prog 50 [int l] (fun r=>∃ y:Str,Z y∧r=str y):=by
 unfold linkName_wp at h
 refine PureC.of Tryz.func50 rfl Tryz.ntmps50 (by simp) fun Q hQ=>?_
 refine Runs.cut (fun ρ H n=>ρ 0=int l) (by simp[]) ?_
 rintro ρ H n1 hh
 refine zE fun k' hk'=>?_
 simp[hh]
 apply hk'
 refine zE fun k' hk'=>?_
 obtain⟨hb2,h⟩:=h
 obtain⟨v3,ev3,h⟩:=atm h
 have f4:=ib_add hb2 ev3
 obtain⟨hb5,h⟩:=h
 have f6:=cv_32 (k:=.i64) Ty_3 kd_21 hb5
 simp[hh,f4,f6,-convF,-intBin]
 simp
 refine RunK.runeS (k1:=.i32) (a:=v3) Ty_ok (by decide) (by decide) Ty_21 kd_9 (by simp[hh,f4,f6,-convF,-intBin]) ?_
 obtain⟨v7,ev7,h⟩:=atm h
 rw[← ev7]
 simp[hh,f4,f6,-convF,-intBin]
 apply hk'
 exact Runs.ret1 (v:=str v7) Tryz.func50 Tryz.results50 (by simp[hh]) (hQ _ _ _ _ (.of (.v _)) ⟨v7,h,rfl⟩)
theorem linkName_ok (l:Int) (hp:linkName_pre l):PureC Tryz.prog 50 [int l] (fun r=>r=str (linkName l)):=(linkName_walk l _ (linkName_vc l hp)).mono (by rintro _ ⟨_,rfl,rfl⟩;rfl)
theorem e52:Ent Tryz.prog 52:=Ent.of Tryz.func52 (by kernel_rfl) rfl
theorem cutP1_walk (p:Int) (v_:Int) (v_':List Int) (Z:Int→Prop) (h:cutP1_wp p v_ v_' Z):PureC Tryz.prog 52 [int p,.iptr false [int v_],.iptr false [.list false (v_'.map intC)]] (fun r=>∃ y:Int,Z y∧r=int y):=by
 unfold cutP1_wp at h
 refine PureC.of Tryz.func52 rfl Tryz.ntmps52 (by simp) fun Q hQ=>?_
 refine Runs.cut (fun ρ H n=>(ρ 0=int p∧ρ 1 = .iptr false [int v_]∧ρ 2 = .iptr false [.list false (v_'.map intC)])) (by simp) ?_
 rintro ρ H n1 hh
 refine zE fun k' hk'=>?_
 simp[hh]
 apply hk'
 refine Runs.seq ?_
 refine zE fun k' hk'=>?_
 obtain⟨c2,ec2,h⟩:=atm h
 have f3:=ib_eql (k:=.i64) ec2
 simp[hh,f3,-intBin]
 apply hk'
 refine Runs.ite (b:=c2) (by simp[hh]) (fun dc2=>?_) (fun dc2=>?_)
 ·replace h:=h.1 dc2
  refine zE fun k' hk'=>?_
  simp[hh,dc2]
  apply hk'
  exact Runs.ret1 (v:=int (-1)) Tryz.func52 Tryz.results52 (by simp[hh,dc2]) (hQ _ _ _ _ (.of (.v _)) ⟨(-1),h,rfl⟩)
 replace h:=h.2 dc2
 refine Runs.skip ?_
 refine zE fun k' hk'=>?_
 obtain⟨hb4,h⟩:=h
 obtain⟨r5,er5,h⟩:=atm h
 simp[hh,dc2]
 refine RunK.callA Ty_ok (indexI_ok v_' p hb4) e53 (.cons (argI false v_') (.cons (.v _ _ _) .nil)) (by decide) (by decide) rfl (by simp[hh,dc2]) ?_
 rintro _ rfl
 rw[← er5]
 simp[hh,dc2]
 apply hk'
 exact Runs.ret1 (v:=int r5) Tryz.func52 Tryz.results52 (by simp[hh,dc2]) (hQ _ _ _ _ (.of (.v _)) ⟨r5,h,rfl⟩)
theorem cutP1_ok (p:Int) (v_:Int) (v_':List Int) (hp:cutP1_pre p v_ v_'):PureC Tryz.prog 52 [int p,.iptr false [int v_],.iptr false [.list false (v_'.map intC)]] (fun r=>r=int (cutP1 p v_ v_')):=(cutP1_walk p v_ v_' _ (cutP1_vc p v_ v_' hp)).mono (by rintro _ ⟨_,rfl,rfl⟩;rfl)
theorem e54:Ent Tryz.prog 54:=Ent.of Tryz.func54 (by kernel_rfl) rfl
theorem cutP2_walk (p:Int) (v_:List Int) (Z:Int→Prop) (h:cutP2_wp p v_ Z):PureC Tryz.prog 54 [int p,.iptr false [.list false (v_.map intC)]] (fun r=>∃ y:Int,Z y∧r=int y):=by
 unfold cutP2_wp at h
 refine PureC.of Tryz.func54 rfl Tryz.ntmps54 (by simp) fun Q hQ=>?_
 refine Runs.cut (fun ρ H n=>(ρ 0=int p∧ρ 1 = .iptr false [.list false (v_.map intC)])) (by simp) ?_
 rintro ρ H n1 hh
 refine zE fun k' hk'=>?_
 simp[hh]
 apply hk'
 refine Runs.seq ?_
 refine zE fun k' hk'=>?_
 obtain⟨c2,ec2,h⟩:=atm h
 have f3:=ib_lss (k:=.i64) ec2
 simp[hh,f3,-intBin]
 apply hk'
 refine Runs.ite (b:=c2) (by simp[hh]) (fun dc2=>?_) (fun dc2=>?_)
 ·replace h:=h.1 dc2
  refine zE fun k' hk'=>?_
  simp[hh,dc2]
  apply hk'
  exact Runs.ret1 (v:=int p) Tryz.func54 Tryz.results54 (by simp[hh,dc2]) (hQ _ _ _ _ (.of (.v _)) ⟨p,h,rfl⟩)
 replace h:=h.2 dc2
 refine Runs.skip ?_
 refine zE fun k' hk'=>?_
 obtain⟨hb4,h⟩:=h
 obtain⟨r5,er5,h⟩:=atm h
 simp[hh,dc2]
 refine RunK.callA Ty_ok (indexI_ok v_ p hb4) e53 (.cons (argI false v_) (.cons (.v _ _ _) .nil)) (by decide) (by decide) rfl (by simp[hh,dc2]) ?_
 rintro _ rfl
 rw[← er5]
 simp[hh,dc2]
 apply hk'
 exact Runs.ret1 (v:=int r5) Tryz.func54 Tryz.results54 (by simp[hh,dc2]) (hQ _ _ _ _ (.of (.v _)) ⟨r5,h,rfl⟩)
theorem cutP2_ok (p:Int) (v_:List Int) (hp:cutP2_pre p v_):PureC Tryz.prog 54 [int p,.iptr false [.list false (v_.map intC)]] (fun r=>r=int (cutP2 p v_)):=(cutP2_walk p v_ _ (cutP2_vc p v_ hp)).mono (by rintro _ ⟨_,rfl,rfl⟩;rfl)
theorem e55:Ent Tryz.prog 55:=Ent.of Tryz.func55 (by kernel_rfl) rfl
theorem cutP3_walk (l:Int) (v_:Big) (Z:Str→Prop) (h:cutP3_wp l v_ Z):PureC Tryz.prog 55 [int l,.iptr false (bC false v_)] (fun r=>∃ y:Str,Z y∧r=str y):=by
 unfold cutP3_wp at h
 refine PureC.of Tryz.func55 rfl Tryz.ntmps55 (by simp) fun Q hQ=>?_
 refine Runs.cut (fun ρ H n=>(ρ 0=int l∧ρ 1 = .iptr false (bC false v_))) (by simp) ?_
 rintro ρ H n1 hh
 refine zE fun k' hk'=>?_
 simp[hh]
 apply hk'
 refine zE fun k' hk'=>?_
 obtain⟨hb2,h⟩:=h
 obtain⟨v3,ev3,h⟩:=atm h
 have f4:=ib_sub hb2 ev3
 obtain⟨hb5,h⟩:=h
 obtain⟨x6,ex6,h⟩:=atm h
 have f7:=fun H=>ix_list (H:=H) (fr:=false) (f:=strC) (k:=.i64) kd_25 (fun _=>rfl) hb5 ex6
 simp[hh,f4,f7,-indexAddrF,-intBin]
 apply hk'
 exact Runs.ret1 (v:=str x6) Tryz.func55 Tryz.results55 (by simp[hh]) (hQ _ _ _ _ (.of (.v _)) ⟨x6,h,rfl⟩)
theorem cutP3_ok (l:Int) (v_:Big) (hp:cutP3_pre l v_):PureC Tryz.prog 55 [int l,.iptr false (bC false v_)] (fun r=>r=str (cutP3 l v_)):=(cutP3_walk l v_ _ (cutP3_vc l v_ hp)).mono (by rintro _ ⟨_,rfl,rfl⟩;rfl)
theorem e161:Ent Tryz.prog 161:=Ent.of Tryz.func161 (by kernel_rfl) rfl
theorem cloneW_walk (s:List Wire) (Z:(List Wire)→Prop) (h:cloneW_wp s Z):OwnS Tryz.prog 161 [.list false (s.map Wire.cells)] (.s [.c,.c]) (fun r=>∃ y:List Wire,Z y∧r = .list true (y.map Wire.cells)):=by
 unfold cloneW_wp at h
 have sp:Sep noHeap 0 [] []:=Sep.nil (by simp)
 refine OwnS.of Tryz.func161 rfl Tryz.ntmps161 (by simp) fun Q hQ=>?_
 refine Runs.cut (fun ρ H n=>ρ 0 = .list false (s.map Wire.cells)∧Sep H n [] []) (by refine⟨by simp ,sp⟩) ?_
 rintro ρ H n1 ⟨hh,sp⟩
 refine zE fun k' hk'=>?_
 simp[hh]
 apply hk'
 refine Runs.seq ?_
 refine zE fun k' hk'=>?_
 simp[hh]
 refine RunK.isNil (fr:=false) (els:=s.map Wire.cells) Ty_ok (by decide) (by decide) kd_32 (by simp[hh]) (by simp[hh]) ?_
 rintro c2 hc3
 replace h:=h c2 (fun hq=>by simpa using hc3 hq)
 simp[hh]
 apply hk'
 refine Runs.ite (b:=c2) (by simp[hh]) (fun dc2=>?_) (fun dc2=>?_)
 ·replace h:=h.1 dc2
  refine zE fun k' hk'=>?_
  simp[hh,dc2]
  apply hk'
  exact Runs.ret1 (v:=.v (.slice none 0 0)) Tryz.func161 Tryz.results161 (by simp[hh,dc2]) (hQ _ _ _ _ (Sep.sub (ids':=[]) (Sep.addNil sp) (by simp)) ⟨[],h,rfl⟩)
 replace h:=h.2 dc2
 refine Runs.skip ?_
 refine zE fun k' hk'=>?_
 obtain⟨hb6,h⟩:=h
 obtain⟨l7,el7,h⟩:=atm h
 simp[hh,dc2,-appendF]
 refine bind_append0 (s.map Wire.cells) (Sep.addEmpty (l:=[.c,.c]) sp) (by simp) kd_32 (by simp) (by simp) (by simp[srcOf]) (by simp[-one1,o1x]) (by simpa using hb6) ?_
 rintro v8 H9 n10 sp hfr11 hle12
 replace sp:Sep H9 n10 [oW v8 l7] []:=by refine Sep.ap el7 ?_;exact sp
 simp[hh,dc2]
 apply hk'
 refine Runs.cut (fun ρ H n=>∃ (v14:AVal),ρ 2=v14∧Sep H n [oW v14 l7] []) (by refine⟨v8,by simp[hh,dc2],sp⟩) ?_
 clear hh
 rintro ρ H n15 ⟨v14,hh,sp⟩
 exact Runs.ret1 (v:=v14) Tryz.func161 Tryz.results161 (by simp[hh]) (hQ _ _ _ _ (Sep.sub (ids':=[]) sp (by simp)) ⟨l7,h,rfl⟩)
theorem cloneW_ok (s:List Wire) (hp:cloneW_pre s):OwnS Tryz.prog 161 [.list false (s.map Wire.cells)] (.s [.c,.c]) (fun r=>r = .list true ((cloneW s).map Wire.cells)):=(cloneW_walk s _ (cloneW_vc s hp)).mono (by rintro _ ⟨_,rfl,rfl⟩;rfl)
theorem e112:Ent Tryz.prog 112:=Ent.of Tryz.func112 (by kernel_rfl) rfl
theorem ownB_walk (b:Big) (Z:Big→Prop) (h:ownB_wp b Z):OwnS Tryz.prog 112 [.agg (bC false b)] (.a [.c,.s [.c,.c,.s [.c]],.s [.c],.c,.s [.c],.s [.c,.c]]) (fun r=>∃ y:Big,Z y∧r = .agg (bC true y)):=by
 unfold ownB_wp at h
 have sp:Sep noHeap 0 [] []:=Sep.nil (by simp)
 refine OwnS.of Tryz.func112 rfl Tryz.ntmps112 (by simp) fun Q hQ=>?_
 refine Runs.cut (fun ρ H n=>ρ 0 = .agg (bC false b)∧Sep H n [] []) (by refine⟨by simp ,sp⟩) ?_
 rintro ρ H n1 ⟨hh,sp⟩
 refine zE fun k' hk'=>?_
 simp[hh]
 apply hk'
 refine Runs.cut (fun ρ H n=>((ρ 1=pA n1 1∧ρ 2=pA (n1+1) 2)∧H (n1,1)=some ⟨6,[bC false b]⟩∧H (n1+1,2)=some ⟨6,[zB]⟩)∧Sep H n [] [(n1+1,2),(n1,1)]) (by refine⟨by simp[hh],sp.var.var⟩) ?_
 clear hh
 rintro ρ H n4 ⟨⟨hh,m1_1,m2_2⟩,sp⟩
 refine Runs.cut (fun ρ H n=>((ρ 1=pA n1 1∧ρ 2=pA (n1+1) 2)∧H (n1,1)=some ⟨6,[bC false b]⟩∧H (n1+1,2)=some ⟨6,[zB]⟩)∧Sep H n [] [(n1+1,2),(n1,1)]) (by refine⟨by simp[hh,m1_1,m2_2],sp⟩) ?_
 clear hh m1_1 m2_2
 rintro ρ H n5 ⟨⟨hh,m1_1,m2_2⟩,sp⟩
 obtain⟨hb6,h⟩:=h
 obtain⟨r7,er7,h⟩:=atm h
 obtain⟨hb9,h⟩:=h
 obtain⟨r10,er10,h⟩:=atm h
 obtain⟨hb12,h⟩:=h
 obtain⟨r13,er13,h⟩:=atm h
 refine Runs.seqC (fun H n=>H (n1,1)=some ⟨6,[bC false b]⟩∧H (n1+1,2)=some ⟨6,[zB]⟩∧Sep H n [] [(n1+1,2),(n1,1)]) [4,9,12,13,14,15] (.free 0 (.free 1 (.free 2 (.free 3 (.free 5 (.free 6 (.free 7 (.free 8 (.free 10 (.free 11 (.hard 4 (.hard 9 (.hard 12 (.hard 13 (.hard 14 (.hard 15 (.fin) (.stop)) (.stop)) (.hard 14 (.hard 13 (.hard 15 (.fin) (.stop)) (.stop)) (.stop))) (.hard 14 (.hard 12 (.hard 13 (.hard 15 (.fin) (.stop)) (.stop)) (.stop)) (.stop))) (.hard 14 (.hard 9 (.hard 12 (.hard 13 (.hard 15 (.fin) (.stop)) (.stop)) (.stop)) (.stop)) (.stop))) (.hard 14 (.hard 4 (.hard 9 (.hard 12 (.hard 13 (.hard 15 (.fin) (.stop)) (.stop)) (.stop)) (.stop)) (.stop)) (.stop))))))))))))) (fun ρ H n=>∃ (v16:AVal) (v17:AVal) (v18:AVal) (a19:Nat),((ρ 1=pA n1 1∧ρ 2=pA (n1+1) 2∧ρ 3 = .ptr (a19,3) 1 0 0)∧H (n1,1)=some ⟨6,[bC false b]⟩∧H (n1+1,2)=some ⟨6,[zB]⟩∧H (a19,3)=some ⟨6,[[int b.roots,.v (.slice none 0 0),v18,int b.edges,v17,v16]]⟩)∧Sep H n [oW v16 r13,oS v17 r10,oI v18 r7] [(a19,3),(n1+1,2),(n1,1)]) draws (by decide) (by kernel_rfl) ?_ ?_
 ·refine RunT.free (pA n1 1) rfl rfl ⟨m1_1,m2_2,sp⟩ (fun H n hS=>by obtain⟨m1_1,m2_2,sp⟩:=hS;exact (by exact stepF_ok Ty_ok (by rw[stepF_loc];simp[hh,m1_1,m2_2]))) ?_
  refine RunT.free (int b.roots) rfl rfl ⟨m1_1,m2_2,sp⟩ (fun H n hS=>by obtain⟨m1_1,m2_2,sp⟩:=hS;exact (by exact stepF_ok Ty_ok (by rw[stepF_loc];simp[hh,m1_1,m2_2]))) ?_
  refine RunT.free (.ptr (n1,1) 1 0 2) rfl rfl ⟨m1_1,m2_2,sp⟩ (fun H n hS=>by obtain⟨m1_1,m2_2,sp⟩:=hS;exact (by exact stepF_ok Ty_ok (by rw[stepF_loc];simp[hh,m1_1,m2_2]))) ?_
  refine RunT.free (.list false (b.sites.map intC)) rfl rfl ⟨m1_1,m2_2,sp⟩ (fun H n hS=>by obtain⟨m1_1,m2_2,sp⟩:=hS;exact (by exact stepF_ok Ty_ok (by rw[stepF_loc];simp[hh,m1_1,m2_2]))) ?_
  refine RunT.free (.ptr (n1,1) 1 0 3) rfl rfl ⟨m1_1,m2_2,sp⟩ (fun H n hS=>by obtain⟨m1_1,m2_2,sp⟩:=hS;exact (by exact stepF_ok Ty_ok (by rw[stepF_loc];simp[hh,m1_1,m2_2]))) ?_
  refine RunT.free (int b.edges) rfl rfl ⟨m1_1,m2_2,sp⟩ (fun H n hS=>by obtain⟨m1_1,m2_2,sp⟩:=hS;exact (by exact stepF_ok Ty_ok (by rw[stepF_loc];simp[hh,m1_1,m2_2]))) ?_
  refine RunT.free (.ptr (n1,1) 1 0 4) rfl rfl ⟨m1_1,m2_2,sp⟩ (fun H n hS=>by obtain⟨m1_1,m2_2,sp⟩:=hS;exact (by exact stepF_ok Ty_ok (by rw[stepF_loc];simp[hh,m1_1,m2_2]))) ?_
  refine RunT.free (.list false (b.outer.map strC)) rfl rfl ⟨m1_1,m2_2,sp⟩ (fun H n hS=>by obtain⟨m1_1,m2_2,sp⟩:=hS;exact (by exact stepF_ok Ty_ok (by rw[stepF_loc];simp[hh,m1_1,m2_2]))) ?_
  refine RunT.free (.ptr (n1,1) 1 0 5) rfl rfl ⟨m1_1,m2_2,sp⟩ (fun H n hS=>by obtain⟨m1_1,m2_2,sp⟩:=hS;exact (by exact stepF_ok Ty_ok (by rw[stepF_loc];simp[hh,m1_1,m2_2]))) ?_
  refine RunT.free (.list false (b.inner.map Wire.cells)) rfl rfl ⟨m1_1,m2_2,sp⟩ (fun H n hS=>by obtain⟨m1_1,m2_2,sp⟩:=hS;exact (by exact stepF_ok Ty_ok (by rw[stepF_loc];simp[hh,m1_1,m2_2]))) ?_
  refine⟨?_,?_,trivial⟩
  ·refine RunT.callW (as1:=[.list false (b.sites.map intC)]) rfl rfl (cloneI_ok b.sites hb6) e81 (.cons (argI false b.sites) .nil) sp (by simp[hh,m1_1,m2_2]) (by simp[hh,m1_1,m2_2]) ?_
   rintro v25 H21 n22 _ sp rfl hle24 hfr23
   rw[← er7] at sp
   replace sp:Sep H21 n22 [oI v25 r7] [(n1+1,2),(n1,1)]:=sp
   have m1_1:=(hfr23 _ (by simp)).trans m1_1
   have m2_2:=(hfr23 _ (by simp)).trans m2_2
   refine⟨(fun _=>⟨m1_1,m2_2,sp.dr⟩),?_⟩
   refine⟨?_,?_,trivial⟩
   ·refine RunT.callW (as1:=[.list false (b.outer.map strC)]) rfl rfl (cloneS_ok b.outer hb9) e158 (.cons (argS false b.outer) .nil) sp (by simp[hh,m1_1,m2_2]) (by simp[hh,m1_1,m2_2]) ?_
    rintro v32 H28 n29 _ sp rfl hle31 hfr30
    rw[← er10] at sp
    replace sp:Sep H28 n29 [oS v32 r10,oI v25 r7] [(n1+1,2),(n1,1)]:=sp
    have m1_1:=(hfr30 _ (by simp)).trans m1_1
    have m2_2:=(hfr30 _ (by simp)).trans m2_2
    refine⟨(fun _=>⟨m1_1,m2_2,sp.dr.dr⟩),?_⟩
    refine⟨?_,?_,trivial⟩
    ·refine RunT.callW (as1:=[.list false (b.inner.map Wire.cells)]) rfl rfl (cloneW_ok b.inner hb12) e161 (.cons (argW false b.inner) .nil) sp (by simp[hh,m1_1,m2_2]) (by simp[hh,m1_1,m2_2]) ?_
     rintro v39 H35 n36 _ sp rfl hle38 hfr37
     rw[← er13] at sp
     replace sp:Sep H35 n36 [oW v39 r13,oS v32 r10,oI v25 r7] [(n1+1,2),(n1,1)]:=sp
     have m1_1:=(hfr37 _ (by simp)).trans m1_1
     have m2_2:=(hfr37 _ (by simp)).trans m2_2
     refine⟨(fun _=>⟨m1_1,m2_2,sp.dr.dr.dr⟩),?_⟩
     refine⟨?_,?_,trivial⟩
     ·have f48:=Sep.oc sp.f2
      have f49:=Sep.oc sp.f1
      have f50:=Sep.oc sp
      refine RunT.same (v:=(.agg [int b.roots,.v (.slice none 0 0),v25,int b.edges,v32,v39])) Ty_ok rfl rfl (by simp[hh,m1_1,m2_2,f48,f49,f50,-cellsA,-one1,cAx,o1x]) (fun hl=>absurd (hl.symm.trans (show lateC _ _ _=true by kernel_rfl)) (by decide)) ?_
      refine⟨?_,trivial⟩
      refine RunT.step (v:=pA n36 3) Ty_ok rfl rfl (by simp[hh,m1_1,m2_2,f48,f49,f50,-cellsA,-one1,cAx,o1x];first | exact⟨rfl,rfl⟩ | exact rfl) (fun _=>⟨(by simp[hh,m1_1,m2_2,f48,f49,f50,Heap.get_set,-cellsA,-one1,cAx,o1x]),(by simp[hh,m1_1,m2_2,f48,f49,f50,Heap.get_set,-cellsA,-one1,cAx,o1x]),(Sep.sub sp.var.dr.dr.dr (by simp +contextual))⟩) ?_
      refine⟨?_,trivial⟩
      have f63:=Sep.oc sp.f2
      have f64:=Sep.oc sp.f1
      have f65:=Sep.oc sp
      refine RunT.step (v:=.undef) Ty_ok rfl rfl (by simp[hh,m1_1,m2_2,f48,f49,f50,f63,f64,f65,-cellsA,-one1,cAx,o1x];first | exact⟨rfl,rfl⟩ | exact rfl) (fun hl=>absurd (hl.symm.trans (show lateC _ _ _=true by kernel_rfl)) (by decide)) ?_
      refine RunT.fin (by refine⟨v39,v32,v25,n36,by simp[hh,m1_1,m2_2,f48,f49,f50,f63,f64,f65,-cellsA,-one1,cAx,o1x],sp.var⟩)
     refine RunT.step (v:=pA n36 3) Ty_ok rfl rfl (by simp[hh,m1_1,m2_2];first | exact⟨rfl,rfl⟩ | exact rfl) (fun _=>⟨(by simp[hh,m1_1,m2_2,Heap.get_set]),(by simp[hh,m1_1,m2_2,Heap.get_set]),(Sep.sub sp.var.dr.dr.dr (by simp +contextual))⟩) ?_
     refine⟨?_,trivial⟩
     have f78:=Sep.oc sp.f2
     have f79:=Sep.oc sp.f1
     have f80:=Sep.oc sp
     refine RunT.same (v:=(.agg [int b.roots,.v (.slice none 0 0),v25,int b.edges,v32,v39])) Ty_ok rfl rfl (by simp[hh,m1_1,m2_2,f78,f79,f80,-cellsA,-one1,cAx,o1x]) (fun hl=>absurd (hl.symm.trans (show lateC _ _ _=true by kernel_rfl)) (by decide)) ?_
     refine⟨?_,trivial⟩
     have f87:=Sep.oc sp.f2
     have f88:=Sep.oc sp.f1
     have f89:=Sep.oc sp
     refine RunT.step (v:=.undef) Ty_ok rfl rfl (by simp[hh,m1_1,m2_2,f78,f79,f80,f87,f88,f89,-cellsA,-one1,cAx,o1x];first | exact⟨rfl,rfl⟩ | exact rfl) (fun hl=>absurd (hl.symm.trans (show lateC _ _ _=true by kernel_rfl)) (by decide)) ?_
     refine RunT.fin (by refine⟨v39,v32,v25,n36,by simp[hh,m1_1,m2_2,f78,f79,f80,f87,f88,f89,-cellsA,-one1,cAx,o1x],sp.var⟩)
    refine RunT.step (v:=pA n29 3) Ty_ok rfl rfl (by simp[hh,m1_1,m2_2];first | exact⟨rfl,rfl⟩ | exact rfl) (fun _=>⟨(by simp[hh,m1_1,m2_2,Heap.get_set]),(by simp[hh,m1_1,m2_2,Heap.get_set]),(Sep.sub sp.var.dr.dr (by simp +contextual))⟩) ?_
    refine⟨?_,trivial⟩
    refine RunT.callW (as1:=[.list false (b.inner.map Wire.cells)]) rfl rfl (cloneW_ok b.inner hb12) e161 (.cons (argW false b.inner) .nil) sp.var (by simp[hh,m1_1,m2_2]) (by simp[hh,m1_1,m2_2]) ?_
    rintro v100 H96 n97 _ sp rfl hle99 hfr98
    rw[← er13] at sp
    replace sp:Sep H96 n97 [oW v100 r13,oS v32 r10,oI v25 r7] [(n29,3),(n1+1,2),(n1,1)]:=sp
    have m1_1:H96 (n1,1)=some ⟨6,[bC false b]⟩:=(hfr98 _ (by simp)).trans (by simp[hh,m1_1,m2_2,Heap.get_set])
    have m2_2:H96 (n1+1,2)=some ⟨6,[zB]⟩:=(hfr98 _ (by simp)).trans (by simp[hh,m1_1,m2_2,Heap.get_set])
    have m3_14:H96 (n29,3)=some ⟨6,[zB]⟩:=(hfr98 _ (by simp)).trans (by simp[hh,m1_1,m2_2,Heap.get_set])
    refine⟨(fun _=>⟨m1_1,m2_2,(Sep.sub sp.dr.dr.dr (by simp +contextual))⟩),?_⟩
    refine⟨?_,trivial⟩
    have f109:=Sep.oc sp.f2
    have f110:=Sep.oc sp.f1
    have f111:=Sep.oc sp
    refine RunT.same (v:=(.agg [int b.roots,.v (.slice none 0 0),v25,int b.edges,v32,v100])) Ty_ok rfl rfl (by simp[hh,m1_1,m2_2,m3_14,f109,f110,f111,-cellsA,-one1,cAx,o1x]) (fun hl=>absurd (hl.symm.trans (show lateC _ _ _=true by kernel_rfl)) (by decide)) ?_
    refine⟨?_,trivial⟩
    have f118:=Sep.oc sp.f2
    have f119:=Sep.oc sp.f1
    have f120:=Sep.oc sp
    refine RunT.step (v:=.undef) Ty_ok rfl rfl (by simp[hh,m1_1,m2_2,m3_14,f109,f110,f111,f118,f119,f120,-cellsA,-one1,cAx,o1x];first | exact⟨rfl,rfl⟩ | exact rfl) (fun hl=>absurd (hl.symm.trans (show lateC _ _ _=true by kernel_rfl)) (by decide)) ?_
    refine RunT.fin (by refine⟨v100,v32,v25,n29,by simp[hh,m1_1,m2_2,m3_14,f109,f110,f111,f118,f119,f120,-cellsA,-one1,cAx,o1x],(Sep.setVar (w:=(n29,3)) sp (by simp))⟩)
   refine RunT.step (v:=pA n22 3) Ty_ok rfl rfl (by simp[hh,m1_1,m2_2];first | exact⟨rfl,rfl⟩ | exact rfl) (fun _=>⟨(by simp[hh,m1_1,m2_2,Heap.get_set]),(by simp[hh,m1_1,m2_2,Heap.get_set]),(Sep.sub sp.var.dr (by simp +contextual))⟩) ?_
   refine⟨?_,trivial⟩
   refine RunT.callW (as1:=[.list false (b.outer.map strC)]) rfl rfl (cloneS_ok b.outer hb9) e158 (.cons (argS false b.outer) .nil) sp.var (by simp[hh,m1_1,m2_2]) (by simp[hh,m1_1,m2_2]) ?_
   rintro v131 H127 n128 _ sp rfl hle130 hfr129
   rw[← er10] at sp
   replace sp:Sep H127 n128 [oS v131 r10,oI v25 r7] [(n22,3),(n1+1,2),(n1,1)]:=sp
   have m1_1:H127 (n1,1)=some ⟨6,[bC false b]⟩:=(hfr129 _ (by simp)).trans (by simp[hh,m1_1,m2_2,Heap.get_set])
   have m2_2:H127 (n1+1,2)=some ⟨6,[zB]⟩:=(hfr129 _ (by simp)).trans (by simp[hh,m1_1,m2_2,Heap.get_set])
   have m3_14:H127 (n22,3)=some ⟨6,[zB]⟩:=(hfr129 _ (by simp)).trans (by simp[hh,m1_1,m2_2,Heap.get_set])
   refine⟨(fun _=>⟨m1_1,m2_2,(Sep.sub sp.dr.dr (by simp +contextual))⟩),?_⟩
   refine⟨?_,trivial⟩
   refine RunT.callW (as1:=[.list false (b.inner.map Wire.cells)]) rfl rfl (cloneW_ok b.inner hb12) e161 (.cons (argW false b.inner) .nil) sp (by simp[hh,m1_1,m2_2,m3_14]) (by simp[hh,m1_1,m2_2,m3_14]) ?_
   rintro v138 H134 n135 _ sp rfl hle137 hfr136
   rw[← er13] at sp
   replace sp:Sep H134 n135 [oW v138 r13,oS v131 r10,oI v25 r7] [(n22,3),(n1+1,2),(n1,1)]:=sp
   have m1_1:=(hfr136 _ (by simp)).trans m1_1
   have m2_2:=(hfr136 _ (by simp)).trans m2_2
   have m3_14:=(hfr136 _ (by simp)).trans m3_14
   refine⟨(fun _=>⟨m1_1,m2_2,(Sep.sub sp.dr.dr.dr (by simp +contextual))⟩),?_⟩
   refine⟨?_,trivial⟩
   have f147:=Sep.oc sp.f2
   have f148:=Sep.oc sp.f1
   have f149:=Sep.oc sp
   refine RunT.same (v:=(.agg [int b.roots,.v (.slice none 0 0),v25,int b.edges,v131,v138])) Ty_ok rfl rfl (by simp[hh,m1_1,m2_2,m3_14,f147,f148,f149,-cellsA,-one1,cAx,o1x]) (fun hl=>absurd (hl.symm.trans (show lateC _ _ _=true by kernel_rfl)) (by decide)) ?_
   refine⟨?_,trivial⟩
   have f156:=Sep.oc sp.f2
   have f157:=Sep.oc sp.f1
   have f158:=Sep.oc sp
   refine RunT.step (v:=.undef) Ty_ok rfl rfl (by simp[hh,m1_1,m2_2,m3_14,f147,f148,f149,f156,f157,f158,-cellsA,-one1,cAx,o1x];first | exact⟨rfl,rfl⟩ | exact rfl) (fun hl=>absurd (hl.symm.trans (show lateC _ _ _=true by kernel_rfl)) (by decide)) ?_
   refine RunT.fin (by refine⟨v138,v131,v25,n22,by simp[hh,m1_1,m2_2,m3_14,f147,f148,f149,f156,f157,f158,-cellsA,-one1,cAx,o1x],(Sep.setVar (w:=(n22,3)) sp (by simp))⟩)
  refine RunT.step (v:=pA n5 3) Ty_ok rfl rfl (by simp[hh,m1_1,m2_2];first | exact⟨rfl,rfl⟩ | exact rfl) (fun _=>⟨(by simp[hh,m1_1,m2_2,Heap.get_set]),(by simp[hh,m1_1,m2_2,Heap.get_set]),(Sep.sub sp.var (by simp +contextual))⟩) ?_
  refine⟨?_,trivial⟩
  refine RunT.callW (as1:=[.list false (b.sites.map intC)]) rfl rfl (cloneI_ok b.sites hb6) e81 (.cons (argI false b.sites) .nil) sp.var (by simp[hh,m1_1,m2_2]) (by simp[hh,m1_1,m2_2]) ?_
  rintro v169 H165 n166 _ sp rfl hle168 hfr167
  rw[← er7] at sp
  replace sp:Sep H165 n166 [oI v169 r7] [(n5,3),(n1+1,2),(n1,1)]:=sp
  have m1_1:H165 (n1,1)=some ⟨6,[bC false b]⟩:=(hfr167 _ (by simp)).trans (by simp[hh,m1_1,m2_2,Heap.get_set])
  have m2_2:H165 (n1+1,2)=some ⟨6,[zB]⟩:=(hfr167 _ (by simp)).trans (by simp[hh,m1_1,m2_2,Heap.get_set])
  have m3_14:H165 (n5,3)=some ⟨6,[zB]⟩:=(hfr167 _ (by simp)).trans (by simp[hh,m1_1,m2_2,Heap.get_set])
  refine⟨(fun _=>⟨m1_1,m2_2,(Sep.sub sp.dr (by simp +contextual))⟩),?_⟩
  refine⟨?_,trivial⟩
  refine RunT.callW (as1:=[.list false (b.outer.map strC)]) rfl rfl (cloneS_ok b.outer hb9) e158 (.cons (argS false b.outer) .nil) sp (by simp[hh,m1_1,m2_2,m3_14]) (by simp[hh,m1_1,m2_2,m3_14]) ?_
  rintro v176 H172 n173 _ sp rfl hle175 hfr174
  rw[← er10] at sp
  replace sp:Sep H172 n173 [oS v176 r10,oI v169 r7] [(n5,3),(n1+1,2),(n1,1)]:=sp
  have m1_1:=(hfr174 _ (by simp)).trans m1_1
  have m2_2:=(hfr174 _ (by simp)).trans m2_2
  have m3_14:=(hfr174 _ (by simp)).trans m3_14
  refine⟨(fun _=>⟨m1_1,m2_2,(Sep.sub sp.dr.dr (by simp +contextual))⟩),?_⟩
  refine⟨?_,trivial⟩
  refine RunT.callW (as1:=[.list false (b.inner.map Wire.cells)]) rfl rfl (cloneW_ok b.inner hb12) e161 (.cons (argW false b.inner) .nil) sp (by simp[hh,m1_1,m2_2,m3_14]) (by simp[hh,m1_1,m2_2,m3_14]) ?_
  rintro v183 H179 n180 _ sp rfl hle182 hfr181
  rw[← er13] at sp
  replace sp:Sep H179 n180 [oW v183 r13,oS v176 r10,oI v169 r7] [(n5,3),(n1+1,2),(n1,1)]:=sp
  have m1_1:=(hfr181 _ (by simp)).trans m1_1
  have m2_2:=(hfr181 _ (by simp)).trans m2_2
  have m3_14:=(hfr181 _ (by simp)).trans m3_14
  refine⟨(fun _=>⟨m1_1,m2_2,(Sep.sub sp.dr.dr.dr (by simp +contextual))⟩),?_⟩
  refine⟨?_,trivial⟩
  have f192:=Sep.oc sp.f2
  have f193:=Sep.oc sp.f1
  have f194:=Sep.oc sp
  refine RunT.same (v:=(.agg [int b.roots,.v (.slice none 0 0),v169,int b.edges,v176,v183])) Ty_ok rfl rfl (by simp[hh,m1_1,m2_2,m3_14,f192,f193,f194,-cellsA,-one1,cAx,o1x]) (fun hl=>absurd (hl.symm.trans (show lateC _ _ _=true by kernel_rfl)) (by decide)) ?_
  refine⟨?_,trivial⟩
  have f201:=Sep.oc sp.f2
  have f202:=Sep.oc sp.f1
  have f203:=Sep.oc sp
  refine RunT.step (v:=.undef) Ty_ok rfl rfl (by simp[hh,m1_1,m2_2,m3_14,f192,f193,f194,f201,f202,f203,-cellsA,-one1,cAx,o1x];first | exact⟨rfl,rfl⟩ | exact rfl) (fun hl=>absurd (hl.symm.trans (show lateC _ _ _=true by kernel_rfl)) (by decide)) ?_
  refine RunT.fin (by refine⟨v183,v176,v169,n5,by simp[hh,m1_1,m2_2,m3_14,f192,f193,f194,f201,f202,f203,-cellsA,-one1,cAx,o1x],(Sep.setVar (w:=(n5,3)) sp (by simp))⟩)
 clear hh m1_1 m2_2
 rintro ρ H n20 ⟨v16,v17,v18,a19,⟨hh,m1_1,m2_2,m3_14⟩,sp⟩
 refine Runs.seq ?_
 refine zE fun k' hk'=>?_
 obtain⟨len204,elen204,h⟩:=atm h
 have f205:=fun H=>len_list (H:=H) (fr:=false) (f:=(GNode.cells false)) kd_31 elen204
 simp[hh,m1_1,m2_2,m3_14,f205,-lenF]
 apply hk'
 refine Runs.block ?_
 refine Runs.loopW h (fun (sJ:Int × (List GNode)) ρ H n=>match sJ with | (v237,l238)=>∃ (v239 v240 v241 v242 v243 v244 v245 v246:AVal),((ρ 2=pA (n1+1) 2∧ρ 3 = .ptr (a19,3) 1 0 0∧ρ 21 = .list false (b.nodes.map (GNode.cells false))∧ρ 22=int len204∧ρ 23=int v237)∧H (n1+1,2)=some ⟨6,[[int 0,v243,v242,int 0,v241,v240]]⟩∧H (a19,3)=some ⟨6,[[int b.roots,v239,v246,int b.edges,v245,v244]]⟩)∧Sep H n [oN v239 l238,oW v240 ([]:List Wire),oS v241 ([]:List Str),oI v242 ([]:List Int),oN v243 ([]:List GNode),oW v244 r13,oS v245 r10,oI v246 r7] [(a19,3),(n1+1,2)]) (by refine⟨.v (.slice none 0 0),.v (.slice none 0 0),.v (.slice none 0 0),.v (.slice none 0 0),.v (.slice none 0 0),v16,v17,v18,by simp[hh,m1_1,m2_2,m3_14],(Sep.sub (Sep.addNil (Sep.addNil (Sep.addNil (Sep.addNil (Sep.addNil sp))))) (by simp +contextual))⟩) ?_
 clear hh m1_1 m2_2 m3_14
 rintro⟨v237,l238⟩ ρ H n247 K h ⟨v239,v240,v241,v242,v243,v244,v245,v246,⟨hh,m2_2,m3_14⟩,sp⟩ IH248
 refine zE fun k' hk'=>?_
 obtain⟨c250,ec250,h⟩:=atm h
 have f251:=ib_lss (k:=.i64) ec250
 simp[hh,m2_2,m3_14,f251,-intBin]
 apply hk'
 refine Runs.seq ?_
 refine Runs.ite (b:=c250) (by simp[hh,m2_2,m3_14]) (fun dc250=>?_) (fun dc250=>?_)
 ·replace h:=h.1 dc250
  refine Runs.skip ?_
  refine Runs.seq ?_
  refine Runs.block ?_
  refine zE fun k' hk'=>?_
  obtain⟨hb252,h⟩:=h
  obtain⟨x253,ex253,h⟩:=atm h
  have f254:=fun H=>ix_list (H:=H) (fr:=false) (f:=(GNode.cells false)) (k:=.i64) kd_31 (fun _=>rfl) hb252 ex253
  simp[hh,m2_2,m3_14,f254,dc250,-indexAddrF]
  apply hk'
  refine Runs.cut (fun ρ H n=>∃ (v256 v257 v258 v259 v260 v261 v262 v263:AVal),((ρ 2=pA (n1+1) 2∧ρ 3 = .ptr (a19,3) 1 0 0∧ρ 5=pA n247 5∧ρ 21 = .list false (b.nodes.map (GNode.cells false))∧ρ 22=int len204∧ρ 23=int v237)∧H (n1+1,2)=some ⟨6,[[int 0,v260,v259,int 0,v258,v257]]⟩∧H (a19,3)=some ⟨6,[[int b.roots,v256,v263,int b.edges,v262,v261]]⟩∧H (n247,5)=some ⟨3,[[int x253.control,int x253.parent,.list false (x253.links.map intC)]]⟩)∧Sep H n [oN v256 l238,oW v257 ([]:List Wire),oS v258 ([]:List Str),oI v259 ([]:List Int),oN v260 ([]:List GNode),oW v261 r13,oS v262 r10,oI v263 r7] [(n247,5),(a19,3),(n1+1,2)]) (by refine⟨v239,v240,v241,v242,v243,v244,v245,v246,by simp[hh,m2_2,m3_14,f254,dc250,-indexAddrF],sp.var⟩) ?_
  clear hh m2_2 m3_14
  rintro ρ H n264 ⟨v256,v257,v258,v259,v260,v261,v262,v263,⟨hh,m2_2,m3_14,m5_254⟩,sp⟩
  refine Runs.cut (fun ρ H n=>∃ (v265 v266 v267 v268 v269 v270 v271 v272:AVal),((ρ 2=pA (n1+1) 2∧ρ 3 = .ptr (a19,3) 1 0 0∧ρ 5=pA n247 5∧ρ 21 = .list false (b.nodes.map (GNode.cells false))∧ρ 22=int len204∧ρ 23=int v237)∧H (n1+1,2)=some ⟨6,[[int 0,v269,v268,int 0,v267,v266]]⟩∧H (a19,3)=some ⟨6,[[int b.roots,v265,v272,int b.edges,v271,v270]]⟩∧H (n247,5)=some ⟨3,[[int x253.control,int x253.parent,.list false (x253.links.map intC)]]⟩)∧Sep H n [oN v265 l238,oW v266 ([]:List Wire),oS v267 ([]:List Str),oI v268 ([]:List Int),oN v269 ([]:List GNode),oW v270 r13,oS v271 r10,oI v272 r7] [(n247,5),(a19,3),(n1+1,2)]) (by refine⟨v256,v257,v258,v259,v260,v261,v262,v263,by simp[hh,m2_2,m3_14,m5_254],sp⟩) ?_
  clear hh m2_2 m3_14 m5_254
  rintro ρ H n273 ⟨v265,v266,v267,v268,v269,v270,v271,v272,⟨hh,m2_2,m3_14,m5_254⟩,sp⟩
  obtain⟨hb274,h⟩:=h
  obtain⟨r275,er275,h⟩:=atm h
  obtain⟨hb277,h⟩:=h
  obtain⟨l278,el278,h⟩:=atm h
  refine Runs.drawC (fun H n=>H (n1+1,2)=some ⟨6,[[int 0,v269,v268,int 0,v267,v266]]⟩∧H (a19,3)=some ⟨6,[[int b.roots,v265,v272,int b.edges,v271,v270]]⟩∧H (n247,5)=some ⟨3,[[int x253.control,int x253.parent,.list false (x253.links.map intC)]]⟩∧Sep H n [oN v265 l238,oW v266 ([]:List Wire),oS v267 ([]:List Str),oI v268 ([]:List Int),oN v269 ([]:List GNode),oW v270 r13,oS v271 r10,oI v272 r7] [(n247,5),(a19,3),(n1+1,2)]) [8,9,10,11,12,13] (.free 0 (.free 1 (.free 2 (.free 3 (.free 4 (.free 5 (.free 6 (.free 7 (.hard 8 (.hard 9 (.hard 10 (.hard 11 (.hard 12 (.hard 13 (.fin) (.stop)) (.stop)) (.stop)) (.stop)) (.stop)) (.stop)))))))))) (fun ρ H n=>∃ (v279 v280 v281 v282 v283 v284 v285 v286:AVal),((ρ 2=pA (n1+1) 2∧ρ 3 = .ptr (a19,3) 1 0 0∧ρ 21 = .list false (b.nodes.map (GNode.cells false))∧ρ 22=int len204∧ρ 23=int v237)∧H (n1+1,2)=some ⟨6,[[int 0,v283,v282,int 0,v281,v280]]⟩∧H (a19,3)=some ⟨6,[[int b.roots,v279,v286,int b.edges,v285,v284]]⟩)∧Sep H n [oN v279 l278,oW v280 ([]:List Wire),oS v281 ([]:List Str),oI v282 ([]:List Int),oN v283 ([]:List GNode),oW v284 r13,oS v285 r10,oI v286 r7] [(a19,3),(n1+1,2)]) draws (by decide) (by kernel_rfl) ?_ ?_
  ·refine RunT.free (.ptr (a19,3) 1 0 1) rfl rfl ⟨m2_2,m3_14,m5_254,sp⟩ (fun H n hS=>by obtain⟨m2_2,m3_14,m5_254,sp⟩:=hS;exact (by exact stepF_ok Ty_ok (by rw[stepF_loc];simp[hh,m2_2,m3_14,m5_254]))) ?_
   refine RunT.free v265 rfl rfl ⟨m2_2,m3_14,m5_254,sp⟩ (fun H n hS=>by obtain⟨m2_2,m3_14,m5_254,sp⟩:=hS;exact (by exact stepF_ok Ty_ok (by rw[stepF_loc];simp[hh,m2_2,m3_14,m5_254]))) ?_
   refine RunT.free (pA n247 5) rfl rfl ⟨m2_2,m3_14,m5_254,sp⟩ (fun H n hS=>by obtain⟨m2_2,m3_14,m5_254,sp⟩:=hS;exact (by exact stepF_ok Ty_ok (by rw[stepF_loc];simp[hh,m2_2,m3_14,m5_254]))) ?_
   refine RunT.free (int x253.control) rfl rfl ⟨m2_2,m3_14,m5_254,sp⟩ (fun H n hS=>by obtain⟨m2_2,m3_14,m5_254,sp⟩:=hS;exact (by exact stepF_ok Ty_ok (by rw[stepF_loc];simp[hh,m2_2,m3_14,m5_254]))) ?_
   refine RunT.free (.ptr (n247,5) 1 0 1) rfl rfl ⟨m2_2,m3_14,m5_254,sp⟩ (fun H n hS=>by obtain⟨m2_2,m3_14,m5_254,sp⟩:=hS;exact (by exact stepF_ok Ty_ok (by rw[stepF_loc];simp[hh,m2_2,m3_14,m5_254]))) ?_
   refine RunT.free (int x253.parent) rfl rfl ⟨m2_2,m3_14,m5_254,sp⟩ (fun H n hS=>by obtain⟨m2_2,m3_14,m5_254,sp⟩:=hS;exact (by exact stepF_ok Ty_ok (by rw[stepF_loc];simp[hh,m2_2,m3_14,m5_254]))) ?_
   refine RunT.free (.ptr (n247,5) 1 0 2) rfl rfl ⟨m2_2,m3_14,m5_254,sp⟩ (fun H n hS=>by obtain⟨m2_2,m3_14,m5_254,sp⟩:=hS;exact (by exact stepF_ok Ty_ok (by rw[stepF_loc];simp[hh,m2_2,m3_14,m5_254]))) ?_
   refine RunT.free (.list false (x253.links.map intC)) rfl rfl ⟨m2_2,m3_14,m5_254,sp⟩ (fun H n hS=>by obtain⟨m2_2,m3_14,m5_254,sp⟩:=hS;exact (by exact stepF_ok Ty_ok (by rw[stepF_loc];simp[hh,m2_2,m3_14,m5_254]))) ?_
   refine⟨?_,trivial⟩
   refine RunT.callW (as1:=[.list false (x253.links.map intC)]) rfl rfl (cloneI_ok x253.links hb274) e81 (.cons (argI false x253.links) .nil) sp (by simp[hh,m2_2,m3_14,m5_254]) (by simp[hh,m2_2,m3_14,m5_254]) ?_
   rintro v292 H288 n289 _ sp rfl hle291 hfr290
   rw[← er275] at sp
   replace sp:Sep H288 n289 [oI v292 r275,oN v265 l238,oW v266 ([]:List Wire),oS v267 ([]:List Str),oI v268 ([]:List Int),oN v269 ([]:List GNode),oW v270 r13,oS v271 r10,oI v272 r7] [(n247,5),(a19,3),(n1+1,2)]:=sp
   have m2_2:=(hfr290 _ (by simp)).trans m2_2
   have m3_14:=(hfr290 _ (by simp)).trans m3_14
   have m5_254:=(hfr290 _ (by simp)).trans m5_254
   refine⟨(fun _=>⟨m2_2,m3_14,m5_254,sp.dr⟩),?_⟩
   refine⟨?_,trivial⟩
   have f301:=Sep.oc sp
   refine RunT.same (v:=(.agg [int x253.control,int x253.parent,v292])) Ty_ok rfl rfl (by simp[hh,m2_2,m3_14,m5_254,f301,-cellsA,-one1,cAx,o1x]) (fun _=>⟨m2_2,m3_14,m5_254,sp.dr⟩) ?_
   refine⟨?_,trivial⟩
   refine RunT.same (v:=(.list true [[int x253.control,int x253.parent,v292]])) Ty_ok rfl rfl (by simp[hh,m2_2,m3_14,m5_254,f301,-cellsA,-one1,cAx,o1x]) (fun _=>⟨m2_2,m3_14,m5_254,sp.dr⟩) ?_
   refine⟨?_,trivial⟩
   refine RunT.append (v:=v265) (xv:=(.list true [[int x253.control,int x253.parent,v292]])) Ty_ok [oI v292 r275] [oW v266 ([]:List Wire),oS v267 ([]:List Str),oI v268 ([]:List Int),oN v269 ([]:List GNode),oW v270 r13,oS v271 r10,oI v272 r7] [[int x253.control,int x253.parent,v292]] [(GNode.cells true) (GNode.mk x253.control x253.parent r275)] rfl rfl (by simp[hh,m2_2,m3_14,m5_254,f301,-cellsA,-one1,cAx,o1x]) (by simp[hh,m2_2,m3_14,m5_254,f301,-cellsA,-one1,cAx,o1x]) sp.f1 kd_31 (by simp) (by simp) (by simp[srcOf]) (by simp[-one1,o1x,Sep.one1 sp.f1.dr]) (rows_one (Fill.v _ (Fill.v _ (Fill.own Fill.nil)))) (by simp) (by simpa using hb277) ?_
   rintro v312 H308 n309 sp hfr310 hle311
   replace sp:Sep H308 n309 [oN v312 l278,oW v266 ([]:List Wire),oS v267 ([]:List Str),oI v268 ([]:List Int),oN v269 ([]:List GNode),oW v270 r13,oS v271 r10,oI v272 r7] [(n247,5),(a19,3),(n1+1,2)]:=by refine Sep.ap el278 ?_;exact sp
   have m2_2:=(hfr310 _ (by simp)).trans m2_2
   have m3_14:=(hfr310 _ (by simp)).trans m3_14
   have m5_254:=(hfr310 _ (by simp)).trans m5_254
   refine⟨(fun hl=>absurd (hl.symm.trans (show lateC _ _ _=true by kernel_rfl)) (by decide)),?_⟩
   refine⟨?_,trivial⟩
   refine RunT.same (v:=(.ptr (a19,3) 1 0 1)) Ty_ok rfl rfl (by simp[hh,m2_2,m3_14,m5_254,f301,-cellsA,-one1,cAx,o1x]) (fun hl=>absurd (hl.symm.trans (show lateC _ _ _=true by kernel_rfl)) (by decide)) ?_
   refine⟨?_,trivial⟩
   have f327:=Sep.oc sp
   refine RunT.step (v:=.undef) Ty_ok rfl rfl (by simp[hh,m2_2,m3_14,m5_254,f301,f327,-cellsA,-one1,cAx,o1x];first | exact⟨rfl,rfl⟩ | exact rfl) (fun hl=>absurd (hl.symm.trans (show lateC _ _ _=true by kernel_rfl)) (by decide)) ?_
   refine RunT.fin (by refine⟨v312,v266,v267,v268,v269,v270,v271,v272,by simp[hh,m2_2,m3_14,m5_254,f301,f327,-cellsA,-one1,cAx,o1x],(Sep.sub (Sep.setVar (w:=(a19,3)) sp (by simp)) (by simp +contextual))⟩)
  clear hh m2_2 m3_14 m5_254
  rintro ρ H n287 ⟨v279,v280,v281,v282,v283,v284,v285,v286,⟨hh,m2_2,m3_14⟩,sp⟩
  refine Runs.inBlock ?_
  refine zF fun k' hk'=>?_
  obtain⟨hb328,h⟩:=h
  obtain⟨v329,ev329,h⟩:=atm h
  have f330:=ib_add hb328 ev329
  simp[hh,m2_2,m3_14,f330,-intBin]
  apply hk'
  refine IH248 (v329,l278) _ _ _ h (by refine⟨v279,v280,v281,v282,v283,v284,v285,v286,by simp[hh,m2_2,m3_14],sp⟩)
 replace h:=h.2 dc250
 refine Runs.exit rfl ?_
 refine zE fun k' hk'=>?_
 have f331:=Sep.oc sp
 have f332:=Sep.oc sp.f7
 have f333:=Sep.oc sp.f6
 have f334:=Sep.oc sp.f5
 simp[hh,m2_2,m3_14,f331,f332,f333,f334,dc250,-cellsA,-one1,cAx,o1x]
 apply hk'
 refine Runs.cut (fun ρ H n=>∃ (v335 v336 v337 v338:AVal),(ρ 2=pA (n1+1) 2∧H (n1+1,2)=some ⟨6,[[int b.roots,v335,v338,int b.edges,v337,v336]]⟩)∧Sep H n [oN v335 l238,oW v336 r13,oS v337 r10,oI v338 r7] [(n1+1,2)]) (by refine⟨v239,v244,v245,v246,by simp[hh,m2_2,m3_14,f331,f332,f333,f334,dc250,-cellsA,-one1,cAx,o1x],(Sep.sub (Sep.dr (Sep.f1 (Sep.dr (Sep.f1 (Sep.dr (Sep.f1 (Sep.dr (Sep.f1 (Sep.setVar (w:=(n1+1,2)) sp (by simp)))))))))) (by simp +contextual))⟩) ?_
 clear hh m2_2 m3_14
 rintro ρ H n339 ⟨v335,v336,v337,v338,⟨hh,m2_2⟩,sp⟩
 exact Runs.res1 Ty_ok (v:=.agg [int b.roots,v335,v338,int b.edges,v337,v336]) Tryz.func112 Tryz.results112 (by simp[hh,m2_2,resA]) (hQ _ _ _ _ (Sep.sub (ids':=[]) (Sep.pack (Fill.v _ (Fill.own (Fill.own (Fill.v _ (Fill.own (Fill.own Fill.nil)))))) sp.f2.f3.f2) (by simp)) ⟨(Big.mk b.roots l238 r7 b.edges r10 r13),h,rfl⟩)
theorem ownB_ok (b:Big) (hp:ownB_pre b):OwnS Tryz.prog 112 [.agg (bC false b)] (.a [.c,.s [.c,.c,.s [.c]],.s [.c],.c,.s [.c],.s [.c,.c]]) (fun r=>r = .agg [int ((ownB b).roots),.list true (((ownB b).nodes).map (GNode.cells true)),.list true (((ownB b).sites).map intC),int ((ownB b).edges),.list true (((ownB b).outer).map strC),.list true (((ownB b).inner).map Wire.cells)]):=(ownB_walk b _ (ownB_vc b hp)).mono (by rintro _ ⟨_,rfl,rfl⟩;rfl)
theorem e56:Ent Tryz.prog 56:=Ent.of Tryz.func56 (by kernel_rfl) rfl
theorem validI_walk (sig:List Control) (b:Big) (Z:(Big × Bool)→Prop) (h:validI_wp sig b Z):OwnS Tryz.prog 56 [.list false (sig.map Control.cells),.agg (bC false b)] (.t [.a [.c,.s [.c,.c,.s [.c]],.s [.c],.c,.s [.c],.s [.c,.c]],.c]) (fun r=>∃ y:Big × Bool,Z y∧r = .tup [.agg (bC true y.1),bool y.2]):=by
 unfold validI_wp at h
 have sp:Sep noHeap 0 [] []:=Sep.nil (by simp)
 refine OwnS.of Tryz.func56 rfl Tryz.ntmps56 (by simp) fun Q hQ=>?_
 refine Runs.cut (fun ρ H n=>(ρ 0 = .list false (sig.map Control.cells)∧ρ 1 = .agg (bC false b))∧Sep H n [] []) (by refine⟨by simp ,sp⟩) ?_
 rintro ρ H n1 ⟨hh,sp⟩
 refine zE fun k' hk'=>?_
 simp[hh]
 apply hk'
 refine Runs.cut (fun ρ H n=>((ρ 0 = .list false (sig.map Control.cells)∧ρ 3=pA n1 3∧ρ 4=pA (n1+1) 4)∧H (n1,3)=some ⟨6,[bC false b]⟩∧H (n1+1,4)=some ⟨6,[zB]⟩)∧Sep H n [] [(n1+1,4),(n1,3)]) (by refine⟨by simp[hh],sp.var.var⟩) ?_
 clear hh
 rintro ρ H n4 ⟨⟨hh,m3_1,m4_2⟩,sp⟩
 refine Runs.seq ?_
 refine zE fun k' hk'=>?_
 obtain⟨hb5,h⟩:=h
 obtain⟨r6,er6,h⟩:=atm h
 simp[hh,m3_1,m4_2]
 refine RunK.callA Ty_ok (IsBigraph_ok sig b hb5) e107 (.cons (argC false sig) (.cons (argB false b) .nil)) (by decide) (by decide) rfl (by simp[hh,m3_1,m4_2]) ?_
 rintro _ rfl
 rw[← er6]
 simp[hh,m3_1,m4_2]
 apply hk'
 refine Runs.ite (b:=(!r6)) (by simp[hh,m3_1,m4_2]) (fun dr6=>?_) (fun dr6=>?_)
 ·have dr6:r6=false:=by simpa using dr6
  replace h:=h.2 dr6
  refine zE fun k' hk'=>?_
  simp[hh,m3_1,m4_2,dr6]
  apply hk'
  refine Runs.cut (fun ρ H n=>((ρ 4=pA (n1+1) 4∧ρ 5=bool false)∧H (n1+1,4)=some ⟨6,[zB]⟩)∧Sep H n [] [(n1+1,4)]) (by refine⟨by simp[hh,m3_1,m4_2,dr6],(Sep.sub (Sep.setVar (w:=(n1+1,4)) sp (by simp)) (by simp +contextual))⟩) ?_
  clear hh m3_1 m4_2
  rintro ρ H n7 ⟨⟨hh,m4_2⟩,sp⟩
  exact Runs.res2 Ty_ok (v:=.agg [int 0,.v (.slice none 0 0),.v (.slice none 0 0),int 0,.v (.slice none 0 0),.v (.slice none 0 0)]) (w:=bool false) Tryz.func56 Tryz.results56 (by simp[hh,m4_2,resA]) (by simp[hh,m4_2,resA]) (hQ _ _ _ _ (Sep.sub (ids':=[]) (Sep.packT (Fill.own (Fill.v _ Fill.nil)) (Sep.pack (Fill.v _ (Fill.own (Fill.own (Fill.v _ (Fill.own (Fill.own Fill.nil)))))) (Sep.f3 (Sep.f2 (Sep.f1 (Sep.addNil (Sep.addNil (Sep.addNil (Sep.addNil sp))))))))) (by simp)) ⟨((Big.mk 0 [] [] 0 [] []),false),h,rfl⟩)
 have dr6:r6=true:=by simpa using dr6
 replace h:=h.1 dr6
 refine Runs.skip ?_
 refine zE fun k' hk'=>?_
 obtain⟨hb14,h⟩:=h
 obtain⟨r15,er15,h⟩:=atm h
 simp[hh,m3_1,m4_2,dr6]
 refine RunK.callW Ty_ok (ownB_ok b hb14) e112 (.cons (argB false b) .nil) sp (by decide) (by decide) rfl (by simp[hh,m3_1,m4_2,dr6]) ?_
 rintro v16 H17 n18 _ sp rfl hle20 hfr19
 rw[← er15] at sp
 have m3_1:=(hfr19 _ (by simp)).trans m3_1
 have m4_2:=(hfr19 _ (by simp)).trans m4_2
 replace sp:=Sep.unpack sp
 obtain⟨L28,hv,hl29,sp⟩:=sp
 subst hv
 obtain⟨v22,v23,v24,v25,v26,v27,hv⟩:=len6 (by simpa using hl29)
 subst hv
 simp only[zip3,List.cons_append,List.nil_append] at sp
 replace sp:=Sep.scalar sp
 obtain⟨hv,sp⟩:=sp
 subst hv
 replace sp:=Sep.rot sp
 try simp only[List.cons_append,List.nil_append,List.append_assoc] at sp
 replace sp:=Sep.rot sp
 try simp only[List.cons_append,List.nil_append,List.append_assoc] at sp
 replace sp:=Sep.scalar sp
 obtain⟨hv,sp⟩:=sp
 subst hv
 replace sp:=Sep.rot sp
 try simp only[List.cons_append,List.nil_append,List.append_assoc] at sp
 replace sp:=Sep.rot sp
 try simp only[List.cons_append,List.nil_append,List.append_assoc] at sp
 have f34:=Sep.oc sp
 have f35:=Sep.oc sp.f1
 have f36:=Sep.oc sp.f2
 have f37:=Sep.oc sp.f3
 simp[hh,m3_1,m4_2,f34,f35,f36,f37,dr6,-cellsA,-one1,cAx,o1x]
 apply hk'
 refine Runs.cut (fun ρ H n=>∃ (v38 v39 v40 v41:AVal),((ρ 4=pA (n1+1) 4∧ρ 5=bool true)∧H (n1+1,4)=some ⟨6,[[int r15.roots,v38,v39,int r15.edges,v40,v41]]⟩)∧Sep H n [oN v38 r15.nodes,oI v39 r15.sites,oS v40 r15.outer,oW v41 r15.inner] [(n1+1,4)]) (by refine⟨v23,v24,v26,v27,by simp[hh,m3_1,m4_2,f34,f35,f36,f37,dr6,-cellsA,-one1,cAx,o1x],(Sep.sub (Sep.setVar (w:=(n1+1,4)) sp (by simp)) (by simp +contextual))⟩) ?_
 clear hh m3_1 m4_2
 rintro ρ H n42 ⟨v38,v39,v40,v41,⟨hh,m4_2⟩,sp⟩
 exact Runs.res2 Ty_ok (v:=.agg [int r15.roots,v38,v39,int r15.edges,v40,v41]) (w:=bool true) Tryz.func56 Tryz.results56 (by simp[hh,m4_2,resA]) (by simp[hh,m4_2,resA]) (hQ _ _ _ _ (Sep.sub (ids':=[]) (Sep.packT (Fill.own (Fill.v _ Fill.nil)) (Sep.pack (Fill.v _ (Fill.own (Fill.own (Fill.v _ (Fill.own (Fill.own Fill.nil)))))) sp)) (by simp)) ⟨(r15,true),h,rfl⟩)
theorem validI_ok (sig:List Control) (b:Big) (hp:validI_pre sig b):OwnS Tryz.prog 56 [.list false (sig.map Control.cells),.agg (bC false b)] (.t [.a [.c,.s [.c,.c,.s [.c]],.s [.c],.c,.s [.c],.s [.c,.c]],.c]) (fun r=>r = .tup [.agg [int (((validI sig b).1).roots),.list true ((((validI sig b).1).nodes).map (GNode.cells true)),.list true ((((validI sig b).1).sites).map intC),int (((validI sig b).1).edges),.list true ((((validI sig b).1).outer).map strC),.list true ((((validI sig b).1).inner).map Wire.cells)],bool ((validI sig b).2)]):=(validI_walk sig b _ (validI_vc sig b hp)).mono (by rintro _ ⟨_,rfl,rfl⟩;rfl)
theorem e48:Ent Tryz.prog 48:=Ent.of Tryz.func48 (by kernel_rfl) rfl
theorem ancestorsOf_walk (b:Big) (node:Int) (Z:(List Int)→Prop) (h:ancestorsOf_wp b node Z):OwnS Tryz.prog 48 [.agg (bC false b),int node] (.s [.c]) (fun r=>∃ y:List Int,Z y∧r = .list true (y.map intC)):=by
 unfold ancestorsOf_wp at h
 have sp:Sep noHeap 0 [] []:=Sep.nil (by simp)
 refine OwnS.of Tryz.func48 rfl Tryz.ntmps48 (by simp) fun Q hQ=>?_
 refine Runs.cut (fun ρ H n=>(ρ 0 = .agg (bC false b)∧ρ 1=int node)∧Sep H n [] []) (by refine⟨by simp ,sp⟩) ?_
 rintro ρ H n1 ⟨hh,sp⟩
 refine zE fun k' hk'=>?_
 simp[hh]
 apply hk'
 refine Runs.cut (fun ρ H n=>((ρ 1=int node∧ρ 2=pA n1 2)∧H (n1,2)=some ⟨6,[bC false b]⟩)∧Sep H n [] [(n1,2)]) (by refine⟨by simp[hh],sp.var⟩) ?_
 clear hh
 rintro ρ H n3 ⟨⟨hh,m2_1⟩,sp⟩
 refine zE fun k' hk'=>?_
 simp[hh,m2_1]
 apply hk'
 refine Runs.cut (fun ρ H n=>∃ (v5:AVal),((ρ 1=int node∧ρ 2=pA n1 2∧ρ 5=v5)∧H (n1,2)=some ⟨6,[bC false b]⟩)∧Sep H n [oI v5 ([]:List Int)] [(n1,2)]) (by refine⟨.arr (n3,6) 0 0 0,by simp[hh,m2_1],(Sep.addEmpty (l:=[.c]) sp)⟩) ?_
 clear hh m2_1
 rintro ρ H n6 ⟨v5,⟨hh,m2_1⟩,sp⟩
 refine Runs.seq ?_
 refine Runs.block ?_
 refine Runs.loopW h (fun (sJ:Int × (List Int)) ρ H n=>match sJ with | (node14,l15)=>∃ (v16:AVal),((ρ 1=int node14∧ρ 2=pA n1 2∧ρ 5=v16)∧H (n1,2)=some ⟨6,[bC false b]⟩)∧Sep H n [oI v16 l15] [(n1,2)]) (by refine⟨v5,by simp[hh,m2_1],sp⟩) ?_
 clear hh m2_1
 rintro⟨node14,l15⟩ ρ H n17 K h ⟨v16,⟨hh,m2_1⟩,sp⟩ IH18
 refine Runs.seq ?_
 refine zE fun k' hk'=>?_
 obtain⟨c20,ec20,h⟩:=atm h
 have f21:=ib_geq (k:=.i64) ec20
 simp[hh,m2_1,f21,-intBin]
 apply hk'
 refine Runs.ite (b:=c20) (by simp[hh,m2_1]) (fun dc20=>?_) (fun dc20=>?_)
 ·replace h:=h.1 dc20
  refine Runs.skip ?_
  refine Runs.block ?_
  refine zE fun k' hk'=>?_
  obtain⟨hb22,h⟩:=h
  obtain⟨x23,ex23,h⟩:=atm h
  have f24:=fun H=>ix_list (H:=H) (fr:=false) (f:=(GNode.cells false)) (k:=.i64) kd_31 (fun _=>rfl) hb22 ex23
  simp[hh,m2_1,f24,dc20,-indexAddrF]
  apply hk'
  refine zF fun k' hk'=>?_
  obtain⟨hb25,h⟩:=h
  obtain⟨l26,el26,h⟩:=atm h
  simp[hh,m2_1,dc20,-appendF]
  refine bind_append [] [] [[int x23.parent]] [intC x23.parent] sp kd_24 (by simp) (by simp) (by simp) (by simp[-one1,o1x]) (rows_one (Fill.v _ Fill.nil)) (by simp) (by simpa using hb25) ?_
  rintro v27 H28 n29 sp hfr30 hle31
  replace sp:Sep H28 n29 [oI v27 l26] [(n1,2)]:=Sep.ap el26 sp
  have m2_1:=(hfr30 _ (by simp)).trans m2_1
  simp[hh,m2_1,dc20]
  apply hk'
  refine Runs.cut (fun ρ H n=>∃ (v33:AVal),((ρ 1=int x23.parent∧ρ 2=pA n1 2∧ρ 5=v33)∧H (n1,2)=some ⟨6,[bC false b]⟩)∧Sep H n [oI v33 l26] [(n1,2)]) (by refine⟨v27,by simp[hh,m2_1,dc20],sp⟩) ?_
  clear hh m2_1
  rintro ρ H n34 ⟨v33,⟨hh,m2_1⟩,sp⟩
  refine Runs.inBlock ?_
  refine IH18 (x23.parent,l26) _ _ _ h (by refine⟨v33,by simp[hh,m2_1],sp⟩)
 replace h:=h.2 dc20
 refine Runs.exit rfl ?_
 refine zE fun k' hk'=>?_
 simp[hh,m2_1,dc20]
 apply hk'
 exact Runs.ret1 (v:=v16) Tryz.func48 Tryz.results48 (by simp[hh,m2_1,dc20]) (hQ _ _ _ _ (Sep.sub (ids':=[]) sp (by simp)) ⟨l15,h,rfl⟩)
theorem ancestorsOf_ok (b:Big) (node:Int) (hp:ancestorsOf_pre b node):OwnS Tryz.prog 48 [.agg (bC false b),int node] (.s [.c]) (fun r=>r = .list true ((ancestorsOf b node).map intC)):=(ancestorsOf_walk b node _ (ancestorsOf_vc b node hp)).mono (by rintro _ ⟨_,rfl,rfl⟩;rfl)
theorem e145:Ent Tryz.prog 145:=Ent.of Tryz.func145 (by kernel_rfl) rfl
theorem l2Above_walk (b:Big) (node:Int) (Z:(List Int)→Prop) (h:l2Above_wp b node Z):OwnS Tryz.prog 145 [.agg (bC false b),int node] (.s [.c]) (fun r=>∃ y:List Int,Z y∧r = .list true (y.map intC)):=by
 unfold l2Above_wp at h
 have sp:Sep noHeap 0 [] []:=Sep.nil (by simp)
 refine OwnS.of Tryz.func145 rfl Tryz.ntmps145 (by simp) fun Q hQ=>?_
 refine Runs.cut (fun ρ H n=>(ρ 0 = .agg (bC false b)∧ρ 1=int node)∧Sep H n [] []) (by refine⟨by simp ,sp⟩) ?_
 rintro ρ H n1 ⟨hh,sp⟩
 refine zE fun k' hk'=>?_
 simp[hh]
 apply hk'
 refine Runs.cut (fun ρ H n=>((ρ 1=int node∧ρ 2=pA n1 2)∧H (n1,2)=some ⟨6,[bC false b]⟩)∧Sep H n [] [(n1,2)]) (by refine⟨by simp[hh],sp.var⟩) ?_
 clear hh
 rintro ρ H n3 ⟨⟨hh,m2_1⟩,sp⟩
 refine zE fun k' hk'=>?_
 simp[hh,m2_1]
 apply hk'
 refine Runs.cut (fun ρ H n=>∃ (v5:AVal),((ρ 1=int node∧ρ 2=pA n1 2∧ρ 5=v5)∧H (n1,2)=some ⟨6,[bC false b]⟩)∧Sep H n [oI v5 ([]:List Int)] [(n1,2)]) (by refine⟨.arr (n3,6) 0 0 0,by simp[hh,m2_1],(Sep.addEmpty (l:=[.c]) sp)⟩) ?_
 clear hh m2_1
 rintro ρ H n6 ⟨v5,⟨hh,m2_1⟩,sp⟩
 refine Runs.seq ?_
 refine Runs.block ?_
 refine Runs.loopW h (fun (sJ:Int × (List Int)) ρ H n=>match sJ with | (node14,l15)=>∃ (v16:AVal),((ρ 1=int node14∧ρ 2=pA n1 2∧ρ 5=v16)∧H (n1,2)=some ⟨6,[bC false b]⟩)∧Sep H n [oI v16 l15] [(n1,2)]) (by refine⟨v5,by simp[hh,m2_1],sp⟩) ?_
 clear hh m2_1
 rintro⟨node14,l15⟩ ρ H n17 K h ⟨v16,⟨hh,m2_1⟩,sp⟩ IH18
 refine Runs.seq ?_
 refine zE fun k' hk'=>?_
 obtain⟨c20,ec20,h⟩:=atm h
 have f21:=ib_geq (k:=.i64) ec20
 simp[hh,m2_1,f21,-intBin]
 apply hk'
 refine Runs.ite (b:=c20) (by simp[hh,m2_1]) (fun dc20=>?_) (fun dc20=>?_)
 ·replace h:=h.1 dc20
  refine Runs.skip ?_
  refine Runs.block ?_
  refine zE fun k' hk'=>?_
  obtain⟨hb22,h⟩:=h
  obtain⟨x23,ex23,h⟩:=atm h
  have f24:=fun H=>ix_list (H:=H) (fr:=false) (f:=(GNode.cells false)) (k:=.i64) kd_31 (fun _=>rfl) hb22 ex23
  simp[hh,m2_1,f24,dc20,-indexAddrF]
  apply hk'
  refine zF fun k' hk'=>?_
  obtain⟨hb25,h⟩:=h
  obtain⟨l26,el26,h⟩:=atm h
  simp[hh,m2_1,dc20,-appendF]
  refine bind_append [] [] [[int x23.parent]] [intC x23.parent] sp kd_24 (by simp) (by simp) (by simp) (by simp[-one1,o1x]) (rows_one (Fill.v _ Fill.nil)) (by simp) (by simpa using hb25) ?_
  rintro v27 H28 n29 sp hfr30 hle31
  replace sp:Sep H28 n29 [oI v27 l26] [(n1,2)]:=Sep.ap el26 sp
  have m2_1:=(hfr30 _ (by simp)).trans m2_1
  simp[hh,m2_1,dc20]
  apply hk'
  refine Runs.cut (fun ρ H n=>∃ (v33:AVal),((ρ 1=int x23.parent∧ρ 2=pA n1 2∧ρ 5=v33)∧H (n1,2)=some ⟨6,[bC false b]⟩)∧Sep H n [oI v33 l26] [(n1,2)]) (by refine⟨v27,by simp[hh,m2_1,dc20],sp⟩) ?_
  clear hh m2_1
  rintro ρ H n34 ⟨v33,⟨hh,m2_1⟩,sp⟩
  refine Runs.inBlock ?_
  refine IH18 (x23.parent,l26) _ _ _ h (by refine⟨v33,by simp[hh,m2_1],sp⟩)
 replace h:=h.2 dc20
 refine Runs.exit rfl ?_
 refine zE fun k' hk'=>?_
 simp[hh,m2_1,dc20]
 apply hk'
 exact Runs.ret1 (v:=v16) Tryz.func145 Tryz.results145 (by simp[hh,m2_1,dc20]) (hQ _ _ _ _ (Sep.sub (ids':=[]) sp (by simp)) ⟨l15,h,rfl⟩)
theorem l2Above_ok (b:Big) (node:Int) (hp:l2Above_pre b node):OwnS Tryz.prog 145 [.agg (bC false b),int node] (.s [.c]) (fun r=>r = .list true ((l2Above b node).map intC)):=(l2Above_walk b node _ (l2Above_vc b node hp)).mono (by rintro _ ⟨_,rfl,rfl⟩;rfl)
theorem e94:Ent Tryz.prog 94:=Ent.of Tryz.func94 (by kernel_rfl) rfl
theorem l4Below_walk (b:Big) (node:Int) (Z:(List Bool)→Prop) (h:l4Below_wp b node Z):OwnS Tryz.prog 94 [.agg (bC false b),int node] (.s [.c]) (fun r=>∃ y:List Bool,Z y∧r = .list true (y.map boolC)):=by
 unfold l4Below_wp at h
 have sp:Sep noHeap 0 [] []:=Sep.nil (by simp)
 refine OwnS.of Tryz.func94 rfl Tryz.ntmps94 (by simp) fun Q hQ=>?_
 refine Runs.cut (fun ρ H n=>(ρ 0 = .agg (bC false b)∧ρ 1=int node)∧Sep H n [] []) (by refine⟨by simp ,sp⟩) ?_
 rintro ρ H n1 ⟨hh,sp⟩
 refine zE fun k' hk'=>?_
 simp[hh]
 apply hk'
 refine Runs.cut (fun ρ H n=>((ρ 1=int node∧ρ 2=pA n1 2)∧H (n1,2)=some ⟨6,[bC false b]⟩)∧Sep H n [] [(n1,2)]) (by refine⟨by simp[hh],sp.var⟩) ?_
 clear hh
 rintro ρ H n3 ⟨⟨hh,m2_1⟩,sp⟩
 refine zE fun k' hk'=>?_
 simp[hh,m2_1,boolC]
 apply hk'
 refine Runs.cut (fun ρ H n=>∃ (v5:AVal),((ρ 1=int node∧ρ 2=pA n1 2∧ρ 5=v5)∧H (n1,2)=some ⟨6,[bC false b]⟩)∧Sep H n [oE [.c] boolC v5 ([]:List Bool)] [(n1,2)]) (by refine⟨.arr (n3,7) 0 0 0,by simp[hh,m2_1,boolC],(Sep.addEmpty (l:=[.c]) sp)⟩) ?_
 clear hh m2_1
 rintro ρ H n6 ⟨v5,⟨hh,m2_1⟩,sp⟩
 refine Runs.seq ?_
 refine zE fun k' hk'=>?_
 simp[hh,m2_1,boolC]
 apply hk'
 refine Runs.block ?_
 refine Runs.loopW h (fun (sJ:Int × (List Bool)) ρ H n=>match sJ with | (i14,l15)=>∃ (v16:AVal),((ρ 1=int node∧ρ 2=pA n1 2∧ρ 5=v16∧ρ 6=int i14)∧H (n1,2)=some ⟨6,[bC false b]⟩)∧Sep H n [oE [.c] boolC v16 l15] [(n1,2)]) (by refine⟨v5,by simp[hh,m2_1,boolC],sp⟩) ?_
 clear hh m2_1
 rintro⟨i14,l15⟩ ρ H n17 K h ⟨v16,⟨hh,m2_1⟩,sp⟩ IH18
 refine Runs.seq ?_
 refine zE fun k' hk'=>?_
 obtain⟨len20,elen20,h⟩:=atm h
 have f21:=fun H=>len_list (H:=H) (fr:=false) (f:=(GNode.cells false)) kd_31 elen20
 obtain⟨c22,ec22,h⟩:=atm h
 have f23:=ib_lss (k:=.i64) ec22
 simp[hh,m2_1,f21,f23,boolC,-intBin,-lenF]
 apply hk'
 refine Runs.ite (b:=c22) (by simp[hh,m2_1,boolC]) (fun dc22=>?_) (fun dc22=>?_)
 ·replace h:=h.1 dc22
  refine Runs.skip ?_
  refine Runs.seq ?_
  refine Runs.block ?_
  refine zF fun k' hk'=>?_
  obtain⟨hb24,h⟩:=h
  obtain⟨r25,er25,h⟩:=atm h
  simp[hh,m2_1,dc22,boolC]
  refine RunK.callW Ty_ok (l2Above_ok b i14 hb24) e145 (.cons (argB false b) (.cons (.v _ _ _) .nil)) sp (by decide) (by decide) rfl (by simp[hh,m2_1,dc22,boolC]) ?_
  rintro v26 H27 n28 _ sp rfl hle30 hfr29
  rw[← er25] at sp
  have m2_1:=(hfr29 _ (by simp)).trans m2_1
  obtain⟨hb33,h⟩:=h
  obtain⟨r34,er34,h⟩:=atm h
  simp[hh,m2_1,dc22,boolC]
  refine RunK.callA Ty_ok (l1HasI_ok r25 node hb33) e118 (.cons (Sep.argOk' sp (old_listF (by simp))) (.cons (.v _ _ _) .nil)) (by decide) (by decide) rfl (by simp[hh,m2_1,dc22,boolC]) ?_
  rintro _ rfl
  rw[← er34]
  obtain⟨hb35,h⟩:=h
  obtain⟨l36,el36,h⟩:=atm h
  simp[hh,m2_1,dc22,boolC,-appendF]
  refine bind_append [] [oI v26 r25] [[bool r34]] [boolC r34] sp.f1 kd_117 (by simp) (by simp) (by simp[boolC]) (by simp[-one1,o1x]) (rows_one (Fill.v _ Fill.nil)) (by simp) (by simpa using hb35) ?_
  rintro v37 H38 n39 sp hfr40 hle41
  replace sp:Sep H38 n39 [oE [.c] boolC v37 l36,oI v26 r25] [(n1,2)]:=Sep.ap el36 sp
  have m2_1:=(hfr40 _ (by simp)).trans m2_1
  simp[hh,m2_1,dc22,boolC]
  apply hk'
  refine Runs.cut (fun ρ H n=>∃ (v43:AVal),((ρ 1=int node∧ρ 2=pA n1 2∧ρ 5=v43∧ρ 6=int i14)∧H (n1,2)=some ⟨6,[bC false b]⟩)∧Sep H n [oE [.c] boolC v43 l36] [(n1,2)]) (by refine⟨v37,by simp[hh,m2_1,dc22,boolC],sp.f1.dr⟩) ?_
  clear hh m2_1
  rintro ρ H n44 ⟨v43,⟨hh,m2_1⟩,sp⟩
  refine Runs.inBlock ?_
  refine zF fun k' hk'=>?_
  obtain⟨hb45,h⟩:=h
  obtain⟨v46,ev46,h⟩:=atm h
  have f47:=ib_add hb45 ev46
  simp[hh,m2_1,f47,boolC,-intBin]
  apply hk'
  refine IH18 (v46,l36) _ _ _ h (by refine⟨v43,by simp[hh,m2_1,boolC],sp⟩)
 replace h:=h.2 dc22
 refine Runs.exit rfl ?_
 refine zE fun k' hk'=>?_
 simp[hh,m2_1,dc22,boolC]
 apply hk'
 exact Runs.ret1 (v:=v16) Tryz.func94 Tryz.results94 (by simp[hh,m2_1,dc22,boolC]) (hQ _ _ _ _ (Sep.sub (ids':=[]) sp (by simp)) ⟨l15,h,rfl⟩)
theorem l4Below_ok (b:Big) (node:Int) (hp:l4Below_pre b node):OwnS Tryz.prog 94 [.agg (bC false b),int node] (.s [.c]) (fun r=>r = .list true ((l4Below b node).map boolC)):=(l4Below_walk b node _ (l4Below_vc b node hp)).mono (by rintro _ ⟨_,rfl,rfl⟩;rfl)
theorem e98:Ent Tryz.prog 98:=Ent.of Tryz.func98 (by kernel_rfl) rfl
theorem l4Take_walk (b:Big) (kind:List Bool) (is:Bool) (links:List Int) (one:Bool) (Z:(List GNode)→Prop) (h:l4Take_wp b kind is links one Z):OwnS Tryz.prog 98 [.agg (bC false b),.list false (kind.map boolC),bool is,.list false (links.map intC),bool one] (.s [.c,.c,.s [.c]]) (fun r=>∃ y:List GNode,Z y∧r = .list true (y.map (GNode.cells true))):=by
 unfold l4Take_wp at h
 have sp:Sep noHeap 0 [] []:=Sep.nil (by simp)
 refine OwnS.of Tryz.func98 rfl Tryz.ntmps98 (by simp) fun Q hQ=>?_
 refine Runs.cut (fun ρ H n=>(ρ 0 = .agg (bC false b)∧ρ 1 = .list false (kind.map boolC)∧ρ 2=bool is∧ρ 3 = .list false (links.map intC)∧ρ 4=bool one)∧Sep H n [] []) (by refine⟨by simp[boolC],sp⟩) ?_
 rintro ρ H n1 ⟨hh,sp⟩
 refine zE fun k' hk'=>?_
 simp[hh,boolC]
 apply hk'
 refine Runs.cut (fun ρ H n=>((ρ 1 = .list false (kind.map boolC)∧ρ 2=bool is∧ρ 3 = .list false (links.map intC)∧ρ 4=bool one∧ρ 5=pA n1 5)∧H (n1,5)=some ⟨6,[bC false b]⟩)∧Sep H n [] [(n1,5)]) (by refine⟨by simp[hh,boolC],sp.var⟩) ?_
 clear hh
 rintro ρ H n3 ⟨⟨hh,m5_1⟩,sp⟩
 refine zE fun k' hk'=>?_
 simp[hh,m5_1,boolC]
 apply hk'
 refine Runs.cut (fun ρ H n=>∃ (v6 v7:AVal),((ρ 1 = .list false (kind.map boolC)∧ρ 2=bool is∧ρ 3 = .list false (links.map intC)∧ρ 4=bool one∧ρ 5=pA n1 5∧ρ 11=v7∧ρ 12=v6)∧H (n1,5)=some ⟨6,[bC false b]⟩)∧Sep H n [oI v6 ([]:List Int),oN v7 ([]:List GNode)] [(n1,5)]) (by refine⟨.arr (n3+1,18) 0 0 0,.arr (n3,17) 0 0 0,by simp[hh,m5_1,boolC],(Sep.addEmpty (l:=[.c]) (Sep.addEmpty (l:=[.c,.c,.s [.c]]) sp))⟩) ?_
 clear hh m5_1
 rintro ρ H n8 ⟨v6,v7,⟨hh,m5_1⟩,sp⟩
 refine Runs.seq ?_
 refine zE fun k' hk'=>?_
 simp[hh,m5_1,boolC]
 apply hk'
 refine Runs.block ?_
 refine Runs.loopW h (fun (sJ:Int × (List Int) × (List GNode)) ρ H n=>match sJ with | (i19,l20,l21)=>∃ (v22 v23:AVal),((ρ 1 = .list false (kind.map boolC)∧ρ 2=bool is∧ρ 3 = .list false (links.map intC)∧ρ 4=bool one∧ρ 5=pA n1 5∧ρ 11=v23∧ρ 12=v22∧ρ 13=int i19)∧H (n1,5)=some ⟨6,[bC false b]⟩)∧Sep H n [oI v22 l20,oN v23 l21] [(n1,5)]) (by refine⟨v6,v7,by simp[hh,m5_1,boolC],sp⟩) ?_
 clear hh m5_1
 rintro⟨i19,l20,l21⟩ ρ H n24 K h ⟨v22,v23,⟨hh,m5_1⟩,sp⟩ IH25
 refine Runs.seq ?_
 refine zE fun k' hk'=>?_
 obtain⟨len27,elen27,h⟩:=atm h
 have f28:=fun H=>len_list (H:=H) (fr:=false) (f:=(GNode.cells false)) kd_31 elen27
 obtain⟨c29,ec29,h⟩:=atm h
 have f30:=ib_lss (k:=.i64) ec29
 simp[hh,m5_1,f28,f30,boolC,-intBin,-lenF]
 apply hk'
 refine Runs.ite (b:=c29) (by simp[hh,m5_1,boolC]) (fun dc29=>?_) (fun dc29=>?_)
 ·replace h:=h.1 dc29
  refine Runs.skip ?_
  refine Runs.seq ?_
  refine Runs.block ?_
  refine zE fun k' hk'=>?_
  obtain⟨len31,elen31,h⟩:=atm h
  have f32:=len_own (Sep.len (m:=len31) sp.f1 kd_31 (by rw[elen31,List.length_map]))
  obtain⟨hb33,h⟩:=h
  obtain⟨l34,el34,h⟩:=atm h
  simp[hh,m5_1,f32,dc29,boolC,-lenF,-appendF]
  refine bind_append [] [oN v23 l21] [[int len31]] [intC len31] sp kd_24 (by simp) (by simp) (by simp[boolC]) (by simp[-one1,o1x]) (rows_one (Fill.v _ Fill.nil)) (by simp) (by simpa using hb33) ?_
  rintro v35 H36 n37 sp hfr38 hle39
  replace sp:Sep H36 n37 [oI v35 l34,oN v23 l21] [(n1,5)]:=Sep.ap el34 sp
  have m5_1:=(hfr38 _ (by simp)).trans m5_1
  simp[hh,m5_1,f32,dc29,boolC,-lenF]
  apply hk'
  refine Runs.cut (fun ρ H n=>∃ (v41 v42:AVal),((ρ 1 = .list false (kind.map boolC)∧ρ 2=bool is∧ρ 3 = .list false (links.map intC)∧ρ 4=bool one∧ρ 5=pA n1 5∧ρ 11=v42∧ρ 12=v41∧ρ 13=int i19)∧H (n1,5)=some ⟨6,[bC false b]⟩)∧Sep H n [oI v41 l34,oN v42 l21] [(n1,5)]) (by refine⟨v35,v23,by simp[hh,m5_1,f32,dc29,boolC,-lenF],sp⟩) ?_
  clear hh m5_1
  rintro ρ H n43 ⟨v41,v42,⟨hh,m5_1⟩,sp⟩
  refine Runs.seq ?_
  refine zE fun k' hk'=>?_
  obtain⟨hb44,h⟩:=h
  obtain⟨x45,ex45,h⟩:=atm h
  have f46:=fun H=>ix_list (H:=H) (fr:=false) (f:=boolC) (k:=.i64) kd_117 (fun _=>rfl) hb44 ex45
  obtain⟨c47,ec47,h⟩:=atm h
  have f48:=bb_neq ec47
  simp[hh,m5_1,f46,f48,boolC,-boolBin,-indexAddrF]
  apply hk'
  refine Runs.ite (b:=c47) (by simp[hh,m5_1,boolC]) (fun dc47=>?_) (fun dc47=>?_)
  ·replace h:=h.1 dc47
   refine Runs.exit rfl ?_
   refine zF fun k' hk'=>?_
   obtain⟨hb49,h⟩:=h
   obtain⟨v50,ev50,h⟩:=atm h
   have f51:=ib_add hb49 ev50
   simp[hh,m5_1,f51,dc47,boolC,-intBin]
   apply hk'
   refine IH25 (v50,l34,l21) _ _ _ h (by refine⟨v41,v42,by simp[hh,m5_1,dc47,boolC],sp⟩)
  replace h:=h.2 dc47
  refine Runs.skip ?_
  refine zE fun k' hk'=>?_
  obtain⟨hb52,h⟩:=h
  obtain⟨x53,ex53,h⟩:=atm h
  have f54:=fun H=>ix_list (H:=H) (fr:=false) (f:=(GNode.cells false)) (k:=.i64) kd_31 (fun _=>rfl) hb52 ex53
  simp[hh,m5_1,f54,dc47,boolC,-indexAddrF]
  apply hk'
  refine Runs.seq ?_
  refine zE fun k' hk'=>?_
  obtain⟨J55,hJ56,hr57⟩:=h
  have fin61:∀ (sJ:Bool) (ρ:Env) (H:Heap) (n:Nat),J55 sJ→(match sJ with | b58=>∃ (v59 v60:AVal),((ρ 1 = .list false (kind.map boolC)∧ρ 2=bool is∧ρ 3 = .list false (links.map intC)∧ρ 4=bool one∧ρ 5=pA n1 5∧ρ 11=v60∧ρ 12=v59∧ρ 13=int i19∧ρ 14=int x53.parent∧ρ 52=bool b58)∧H (n1,5)=some ⟨6,[bC false b]⟩)∧Sep H n [oI v59 l34,oN v60 l21] [(n1,5)])→Runs Tryz.prog 98 98 k' ρ H n Q:=by
   rintro b58 ρ H n62 h ⟨v59,v60,⟨hh,m5_1⟩,sp⟩
   replace h:=hr57 _ h
   apply hk'
   refine Runs.ite (b:=b58) (by simp[hh,m5_1,boolC]) (fun db58=>?_) (fun db58=>?_)
   ·replace h:=h.1 db58
    refine zF fun k' hk'=>?_
    obtain⟨hb63,h⟩:=h
    obtain⟨id64,hv,mo65,ln66,ni67⟩:=Sep.openF sp (by simp) hb63
    subst hv
    simp at ni67
    obtain⟨x68,ex68,h⟩:=atm h
    have f69:=fun H (hm:H id64=some ⟨1,l34.map intC⟩)=>ix_arr (H:=H) (k:=.i64) (off:=0) (len:=l34.length) (g:=l34.length) kd_24 hm (by simp) rfl hb63
    have f70:=at_some (q:=x53.parent.toNat) hb63 ex68 rfl
    simp[hh,m5_1,mo65,ni67,f69,f70,db58,boolC,-indexAddrF]
    apply hk'
    refine zE fun k' hk'=>?_
    simp[hh,m5_1,mo65,ni67,db58,boolC]
    apply hk'
    refine Runs.cut (fun ρ H n=>∃ (v72 v73 v74:AVal),((ρ 1 = .list false (kind.map boolC)∧ρ 2=bool is∧ρ 3 = .list false (links.map intC)∧ρ 4=bool one∧ρ 5=pA n1 5∧ρ 11=v74∧ρ 12=v73∧ρ 13=int i19∧ρ 14=int x68∧ρ 15=v72)∧H (n1,5)=some ⟨6,[bC false b]⟩)∧Sep H n [oI v72 ([]:List Int),oI v73 l34,oN v74 l21] [(n1,5)]) (by refine⟨.arr (n62,58) 0 0 0,.arr id64 l34.length 0 l34.length,v60,by simp[hh,m5_1,mo65,ni67,db58,boolC],(Sep.addEmpty (l:=[.c]) sp)⟩) ?_
    clear hh m5_1 mo65 ni67
    rintro ρ H n75 ⟨v72,v73,v74,⟨hh,m5_1⟩,sp⟩
    refine Runs.seq ?_
    refine zE fun k' hk'=>?_
    simp[hh,m5_1,boolC]
    apply hk'
    refine Runs.block ?_
    refine Runs.loopW h (fun (sJ:Int × (List Int)) ρ H n=>match sJ with | (k87,l88)=>∃ (v89 v90 v91:AVal),((ρ 1 = .list false (kind.map boolC)∧ρ 2=bool is∧ρ 3 = .list false (links.map intC)∧ρ 4=bool one∧ρ 5=pA n1 5∧ρ 11=v91∧ρ 12=v90∧ρ 13=int i19∧ρ 14=int x68∧ρ 15=v89∧ρ 16=int k87)∧H (n1,5)=some ⟨6,[bC false b]⟩)∧Sep H n [oI v89 l88,oI v90 l34,oN v91 l21] [(n1,5)]) (by refine⟨v72,v73,v74,by simp[hh,m5_1,boolC],sp⟩) ?_
    clear hh m5_1
    rintro⟨k87,l88⟩ ρ H n92 K h ⟨v89,v90,v91,⟨hh,m5_1⟩,sp⟩ IH93
    refine Runs.seq ?_
    refine zE fun k' hk'=>?_
    obtain⟨hb95,h⟩:=h
    obtain⟨x96,ex96,h⟩:=atm h
    have f97:=fun H=>ix_list (H:=H) (fr:=false) (f:=(GNode.cells false)) (k:=.i64) kd_31 (fun _=>rfl) hb95 ex96
    obtain⟨len98,elen98,h⟩:=atm h
    have f99:=fun H=>len_list (H:=H) (fr:=false) (f:=intC) kd_24 elen98
    obtain⟨c100,ec100,h⟩:=atm h
    have f101:=ib_lss (k:=.i64) ec100
    simp[hh,m5_1,f97,f99,f101,boolC,-indexAddrF,-intBin,-lenF]
    apply hk'
    refine Runs.ite (b:=c100) (by simp[hh,m5_1,boolC]) (fun dc100=>?_) (fun dc100=>?_)
    ·replace h:=h.1 dc100
     refine Runs.skip ?_
     refine Runs.seq ?_
     refine Runs.block ?_
     refine zF fun k' hk'=>?_
     obtain⟨hb102,h⟩:=h
     obtain⟨x103,ex103,h⟩:=atm h
     have hq104:=ex96.trans ex103.symm
     subst hq104
     have f105:=fun H=>ix_list (H:=H) (fr:=false) (f:=(GNode.cells false)) (k:=.i64) kd_31 (fun _=>rfl) hb102 ex96
     obtain⟨hb106,h⟩:=h
     obtain⟨x107,ex107,h⟩:=atm h
     have f108:=fun H=>ix_list (H:=H) (fr:=false) (f:=intC) (k:=.i64) kd_24 (fun _=>rfl) hb106 ex107
     obtain⟨hb109,h⟩:=h
     obtain⟨x110,ex110,h⟩:=atm h
     have f111:=fun H=>ix_list (H:=H) (fr:=false) (f:=intC) (k:=.i64) kd_24 (fun _=>rfl) hb109 ex110
     obtain⟨hb112,h⟩:=h
     obtain⟨l113,el113,h⟩:=atm h
     simp[hh,m5_1,f105,f108,f111,dc100,boolC,-indexAddrF,-appendF]
     refine bind_append [] [oI v90 l34,oN v91 l21] [[int x110]] [intC x110] sp kd_24 (by simp) (by simp) (by simp[boolC]) (by simp[-one1,o1x]) (rows_one (Fill.v _ Fill.nil)) (by simp) (by simpa using hb112) ?_
     rintro v114 H115 n116 sp hfr117 hle118
     replace sp:Sep H115 n116 [oI v114 l113,oI v90 l34,oN v91 l21] [(n1,5)]:=Sep.ap el113 sp
     have m5_1:=(hfr117 _ (by simp)).trans m5_1
     simp[hh,m5_1,f105,f108,f111,dc100,boolC,-indexAddrF]
     apply hk'
     refine Runs.cut (fun ρ H n=>∃ (v120 v121 v122:AVal),((ρ 1 = .list false (kind.map boolC)∧ρ 2=bool is∧ρ 3 = .list false (links.map intC)∧ρ 4=bool one∧ρ 5=pA n1 5∧ρ 11=v122∧ρ 12=v121∧ρ 13=int i19∧ρ 14=int x68∧ρ 15=v120∧ρ 16=int k87)∧H (n1,5)=some ⟨6,[bC false b]⟩)∧Sep H n [oI v120 l113,oI v121 l34,oN v122 l21] [(n1,5)]) (by refine⟨v114,v90,v91,by simp[hh,m5_1,f105,f108,f111,dc100,boolC,-indexAddrF],sp⟩) ?_
     clear hh m5_1
     rintro ρ H n123 ⟨v120,v121,v122,⟨hh,m5_1⟩,sp⟩
     refine Runs.inBlock ?_
     refine zF fun k' hk'=>?_
     obtain⟨hb124,h⟩:=h
     obtain⟨v125,ev125,h⟩:=atm h
     have f126:=ib_add hb124 ev125
     simp[hh,m5_1,f126,boolC,-intBin]
     apply hk'
     refine IH93 (v125,l113) _ _ _ h (by refine⟨v120,v121,v122,by simp[hh,m5_1,boolC],sp⟩)
    replace h:=h.2 dc100
    refine Runs.exit rfl ?_
    refine zF fun k' hk'=>?_
    obtain⟨hb127,h⟩:=h
    obtain⟨x128,ex128,h⟩:=atm h
    have hq129:=ex96.trans ex128.symm
    subst hq129
    have f130:=fun H=>ix_list (H:=H) (fr:=false) (f:=(GNode.cells false)) (k:=.i64) kd_31 (fun _=>rfl) hb127 ex96
    have f131:=Sep.oc sp
    obtain⟨hb132,h⟩:=h
    obtain⟨l133,el133,h⟩:=atm h
    simp[hh,m5_1,f130,f131,dc100,boolC,-cellsA,-indexAddrF,-one1,cAx,o1x,-appendF]
    refine bind_append [oI v89 l88] [oI v90 l34] [[int x96.control,int x68,v89]] [(GNode.cells true) (GNode.mk x96.control x68 l88)] sp.f2 kd_31 (by simp) (by simp) (by simp[boolC]) (by simp[-one1,o1x,Sep.one1 sp.f2.dr]) (rows_one (Fill.v _ (Fill.v _ (Fill.own Fill.nil)))) (by simp) (by simpa using hb132) ?_
    rintro v134 H135 n136 sp hfr137 hle138
    replace sp:Sep H135 n136 [oN v134 l133,oI v90 l34] [(n1,5)]:=Sep.ap el133 sp
    have m5_1:=(hfr137 _ (by simp)).trans m5_1
    simp[hh,m5_1,f130,f131,dc100,boolC,-cellsA,-indexAddrF,-one1,cAx,o1x]
    apply hk'
    refine Runs.cut (fun ρ H n=>∃ (v140 v141:AVal),((ρ 1 = .list false (kind.map boolC)∧ρ 2=bool is∧ρ 3 = .list false (links.map intC)∧ρ 4=bool one∧ρ 5=pA n1 5∧ρ 11=v140∧ρ 12=v141∧ρ 13=int i19)∧H (n1,5)=some ⟨6,[bC false b]⟩)∧Sep H n [oN v140 l133,oI v141 l34] [(n1,5)]) (by refine⟨v134,v90,by simp[hh,m5_1,f130,f131,dc100,boolC,-cellsA,-indexAddrF,-one1,cAx,o1x],sp⟩) ?_
    clear hh m5_1
    rintro ρ H n142 ⟨v140,v141,⟨hh,m5_1⟩,sp⟩
    refine Runs.inBlock ?_
    refine zF fun k' hk'=>?_
    obtain⟨hb143,h⟩:=h
    obtain⟨v144,ev144,h⟩:=atm h
    have f145:=ib_add hb143 ev144
    simp[hh,m5_1,f145,boolC,-intBin]
    apply hk'
    refine IH25 (v144,l34,l133) _ _ _ h (by refine⟨v141,v140,by simp[hh,m5_1,boolC],sp.f1⟩)
   replace h:=h.2 db58
   refine zE fun k' hk'=>?_
   simp[hh,m5_1,db58,boolC]
   apply hk'
   refine Runs.ite (b:=one) (by simp[hh,m5_1,db58,boolC]) (fun done=>?_) (fun done=>?_)
   ·replace h:=h.1 done
    refine zF fun k' hk'=>?_
    simp[hh,m5_1,db58,done,boolC]
    apply hk'
    refine zE fun k' hk'=>?_
    simp[hh,m5_1,db58,done,boolC]
    apply hk'
    refine Runs.cut (fun ρ H n=>∃ (v147 v148 v149:AVal),((ρ 1 = .list false (kind.map boolC)∧ρ 2=bool is∧ρ 3 = .list false (links.map intC)∧ρ 4=bool one∧ρ 5=pA n1 5∧ρ 11=v149∧ρ 12=v148∧ρ 13=int i19∧ρ 14=int (-1)∧ρ 15=v147)∧H (n1,5)=some ⟨6,[bC false b]⟩)∧Sep H n [oI v147 ([]:List Int),oI v148 l34,oN v149 l21] [(n1,5)]) (by refine⟨.arr (n62,58) 0 0 0,v59,v60,by simp[hh,m5_1,db58,done,boolC],(Sep.addEmpty (l:=[.c]) sp)⟩) ?_
    clear hh m5_1
    rintro ρ H n150 ⟨v147,v148,v149,⟨hh,m5_1⟩,sp⟩
    refine Runs.seq ?_
    refine zE fun k' hk'=>?_
    simp[hh,m5_1,done,boolC]
    apply hk'
    refine Runs.block ?_
    refine Runs.loopW h (fun (sJ:Int × (List Int)) ρ H n=>match sJ with | (k162,l163)=>∃ (v164 v165 v166:AVal),((ρ 1 = .list false (kind.map boolC)∧ρ 2=bool is∧ρ 3 = .list false (links.map intC)∧ρ 4=bool one∧ρ 5=pA n1 5∧ρ 11=v166∧ρ 12=v165∧ρ 13=int i19∧ρ 14=int (-1)∧ρ 15=v164∧ρ 16=int k162)∧H (n1,5)=some ⟨6,[bC false b]⟩)∧Sep H n [oI v164 l163,oI v165 l34,oN v166 l21] [(n1,5)]) (by refine⟨v147,v148,v149,by simp[hh,m5_1,done,boolC],sp⟩) ?_
    clear hh m5_1
    rintro⟨k162,l163⟩ ρ H n167 K h ⟨v164,v165,v166,⟨hh,m5_1⟩,sp⟩ IH168
    refine Runs.seq ?_
    refine zE fun k' hk'=>?_
    obtain⟨hb170,h⟩:=h
    obtain⟨x171,ex171,h⟩:=atm h
    have f172:=fun H=>ix_list (H:=H) (fr:=false) (f:=(GNode.cells false)) (k:=.i64) kd_31 (fun _=>rfl) hb170 ex171
    obtain⟨len173,elen173,h⟩:=atm h
    have f174:=fun H=>len_list (H:=H) (fr:=false) (f:=intC) kd_24 elen173
    obtain⟨c175,ec175,h⟩:=atm h
    have f176:=ib_lss (k:=.i64) ec175
    simp[hh,m5_1,f172,f174,f176,done,boolC,-indexAddrF,-intBin,-lenF]
    apply hk'
    refine Runs.ite (b:=c175) (by simp[hh,m5_1,done,boolC]) (fun dc175=>?_) (fun dc175=>?_)
    ·replace h:=h.1 dc175
     refine Runs.skip ?_
     refine Runs.seq ?_
     refine Runs.block ?_
     refine zF fun k' hk'=>?_
     obtain⟨hb177,h⟩:=h
     obtain⟨x178,ex178,h⟩:=atm h
     have hq179:=ex171.trans ex178.symm
     subst hq179
     have f180:=fun H=>ix_list (H:=H) (fr:=false) (f:=(GNode.cells false)) (k:=.i64) kd_31 (fun _=>rfl) hb177 ex171
     obtain⟨hb181,h⟩:=h
     obtain⟨x182,ex182,h⟩:=atm h
     have f183:=fun H=>ix_list (H:=H) (fr:=false) (f:=intC) (k:=.i64) kd_24 (fun _=>rfl) hb181 ex182
     obtain⟨hb184,h⟩:=h
     obtain⟨x185,ex185,h⟩:=atm h
     have f186:=fun H=>ix_list (H:=H) (fr:=false) (f:=intC) (k:=.i64) kd_24 (fun _=>rfl) hb184 ex185
     obtain⟨hb187,h⟩:=h
     obtain⟨l188,el188,h⟩:=atm h
     simp[hh,m5_1,f180,f183,f186,done,dc175,boolC,-indexAddrF,-appendF]
     refine bind_append [] [oI v165 l34,oN v166 l21] [[int x185]] [intC x185] sp kd_24 (by simp) (by simp) (by simp[boolC]) (by simp[-one1,o1x]) (rows_one (Fill.v _ Fill.nil)) (by simp) (by simpa using hb187) ?_
     rintro v189 H190 n191 sp hfr192 hle193
     replace sp:Sep H190 n191 [oI v189 l188,oI v165 l34,oN v166 l21] [(n1,5)]:=Sep.ap el188 sp
     have m5_1:=(hfr192 _ (by simp)).trans m5_1
     simp[hh,m5_1,f180,f183,f186,done,dc175,boolC,-indexAddrF]
     apply hk'
     refine Runs.cut (fun ρ H n=>∃ (v195 v196 v197:AVal),((ρ 1 = .list false (kind.map boolC)∧ρ 2=bool is∧ρ 3 = .list false (links.map intC)∧ρ 4=bool one∧ρ 5=pA n1 5∧ρ 11=v197∧ρ 12=v196∧ρ 13=int i19∧ρ 14=int (-1)∧ρ 15=v195∧ρ 16=int k162)∧H (n1,5)=some ⟨6,[bC false b]⟩)∧Sep H n [oI v195 l188,oI v196 l34,oN v197 l21] [(n1,5)]) (by refine⟨v189,v165,v166,by simp[hh,m5_1,f180,f183,f186,done,dc175,boolC,-indexAddrF],sp⟩) ?_
     clear hh m5_1
     rintro ρ H n198 ⟨v195,v196,v197,⟨hh,m5_1⟩,sp⟩
     refine Runs.inBlock ?_
     refine zF fun k' hk'=>?_
     obtain⟨hb199,h⟩:=h
     obtain⟨v200,ev200,h⟩:=atm h
     have f201:=ib_add hb199 ev200
     simp[hh,m5_1,f201,done,boolC,-intBin]
     apply hk'
     refine IH168 (v200,l188) _ _ _ h (by refine⟨v195,v196,v197,by simp[hh,m5_1,done,boolC],sp⟩)
    replace h:=h.2 dc175
    refine Runs.exit rfl ?_
    refine zF fun k' hk'=>?_
    obtain⟨hb202,h⟩:=h
    obtain⟨x203,ex203,h⟩:=atm h
    have hq204:=ex171.trans ex203.symm
    subst hq204
    have f205:=fun H=>ix_list (H:=H) (fr:=false) (f:=(GNode.cells false)) (k:=.i64) kd_31 (fun _=>rfl) hb202 ex171
    have f206:=Sep.oc sp
    obtain⟨hb207,h⟩:=h
    obtain⟨l208,el208,h⟩:=atm h
    simp[hh,m5_1,f205,f206,done,dc175,boolC,-cellsA,-indexAddrF,-one1,cAx,o1x,-appendF]
    refine bind_append [oI v164 l163] [oI v165 l34] [[int x171.control,int (-1),v164]] [(GNode.cells true) (GNode.mk x171.control (-1) l163)] sp.f2 kd_31 (by simp) (by simp) (by simp[boolC]) (by simp[-one1,o1x,Sep.one1 sp.f2.dr]) (rows_one (Fill.v _ (Fill.v _ (Fill.own Fill.nil)))) (by simp) (by simpa using hb207) ?_
    rintro v209 H210 n211 sp hfr212 hle213
    replace sp:Sep H210 n211 [oN v209 l208,oI v165 l34] [(n1,5)]:=Sep.ap el208 sp
    have m5_1:=(hfr212 _ (by simp)).trans m5_1
    simp[hh,m5_1,f205,f206,done,dc175,boolC,-cellsA,-indexAddrF,-one1,cAx,o1x]
    apply hk'
    refine Runs.cut (fun ρ H n=>∃ (v215 v216:AVal),((ρ 1 = .list false (kind.map boolC)∧ρ 2=bool is∧ρ 3 = .list false (links.map intC)∧ρ 4=bool one∧ρ 5=pA n1 5∧ρ 11=v215∧ρ 12=v216∧ρ 13=int i19)∧H (n1,5)=some ⟨6,[bC false b]⟩)∧Sep H n [oN v215 l208,oI v216 l34] [(n1,5)]) (by refine⟨v209,v165,by simp[hh,m5_1,f205,f206,done,dc175,boolC,-cellsA,-indexAddrF,-one1,cAx,o1x],sp⟩) ?_
    clear hh m5_1
    rintro ρ H n217 ⟨v215,v216,⟨hh,m5_1⟩,sp⟩
    refine Runs.inBlock ?_
    refine zF fun k' hk'=>?_
    obtain⟨hb218,h⟩:=h
    obtain⟨v219,ev219,h⟩:=atm h
    have f220:=ib_add hb218 ev219
    simp[hh,m5_1,f220,done,boolC,-intBin]
    apply hk'
    refine IH25 (v219,l34,l208) _ _ _ h (by refine⟨v216,v215,by simp[hh,m5_1,done,boolC],sp.f1⟩)
   replace h:=h.2 done
   refine Runs.skip ?_
   refine zE fun k' hk'=>?_
   simp[hh,m5_1,db58,done,boolC]
   apply hk'
   refine Runs.cut (fun ρ H n=>∃ (v222 v223 v224:AVal),((ρ 1 = .list false (kind.map boolC)∧ρ 2=bool is∧ρ 3 = .list false (links.map intC)∧ρ 4=bool one∧ρ 5=pA n1 5∧ρ 11=v224∧ρ 12=v223∧ρ 13=int i19∧ρ 14=int x53.parent∧ρ 15=v222)∧H (n1,5)=some ⟨6,[bC false b]⟩)∧Sep H n [oI v222 ([]:List Int),oI v223 l34,oN v224 l21] [(n1,5)]) (by refine⟨.arr (n62,58) 0 0 0,v59,v60,by simp[hh,m5_1,db58,done,boolC],(Sep.addEmpty (l:=[.c]) sp)⟩) ?_
   clear hh m5_1
   rintro ρ H n225 ⟨v222,v223,v224,⟨hh,m5_1⟩,sp⟩
   refine Runs.seq ?_
   refine zE fun k' hk'=>?_
   simp[hh,m5_1,done,boolC]
   apply hk'
   refine Runs.block ?_
   refine Runs.loopW h (fun (sJ:Int × (List Int)) ρ H n=>match sJ with | (k237,l238)=>∃ (v239 v240 v241:AVal),((ρ 1 = .list false (kind.map boolC)∧ρ 2=bool is∧ρ 3 = .list false (links.map intC)∧ρ 4=bool one∧ρ 5=pA n1 5∧ρ 11=v241∧ρ 12=v240∧ρ 13=int i19∧ρ 14=int x53.parent∧ρ 15=v239∧ρ 16=int k237)∧H (n1,5)=some ⟨6,[bC false b]⟩)∧Sep H n [oI v239 l238,oI v240 l34,oN v241 l21] [(n1,5)]) (by refine⟨v222,v223,v224,by simp[hh,m5_1,done,boolC],sp⟩) ?_
   clear hh m5_1
   rintro⟨k237,l238⟩ ρ H n242 K h ⟨v239,v240,v241,⟨hh,m5_1⟩,sp⟩ IH243
   refine Runs.seq ?_
   refine zE fun k' hk'=>?_
   obtain⟨hb245,h⟩:=h
   obtain⟨x246,ex246,h⟩:=atm h
   have f247:=fun H=>ix_list (H:=H) (fr:=false) (f:=(GNode.cells false)) (k:=.i64) kd_31 (fun _=>rfl) hb245 ex246
   obtain⟨len248,elen248,h⟩:=atm h
   have f249:=fun H=>len_list (H:=H) (fr:=false) (f:=intC) kd_24 elen248
   obtain⟨c250,ec250,h⟩:=atm h
   have f251:=ib_lss (k:=.i64) ec250
   simp[hh,m5_1,f247,f249,f251,done,boolC,-indexAddrF,-intBin,-lenF]
   apply hk'
   refine Runs.ite (b:=c250) (by simp[hh,m5_1,done,boolC]) (fun dc250=>?_) (fun dc250=>?_)
   ·replace h:=h.1 dc250
    refine Runs.skip ?_
    refine Runs.seq ?_
    refine Runs.block ?_
    refine zF fun k' hk'=>?_
    obtain⟨hb252,h⟩:=h
    obtain⟨x253,ex253,h⟩:=atm h
    have hq254:=ex246.trans ex253.symm
    subst hq254
    have f255:=fun H=>ix_list (H:=H) (fr:=false) (f:=(GNode.cells false)) (k:=.i64) kd_31 (fun _=>rfl) hb252 ex246
    obtain⟨hb256,h⟩:=h
    obtain⟨x257,ex257,h⟩:=atm h
    have f258:=fun H=>ix_list (H:=H) (fr:=false) (f:=intC) (k:=.i64) kd_24 (fun _=>rfl) hb256 ex257
    obtain⟨hb259,h⟩:=h
    obtain⟨x260,ex260,h⟩:=atm h
    have f261:=fun H=>ix_list (H:=H) (fr:=false) (f:=intC) (k:=.i64) kd_24 (fun _=>rfl) hb259 ex260
    obtain⟨hb262,h⟩:=h
    obtain⟨l263,el263,h⟩:=atm h
    simp[hh,m5_1,f255,f258,f261,done,dc250,boolC,-indexAddrF,-appendF]
    refine bind_append [] [oI v240 l34,oN v241 l21] [[int x260]] [intC x260] sp kd_24 (by simp) (by simp) (by simp[boolC]) (by simp[-one1,o1x]) (rows_one (Fill.v _ Fill.nil)) (by simp) (by simpa using hb262) ?_
    rintro v264 H265 n266 sp hfr267 hle268
    replace sp:Sep H265 n266 [oI v264 l263,oI v240 l34,oN v241 l21] [(n1,5)]:=Sep.ap el263 sp
    have m5_1:=(hfr267 _ (by simp)).trans m5_1
    simp[hh,m5_1,f255,f258,f261,done,dc250,boolC,-indexAddrF]
    apply hk'
    refine Runs.cut (fun ρ H n=>∃ (v270 v271 v272:AVal),((ρ 1 = .list false (kind.map boolC)∧ρ 2=bool is∧ρ 3 = .list false (links.map intC)∧ρ 4=bool one∧ρ 5=pA n1 5∧ρ 11=v272∧ρ 12=v271∧ρ 13=int i19∧ρ 14=int x53.parent∧ρ 15=v270∧ρ 16=int k237)∧H (n1,5)=some ⟨6,[bC false b]⟩)∧Sep H n [oI v270 l263,oI v271 l34,oN v272 l21] [(n1,5)]) (by refine⟨v264,v240,v241,by simp[hh,m5_1,f255,f258,f261,done,dc250,boolC,-indexAddrF],sp⟩) ?_
    clear hh m5_1
    rintro ρ H n273 ⟨v270,v271,v272,⟨hh,m5_1⟩,sp⟩
    refine Runs.inBlock ?_
    refine zF fun k' hk'=>?_
    obtain⟨hb274,h⟩:=h
    obtain⟨v275,ev275,h⟩:=atm h
    have f276:=ib_add hb274 ev275
    simp[hh,m5_1,f276,done,boolC,-intBin]
    apply hk'
    refine IH243 (v275,l263) _ _ _ h (by refine⟨v270,v271,v272,by simp[hh,m5_1,done,boolC],sp⟩)
   replace h:=h.2 dc250
   refine Runs.exit rfl ?_
   refine zF fun k' hk'=>?_
   obtain⟨hb277,h⟩:=h
   obtain⟨x278,ex278,h⟩:=atm h
   have hq279:=ex246.trans ex278.symm
   subst hq279
   have f280:=fun H=>ix_list (H:=H) (fr:=false) (f:=(GNode.cells false)) (k:=.i64) kd_31 (fun _=>rfl) hb277 ex246
   have f281:=Sep.oc sp
   obtain⟨hb282,h⟩:=h
   obtain⟨l283,el283,h⟩:=atm h
   simp[hh,m5_1,f280,f281,done,dc250,boolC,-cellsA,-indexAddrF,-one1,cAx,o1x,-appendF]
   refine bind_append [oI v239 l238] [oI v240 l34] [[int x246.control,int x53.parent,v239]] [(GNode.cells true) (GNode.mk x246.control x53.parent l238)] sp.f2 kd_31 (by simp) (by simp) (by simp[boolC]) (by simp[-one1,o1x,Sep.one1 sp.f2.dr]) (rows_one (Fill.v _ (Fill.v _ (Fill.own Fill.nil)))) (by simp) (by simpa using hb282) ?_
   rintro v284 H285 n286 sp hfr287 hle288
   replace sp:Sep H285 n286 [oN v284 l283,oI v240 l34] [(n1,5)]:=Sep.ap el283 sp
   have m5_1:=(hfr287 _ (by simp)).trans m5_1
   simp[hh,m5_1,f280,f281,done,dc250,boolC,-cellsA,-indexAddrF,-one1,cAx,o1x]
   apply hk'
   refine Runs.cut (fun ρ H n=>∃ (v290 v291:AVal),((ρ 1 = .list false (kind.map boolC)∧ρ 2=bool is∧ρ 3 = .list false (links.map intC)∧ρ 4=bool one∧ρ 5=pA n1 5∧ρ 11=v290∧ρ 12=v291∧ρ 13=int i19)∧H (n1,5)=some ⟨6,[bC false b]⟩)∧Sep H n [oN v290 l283,oI v291 l34] [(n1,5)]) (by refine⟨v284,v240,by simp[hh,m5_1,f280,f281,done,dc250,boolC,-cellsA,-indexAddrF,-one1,cAx,o1x],sp⟩) ?_
   clear hh m5_1
   rintro ρ H n292 ⟨v290,v291,⟨hh,m5_1⟩,sp⟩
   refine Runs.inBlock ?_
   refine zF fun k' hk'=>?_
   obtain⟨hb293,h⟩:=h
   obtain⟨v294,ev294,h⟩:=atm h
   have f295:=ib_add hb293 ev294
   simp[hh,m5_1,f295,done,boolC,-intBin]
   apply hk'
   refine IH25 (v294,l34,l283) _ _ _ h (by refine⟨v291,v290,by simp[hh,m5_1,done,boolC],sp.f1⟩)
  replace h:=hJ56
  obtain⟨c296,ec296,h⟩:=atm h
  have f297:=ib_geq (k:=.i64) ec296
  rcases Bool.eq_false_or_eq_true c296 with dc296 | dc296
  ·replace h:=h.1 dc296
   obtain⟨hb298,h⟩:=h
   obtain⟨x299,ex299,h⟩:=atm h
   have f300:=fun H=>ix_list (H:=H) (fr:=false) (f:=boolC) (k:=.i64) kd_117 (fun _=>rfl) hb298 ex299
   obtain⟨c301,ec301,h⟩:=atm h
   have f302:=bb_eql ec301
   simp[hh,m5_1,f297,f300,f302,dc47,dc296,boolC,-boolBin,-indexAddrF,-intBin]
   exact fin61 (c301) _ _ _ h (by refine⟨v41,v42,by simp[hh,m5_1,f297,f300,f302,dc47,dc296,boolC,-boolBin,-indexAddrF,-intBin],sp⟩)
  replace h:=h.2 dc296
  simp[hh,m5_1,f297,dc47,dc296,boolC,-intBin]
  exact fin61 (false) _ _ _ h (by refine⟨v41,v42,by simp[hh,m5_1,f297,dc47,dc296,boolC,-intBin],sp⟩)
 replace h:=h.2 dc29
 refine Runs.exit rfl ?_
 refine zE fun k' hk'=>?_
 simp[hh,m5_1,dc29,boolC]
 apply hk'
 exact Runs.ret1 (v:=v23) Tryz.func98 Tryz.results98 (by simp[hh,m5_1,dc29,boolC]) (hQ _ _ _ _ (Sep.sub (ids':=[]) sp.f1.hd (by simp)) ⟨l21,h,rfl⟩)
theorem l4Take_ok (b:Big) (kind:List Bool) (is:Bool) (links:List Int) (one:Bool) (hp:l4Take_pre b kind is links one):OwnS Tryz.prog 98 [.agg (bC false b),.list false (kind.map boolC),bool is,.list false (links.map intC),bool one] (.s [.c,.c,.s [.c]]) (fun r=>r = .list true ((l4Take b kind is links one).map (GNode.cells true))):=(l4Take_walk b kind is links one _ (l4Take_vc b kind is links one hp)).mono (by rintro _ ⟨_,rfl,rfl⟩;rfl)
end Go.Ab.Vg
/- The abstract machine, part Sf: variables that are never written again: boxes as immutable cells, slices of arrays in them; loops that are unrolled. -/
namespace Go.Ab
set_option linter.unusedSectionVars false
section
variable {P:Program} {N:Nat} {ρ:Env} {H:Heap} {n:Nat} {Ty:Types} {d:Option Tmp} {ty:TypeId} {pos:String} {af:Array Edge} {gu:Option (Nat × Bool)}
end
section
variable {P:Program} {f:FuncId} {N:Nat} {k:List Item} {Q:AVal→Heap→Nat→Prop} {Ty:Types} {l:List Oper} {ρ:Env} {H:Heap} {n:Nat} {d:Option Tmp} {ty:TypeId} {pos:String} {af:Array Edge}
theorem Runs.seqK (hT:TypesOk P Ty) {id:Nat} {ops:List Oper} {y:Code} (hN:ops.all (fun o=>dok N o.dst)=true) (h:∀ k':List Item,(∀ ρ H n,Runs P f N (.code y::k) ρ H n Q→Runs P f N k' ρ H n Q)→RunK P f N k' Q ops.toArray ops ρ H n) :
  Runs P f N (.code (.seq (.region id ops.toArray false) y)::k) ρ H n Q:=
 Runs.seq (Runs.region (h (.code y::k) fun _ _ _ h=>h))
end
end Go.Ab
