/- Merged texts (10 of 12) of the proof that ends in Cey: Kgw L2kw Maw O Mbw Mcw Lmt. -/
import Derived.Test.YtlmihcmpigdojaaGreatDoorAbQce9
/- Walks by program for YtlmihcmpigdojaaGreatDoorAbKg. -/
namespace Go.Ab.Vg
open Go.Proofs
set_option maxRecDepth 100000
set_option linter.unusedSimpArgs false
set_option linter.unusedVariables false
attribute [local simp] GNode.cells Wire.cells intC sliceC strC bC pA
theorem e76:Ent Tryz.prog 76:=Ent.of Tryz.func76 (by kernel_rfl) rfl
theorem noneZ_walk (many:Int) (Z:(List Int)→Prop) (h:noneZ_wp many Z):OwnS Tryz.prog 76 [int many] (.s [.c]) (fun r=>∃ y:List Int,Z y∧r = .list true (y.map intC)):=by
 unfold noneZ_wp at h
 have sp:Sep noHeap 0 [] []:=Sep.nil (by simp)
 refine OwnS.of Tryz.func76 rfl Tryz.ntmps76 (by simp) fun Q hQ=>?_
 refine Runs.cut (fun ρ H n=>ρ 0=int many∧Sep H n [] []) (by refine⟨by simp[],sp⟩) ?_
 rintro ρ H n1 ⟨hh,sp⟩
 refine zE fun k' hk'=>?_
 simp[hh]
 apply hk'
 refine zE fun k' hk'=>?_
 simp[hh]
 apply hk'
 refine Runs.cut (fun ρ H n=>∃ (v3:AVal),(ρ 0=int many∧ρ 3=v3)∧Sep H n [oI v3 ([]:List Int)] []) (by refine⟨.arr (n1,5) 0 0 0,by simp[hh],(Sep.addEmpty (l:=[.c]) sp)⟩) ?_
 clear hh
 rintro ρ H n4 ⟨v3,hh,sp⟩
 refine Runs.seq ?_
 refine zE fun k' hk'=>?_
 simp[hh]
 apply hk'
 refine Runs.block ?_
 refine Runs.loopW h (fun (sJ:Int × (List Int)) ρ H n=>match sJ with | (i12,l13)=>∃ (v14:AVal),(ρ 0=int many∧ρ 3=v14∧ρ 4=int i12)∧Sep H n [oI v14 l13] []) (by refine⟨v3,by simp[hh],sp⟩) ?_
 clear hh
 rintro⟨i12,l13⟩ ρ H n15 K h ⟨v14,hh,sp⟩ IH16
 refine Runs.seq ?_
 refine zE fun k' hk'=>?_
 obtain⟨c18,ec18,h⟩:=atm h
 have f19:=ib_lss (k:=.i64) ec18
 simp[hh,f19,-intBin]
 apply hk'
 refine Runs.ite (b:=c18) (by simp[hh]) (fun dc18=>?_) (fun dc18=>?_)
 ·replace h:=h.1 dc18
  refine Runs.skip ?_
  refine Runs.seq ?_
  refine Runs.block ?_
  refine zF fun k' hk'=>?_
  obtain⟨hb20,h⟩:=h
  obtain⟨l21,el21,h⟩:=atm h
  simp[hh,dc18,-appendF]
  refine bind_append [] [] [[int (-1)]] [intC (-1)] sp kd_24 (by simp) (by simp) (by simp) (by simp[-one1,o1x]) (rows_one (Fill.v _ Fill.nil)) (by simp) (by simpa using hb20) ?_
  rintro v22 H23 n24 sp hfr25 hle26
  replace sp:Sep H23 n24 [oI v22 l21] []:=Sep.ap el21 sp
  simp[hh,dc18]
  apply hk'
  refine Runs.cut (fun ρ H n=>∃ (v28:AVal),(ρ 0=int many∧ρ 3=v28∧ρ 4=int i12)∧Sep H n [oI v28 l21] []) (by refine⟨v22,by simp[hh,dc18],sp⟩) ?_
  clear hh
  rintro ρ H n29 ⟨v28,hh,sp⟩
  refine Runs.inBlock ?_
  refine zF fun k' hk'=>?_
  obtain⟨hb30,h⟩:=h
  obtain⟨v31,ev31,h⟩:=atm h
  have f32:=ib_add hb30 ev31
  simp[hh,f32,-intBin]
  apply hk'
  refine IH16 (v31,l21) _ _ _ h (by refine⟨v28,by simp[hh],sp⟩)
 replace h:=h.2 dc18
 refine Runs.exit rfl ?_
 refine zE fun k' hk'=>?_
 simp[hh,dc18]
 apply hk'
 exact Runs.ret1 (v:=v14) Tryz.func76 Tryz.results76 (by simp[hh,dc18]) (hQ _ _ _ _ (Sep.sub (ids':=[]) sp (by simp)) ⟨l13,h,rfl⟩)
theorem noneZ_ok (many:Int) (hp:noneZ_pre many):OwnS Tryz.prog 76 [int many] (.s [.c]) (fun r=>r = .list true ((noneZ many).map intC)):=(noneZ_walk many _ (noneZ_vc many hp)).mono (by rintro _ ⟨_,rfl,rfl⟩;rfl)
theorem e133:Ent Tryz.prog 133:=Ent.of Tryz.func133 (by kernel_rfl) rfl
theorem ownZ_walk (l:List Int) (Z:(List Int)→Prop) (h:ownZ_wp l Z):OwnS Tryz.prog 133 [.list false (l.map intC)] (.s [.c]) (fun r=>∃ y:List Int,Z y∧r = .list true (y.map intC)):=by
 unfold ownZ_wp at h
 have sp:Sep noHeap 0 [] []:=Sep.nil (by simp)
 refine OwnS.of Tryz.func133 rfl Tryz.ntmps133 (by simp) fun Q hQ=>?_
 refine Runs.cut (fun ρ H n=>ρ 0 = .list false (l.map intC)∧Sep H n [] []) (by refine⟨by simp ,sp⟩) ?_
 rintro ρ H n1 ⟨hh,sp⟩
 refine zE fun k' hk'=>?_
 simp[hh]
 apply hk'
 refine zE fun k' hk'=>?_
 obtain⟨hb3,h⟩:=h
 obtain⟨l4,el4,h⟩:=atm h
 simp[hh,-appendF]
 refine bind_append0 (l.map intC) (Sep.addEmpty (l:=[.c]) sp) (by simp) kd_24 (by simp) (by simp) (by simp[srcOf]) (by simp[-one1,o1x]) (by simpa using hb3) ?_
 rintro v5 H6 n7 sp hfr8 hle9
 replace sp:Sep H6 n7 [oI v5 l4] []:=by refine Sep.ap el4 ?_;exact sp
 simp[hh]
 apply hk'
 refine Runs.cut (fun ρ H n=>∃ (v11:AVal),ρ 2=v11∧Sep H n [oI v11 l4] []) (by refine⟨v5,by simp[hh],sp⟩) ?_
 clear hh
 rintro ρ H n12 ⟨v11,hh,sp⟩
 exact Runs.ret1 (v:=v11) Tryz.func133 Tryz.results133 (by simp[hh]) (hQ _ _ _ _ (Sep.sub (ids':=[]) sp (by simp)) ⟨l4,h,rfl⟩)
theorem ownZ_ok (l:List Int) (hp:ownZ_pre l):OwnS Tryz.prog 133 [.list false (l.map intC)] (.s [.c]) (fun r=>r = .list true ((ownZ l).map intC)):=(ownZ_walk l _ (ownZ_vc l hp)).mono (by rintro _ ⟨_,rfl,rfl⟩;rfl)
theorem e142:Ent Tryz.prog 142:=Ent.of Tryz.func142 (by kernel_rfl) rfl
theorem cntZ_walk (edges:List Int) (Z:Int→Prop) (h:cntZ_wp edges Z):PureC Tryz.prog 142 [.list false (edges.map intC)] (fun r=>∃ y:Int,Z y∧r=int y):=by
 unfold cntZ_wp at h
 refine PureC.of Tryz.func142 rfl Tryz.ntmps142 (by simp) fun Q hQ=>?_
 refine Runs.cut (fun ρ H n=>ρ 0 = .list false (edges.map intC)) (by simp) ?_
 rintro ρ H n1 hh
 refine zE fun k' hk'=>?_
 simp[hh]
 apply hk'
 refine zE fun k' hk'=>?_
 simp[hh]
 apply hk'
 refine Runs.seq ?_
 refine zE fun k' hk'=>?_
 simp[hh]
 apply hk'
 refine Runs.block ?_
 refine Runs.loopW h (fun (sJ:Int × Int) ρ H n=>match sJ with | (many5,i6)=>(ρ 0 = .list false (edges.map intC)∧ρ 3=int many5∧ρ 4=int i6)) (by simp[hh]) ?_
 clear hh
 rintro⟨many5,i6⟩ ρ H n7 K h hh IH8
 refine Runs.seq ?_
 refine zE fun k' hk'=>?_
 obtain⟨len10,elen10,h⟩:=atm h
 have f11:=fun H=>len_list (H:=H) (fr:=false) (f:=intC) kd_24 elen10
 obtain⟨c12,ec12,h⟩:=atm h
 have f13:=ib_lss (k:=.i64) ec12
 simp[hh,f11,f13,-intBin,-lenF]
 apply hk'
 refine Runs.ite (b:=c12) (by simp[hh]) (fun dc12=>?_) (fun dc12=>?_)
 ·replace h:=h.1 dc12
  refine Runs.skip ?_
  refine Runs.seq ?_
  refine Runs.block ?_
  refine zE fun k' hk'=>?_
  obtain⟨hb14,h⟩:=h
  obtain⟨x15,ex15,h⟩:=atm h
  have f16:=fun H=>ix_list (H:=H) (fr:=false) (f:=intC) (k:=.i64) kd_24 (fun _=>rfl) hb14 ex15
  obtain⟨c17,ec17,h⟩:=atm h
  have f18:=ib_geq (k:=.i64) ec17
  simp[hh,f16,f18,dc12,-indexAddrF,-intBin]
  apply hk'
  refine Runs.ite (b:=c17) (by simp[hh,dc12]) (fun dc17=>?_) (fun dc17=>?_)
  ·replace h:=h.1 dc17
   refine zF fun k' hk'=>?_
   obtain⟨hb19,h⟩:=h
   obtain⟨v20,ev20,h⟩:=atm h
   have f21:=ib_add hb19 ev20
   simp[hh,f21,dc12,dc17,-intBin]
   apply hk'
   refine Runs.inBlock ?_
   refine zF fun k' hk'=>?_
   obtain⟨hb22,h⟩:=h
   obtain⟨v23,ev23,h⟩:=atm h
   have f24:=ib_add hb22 ev23
   simp[hh,f24,dc12,dc17,-intBin]
   apply hk'
   refine Runs.cut (fun ρ H n=>(ρ 0 = .list false (edges.map intC)∧ρ 3=int v20∧ρ 4=int v23)) (by simp[hh,f24,dc12,dc17,-intBin]) ?_
   clear hh
   rintro ρ H n25 hh
   refine IH8 (v20,v23) _ _ _ h (by simp[hh])
  replace h:=h.2 dc17
  refine Runs.skip ?_
  refine Runs.inBlock ?_
  refine zF fun k' hk'=>?_
  obtain⟨hb26,h⟩:=h
  obtain⟨v27,ev27,h⟩:=atm h
  have f28:=ib_add hb26 ev27
  simp[hh,f28,dc12,dc17,-intBin]
  apply hk'
  refine IH8 (many5,v27) _ _ _ h (by simp[hh,dc12,dc17])
 replace h:=h.2 dc12
 refine Runs.exit rfl ?_
 refine zE fun k' hk'=>?_
 simp[hh,dc12]
 apply hk'
 exact Runs.ret1 (v:=int many5) Tryz.func142 Tryz.results142 (by simp[hh,dc12]) (hQ _ _ _ _ (.of (.v _)) ⟨many5,h,rfl⟩)
theorem cntZ_ok (edges:List Int) (hp:cntZ_pre edges):PureC Tryz.prog 142 [.list false (edges.map intC)] (fun r=>r=int (cntZ edges)):=(cntZ_walk edges _ (cntZ_vc edges hp)).mono (by rintro _ ⟨_,rfl,rfl⟩;rfl)
theorem e122:Ent Tryz.prog 122:=Ent.of Tryz.func122 (by kernel_rfl) rfl
theorem parZ_walk (parent:Int) (places:List Int) (Z:Int→Prop) (h:parZ_wp parent places Z):PureC Tryz.prog 122 [int parent,.list false (places.map intC)] (fun r=>∃ y:Int,Z y∧r=int y):=by
 unfold parZ_wp at h
 refine PureC.of Tryz.func122 rfl Tryz.ntmps122 (by simp) fun Q hQ=>?_
 refine Runs.cut (fun ρ H n=>(ρ 0=int parent∧ρ 1 = .list false (places.map intC))) (by simp) ?_
 rintro ρ H n1 hh
 refine zE fun k' hk'=>?_
 simp[hh]
 apply hk'
 refine Runs.seq ?_
 refine zE fun k' hk'=>?_
 obtain⟨c2,ec2,h⟩:=atm h
 have f3:=ib_lss (k:=.i64) ec2
 simp[hh,f3,-intBin]
 apply hk'
 refine Runs.ite (b:=c2) (by simp[hh]) (fun dc2=>?_) (fun dc2=>?_)
 ·replace h:=h.1 dc2
  refine zE fun k' hk'=>?_
  obtain⟨hb4,h⟩:=h
  obtain⟨v5,ev5,h⟩:=atm h
  have f6:=ib_sub hb4 ev5
  simp[hh,f6,dc2,-intBin]
  apply hk'
  exact Runs.ret1 (v:=int v5) Tryz.func122 Tryz.results122 (by simp[hh,dc2]) (hQ _ _ _ _ (.of (.v _)) ⟨v5,h,rfl⟩)
 replace h:=h.2 dc2
 refine Runs.skip ?_
 refine zE fun k' hk'=>?_
 obtain⟨hb7,h⟩:=h
 obtain⟨x8,ex8,h⟩:=atm h
 have f9:=fun H=>ix_list (H:=H) (fr:=false) (f:=intC) (k:=.i64) kd_24 (fun _=>rfl) hb7 ex8
 obtain⟨hb10,h⟩:=h
 obtain⟨v11,ev11,h⟩:=atm h
 have f12:=ib_add hb10 ev11
 simp[hh,f9,f12,dc2,-indexAddrF,-intBin]
 apply hk'
 exact Runs.ret1 (v:=int v11) Tryz.func122 Tryz.results122 (by simp[hh,dc2]) (hQ _ _ _ _ (.of (.v _)) ⟨v11,h,rfl⟩)
theorem parZ_ok (parent:Int) (places:List Int) (hp:parZ_pre parent places):PureC Tryz.prog 122 [int parent,.list false (places.map intC)] (fun r=>r=int (parZ parent places)):=(parZ_walk parent places _ (parZ_vc parent places hp)).mono (by rintro _ ⟨_,rfl,rfl⟩;rfl)
theorem e121:Ent Tryz.prog 121:=Ent.of Tryz.func121 (by kernel_rfl) rfl
theorem l5Told_walk (b:Big) (links:List Int) (edges:List Int) (Z:((List Int) × (List Int))→Prop) (h:l5Told_wp b links edges Z):OwnS Tryz.prog 121 [.agg (bC false b),.list false (links.map intC),.list false (edges.map intC)] (.t [.s [.c],.s [.c]]) (fun r=>∃ y:(List Int) × (List Int),Z y∧r = .tup [.list true (y.1.map intC),.list true (y.2.map intC)]):=by
 unfold l5Told_wp at h
 have sp:Sep noHeap 0 [] []:=Sep.nil (by simp)
 refine OwnS.of Tryz.func121 rfl Tryz.ntmps121 (by simp) fun Q hQ=>?_
 refine Runs.cut (fun ρ H n=>(ρ 0 = .agg (bC false b)∧ρ 1 = .list false (links.map intC)∧ρ 2 = .list false (edges.map intC))∧Sep H n [] []) (by refine⟨by simp ,sp⟩) ?_
 rintro ρ H n1 ⟨hh,sp⟩
 refine zE fun k' hk'=>?_
 simp[hh]
 apply hk'
 refine Runs.cut (fun ρ H n=>((ρ 1 = .list false (links.map intC)∧ρ 2 = .list false (edges.map intC)∧ρ 3=pA n1 3)∧H (n1,3)=some ⟨6,[bC false b]⟩)∧Sep H n [] [(n1,3)]) (by refine⟨by simp[hh],sp.var⟩) ?_
 clear hh
 rintro ρ H n3 ⟨⟨hh,m3_1⟩,sp⟩
 refine zE fun k' hk'=>?_
 simp[hh,m3_1]
 apply hk'
 refine Runs.cut (fun ρ H n=>∃ (v5:AVal),((ρ 1 = .list false (links.map intC)∧ρ 2 = .list false (edges.map intC)∧ρ 3=pA n1 3∧ρ 8=v5)∧H (n1,3)=some ⟨6,[bC false b]⟩)∧Sep H n [oI v5 ([]:List Int)] [(n1,3)]) (by refine⟨.arr (n3,11) 0 0 0,by simp[hh,m3_1],(Sep.addEmpty (l:=[.c]) sp)⟩) ?_
 clear hh m3_1
 rintro ρ H n6 ⟨v5,⟨hh,m3_1⟩,sp⟩
 refine zE fun k' hk'=>?_
 obtain⟨hb7,h⟩:=h
 obtain⟨r8,er8,h⟩:=atm h
 simp[hh,m3_1]
 refine RunK.callW Ty_ok (ownZ_ok edges hb7) e133 (.cons (argI false edges) .nil) sp (by decide) (by decide) rfl (by simp[hh,m3_1]) ?_
 rintro v9 H10 n11 _ sp rfl hle13 hfr12
 rw[← er8] at sp
 have m3_1:=(hfr12 _ (by simp)).trans m3_1
 simp[hh,m3_1]
 apply hk'
 refine Runs.cut (fun ρ H n=>∃ (v16 v17:AVal),((ρ 1 = .list false (links.map intC)∧ρ 3=pA n1 3∧ρ 8=v17∧ρ 9=v16)∧H (n1,3)=some ⟨6,[bC false b]⟩)∧Sep H n [oI v16 r8,oI v17 ([]:List Int)] [(n1,3)]) (by refine⟨v9,v5,by simp[hh,m3_1],sp⟩) ?_
 clear hh m3_1
 rintro ρ H n18 ⟨v16,v17,⟨hh,m3_1⟩,sp⟩
 refine Runs.seq ?_
 refine zE fun k' hk'=>?_
 simp[hh,m3_1]
 apply hk'
 refine Runs.block ?_
 refine Runs.loopW h (fun (sJ:Int × (List Int) × (List Int)) ρ H n=>match sJ with | (i29,l30,l31)=>∃ (v32 v33:AVal),((ρ 1 = .list false (links.map intC)∧ρ 3=pA n1 3∧ρ 8=v33∧ρ 9=v32∧ρ 10=int i29)∧H (n1,3)=some ⟨6,[bC false b]⟩)∧Sep H n [oI v32 l31,oI v33 l30] [(n1,3)]) (by refine⟨v16,v17,by simp[hh,m3_1],sp⟩) ?_
 clear hh m3_1
 rintro⟨i29,l30,l31⟩ ρ H n34 K h ⟨v32,v33,⟨hh,m3_1⟩,sp⟩ IH35
 refine Runs.seq ?_
 refine zE fun k' hk'=>?_
 obtain⟨len37,elen37,h⟩:=atm h
 have f38:=fun H=>len_list (H:=H) (fr:=false) (f:=intC) kd_24 elen37
 obtain⟨c39,ec39,h⟩:=atm h
 have f40:=ib_lss (k:=.i64) ec39
 simp[hh,m3_1,f38,f40,-intBin,-lenF]
 apply hk'
 refine Runs.ite (b:=c39) (by simp[hh,m3_1]) (fun dc39=>?_) (fun dc39=>?_)
 ·replace h:=h.1 dc39
  refine Runs.skip ?_
  refine Runs.seq ?_
  refine Runs.block ?_
  refine Runs.seq ?_
  refine Runs.seqD Ty_ok kindOp_ok draws (by decide) (by kernel_rfl) fun k' hk'=>?_
  obtain⟨hb41,h⟩:=h
  obtain⟨x42,ex42,h⟩:=atm h
  have f43:=fun H=>ix_list (H:=H) (fr:=false) (f:=intC) (k:=.i64) kd_24 (fun _=>rfl) hb41 ex42
  obtain⟨c44,ec44,h⟩:=atm h
  have f45:=ib_geq (k:=.i64) ec44
  simp[hh,m3_1,f43,f45,dc39,-indexAddrF,-intBin]
  apply hk'
  refine Runs.ite (b:=c44) (by simp[hh,m3_1,dc39]) (fun dc44=>?_) (fun dc44=>?_)
  ·replace h:=h.1 dc44
   refine Runs.seqD Ty_ok kindOp_ok draws (by decide) (by kernel_rfl) fun k' hk'=>?_
   obtain⟨hb46,h⟩:=h
   obtain⟨x47,ex47,h⟩:=atm h
   have hq48:=ex42.trans ex47.symm
   subst hq48
   have f49:=fun H=>ix_list (H:=H) (fr:=false) (f:=intC) (k:=.i64) kd_24 (fun _=>rfl) hb46 ex42
   obtain⟨hb50,h⟩:=h
   obtain⟨v51,ev51,h⟩:=atm h
   have f52:=ib_sub hb50 ev51
   obtain⟨hb53,h⟩:=h
   obtain⟨l54,el54,h⟩:=atm h
   simp[hh,m3_1,f49,f52,dc39,dc44,-indexAddrF,-intBin,-appendF]
   refine bindD_append [] [oI v32 l31] [[int v51]] [intC v51] sp.f1 kd_24 (by simp) (by simp) (by simp) (by simp[-one1,o1x]) (rows_one (Fill.v _ Fill.nil)) (by simp) (by simpa using hb53) ?_
   rintro v55 H56 n57 sp hfr58 hle59
   replace sp:Sep H56 n57 [oI v55 l54,oI v32 l31] [(n1,3)]:=Sep.ap el54 sp
   have m3_1:=(hfr58 _ (by simp)).trans m3_1
   simp[hh,m3_1,f49,f52,dc39,dc44,-indexAddrF,-intBin]
   apply hk'
   refine Runs.cut (fun ρ H n=>∃ (v61 v62:AVal),((ρ 1 = .list false (links.map intC)∧ρ 3=pA n1 3∧ρ 8=v61∧ρ 9=v62∧ρ 10=int i29)∧H (n1,3)=some ⟨6,[bC false b]⟩)∧Sep H n [oI v61 l54,oI v62 l31] [(n1,3)]) (by refine⟨v55,v32,by simp[hh,m3_1,f49,f52,dc39,dc44,-indexAddrF,-intBin],sp⟩) ?_
   clear hh m3_1
   rintro ρ H n63 ⟨v61,v62,⟨hh,m3_1⟩,sp⟩
   refine Runs.exit rfl ?_
   refine zF fun k' hk'=>?_
   obtain⟨hb64,h⟩:=h
   obtain⟨v65,ev65,h⟩:=atm h
   have f66:=ib_add hb64 ev65
   simp[hh,m3_1,f66,-intBin]
   apply hk'
   refine IH35 (v65,l54,l31) _ _ _ h (by refine⟨v62,v61,by simp[hh,m3_1],sp.f1⟩)
  replace h:=h.2 dc44
  refine Runs.skip ?_
  refine Runs.seq ?_
  refine zE fun k' hk'=>?_
  obtain⟨hb67,h⟩:=h
  obtain⟨x68,ex68,h⟩:=atm h
  have hq69:=ex42.trans ex68.symm
  subst hq69
  have f70:=fun H=>ix_list (H:=H) (fr:=false) (f:=intC) (k:=.i64) kd_24 (fun _=>rfl) hb67 ex42
  obtain⟨hb71,h⟩:=h
  obtain⟨id72,hv,mo73,ln74,ni75⟩:=Sep.openF sp (by simp) hb71
  subst hv
  simp at ni75
  obtain⟨x76,ex76,h⟩:=atm h
  have f77:=fun H (hm:H id72=some ⟨1,l31.map intC⟩)=>ix_arr (H:=H) (k:=.i64) (off:=0) (len:=l31.length) (g:=l31.length) kd_24 hm (by simp) rfl hb71
  have f78:=at_some (q:=x42.toNat) hb71 ex76 rfl
  obtain⟨c79,ec79,h⟩:=atm h
  have f80:=ib_lss (k:=.i64) ec79
  simp[hh,m3_1,mo73,ni75,f70,f77,f78,f80,dc39,dc44,-indexAddrF,-intBin]
  apply hk'
  refine Runs.cut (fun ρ H n=>∃ (v81 v82:AVal),((ρ 1 = .list false (links.map intC)∧ρ 3=pA n1 3∧ρ 8=v82∧ρ 9=v81∧ρ 10=int i29∧ρ 44=bool c79)∧H (n1,3)=some ⟨6,[bC false b]⟩)∧Sep H n [oI v81 l31,oI v82 l30] [(n1,3)]) (by refine⟨.arr id72 l31.length 0 l31.length,v33,by simp[hh,m3_1,mo73,ni75,f70,f77,f78,f80,dc39,dc44,-indexAddrF,-intBin],sp⟩) ?_
  clear hh m3_1 mo73 ni75
  rintro ρ H n83 ⟨v81,v82,⟨hh,m3_1⟩,sp⟩
  refine Runs.ite (b:=c79) (by simp[hh,m3_1]) (fun dc79=>?_) (fun dc79=>?_)
  ·replace h:=h.1 dc79
   refine Runs.evalDE Ty_ok kindOp_ok draws (by decide) (by kernel_rfl) fun k' hk'=>?_
   obtain⟨hb84,h⟩:=h
   obtain⟨x85,ex85,h⟩:=atm h
   have f86:=fun H=>ix_list (H:=H) (fr:=false) (f:=intC) (k:=.i64) kd_24 (fun _=>rfl) hb84 ex85
   obtain⟨hb87,h⟩:=h
   obtain⟨r88,er88,h⟩:=atm h
   simp[hh,m3_1,f86,dc79,-indexAddrF]
   refine RunDK.callA Ty_ok kindOp_ok (cntZ_ok l31 hb87) e142 (.cons (Sep.argOk' sp (old_listF (by simp))) .nil) (by decide) rfl (by simp[hh,m3_1,f86,dc79,-indexAddrF]) ?_
   rw[← er88]
   obtain⟨hb89,h⟩:=h
   obtain⟨id90,hv,mo91,ln92,ni93⟩:=Sep.openF sp (by simp) hb89
   subst hv
   simp at ni93
   obtain⟨x94,ex94,h⟩:=atm h
   have f95:=fun H (hm:H id90=some ⟨1,l31.map intC⟩)=>ix_arr (H:=H) (k:=.i64) (off:=0) (len:=l31.length) (g:=l31.length) kd_24 hm (by simp) rfl hb89
   have f96:=at_some (q:=x85.toNat) hb89 ex94 rfl
   obtain⟨l97,el97,h⟩:=atm h
   simp[hh,m3_1,mo91,ni93,f86,f95,f96,dc79,-indexAddrF,-storeF]
   refine bindD_store (q:=x85.toNat) (news:=intC r88) [] [oI v82 l30] sp (by simp) (by simp;omega) (by simp) (by simp[-one1,o1x]) (Fill.v _ Fill.nil) ?_
   rintro H98 sp hfr99
   replace sp:Sep H98 n83 [oI (.arr id90 l31.length 0 l31.length) l97,oI v82 l30] [(n1,3)]:=Sep.st el97 sp
   have m3_1:=(hfr99 _ (by simp)).trans m3_1
   simp[hh,m3_1,ni93,f86,f95,f96,dc79,-indexAddrF]
   apply hk'
   refine Runs.cut (fun ρ H n=>∃ (v101 v102:AVal),((ρ 1 = .list false (links.map intC)∧ρ 3=pA n1 3∧ρ 8=v102∧ρ 9=v101∧ρ 10=int i29)∧H (n1,3)=some ⟨6,[bC false b]⟩)∧Sep H n [oI v101 l97,oI v102 l30] [(n1,3)]) (by refine⟨.arr id90 l31.length 0 l31.length,v82,by simp[hh,m3_1,ni93,f86,f95,f96,dc79,-indexAddrF],sp⟩) ?_
   clear hh m3_1 ni93
   rintro ρ H n103 ⟨v101,v102,⟨hh,m3_1⟩,sp⟩
   refine zF fun k' hk'=>?_
   obtain⟨hb104,h⟩:=h
   obtain⟨x105,ex105,h⟩:=atm h
   have f106:=fun H=>ix_list (H:=H) (fr:=false) (f:=intC) (k:=.i64) kd_24 (fun _=>rfl) hb104 ex105
   obtain⟨hb107,h⟩:=h
   obtain⟨id108,hv,mo109,ln110,ni111⟩:=Sep.openF sp (by simp) hb107
   subst hv
   simp at ni111
   obtain⟨x112,ex112,h⟩:=atm h
   have f113:=fun H (hm:H id108=some ⟨1,l97.map intC⟩)=>ix_arr (H:=H) (k:=.i64) (off:=0) (len:=l97.length) (g:=l97.length) kd_24 hm (by simp) rfl hb107
   have f114:=at_some (q:=x105.toNat) hb107 ex112 rfl
   obtain⟨hb115,h⟩:=h
   obtain⟨v116,ev116,h⟩:=atm h
   have f117:=ib_add hb115 ev116
   obtain⟨hb118,h⟩:=h
   obtain⟨l119,el119,h⟩:=atm h
   simp[hh,m3_1,mo109,ni111,f106,f113,f114,f117,-indexAddrF,-intBin,-appendF]
   refine bind_append [] [oI (.arr id108 l97.length 0 l97.length) l97] [[int v116]] [intC v116] sp.f1 kd_24 (by simp) (by simp) (by simp) (by simp[-one1,o1x]) (rows_one (Fill.v _ Fill.nil)) (by simp) (by simpa using hb118) ?_
   rintro v120 H121 n122 sp hfr123 hle124
   replace sp:Sep H121 n122 [oI v120 l119,oI (.arr id108 l97.length 0 l97.length) l97] [(n1,3)]:=Sep.ap el119 sp
   have m3_1:=(hfr123 _ (by simp)).trans m3_1
   simp[hh,m3_1,ni111,f106,f113,f114,f117,-indexAddrF,-intBin]
   apply hk'
   refine Runs.cut (fun ρ H n=>∃ (v126 v127:AVal),((ρ 1 = .list false (links.map intC)∧ρ 3=pA n1 3∧ρ 8=v126∧ρ 9=v127∧ρ 10=int i29)∧H (n1,3)=some ⟨6,[bC false b]⟩)∧Sep H n [oI v126 l119,oI v127 l97] [(n1,3)]) (by refine⟨v120,.arr id108 l97.length 0 l97.length,by simp[hh,m3_1,ni111,f106,f113,f114,f117,-indexAddrF,-intBin],sp⟩) ?_
   clear hh m3_1 ni111
   rintro ρ H n128 ⟨v126,v127,⟨hh,m3_1⟩,sp⟩
   refine Runs.inBlock ?_
   refine zF fun k' hk'=>?_
   obtain⟨hb129,h⟩:=h
   obtain⟨v130,ev130,h⟩:=atm h
   have f131:=ib_add hb129 ev130
   simp[hh,m3_1,f131,-intBin]
   apply hk'
   refine IH35 (v130,l119,l97) _ _ _ h (by refine⟨v127,v126,by simp[hh,m3_1],sp.f1⟩)
  replace h:=h.2 dc79
  refine Runs.skip ?_
  refine zF fun k' hk'=>?_
  obtain⟨hb132,h⟩:=h
  obtain⟨x133,ex133,h⟩:=atm h
  have f134:=fun H=>ix_list (H:=H) (fr:=false) (f:=intC) (k:=.i64) kd_24 (fun _=>rfl) hb132 ex133
  obtain⟨hb135,h⟩:=h
  obtain⟨id136,hv,mo137,ln138,ni139⟩:=Sep.openF sp (by simp) hb135
  subst hv
  simp at ni139
  obtain⟨x140,ex140,h⟩:=atm h
  have f141:=fun H (hm:H id136=some ⟨1,l31.map intC⟩)=>ix_arr (H:=H) (k:=.i64) (off:=0) (len:=l31.length) (g:=l31.length) kd_24 hm (by simp) rfl hb135
  have f142:=at_some (q:=x133.toNat) hb135 ex140 rfl
  obtain⟨hb143,h⟩:=h
  obtain⟨v144,ev144,h⟩:=atm h
  have f145:=ib_add hb143 ev144
  obtain⟨hb146,h⟩:=h
  obtain⟨l147,el147,h⟩:=atm h
  simp[hh,m3_1,mo137,ni139,f134,f141,f142,f145,dc79,-indexAddrF,-intBin,-appendF]
  refine bind_append [] [oI (.arr id136 l31.length 0 l31.length) l31] [[int v144]] [intC v144] sp.f1 kd_24 (by simp) (by simp) (by simp) (by simp[-one1,o1x]) (rows_one (Fill.v _ Fill.nil)) (by simp) (by simpa using hb146) ?_
  rintro v148 H149 n150 sp hfr151 hle152
  replace sp:Sep H149 n150 [oI v148 l147,oI (.arr id136 l31.length 0 l31.length) l31] [(n1,3)]:=Sep.ap el147 sp
  have m3_1:=(hfr151 _ (by simp)).trans m3_1
  simp[hh,m3_1,ni139,f134,f141,f142,f145,dc79,-indexAddrF,-intBin]
  apply hk'
  refine Runs.cut (fun ρ H n=>∃ (v154 v155:AVal),((ρ 1 = .list false (links.map intC)∧ρ 3=pA n1 3∧ρ 8=v154∧ρ 9=v155∧ρ 10=int i29)∧H (n1,3)=some ⟨6,[bC false b]⟩)∧Sep H n [oI v154 l147,oI v155 l31] [(n1,3)]) (by refine⟨v148,.arr id136 l31.length 0 l31.length,by simp[hh,m3_1,ni139,f134,f141,f142,f145,dc79,-indexAddrF,-intBin],sp⟩) ?_
  clear hh m3_1 ni139
  rintro ρ H n156 ⟨v154,v155,⟨hh,m3_1⟩,sp⟩
  refine Runs.inBlock ?_
  refine zF fun k' hk'=>?_
  obtain⟨hb157,h⟩:=h
  obtain⟨v158,ev158,h⟩:=atm h
  have f159:=ib_add hb157 ev158
  simp[hh,m3_1,f159,-intBin]
  apply hk'
  refine IH35 (v158,l147,l31) _ _ _ h (by refine⟨v155,v154,by simp[hh,m3_1],sp.f1⟩)
 replace h:=h.2 dc39
 refine Runs.exit rfl ?_
 refine zE fun k' hk'=>?_
 simp[hh,m3_1,dc39]
 apply hk'
 exact Runs.ret2 (v:=v33) (w:=v32) Tryz.func121 Tryz.results121 (by simp[hh,m3_1,dc39]) (by simp[hh,m3_1,dc39]) (hQ _ _ _ _ (Sep.sub (ids':=[]) (Sep.packT (Fill.own (Fill.own Fill.nil)) sp.f1) (by simp)) ⟨(l30,l31),h,rfl⟩)
theorem l5Told_ok (b:Big) (links:List Int) (edges:List Int) (hp:l5Told_pre b links edges):OwnS Tryz.prog 121 [.agg (bC false b),.list false (links.map intC),.list false (edges.map intC)] (.t [.s [.c],.s [.c]]) (fun r=>r = .tup [.list true (((l5Told b links edges).1).map intC),.list true (((l5Told b links edges).2).map intC)]):=(l5Told_walk b links edges _ (l5Told_vc b links edges hp)).mono (by rintro _ ⟨_,rfl,rfl⟩;rfl)
theorem e77:Ent Tryz.prog 77:=Ent.of Tryz.func77 (by kernel_rfl) rfl
theorem chunkZ_walk (b:Big) (node:Int) (places:List Int) (edges:List Int) (Z:((List Int) × (List Int))→Prop) (h:chunkZ_wp b node places edges Z):OwnS Tryz.prog 77 [.agg (bC false b),int node,.list false (places.map intC),.list false (edges.map intC)] (.t [.s [.c],.s [.c]]) (fun r=>∃ y:(List Int) × (List Int),Z y∧r = .tup [.list true (y.1.map intC),.list true (y.2.map intC)]):=by
 unfold chunkZ_wp at h
 have sp:Sep noHeap 0 [] []:=Sep.nil (by simp)
 refine OwnS.of Tryz.func77 rfl Tryz.ntmps77 (by simp) fun Q hQ=>?_
 refine Runs.cut (fun ρ H n=>(ρ 0 = .agg (bC false b)∧ρ 1=int node∧ρ 2 = .list false (places.map intC)∧ρ 3 = .list false (edges.map intC))∧Sep H n [] []) (by refine⟨by simp ,sp⟩) ?_
 rintro ρ H n1 ⟨hh,sp⟩
 refine zE fun k' hk'=>?_
 simp[hh]
 apply hk'
 refine Runs.cut (fun ρ H n=>((ρ 1=int node∧ρ 2 = .list false (places.map intC)∧ρ 3 = .list false (edges.map intC)∧ρ 4=pA n1 4)∧H (n1,4)=some ⟨6,[bC false b]⟩)∧Sep H n [] [(n1,4)]) (by refine⟨by simp[hh],sp.var⟩) ?_
 clear hh
 rintro ρ H n3 ⟨⟨hh,m4_1⟩,sp⟩
 refine zE fun k' hk'=>?_
 obtain⟨hb4,h⟩:=h
 obtain⟨x5,ex5,h⟩:=atm h
 have f6:=fun H=>ix_list (H:=H) (fr:=false) (f:=(GNode.cells false)) (k:=.i64) kd_35 (fun _=>rfl) hb4 ex5
 simp[hh,m4_1,f6,-indexAddrF]
 apply hk'
 refine Runs.cut (fun ρ H n=>((ρ 2 = .list false (places.map intC)∧ρ 3 = .list false (edges.map intC)∧ρ 4=pA n1 4∧ρ 10=pA n3 10)∧H (n1,4)=some ⟨6,[bC false b]⟩∧H (n3,10)=some ⟨3,[[int x5.control,int x5.parent,.list false (x5.links.map intC)]]⟩)∧Sep H n [] [(n3,10),(n1,4)]) (by refine⟨by simp[hh,m4_1,f6,-indexAddrF],sp.var⟩) ?_
 clear hh m4_1
 rintro ρ H n8 ⟨⟨hh,m4_1,m10_6⟩,sp⟩
 refine zE fun k' hk'=>?_
 obtain⟨hb9,h⟩:=h
 obtain⟨r10,er10,h⟩:=atm h
 simp[hh,m4_1,m10_6]
 refine RunK.callW Ty_ok (l5Told_ok b x5.links edges hb9) e121 (.cons (argB false b) (.cons (argI false x5.links) (.cons (argI false edges) .nil))) sp (by decide) (by decide) rfl (by simp[hh,m4_1,m10_6]) ?_
 rintro v11 H12 n13 _ sp rfl hle15 hfr14
 rw[← er10] at sp
 have m4_1:=(hfr14 _ (by simp)).trans m4_1
 have m10_6:=(hfr14 _ (by simp)).trans m10_6
 replace sp:=Sep.unpackT sp
 obtain⟨L19,hv,hl20,sp⟩:=sp
 subst hv
 obtain⟨v17,v18,hv⟩:=len2 (by simpa using hl20)
 subst hv
 simp only[zip3,List.cons_append,List.nil_append] at sp
 replace sp:=Sep.rot sp
 try simp only[List.cons_append,List.nil_append,List.append_assoc] at sp
 replace sp:=Sep.rot sp
 try simp only[List.cons_append,List.nil_append,List.append_assoc] at sp
 simp[hh,m4_1,m10_6]
 apply hk'
 refine Runs.cut (fun ρ H n=>∃ (v23 v24:AVal),((ρ 2 = .list false (places.map intC)∧ρ 10=pA n3 10∧ρ 11=v23∧ρ 12=v24)∧H (n3,10)=some ⟨3,[[int x5.control,int x5.parent,.list false (x5.links.map intC)]]⟩)∧Sep H n [oI v23 r10.1,oI v24 r10.2] [(n3,10)]) (by refine⟨v17,v18,by simp[hh,m4_1,m10_6],(Sep.sub sp (by simp +contextual))⟩) ?_
 clear hh m4_1 m10_6
 rintro ρ H n25 ⟨v23,v24,⟨hh,m10_6⟩,sp⟩
 refine Runs.seqM Ty_ok [32] draws (by decide) (by kernel_rfl) fun k' hk'=>?_
 obtain⟨hb26,h⟩:=h
 obtain⟨r27,er27,h⟩:=atm h
 simp[hh,m10_6]
 refine RunXK.callA (M:=[32]) Ty_ok (parZ_ok x5.parent places hb26) e122 (fun _ _ hE hN=>(.cons (.v _ _ _) (.cons (argI false places) .nil))) rfl (by simp[hh,m10_6]) ?_
 rw[← er27]
 obtain⟨l28,el28,h⟩:=atm h
 simp[hh,m10_6,-fillA]
 refine bindM_make (l:=[.c]) (cs:=[int x5.control,int r27]) (([x5.control,r27]:List Int).map intC) sp (by simp) kd_24 (by simp) (by simp) (by simp[hh,m10_6,splice,List.replicate,fillA]) (by simp[chunks,List.range_succ]) (by simp) (by simp) ?_
 rintro id29 H30 n31 sp hfr32 hle33
 replace sp:Sep H30 n31 [oI (.arr id29 2 0 2) l28,oI v23 r10.1,oI v24 r10.2] [(n3,10)]:=by rw[el28];exact sp
 have m10_6:=(hfr32 _ (by simp)).trans m10_6
 obtain⟨hb36,h⟩:=h
 obtain⟨l37,el37,h⟩:=atm h
 simp[hh,m10_6,-appendF]
 refine bindM_append0 (r10.1.map intC) sp (by simp) kd_24 (by simp) (by simp) (Sep.src sp.f1 (by simp)) (by simp[-one1,o1x]) (by simpa using hb36) ?_
 rintro v38 H39 n40 sp hfr41 hle42
 replace sp:Sep H39 n40 [oI v38 l37,oI v23 r10.1,oI v24 r10.2] [(n3,10)]:=by refine Sep.ap el37 ?_;exact sp
 have m10_6:=(hfr41 _ (by simp)).trans m10_6
 simp[hh,m10_6]
 apply hk'
 refine Runs.cut (fun ρ H n=>∃ (v44 v45:AVal),(ρ 8=v44∧ρ 9=v45)∧Sep H n [oI v44 l37,oI v45 r10.2] []) (by refine⟨v38,v24,by simp[hh,m10_6],(Sep.sub sp.f1.dr (by simp +contextual))⟩) ?_
 clear hh m10_6
 rintro ρ H n46 ⟨v44,v45,hh,sp⟩
 exact Runs.ret2 (v:=v44) (w:=v45) Tryz.func77 Tryz.results77 (by simp[hh]) (by simp[hh]) (hQ _ _ _ _ (Sep.sub (ids':=[]) (Sep.packT (Fill.own (Fill.own Fill.nil)) sp) (by simp)) ⟨(l37,r10.2),h,rfl⟩)
theorem chunkZ_ok (b:Big) (node:Int) (places:List Int) (edges:List Int) (hp:chunkZ_pre b node places edges):OwnS Tryz.prog 77 [.agg (bC false b),int node,.list false (places.map intC),.list false (edges.map intC)] (.t [.s [.c],.s [.c]]) (fun r=>r = .tup [.list true (((chunkZ b node places edges).1).map intC),.list true (((chunkZ b node places edges).2).map intC)]):=(chunkZ_walk b node places edges _ (chunkZ_vc b node places edges hp)).mono (by rintro _ ⟨_,rfl,rfl⟩;rfl)
theorem e78:Ent Tryz.prog 78:=Ent.of Tryz.func78 (by kernel_rfl) rfl
theorem tailZ_walk (b:Big) (places:List Int) (edges:List Int) (Z:((List Int) × (List Int))→Prop) (h:tailZ_wp b places edges Z):OwnS Tryz.prog 78 [.agg (bC false b),.list false (places.map intC),.list false (edges.map intC)] (.t [.s [.c],.s [.c]]) (fun r=>∃ y:(List Int) × (List Int),Z y∧r = .tup [.list true (y.1.map intC),.list true (y.2.map intC)]):=by
 unfold tailZ_wp at h
 have sp:Sep noHeap 0 [] []:=Sep.nil (by simp)
 refine OwnS.of Tryz.func78 rfl Tryz.ntmps78 (by simp) fun Q hQ=>?_
 refine Runs.cut (fun ρ H n=>(ρ 0 = .agg (bC false b)∧ρ 1 = .list false (places.map intC)∧ρ 2 = .list false (edges.map intC))∧Sep H n [] []) (by refine⟨by simp ,sp⟩) ?_
 rintro ρ H n1 ⟨hh,sp⟩
 refine zE fun k' hk'=>?_
 simp[hh]
 apply hk'
 refine Runs.cut (fun ρ H n=>((ρ 1 = .list false (places.map intC)∧ρ 2 = .list false (edges.map intC)∧ρ 3=pA n1 3)∧H (n1,3)=some ⟨6,[bC false b]⟩)∧Sep H n [] [(n1,3)]) (by refine⟨by simp[hh],sp.var⟩) ?_
 clear hh
 rintro ρ H n3 ⟨⟨hh,m3_1⟩,sp⟩
 refine zE fun k' hk'=>?_
 simp[hh,m3_1]
 apply hk'
 refine Runs.cut (fun ρ H n=>∃ (v5:AVal),((ρ 1 = .list false (places.map intC)∧ρ 2 = .list false (edges.map intC)∧ρ 3=pA n1 3∧ρ 8=v5)∧H (n1,3)=some ⟨6,[bC false b]⟩)∧Sep H n [oI v5 ([]:List Int)] [(n1,3)]) (by refine⟨.arr (n3,14) 0 0 0,by simp[hh,m3_1],(Sep.addEmpty (l:=[.c]) sp)⟩) ?_
 clear hh m3_1
 rintro ρ H n6 ⟨v5,⟨hh,m3_1⟩,sp⟩
 refine Runs.seq ?_
 refine zE fun k' hk'=>?_
 simp[hh,m3_1]
 apply hk'
 refine Runs.block ?_
 refine Runs.loopW h (fun (sJ:Int × (List Int)) ρ H n=>match sJ with | (i14,l15)=>∃ (v16:AVal),((ρ 1 = .list false (places.map intC)∧ρ 2 = .list false (edges.map intC)∧ρ 3=pA n1 3∧ρ 8=v16∧ρ 9=int i14)∧H (n1,3)=some ⟨6,[bC false b]⟩)∧Sep H n [oI v16 l15] [(n1,3)]) (by refine⟨v5,by simp[hh,m3_1],sp⟩) ?_
 clear hh m3_1
 rintro⟨i14,l15⟩ ρ H n17 K h ⟨v16,⟨hh,m3_1⟩,sp⟩ IH18
 refine Runs.seq ?_
 refine zE fun k' hk'=>?_
 obtain⟨len20,elen20,h⟩:=atm h
 have f21:=fun H=>len_list (H:=H) (fr:=false) (f:=intC) kd_24 elen20
 obtain⟨c22,ec22,h⟩:=atm h
 have f23:=ib_lss (k:=.i64) ec22
 simp[hh,m3_1,f21,f23,-intBin,-lenF]
 apply hk'
 refine Runs.ite (b:=c22) (by simp[hh,m3_1]) (fun dc22=>?_) (fun dc22=>?_)
 ·replace h:=h.1 dc22
  refine Runs.skip ?_
  refine Runs.seq ?_
  refine Runs.block ?_
  refine zF fun k' hk'=>?_
  obtain⟨hb24,h⟩:=h
  obtain⟨x25,ex25,h⟩:=atm h
  have f26:=fun H=>ix_list (H:=H) (fr:=false) (f:=intC) (k:=.i64) kd_24 (fun _=>rfl) hb24 ex25
  obtain⟨hb27,h⟩:=h
  obtain⟨r28,er28,h⟩:=atm h
  simp[hh,m3_1,f26,dc22,-indexAddrF]
  refine RunK.callA Ty_ok (parZ_ok x25 places hb27) e122 (.cons (.v _ _ _) (.cons (argI false places) .nil)) (by decide) (by decide) rfl (by simp[hh,m3_1,f26,dc22,-indexAddrF]) ?_
  rintro _ rfl
  rw[← er28]
  obtain⟨hb29,h⟩:=h
  obtain⟨l30,el30,h⟩:=atm h
  simp[hh,m3_1,f26,dc22,-indexAddrF,-appendF]
  refine bind_append [] [] [[int r28]] [intC r28] sp kd_24 (by simp) (by simp) (by simp) (by simp[-one1,o1x]) (rows_one (Fill.v _ Fill.nil)) (by simp) (by simpa using hb29) ?_
  rintro v31 H32 n33 sp hfr34 hle35
  replace sp:Sep H32 n33 [oI v31 l30] [(n1,3)]:=Sep.ap el30 sp
  have m3_1:=(hfr34 _ (by simp)).trans m3_1
  simp[hh,m3_1,f26,dc22,-indexAddrF]
  apply hk'
  refine Runs.cut (fun ρ H n=>∃ (v37:AVal),((ρ 1 = .list false (places.map intC)∧ρ 2 = .list false (edges.map intC)∧ρ 3=pA n1 3∧ρ 8=v37∧ρ 9=int i14)∧H (n1,3)=some ⟨6,[bC false b]⟩)∧Sep H n [oI v37 l30] [(n1,3)]) (by refine⟨v31,by simp[hh,m3_1,f26,dc22,-indexAddrF],sp⟩) ?_
  clear hh m3_1
  rintro ρ H n38 ⟨v37,⟨hh,m3_1⟩,sp⟩
  refine Runs.inBlock ?_
  refine zF fun k' hk'=>?_
  obtain⟨hb39,h⟩:=h
  obtain⟨v40,ev40,h⟩:=atm h
  have f41:=ib_add hb39 ev40
  simp[hh,m3_1,f41,-intBin]
  apply hk'
  refine IH18 (v40,l30) _ _ _ h (by refine⟨v37,by simp[hh,m3_1],sp⟩)
 replace h:=h.2 dc22
 refine Runs.exit rfl ?_
 refine zE fun k' hk'=>?_
 simp[hh,m3_1,dc22]
 apply hk'
 refine Runs.cut (fun ρ H n=>∃ (v43 v44:AVal),((ρ 2 = .list false (edges.map intC)∧ρ 3=pA n1 3∧ρ 8=v44∧ρ 10=v43)∧H (n1,3)=some ⟨6,[bC false b]⟩)∧Sep H n [oI v43 ([]:List Int),oI v44 l15] [(n1,3)]) (by refine⟨.arr (n17,32) 0 0 0,v16,by simp[hh,m3_1,dc22],(Sep.addEmpty (l:=[.c]) sp)⟩) ?_
 clear hh m3_1
 rintro ρ H n45 ⟨v43,v44,⟨hh,m3_1⟩,sp⟩
 refine Runs.seq ?_
 refine zE fun k' hk'=>?_
 simp[hh,m3_1]
 apply hk'
 refine Runs.block ?_
 refine Runs.loopW h (fun (sJ:Int × (List Int)) ρ H n=>match sJ with | (i55,l56)=>∃ (v57 v58:AVal),((ρ 2 = .list false (edges.map intC)∧ρ 3=pA n1 3∧ρ 8=v58∧ρ 10=v57∧ρ 11=int i55)∧H (n1,3)=some ⟨6,[bC false b]⟩)∧Sep H n [oI v57 l56,oI v58 l15] [(n1,3)]) (by refine⟨v43,v44,by simp[hh,m3_1],sp⟩) ?_
 clear hh m3_1
 rintro⟨i55,l56⟩ ρ H n59 K h ⟨v57,v58,⟨hh,m3_1⟩,sp⟩ IH60
 refine Runs.seq ?_
 refine zE fun k' hk'=>?_
 obtain⟨len62,elen62,h⟩:=atm h
 have f63:=fun H=>len_list (H:=H) (fr:=false) (f:=Wire.cells) kd_36 elen62
 obtain⟨c64,ec64,h⟩:=atm h
 have f65:=ib_lss (k:=.i64) ec64
 simp[hh,m3_1,f63,f65,-intBin,-lenF]
 apply hk'
 refine Runs.ite (b:=c64) (by simp[hh,m3_1]) (fun dc64=>?_) (fun dc64=>?_)
 ·replace h:=h.1 dc64
  refine Runs.skip ?_
  refine Runs.seq ?_
  refine Runs.block ?_
  refine zF fun k' hk'=>?_
  obtain⟨hb66,h⟩:=h
  obtain⟨x67,ex67,h⟩:=atm h
  have f68:=fun H=>ix_list (H:=H) (fr:=false) (f:=Wire.cells) (k:=.i64) kd_36 (fun _=>rfl) hb66 ex67
  obtain⟨hb69,h⟩:=h
  obtain⟨l70,el70,h⟩:=atm h
  simp[hh,m3_1,f68,dc64,-indexAddrF,-appendF]
  refine bind_append [] [oI v58 l15] [[int x67.link]] [intC x67.link] sp kd_24 (by simp) (by simp) (by simp) (by simp[-one1,o1x]) (rows_one (Fill.v _ Fill.nil)) (by simp) (by simpa using hb69) ?_
  rintro v71 H72 n73 sp hfr74 hle75
  replace sp:Sep H72 n73 [oI v71 l70,oI v58 l15] [(n1,3)]:=Sep.ap el70 sp
  have m3_1:=(hfr74 _ (by simp)).trans m3_1
  simp[hh,m3_1,f68,dc64,-indexAddrF]
  apply hk'
  refine Runs.cut (fun ρ H n=>∃ (v77 v78:AVal),((ρ 2 = .list false (edges.map intC)∧ρ 3=pA n1 3∧ρ 8=v78∧ρ 10=v77∧ρ 11=int i55)∧H (n1,3)=some ⟨6,[bC false b]⟩)∧Sep H n [oI v77 l70,oI v78 l15] [(n1,3)]) (by refine⟨v71,v58,by simp[hh,m3_1,f68,dc64,-indexAddrF],sp⟩) ?_
  clear hh m3_1
  rintro ρ H n79 ⟨v77,v78,⟨hh,m3_1⟩,sp⟩
  refine Runs.inBlock ?_
  refine zF fun k' hk'=>?_
  obtain⟨hb80,h⟩:=h
  obtain⟨v81,ev81,h⟩:=atm h
  have f82:=ib_add hb80 ev81
  simp[hh,m3_1,f82,-intBin]
  apply hk'
  refine IH60 (v81,l70) _ _ _ h (by refine⟨v77,v78,by simp[hh,m3_1],sp⟩)
 replace h:=h.2 dc64
 refine Runs.exit rfl ?_
 refine zE fun k' hk'=>?_
 obtain⟨hb83,h⟩:=h
 obtain⟨r84,er84,h⟩:=atm h
 simp[hh,m3_1,dc64]
 refine RunK.callW Ty_ok (l5Told_ok b l56 edges hb83) e121 (.cons (argB false b) (.cons (Sep.argOk' sp (old_listF (by simp))) (.cons (argI false edges) .nil))) sp (by decide) (by decide) rfl (by simp[hh,m3_1,dc64]) ?_
 rintro v85 H86 n87 _ sp rfl hle89 hfr88
 rw[← er84] at sp
 have m3_1:=(hfr88 _ (by simp)).trans m3_1
 replace sp:=Sep.unpackT sp
 obtain⟨L93,hv,hl94,sp⟩:=sp
 subst hv
 obtain⟨v91,v92,hv⟩:=len2 (by simpa using hl94)
 subst hv
 simp only[zip3,List.cons_append,List.nil_append] at sp
 replace sp:=Sep.rot sp
 try simp only[List.cons_append,List.nil_append,List.append_assoc] at sp
 replace sp:=Sep.rot sp
 try simp only[List.cons_append,List.nil_append,List.append_assoc] at sp
 simp[hh,m3_1,dc64]
 apply hk'
 refine Runs.cut (fun ρ H n=>∃ (v97 v98 v99:AVal),(ρ 8=v97∧ρ 12=v98∧ρ 13=v99)∧Sep H n [oI v97 l15,oI v98 r84.1,oI v99 r84.2] []) (by refine⟨v58,v91,v92,by simp[hh,m3_1,dc64],(Sep.sub sp.dr (by simp +contextual))⟩) ?_
 clear hh m3_1
 rintro ρ H n100 ⟨v97,v98,v99,hh,sp⟩
 refine zE fun k' hk'=>?_
 obtain⟨hb101,h⟩:=h
 obtain⟨l102,el102,h⟩:=atm h
 simp[hh,-appendF]
 refine bind_append0 (r84.1.map intC) sp (by simp) kd_24 (by simp) (by simp) (Sep.src sp.f1 (by simp)) (by simp[-one1,o1x]) (by simpa using hb101) ?_
 rintro v103 H104 n105 sp hfr106 hle107
 replace sp:Sep H104 n105 [oI v103 l102,oI v98 r84.1,oI v99 r84.2] []:=by refine Sep.ap el102 ?_;exact sp
 simp[hh]
 apply hk'
 refine Runs.cut (fun ρ H n=>∃ (v109 v110:AVal),(ρ 6=v109∧ρ 7=v110)∧Sep H n [oI v109 l102,oI v110 r84.2] []) (by refine⟨v103,v99,by simp[hh],sp.f1.dr⟩) ?_
 clear hh
 rintro ρ H n111 ⟨v109,v110,hh,sp⟩
 exact Runs.ret2 (v:=v109) (w:=v110) Tryz.func78 Tryz.results78 (by simp[hh]) (by simp[hh]) (hQ _ _ _ _ (Sep.sub (ids':=[]) (Sep.packT (Fill.own (Fill.own Fill.nil)) sp) (by simp)) ⟨(l102,r84.2),h,rfl⟩)
theorem tailZ_ok (b:Big) (places:List Int) (edges:List Int) (hp:tailZ_pre b places edges):OwnS Tryz.prog 78 [.agg (bC false b),.list false (places.map intC),.list false (edges.map intC)] (.t [.s [.c],.s [.c]]) (fun r=>r = .tup [.list true (((tailZ b places edges).1).map intC),.list true (((tailZ b places edges).2).map intC)]):=(tailZ_walk b places edges _ (tailZ_vc b places edges hp)).mono (by rintro _ ⟨_,rfl,rfl⟩;rfl)
theorem e36:Ent Tryz.prog 36:=Ent.of Tryz.func36 (by kernel_rfl) rfl
theorem l5Code_walk (b:Big) (order:List Int) (Z:((List Int) × (List Int))→Prop) (h:l5Code_wp b order Z):OwnS Tryz.prog 36 [.agg (bC false b),.list false (order.map intC)] (.t [.s [.c],.s [.c]]) (fun r=>∃ y:(List Int) × (List Int),Z y∧r = .tup [.list true (y.1.map intC),.list true (y.2.map intC)]):=by
 unfold l5Code_wp at h
 have sp:Sep noHeap 0 [] []:=Sep.nil (by simp)
 refine OwnS.of Tryz.func36 rfl Tryz.ntmps36 (by simp) fun Q hQ=>?_
 refine Runs.cut (fun ρ H n=>(ρ 0 = .agg (bC false b)∧ρ 1 = .list false (order.map intC))∧Sep H n [] []) (by refine⟨by simp ,sp⟩) ?_
 rintro ρ H n1 ⟨hh,sp⟩
 refine zE fun k' hk'=>?_
 simp[hh]
 apply hk'
 refine Runs.cut (fun ρ H n=>((ρ 1 = .list false (order.map intC)∧ρ 2=pA n1 2)∧H (n1,2)=some ⟨6,[bC false b]⟩)∧Sep H n [] [(n1,2)]) (by refine⟨by simp[hh],sp.var⟩) ?_
 clear hh
 rintro ρ H n3 ⟨⟨hh,m2_1⟩,sp⟩
 refine zE fun k' hk'=>?_
 simp[hh,m2_1]
 apply hk'
 refine Runs.cut (fun ρ H n=>∃ (v5:AVal),((ρ 1 = .list false (order.map intC)∧ρ 2=pA n1 2∧ρ 6=v5)∧H (n1,2)=some ⟨6,[bC false b]⟩)∧Sep H n [oI v5 ([]:List Int)] [(n1,2)]) (by refine⟨.arr (n3,14) 0 0 0,by simp[hh,m2_1],(Sep.addEmpty (l:=[.c]) sp)⟩) ?_
 clear hh m2_1
 rintro ρ H n6 ⟨v5,⟨hh,m2_1⟩,sp⟩
 refine zE fun k' hk'=>?_
 obtain⟨hb7,h⟩:=h
 obtain⟨r8,er8,h⟩:=atm h
 simp[hh,m2_1]
 refine RunK.callW Ty_ok (noneZ_ok b.edges hb7) e76 (.cons (.v _ _ _) .nil) sp (by decide) (by decide) rfl (by simp[hh,m2_1]) ?_
 rintro v9 H10 n11 _ sp rfl hle13 hfr12
 rw[← er8] at sp
 have m2_1:=(hfr12 _ (by simp)).trans m2_1
 simp[hh,m2_1]
 apply hk'
 refine Runs.cut (fun ρ H n=>∃ (v16 v17:AVal),((ρ 1 = .list false (order.map intC)∧ρ 2=pA n1 2∧ρ 6=v17∧ρ 7=v16)∧H (n1,2)=some ⟨6,[bC false b]⟩)∧Sep H n [oI v16 r8,oI v17 ([]:List Int)] [(n1,2)]) (by refine⟨v9,v5,by simp[hh,m2_1],sp⟩) ?_
 clear hh m2_1
 rintro ρ H n18 ⟨v16,v17,⟨hh,m2_1⟩,sp⟩
 refine zE fun k' hk'=>?_
 obtain⟨len19,elen19,h⟩:=atm h
 have f20:=fun H=>len_list (H:=H) (fr:=false) (f:=(GNode.cells false)) kd_35 elen19
 obtain⟨hb21,h⟩:=h
 obtain⟨r22,er22,h⟩:=atm h
 simp[hh,m2_1,f20,-lenF]
 refine RunK.callW Ty_ok (noneZ_ok len19 hb21) e76 (.cons (.v _ _ _) .nil) sp (by decide) (by decide) rfl (by simp[hh,m2_1,f20,-lenF]) ?_
 rintro v23 H24 n25 _ sp rfl hle27 hfr26
 rw[← er22] at sp
 have m2_1:=(hfr26 _ (by simp)).trans m2_1
 simp[hh,m2_1,f20,-lenF]
 apply hk'
 refine Runs.cut (fun ρ H n=>∃ (v30 v31 v32:AVal),((ρ 1 = .list false (order.map intC)∧ρ 2=pA n1 2∧ρ 6=v32∧ρ 7=v31∧ρ 8=v30)∧H (n1,2)=some ⟨6,[bC false b]⟩)∧Sep H n [oI v30 r22,oI v31 r8,oI v32 ([]:List Int)] [(n1,2)]) (by refine⟨v23,v16,v17,by simp[hh,m2_1,f20,-lenF],sp⟩) ?_
 clear hh m2_1
 rintro ρ H n33 ⟨v30,v31,v32,⟨hh,m2_1⟩,sp⟩
 refine Runs.seq ?_
 refine zE fun k' hk'=>?_
 simp[hh,m2_1]
 apply hk'
 refine Runs.block ?_
 refine Runs.loopW h (fun (sJ:Int × (List Int) × (List Int) × (List Int)) ρ H n=>match sJ with | (i47,l48,l49,l50)=>∃ (v51 v52 v53:AVal),((ρ 1 = .list false (order.map intC)∧ρ 2=pA n1 2∧ρ 6=v53∧ρ 7=v52∧ρ 8=v51∧ρ 9=int i47)∧H (n1,2)=some ⟨6,[bC false b]⟩)∧Sep H n [oI v51 l48,oI v52 l49,oI v53 l50] [(n1,2)]) (by refine⟨v30,v31,v32,by simp[hh,m2_1],sp⟩) ?_
 clear hh m2_1
 rintro⟨i47,l48,l49,l50⟩ ρ H n54 K h ⟨v51,v52,v53,⟨hh,m2_1⟩,sp⟩ IH55
 refine Runs.seq ?_
 refine zE fun k' hk'=>?_
 obtain⟨len57,elen57,h⟩:=atm h
 have f58:=fun H=>len_list (H:=H) (fr:=false) (f:=intC) kd_24 elen57
 obtain⟨c59,ec59,h⟩:=atm h
 have f60:=ib_lss (k:=.i64) ec59
 simp[hh,m2_1,f58,f60,-intBin,-lenF]
 apply hk'
 refine Runs.ite (b:=c59) (by simp[hh,m2_1]) (fun dc59=>?_) (fun dc59=>?_)
 ·replace h:=h.1 dc59
  refine Runs.skip ?_
  refine Runs.seq ?_
  refine Runs.block ?_
  refine Runs.cut (fun ρ H n=>∃ (v61 v62 v63:AVal),((ρ 1 = .list false (order.map intC)∧ρ 2=pA n1 2∧ρ 6=v63∧ρ 7=v62∧ρ 8=v61∧ρ 9=int i47)∧H (n1,2)=some ⟨6,[bC false b]⟩)∧Sep H n [oI v61 l48,oI v62 l49,oI v63 l50] [(n1,2)]) (by refine⟨v51,v52,v53,by simp[hh,m2_1,dc59],sp⟩) ?_
  clear hh m2_1
  rintro ρ H n64 ⟨v61,v62,v63,⟨hh,m2_1⟩,sp⟩
  obtain⟨hb65,h⟩:=h
  obtain⟨x66,ex66,h⟩:=atm h
  have f67:=fun H=>ix_list (H:=H) (fr:=false) (f:=intC) (k:=.i64) kd_24 (fun _=>rfl) hb65 ex66
  obtain⟨hb68,h⟩:=h
  obtain⟨r69,er69,h⟩:=atm h
  refine Runs.seqC (fun H n=>H (n1,2)=some ⟨6,[bC false b]⟩∧Sep H n [oI v61 l48,oI v62 l49,oI v63 l50] [(n1,2)]) [7,8,9,10,11,12] (.free 0 (.free 1 (.free 2 (.free 3 (.free 4 (.free 5 (.free 6 (.hard 7 (.hard 8 (.hard 9 (.hard 10 (.hard 11 (.hard 12 (.fin) (.stop)) (.stop)) (.hard 11 (.hard 10 (.hard 12 (.fin) (.stop)) (.stop)) (.stop))) (.hard 10 (.hard 9 (.hard 11 (.hard 12 (.fin) (.stop)) (.stop)) (.stop)) (.stop))) (.stop)) (.stop))))))))) (fun ρ H n=>∃ (v72 v73 v74 v75:AVal),((ρ 1 = .list false (order.map intC)∧ρ 2=pA n1 2∧ρ 6=v75∧ρ 8=v74∧ρ 9=int i47∧ρ 10=v72∧ρ 11=v73)∧H (n1,2)=some ⟨6,[bC false b]⟩)∧Sep H n [oI v72 r69.1,oI v73 r69.2,oI v74 l48,oI v75 l50] [(n1,2)]) draws (by decide) (by kernel_rfl) ?_ ?_
  ·refine RunT.free (.agg (bC false b)) rfl rfl ⟨m2_1,sp⟩ (fun H n hS=>by obtain⟨m2_1,sp⟩:=hS;exact (by exact stepF_ok Ty_ok (by rw[stepF_loc];simp[hh,m2_1,f67,-indexAddrF]))) ?_
   refine RunT.free (.list false (order.map intC)) rfl rfl ⟨m2_1,sp⟩ (fun H n hS=>by obtain⟨m2_1,sp⟩:=hS;exact (by exact stepF_ok Ty_ok (by rw[stepF_loc];simp[hh,m2_1,f67,-indexAddrF]))) ?_
   refine RunT.free (int i47) rfl rfl ⟨m2_1,sp⟩ (fun H n hS=>by obtain⟨m2_1,sp⟩:=hS;exact (by exact stepF_ok Ty_ok (by rw[stepF_loc];simp[hh,m2_1,f67,-indexAddrF]))) ?_
   refine RunT.free (.iptr false [int x66]) rfl rfl ⟨m2_1,sp⟩ (fun H n hS=>by obtain⟨m2_1,sp⟩:=hS;exact (by have f67:=fun H=>ix_list (H:=H) (fr:=false) (f:=intC) (k:=.i64) kd_24 (fun _=>rfl) hb65 ex66;exact stepF_ok Ty_ok (by rw[stepF_loc];simp[hh,m2_1,f67,-indexAddrF]))) ?_
   refine RunT.free (int x66) rfl rfl ⟨m2_1,sp⟩ (fun H n hS=>by obtain⟨m2_1,sp⟩:=hS;exact (by exact stepF_ok Ty_ok (by rw[stepF_loc];simp[hh,m2_1,f67,-indexAddrF]))) ?_
   refine RunT.free v61 rfl rfl ⟨m2_1,sp⟩ (fun H n hS=>by obtain⟨m2_1,sp⟩:=hS;exact (by exact stepF_ok Ty_ok (by rw[stepF_loc];simp[hh,m2_1,f67,-indexAddrF]))) ?_
   refine RunT.free v62 rfl rfl ⟨m2_1,sp⟩ (fun H n hS=>by obtain⟨m2_1,sp⟩:=hS;exact (by exact stepF_ok Ty_ok (by rw[stepF_loc];simp[hh,m2_1,f67,-indexAddrF]))) ?_
   refine⟨?_,trivial⟩
   refine RunT.callW (as1:=[.agg (bC false b),int x66,v61,v62]) rfl rfl (chunkZ_ok b x66 l48 l49 hb68) e77 (.cons (argB false b) (.cons (.v _ _ _) (.cons (Sep.argOk' sp (old_listF (by simp))) (.cons (Sep.argOk' sp.f1 (old_listF (by simp))) .nil)))) sp (by simp[hh,m2_1,f67,-indexAddrF]) (by simp[hh,m2_1,f67,-indexAddrF]) ?_
   rintro v81 H77 n78 _ sp rfl hle80 hfr79
   rw[← er69] at sp
   replace sp:=Sep.unpackT sp
   obtain⟨L85,hv,hl86,sp⟩:=sp
   subst hv
   obtain⟨v83,v84,hv⟩:=len2 (by simpa using hl86)
   subst hv
   simp only[zip3,List.cons_append,List.nil_append] at sp
   replace sp:=Sep.rot sp
   try simp only[List.cons_append,List.nil_append,List.append_assoc] at sp
   replace sp:=Sep.rot sp
   try simp only[List.cons_append,List.nil_append,List.append_assoc] at sp
   replace sp:Sep H77 n78 [oI v61 l48,oI v62 l49,oI v63 l50,oI v83 r69.1,oI v84 r69.2] [(n1,2)]:=sp
   have m2_1:=(hfr79 _ (by simp)).trans m2_1
   refine⟨(fun hl=>absurd (hl.symm.trans (show lateC _ _ _=true by kernel_rfl)) (by decide)),?_⟩
   refine⟨?_,trivial⟩
   refine RunT.same (v:=(.tup [v83,v84])) Ty_ok rfl rfl (by simp[hh,m2_1,f67,-indexAddrF]) (fun hl=>absurd (hl.symm.trans (show lateC _ _ _=true by kernel_rfl)) (by decide)) ?_
   refine⟨?_,?_,trivial⟩
   ·have f100:=Sep.oc sp.f3
    refine RunT.same (v:=v83) Ty_ok rfl rfl (by simp[hh,m2_1,f67,f100,-cellsA,-indexAddrF,-one1,cAx,o1x]) (fun hl=>absurd (hl.symm.trans (show lateC _ _ _=true by kernel_rfl)) (by decide)) ?_
    refine⟨?_,?_,trivial⟩
    ·have f107:=Sep.oc sp.f4
     refine RunT.same (v:=v84) Ty_ok rfl rfl (by simp[hh,m2_1,f67,f100,f107,-cellsA,-indexAddrF,-one1,cAx,o1x]) (fun hl=>absurd (hl.symm.trans (show lateC _ _ _=true by kernel_rfl)) (by decide)) ?_
     refine⟨?_,trivial⟩
     have f114:=Sep.oc sp.f3
     refine RunT.same (v:=v83) Ty_ok rfl rfl (by simp[hh,m2_1,f67,f100,f107,f114,-cellsA,-indexAddrF,-one1,cAx,o1x]) (fun hl=>absurd (hl.symm.trans (show lateC _ _ _=true by kernel_rfl)) (by decide)) ?_
     refine⟨?_,trivial⟩
     have f121:=Sep.oc sp.f4
     refine RunT.same (v:=v84) Ty_ok rfl rfl (by simp[hh,m2_1,f67,f100,f107,f114,f121,-cellsA,-indexAddrF,-one1,cAx,o1x]) (fun hl=>absurd (hl.symm.trans (show lateC _ _ _=true by kernel_rfl)) (by decide)) ?_
     refine RunT.fin (by refine⟨v83,v84,v61,v63,by simp[hh,m2_1,f67,f100,f107,f114,f121,-cellsA,-indexAddrF,-one1,cAx,o1x],sp.f1.dr.f3.f3⟩)
    have f128:=Sep.oc sp.f3
    refine RunT.same (v:=v83) Ty_ok rfl rfl (by simp[hh,m2_1,f67,f100,f128,-cellsA,-indexAddrF,-one1,cAx,o1x]) (fun hl=>absurd (hl.symm.trans (show lateC _ _ _=true by kernel_rfl)) (by decide)) ?_
    refine⟨?_,trivial⟩
    have f135:=Sep.oc sp.f4
    refine RunT.same (v:=v84) Ty_ok rfl rfl (by simp[hh,m2_1,f67,f100,f128,f135,-cellsA,-indexAddrF,-one1,cAx,o1x]) (fun hl=>absurd (hl.symm.trans (show lateC _ _ _=true by kernel_rfl)) (by decide)) ?_
    refine⟨?_,trivial⟩
    have f142:=Sep.oc sp.f4
    refine RunT.same (v:=v84) Ty_ok rfl rfl (by simp[hh,m2_1,f67,f100,f128,f135,f142,-cellsA,-indexAddrF,-one1,cAx,o1x]) (fun hl=>absurd (hl.symm.trans (show lateC _ _ _=true by kernel_rfl)) (by decide)) ?_
    refine RunT.fin (by refine⟨v83,v84,v61,v63,by simp[hh,m2_1,f67,f100,f128,f135,f142,-cellsA,-indexAddrF,-one1,cAx,o1x],sp.f1.dr.f3.f3⟩)
   have f149:=Sep.oc sp.f4
   refine RunT.same (v:=v84) Ty_ok rfl rfl (by simp[hh,m2_1,f67,f149,-cellsA,-indexAddrF,-one1,cAx,o1x]) (fun hl=>absurd (hl.symm.trans (show lateC _ _ _=true by kernel_rfl)) (by decide)) ?_
   refine⟨?_,trivial⟩
   have f156:=Sep.oc sp.f3
   refine RunT.same (v:=v83) Ty_ok rfl rfl (by simp[hh,m2_1,f67,f149,f156,-cellsA,-indexAddrF,-one1,cAx,o1x]) (fun hl=>absurd (hl.symm.trans (show lateC _ _ _=true by kernel_rfl)) (by decide)) ?_
   refine⟨?_,trivial⟩
   have f163:=Sep.oc sp.f3
   refine RunT.same (v:=v83) Ty_ok rfl rfl (by simp[hh,m2_1,f67,f149,f156,f163,-cellsA,-indexAddrF,-one1,cAx,o1x]) (fun hl=>absurd (hl.symm.trans (show lateC _ _ _=true by kernel_rfl)) (by decide)) ?_
   refine⟨?_,trivial⟩
   have f170:=Sep.oc sp.f4
   refine RunT.same (v:=v84) Ty_ok rfl rfl (by simp[hh,m2_1,f67,f149,f156,f163,f170,-cellsA,-indexAddrF,-one1,cAx,o1x]) (fun hl=>absurd (hl.symm.trans (show lateC _ _ _=true by kernel_rfl)) (by decide)) ?_
   refine RunT.fin (by refine⟨v83,v84,v61,v63,by simp[hh,m2_1,f67,f149,f156,f163,f170,-cellsA,-indexAddrF,-one1,cAx,o1x],sp.f1.dr.f3.f3⟩)
  clear hh m2_1
  rintro ρ H n76 ⟨v72,v73,v74,v75,⟨hh,m2_1⟩,sp⟩
  refine zE fun k' hk'=>?_
  obtain⟨hb171,h⟩:=h
  obtain⟨x172,ex172,h⟩:=atm h
  have f173:=fun H=>ix_list (H:=H) (fr:=false) (f:=intC) (k:=.i64) kd_24 (fun _=>rfl) hb171 ex172
  obtain⟨hb174,h⟩:=h
  obtain⟨id175,hv,mo176,ln177,ni178⟩:=Sep.openF sp.f2 (by simp) hb174
  subst hv
  simp at ni178
  obtain⟨x179,ex179,h⟩:=atm h
  have f180:=fun H (hm:H id175=some ⟨1,l48.map intC⟩)=>ix_arr (H:=H) (k:=.i64) (off:=0) (len:=l48.length) (g:=l48.length) kd_24 hm (by simp) rfl hb174
  have f181:=at_some (q:=x172.toNat) hb174 ex179 rfl
  obtain⟨l182,el182,h⟩:=atm h
  simp[hh,m2_1,mo176,ni178,f173,f180,f181,-indexAddrF,-storeF]
  refine bind_store (q:=x172.toNat) (news:=intC i47) [] [oI v72 r69.1,oI v73 r69.2,oI v75 l50] sp.f2 (by simp) (by simp;omega) (by simp) (by simp[-one1,o1x]) (Fill.v _ Fill.nil) ?_
  rintro H183 sp hfr184
  replace sp:Sep H183 n76 [oI (.arr id175 l48.length 0 l48.length) l182,oI v72 r69.1,oI v73 r69.2,oI v75 l50] [(n1,2)]:=Sep.st el182 sp
  have m2_1:=(hfr184 _ (by simp)).trans m2_1
  simp[hh,m2_1,ni178,f173,f180,f181,-indexAddrF]
  apply hk'
  refine Runs.cut (fun ρ H n=>∃ (v186 v187 v188 v189:AVal),((ρ 1 = .list false (order.map intC)∧ρ 2=pA n1 2∧ρ 6=v189∧ρ 8=v186∧ρ 9=int i47∧ρ 10=v187∧ρ 11=v188)∧H (n1,2)=some ⟨6,[bC false b]⟩)∧Sep H n [oI v186 l182,oI v187 r69.1,oI v188 r69.2,oI v189 l50] [(n1,2)]) (by refine⟨.arr id175 l48.length 0 l48.length,v72,v73,v75,by simp[hh,m2_1,ni178,f173,f180,f181,-indexAddrF],sp⟩) ?_
  clear hh m2_1 ni178
  rintro ρ H n190 ⟨v186,v187,v188,v189,⟨hh,m2_1⟩,sp⟩
  refine zE fun k' hk'=>?_
  simp[hh,m2_1]
  apply hk'
  refine zF fun k' hk'=>?_
  obtain⟨hb191,h⟩:=h
  obtain⟨l192,el192,h⟩:=atm h
  simp[hh,m2_1,-appendF]
  refine bind_append0 (r69.1.map intC) sp.f3 (by simp) kd_24 (by simp) (by simp) (Sep.src sp.f1 (by simp)) (by simp[-one1,o1x]) (by simpa using hb191) ?_
  rintro v193 H194 n195 sp hfr196 hle197
  replace sp:Sep H194 n195 [oI v193 l192,oI v186 l182,oI v187 r69.1,oI v188 r69.2] [(n1,2)]:=by refine Sep.ap el192 ?_;exact sp
  have m2_1:=(hfr196 _ (by simp)).trans m2_1
  simp[hh,m2_1]
  apply hk'
  refine Runs.cut (fun ρ H n=>∃ (v199 v200 v201:AVal),((ρ 1 = .list false (order.map intC)∧ρ 2=pA n1 2∧ρ 6=v199∧ρ 7=v201∧ρ 8=v200∧ρ 9=int i47)∧H (n1,2)=some ⟨6,[bC false b]⟩)∧Sep H n [oI v199 l192,oI v200 l182,oI v201 r69.2] [(n1,2)]) (by refine⟨v193,v186,v188,by simp[hh,m2_1],sp.f2.dr⟩) ?_
  clear hh m2_1
  rintro ρ H n202 ⟨v199,v200,v201,⟨hh,m2_1⟩,sp⟩
  refine Runs.inBlock ?_
  refine zF fun k' hk'=>?_
  obtain⟨hb203,h⟩:=h
  obtain⟨v204,ev204,h⟩:=atm h
  have f205:=ib_add hb203 ev204
  simp[hh,m2_1,f205,-intBin]
  apply hk'
  refine IH55 (v204,l182,r69.2,l192) _ _ _ h (by refine⟨v200,v201,v199,by simp[hh,m2_1],sp.f2.f2⟩)
 replace h:=h.2 dc59
 refine Runs.exit rfl ?_
 refine zE fun k' hk'=>?_
 obtain⟨hb206,h⟩:=h
 obtain⟨r207,er207,h⟩:=atm h
 simp[hh,m2_1,dc59]
 refine RunK.callW Ty_ok (tailZ_ok b l48 l49 hb206) e78 (.cons (argB false b) (.cons (Sep.argOk' sp (old_listF (by simp))) (.cons (Sep.argOk' sp.f1 (old_listF (by simp))) .nil))) sp (by decide) (by decide) rfl (by simp[hh,m2_1,dc59]) ?_
 rintro v208 H209 n210 _ sp rfl hle212 hfr211
 rw[← er207] at sp
 have m2_1:=(hfr211 _ (by simp)).trans m2_1
 replace sp:=Sep.unpackT sp
 obtain⟨L216,hv,hl217,sp⟩:=sp
 subst hv
 obtain⟨v214,v215,hv⟩:=len2 (by simpa using hl217)
 subst hv
 simp only[zip3,List.cons_append,List.nil_append] at sp
 replace sp:=Sep.rot sp
 try simp only[List.cons_append,List.nil_append,List.append_assoc] at sp
 replace sp:=Sep.rot sp
 try simp only[List.cons_append,List.nil_append,List.append_assoc] at sp
 simp[hh,m2_1,dc59]
 apply hk'
 refine Runs.cut (fun ρ H n=>∃ (v220 v221 v222:AVal),(ρ 6=v220∧ρ 12=v221∧ρ 13=v222)∧Sep H n [oI v220 l50,oI v221 r207.1,oI v222 r207.2] []) (by refine⟨v53,v214,v215,by simp[hh,m2_1,dc59],(Sep.sub sp.dr.dr (by simp +contextual))⟩) ?_
 clear hh m2_1
 rintro ρ H n223 ⟨v220,v221,v222,hh,sp⟩
 refine zE fun k' hk'=>?_
 obtain⟨hb224,h⟩:=h
 obtain⟨l225,el225,h⟩:=atm h
 simp[hh,-appendF]
 refine bind_append0 (r207.1.map intC) sp (by simp) kd_24 (by simp) (by simp) (Sep.src sp.f1 (by simp)) (by simp[-one1,o1x]) (by simpa using hb224) ?_
 rintro v226 H227 n228 sp hfr229 hle230
 replace sp:Sep H227 n228 [oI v226 l225,oI v221 r207.1,oI v222 r207.2] []:=by refine Sep.ap el225 ?_;exact sp
 simp[hh]
 apply hk'
 refine Runs.cut (fun ρ H n=>∃ (v232 v233:AVal),(ρ 4=v232∧ρ 5=v233)∧Sep H n [oI v232 l225,oI v233 r207.2] []) (by refine⟨v226,v222,by simp[hh],sp.f1.dr⟩) ?_
 clear hh
 rintro ρ H n234 ⟨v232,v233,hh,sp⟩
 exact Runs.ret2 (v:=v232) (w:=v233) Tryz.func36 Tryz.results36 (by simp[hh]) (by simp[hh]) (hQ _ _ _ _ (Sep.sub (ids':=[]) (Sep.packT (Fill.own (Fill.own Fill.nil)) sp) (by simp)) ⟨(l225,r207.2),h,rfl⟩)
theorem l5Code_ok (b:Big) (order:List Int) (hp:l5Code_pre b order):OwnS Tryz.prog 36 [.agg (bC false b),.list false (order.map intC)] (.t [.s [.c],.s [.c]]) (fun r=>r = .tup [.list true (((l5Code b order).1).map intC),.list true (((l5Code b order).2).map intC)]):=(l5Code_walk b order _ (l5Code_vc b order hp)).mono (by rintro _ ⟨_,rfl,rfl⟩;rfl)
theorem e37:Ent Tryz.prog 37:=Ent.of Tryz.func37 (by kernel_rfl) rfl
theorem countZ_walk (n_:Int) (Z:(List Int)→Prop) (h:countZ_wp n_ Z):OwnS Tryz.prog 37 [int n_] (.s [.c]) (fun r=>∃ y:List Int,Z y∧r = .list true (y.map intC)):=by
 unfold countZ_wp at h
 have sp:Sep noHeap 0 [] []:=Sep.nil (by simp)
 refine OwnS.of Tryz.func37 rfl Tryz.ntmps37 (by simp) fun Q hQ=>?_
 refine Runs.cut (fun ρ H n=>ρ 0=int n_∧Sep H n [] []) (by refine⟨by simp[],sp⟩) ?_
 rintro ρ H n1 ⟨hh,sp⟩
 refine zE fun k' hk'=>?_
 simp[hh]
 apply hk'
 refine zE fun k' hk'=>?_
 simp[hh]
 apply hk'
 refine Runs.cut (fun ρ H n=>∃ (v3:AVal),(ρ 0=int n_∧ρ 3=v3)∧Sep H n [oI v3 ([]:List Int)] []) (by refine⟨.arr (n1,5) 0 0 0,by simp[hh],(Sep.addEmpty (l:=[.c]) sp)⟩) ?_
 clear hh
 rintro ρ H n4 ⟨v3,hh,sp⟩
 refine Runs.seq ?_
 refine zE fun k' hk'=>?_
 simp[hh]
 apply hk'
 refine Runs.block ?_
 refine Runs.loopW h (fun (sJ:Int × (List Int)) ρ H n=>match sJ with | (i12,l13)=>∃ (v14:AVal),(ρ 0=int n_∧ρ 3=v14∧ρ 4=int i12)∧Sep H n [oI v14 l13] []) (by refine⟨v3,by simp[hh],sp⟩) ?_
 clear hh
 rintro⟨i12,l13⟩ ρ H n15 K h ⟨v14,hh,sp⟩ IH16
 refine Runs.seq ?_
 refine zE fun k' hk'=>?_
 obtain⟨c18,ec18,h⟩:=atm h
 have f19:=ib_lss (k:=.i64) ec18
 simp[hh,f19,-intBin]
 apply hk'
 refine Runs.ite (b:=c18) (by simp[hh]) (fun dc18=>?_) (fun dc18=>?_)
 ·replace h:=h.1 dc18
  refine Runs.skip ?_
  refine Runs.seq ?_
  refine Runs.block ?_
  refine zF fun k' hk'=>?_
  obtain⟨hb20,h⟩:=h
  obtain⟨l21,el21,h⟩:=atm h
  simp[hh,dc18,-appendF]
  refine bind_append [] [] [[int i12]] [intC i12] sp kd_24 (by simp) (by simp) (by simp) (by simp[-one1,o1x]) (rows_one (Fill.v _ Fill.nil)) (by simp) (by simpa using hb20) ?_
  rintro v22 H23 n24 sp hfr25 hle26
  replace sp:Sep H23 n24 [oI v22 l21] []:=Sep.ap el21 sp
  simp[hh,dc18]
  apply hk'
  refine Runs.cut (fun ρ H n=>∃ (v28:AVal),(ρ 0=int n_∧ρ 3=v28∧ρ 4=int i12)∧Sep H n [oI v28 l21] []) (by refine⟨v22,by simp[hh,dc18],sp⟩) ?_
  clear hh
  rintro ρ H n29 ⟨v28,hh,sp⟩
  refine Runs.inBlock ?_
  refine zF fun k' hk'=>?_
  obtain⟨hb30,h⟩:=h
  obtain⟨v31,ev31,h⟩:=atm h
  have f32:=ib_add hb30 ev31
  simp[hh,f32,-intBin]
  apply hk'
  refine IH16 (v31,l21) _ _ _ h (by refine⟨v28,by simp[hh],sp⟩)
 replace h:=h.2 dc18
 refine Runs.exit rfl ?_
 refine zE fun k' hk'=>?_
 simp[hh,dc18]
 apply hk'
 exact Runs.ret1 (v:=v14) Tryz.func37 Tryz.results37 (by simp[hh,dc18]) (hQ _ _ _ _ (Sep.sub (ids':=[]) sp (by simp)) ⟨l13,h,rfl⟩)
theorem countZ_ok (n_:Int) (hp:countZ_pre n_):OwnS Tryz.prog 37 [int n_] (.s [.c]) (fun r=>r = .list true ((countZ n_).map intC)):=(countZ_walk n_ _ (countZ_vc n_ hp)).mono (by rintro _ ⟨_,rfl,rfl⟩;rfl)
end Go.Ab.Vg
/- Walks by program for YtlmihcmpigdojaaGreatDoorAbL2k. -/
namespace Go.Ab.Vg
open Go.Proofs
set_option maxRecDepth 100000
set_option linter.unusedSimpArgs false
set_option linter.unusedVariables false
attribute [local simp] GNode.cells Wire.cells intC sliceC strC bC pA
end Go.Ab.Vg
/- Walks by program for YtlmihcmpigdojaaGreatDoorAbMa. -/
namespace Go.Ab.Vg
open Go.Proofs
set_option maxRecDepth 100000
set_option linter.unusedSimpArgs false
set_option linter.unusedVariables false
end Go.Ab.Vg
/- The abstract machine, part O: regions that draw their order and make variables. -/
namespace Go.Ab
def kindN:Op→Nat
 | .move _ | .assign _ | .pick .. | .binOp .. | .unOp .. | .convert .. | .makeFunc .. | .extract .. | .field .. | .index .. | .build ..=>0
 | .load .. | .fieldAddr .. | .indexAddr .. | .nilCheck _ | .call ⟨.builtin .len,_,_⟩=>1
 | .alloc _=>3
 | .store ..=>4
 | _=>2
def compatN (a b:Nat):Bool:=a == 0 || b == 0 || (a == 1 && (b == 1 || b == 3 || b == 4)) || (a == 3 && (b == 1 || b == 3 || b == 4)) || (a == 4 && (b == 1 || b == 3))
def idOk (n0:Nat):AVal→Prop
 | .ptr id _ _ _ | .arr id _ _ _=>id.1<n0
 | _=>True
def condN (n0:Nat) (op:Op) (ρ:Env):Prop:=
 match op with
 | .load _ a | .fieldAddr _ a _ | .nilCheck a=>idOk n0 (ρ.ev a)
 | .indexAddr _ x _=>idOk n0 (ρ.ev x)
 | .call ⟨.builtin .len,args,_⟩=>∀ x ∈ args.toList,idOk n0 (ρ.ev x)
 | .store _ a _=>∃ id g idx off,ρ.ev a = .ptr id g idx off∧n0≤id.1
 | _=>kindN op=0
section
variable {Ty:Types} {ρ:Env} {H H2 H':Heap} {n n2 n' n0:Nat} {d:Option Tmp} {v:AVal} {op:Op}
end
section
variable (Ty:Types) (ops:Array Oper) (n0:Nat)
def DoN (o:Oper) (s:AS) (R:AS→Prop):Prop:=
 (gok ops o s.1=some false∧R (s.1.put o.dst skv,s.2)) ∨
 (gok ops o s.1=some true∧kindN o.op ≠ 3∧condN n0 o.op s.1∧∃ v H',stepF Ty o.dst o.op s.1 s.2.1 s.2.2=some (v,H',s.2.2)∧R (s.1.put o.dst v,H',s.2.2)) ∨
 (gok ops o s.1=some true∧∃ t k i,o.op = .alloc t∧o.dst=some k∧Ty t=some i∧∀ a,n0≤a→(∀ j,s.2.1 (a,j)=none)→R (s.1.put (some k) (.ptr (a,k) 1 0 0),s.2.1.set (a,k) ⟨i.zero.length,[i.zero.map .v]⟩,max s.2.2 (a+1)))
end
section
variable {Ty:Types} {ops:Array Oper} {n0:Nat}
variable (Ty ops n0) in
def AnyN (R:AS→Prop):Nat→Array Bool→AS→Prop
 | 0,listed,s=>Region.ready .any ops listed=[]∧R s
 | fuel+1,listed,s=>(Region.ready .any ops listed=[]→R s)∧∀ i ∈ Region.ready .any ops listed,∃ o,ops[i]?=some o∧DoN Ty ops n0 o s (AnyN R fuel (listed.setIfInBounds i true))
variable (Ty ops n0) in
def RunN (R:AS→Prop):List Oper→AS→Prop
 | [],s=>R s
 | o::l,s=>DoN Ty ops n0 o s (RunN R l)
variable (ops) in
def freeN (listed:Array Bool) (i:Nat):Bool:=
 match ops[i]? with
 | none=>false
 | some oi=>((behind ops i).all fun j => !(listed.getD j true) && match ops[j]? with
   | none=>true
   | some oj=>j == i || oj.after.any (fun e=>Region.binds .any e && (behind ops i).contains e.on)) &&
  (List.range ops.size).all fun j=>match ops[j]? with
  | none=>true
  | some oj=>j == i || listed.getD j true || (behind ops i).contains j || (oi.apart ops oj && compatN (kindN oi.op) (kindN oj.op))
variable (ops) in
def lexN:Nat→Nat→Array Bool→Bool
 | 0,_,listed=>(Region.ready .any ops listed).isEmpty
 | fuel+1,k,listed=>(Region.ready .any ops listed).contains k && freeN ops listed k && lexN fuel (k+1) (listed.setIfInBounds k true)
variable (ops) in
def drawN:Bool:=lexN ops ops.size 0 (Array.replicate ops.size false)
end
section
variable {P:Program} {N:Nat} {Ty:Types} {ops:Array Oper} {n0:Nat}
end
section
variable {P:Program} {f:FuncId} {N:Nat} {k:List Item} {ρ:Env} {H:Heap} {n:Nat} {Q:AVal→Heap→Nat→Prop} {Ty:Types}
end
section
variable (P:Program) (f:FuncId) (N:Nat) (k:List Item) (Q:AVal→Heap→Nat→Prop) (Ty:Types) (ops:Array Oper) (n0:Nat)
end
section
variable {P:Program} {f:FuncId} {N:Nat} {k:List Item} {ρ:Env} {H:Heap} {n:Nat} {Q:AVal→Heap→Nat→Prop} {Ty:Types} {ops:Array Oper} {n0:Nat}
end
attribute [simp] gok
end Go.Ab
/- Walks by program for YtlmihcmpigdojaaGreatDoorAbMb. -/
namespace Go.Ab.Vg
open Go.Proofs
set_option maxRecDepth 100000
set_option linter.unusedSimpArgs false
set_option linter.unusedVariables false
end Go.Ab.Vg
/- Walks by program for YtlmihcmpigdojaaGreatDoorAbMc. -/
namespace Go.Ab.Vg
open Go.Proofs
set_option maxRecDepth 100000
set_option linter.unusedSimpArgs false
set_option linter.unusedVariables false
end Go.Ab.Vg
/- What walks by program lean on: the text of a mark, and nested slices handed over. -/
namespace Go.Ab.Vg
open Go.Proofs
theorem markTxt_ok (k:Int) (h:markTxt_pre k):PureC Tryz.prog 49 [int k] (fun r=>r=str (markTxt k)):=by
 have:=markText_ok k.toNat (by omega)
 rwa [Int.toNat_of_nonneg h.1] at this
end Go.Ab.Vg
