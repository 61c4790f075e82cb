/- Merged texts (13 of 14) of the proof that ends in Cxy: Nmw Mdw Krw Cxz. -/
import Derived.Test.YtlmihcmpigdojaaGreatDoorAbQcx12
/- Walks by program for YtlmihcmpigdojaaGreatDoorAbNm. -/
namespace Go.Ab.Vg
open Go.Proofs
set_option maxRecDepth 100000
set_option linter.unusedSimpArgs false
set_option linter.unusedVariables false
attribute [local simp] GNode.cells Wire.cells intC sliceC strC bC pA
theorem e50:Ent Tryz.prog 50:=Ent.of Tryz.func50 (by kernel_rfl) rfl
theorem markNodeS_walk (a:List GNode) (k_:Int) (Z:((List GNode) × Int)→Prop) (h:markNodeS_wp a k_ Z):MutS Tryz.prog 50 (fun v=>[v,int k_]) (.s [.c,.c,.s [.c]]) (.list true (a.map (GNode.cells true))) (fun e' r=>∃ y:(List GNode) × Int,Z y∧e' = .list true (y.1.map (GNode.cells true))∧r=int y.2):=by
 unfold markNodeS_wp at h
 refine MutS.of Tryz.func50 rfl Tryz.ntmps50 (fun _=>by simp) fun H0 n0 v0 K0 ids0 sp Q hQ=>?_
 have h00:=sp.1
 have hid:∀ i ∈ ids0,H0 i=H0 i:=fun _ _=>rfl
 have hnn:n0≤n0:=Nat.le_refl _
 refine Runs.cut (fun ρ H n=>(ρ 0=v0∧ρ 1=int k_)∧n0≤n∧(∀ i ∈ ids0,H i=H0 i)∧Sep H n (oN v0 a::K0) (ids0)) (by refine⟨?_,(by omega),hid,sp⟩<;>simp ) ?_
 rintro ρ H n2 ⟨hh,hnn,hid,sp⟩
 have hq_n2:=hnn
 refine zE fun k' hk'=>?_
 simp[hh]
 apply hk'
 refine Runs.seq ?_
 refine zE fun k' hk'=>?_
 simp[hh]
 apply hk'
 refine Runs.block ?_
 refine Runs.loopW h (fun (sJ:Int × Int × (List GNode)) ρ H n=>match sJ with | (k10,i11,l12)=>(ρ 0=v0∧ρ 1=int k10∧ρ 5=int i11)∧n0≤n∧(∀ i ∈ ids0,H i=H0 i)∧Sep H n (oN v0 l12::K0) (ids0)) (by refine⟨?_,(by omega),hid,sp⟩<;>simp[hh]) ?_
 clear hh
 rintro⟨k10,i11,l12⟩ ρ H n13 K h ⟨hh,hnn,hid,sp⟩ IH14
 have hq_n13:=hnn
 refine Runs.seq ?_
 refine zE fun k' hk'=>?_
 obtain⟨len16,elen16,h⟩:=atm h
 have f17:=len_own (Sep.len (m:=len16) sp kd_35 (by rw[elen16,List.length_map]))
 obtain⟨c18,ec18,h⟩:=atm h
 have f19:=ib_lss (k:=.i64) ec18
 simp[hh,f17,f19,-intBin,-lenF]
 apply hk'
 refine Runs.ite (b:=c18) (by simp[hh]) (fun dc18=>?_) (fun dc18=>?_)
 ·replace h:=h.1 dc18
  refine Runs.skip ?_
  refine Runs.seq ?_
  refine Runs.block ?_
  refine zE fun k' hk'=>?_
  obtain⟨hb20,h⟩:=h
  obtain⟨x21,ex21,h⟩:=atm h
  obtain⟨id22,els23,row24,W25,hq26,mo27,moL28,moR29,hrl30,hW31,hsub32,hni33,spr34,hcl35⟩:=Sep.rowF (q:=i11.toNat) (f:=(GNode.cells true)) sp hb20 ex21 rfl
  subst hq26
  obtain⟨c36,c37,c38,hq26⟩:=len3 (by simpa using hrl30)
  subst hq26
  replace spr34:Sep _ _ [(.c,c36,int x21.control),(.c,c37,int x21.parent),(.s [.c],c38,.list true (x21.links.map intC))] W25:=spr34
  obtain rfl:=Sep.cAt (K1:=[]) (K2:=[(.c,c37,int x21.parent),(.s [.c],c38,.list true (x21.links.map intC))]) spr34
  obtain rfl:=Sep.cAt (K1:=[(.c,int x21.control,int x21.control)]) (K2:=[(.s [.c],c38,.list true (x21.links.map intC))]) spr34
  have f39:=ix_arr (k:=.i64) (off:=0) (len:=l12.length) kd_35 mo27 moL28 rfl hb20
  obtain⟨l40,el40,h⟩:=atm h
  simp[hh,mo27,moL28,moR29,f39,dc18,-indexAddrF,-storeF]
  refine bind_cell (i:=ty3) (q:=i11.toNat) (off:=0) (ix:=i11) (x:=x21) (y:=(GNode.mk k10 x21.parent x21.links)) (f:=(GNode.cells true)) [] [.c,.s [.c]] [] [int x21.parent,.list true (x21.links.map intC)] sp rfl rfl hb20 ex21 rfl rfl rfl rfl rfl rfl rfl ?_
  rintro H41 sp hfr42
  replace sp:Sep H41 n13 (oN (.arr id22 l12.length 0 l12.length) l40::K0) (ids0):=by rw[el40];exact sp
  have hid:∀ i ∈ ids0,H41 i=H0 i:=fun i hi=>(hfr42 i (by simp[hi])).trans (hid i hi)
  simp[hh,f39,dc18,-indexAddrF]
  apply hk'
  refine Runs.cut (fun ρ H n=>(ρ 0 = .arr id22 l12.length 0 l12.length∧ρ 1=int k10∧ρ 5=int i11)∧n0≤n∧(∀ i ∈ ids0,H i=H0 i)∧Sep H n (oN (.arr id22 l12.length 0 l12.length) l40::K0) (ids0)) (by refine⟨?_,(by omega),hid,sp⟩<;>simp[hh,f39,dc18,-indexAddrF]) ?_
  clear hh
  rintro ρ H n44 ⟨hh,hnn,hid,sp⟩
  have hq_n44:=hnn
  refine zE fun k' hk'=>?_
  obtain⟨hb45,h⟩:=h
  obtain⟨v46,ev46,h⟩:=atm h
  have f47:=ib_add hb45 ev46
  simp[hh,f47,-intBin]
  apply hk'
  refine zE fun k' hk'=>?_
  obtain⟨hb48,h⟩:=h
  obtain⟨x49,ex49,h⟩:=atm h
  obtain⟨id50,els51,row52,W53,hq54,mo55,moL56,moR57,hrl58,hW59,hsub60,hni61,spr62,hcl63⟩:=Sep.rowF (q:=i11.toNat) (f:=(GNode.cells true)) sp hb48 ex49 rfl
  simp only[AVal.arr.injEq] at hq54
  obtain⟨hq54,hln64,-⟩:=hq54
  subst hq54
  replace moL56:=moL56.trans hln64.symm
  obtain⟨c65,c66,c67,hq54⟩:=len3 (by simpa using hrl58)
  subst hq54
  replace spr62:Sep _ _ [(.c,c65,int x49.control),(.c,c66,int x49.parent),(.s [.c],c67,.list true (x49.links.map intC))] W53:=spr62
  obtain rfl:=Sep.cAt (K1:=[]) (K2:=[(.c,c66,int x49.parent),(.s [.c],c67,.list true (x49.links.map intC))]) spr62
  obtain rfl:=Sep.cAt (K1:=[(.c,int x49.control,int x49.control)]) (K2:=[(.s [.c],c67,.list true (x49.links.map intC))]) spr62
  have f68:=ix_arr (k:=.i64) (off:=0) (len:=l12.length) kd_35 mo55 moL56 rfl (by rw[hln64];exact hb48)
  obtain⟨l69,el69,h⟩:=atm h
  simp[hh,mo55,moL56,moR57,f68,-indexAddrF,-storeF]
  refine bind_cell (i:=ty3) (q:=i11.toNat) (off:=1) (ix:=i11) (x:=x49) (y:=(GNode.mk x49.control v46 x49.links)) (f:=(GNode.cells true)) [.c] [.s [.c]] [int x49.control] [.list true (x49.links.map intC)] sp rfl rfl hb48 ex49 rfl hln64 rfl rfl rfl rfl rfl ?_
  rintro H70 sp hfr71
  replace sp:Sep H70 n44 (oN (.arr id22 l12.length 0 l12.length) l69::K0) (ids0):=by rw[el69];exact sp
  have hid:∀ i ∈ ids0,H70 i=H0 i:=fun i hi=>(hfr71 i (by simp[hi])).trans (hid i hi)
  simp[hh,f68,-indexAddrF]
  apply hk'
  refine Runs.cut (fun ρ H n=>(ρ 0 = .arr id22 l12.length 0 l12.length∧ρ 1=int v46∧ρ 5=int i11)∧n0≤n∧(∀ i ∈ ids0,H i=H0 i)∧Sep H n (oN (.arr id22 l12.length 0 l12.length) l69::K0) (ids0)) (by refine⟨?_,(by omega),hid,sp⟩<;>simp[hh,f68,-indexAddrF]) ?_
  clear hh
  rintro ρ H n73 ⟨hh,hnn,hid,sp⟩
  have hq_n73:=hnn
  refine zE fun k' hk'=>?_
  obtain⟨hb74,h⟩:=h
  obtain⟨v75,ev75,h⟩:=atm h
  have f76:=ib_add hb74 ev75
  simp[hh,f76,-intBin]
  apply hk'
  refine zF fun k' hk'=>?_
  obtain⟨hb77,h⟩:=h
  obtain⟨x78,ex78,h⟩:=atm h
  obtain⟨id79,els80,row81,W82,hq83,mo84,moL85,moR86,hrl87,hW88,hsub89,hni90,spr91,hcl92⟩:=Sep.rowF (q:=i11.toNat) (f:=(GNode.cells true)) sp hb77 ex78 rfl
  simp only[AVal.arr.injEq] at hq83
  obtain⟨hq83,hln93,-⟩:=hq83
  subst hq83
  replace moL85:=moL85.trans hln93.symm
  obtain⟨c94,c95,c96,hq83⟩:=len3 (by simpa using hrl87)
  subst hq83
  replace spr91:Sep _ _ [(.c,c94,int x78.control),(.c,c95,int x78.parent),(.s [.c],c96,.list true (x78.links.map intC))] W82:=spr91
  obtain rfl:=Sep.cAt (K1:=[]) (K2:=[(.c,c95,int x78.parent),(.s [.c],c96,.list true (x78.links.map intC))]) spr91
  obtain rfl:=Sep.cAt (K1:=[(.c,int x78.control,int x78.control)]) (K2:=[(.s [.c],c96,.list true (x78.links.map intC))]) spr91
  have f97:=ix_arr (k:=.i64) (off:=0) (len:=l12.length) kd_35 mo84 moL85 rfl (by rw[hln93];exact hb77)
  obtain⟨hb98,h⟩:=h
  obtain⟨r99,er99,h⟩:=atm h
  simp[hh,mo84,moL85,moR86,f97,-indexAddrF]
  refine RunK.callM (v:=c96) Ty_ok (markIntS_ok x78.links v75 hb98) e19 (Sep.front (K1:=[(.c,int x78.control,int x78.control),(.c,int x78.parent,int x78.parent)]) (K2:=[]) spr91) (by decide) (by decide) rfl (by simp[hh,mo84,moL85,moR86,f97,-indexAddrF]) ?_
  rintro _ H100 n101 _ ⟨rfl,rfl⟩ spx hle103 hfrW102
  rw[← er99] at spx
  rw[← er99]
  obtain⟨l105,el105,h⟩:=atm h
  replace sp:=hcl92 H100 n101 (GNode.mk x78.control x78.parent r99.1) (Sep.unfront (K1:=[(.c,int x78.control,int x78.control),(.c,int x78.parent,int x78.parent)]) (K2:=[]) spx) rfl hfrW102 hle103
  have hfr104:=fun i hi=>hfrW102 i (hsub89 i hi)
  replace sp:Sep H100 n101 (oN (.arr id22 l12.length 0 l12.length) l105::K0) (ids0):=by rw[el105];exact sp
  have hid:∀ i ∈ ids0,H100 i=H0 i:=fun i hi=>(hfr104 i (by simp[hi])).trans (hid i hi)
  have hnn:n0≤n101:=by omega
  have hq_n101:=hnn
  simp[hh,f97,-indexAddrF]
  apply hk'
  refine Runs.cut (fun ρ H n=>(ρ 0 = .arr id22 l12.length 0 l12.length∧ρ 1=int r99.2∧ρ 5=int i11)∧n0≤n∧(∀ i ∈ ids0,H i=H0 i)∧Sep H n (oN (.arr id22 l12.length 0 l12.length) l105::K0) (ids0)) (by refine⟨?_,(by omega),hid,sp⟩<;>simp[hh,f97,-indexAddrF]) ?_
  clear hh
  rintro ρ H n107 ⟨hh,hnn,hid,sp⟩
  have hq_n107:=hnn
  refine Runs.inBlock ?_
  refine zF fun k' hk'=>?_
  obtain⟨hb108,h⟩:=h
  obtain⟨v109,ev109,h⟩:=atm h
  have f110:=ib_add hb108 ev109
  simp[hh,f110,-intBin]
  apply hk'
  refine IH14 (r99.2,v109,l105) _ _ _ h (by refine⟨?_,(by omega),hid,sp⟩<;>simp[hh])
 replace h:=h.2 dc18
 refine Runs.exit rfl ?_
 refine zE fun k' hk'=>?_
 simp[hh,dc18]
 apply hk'
 exact Runs.ret1 (v:=int k10) Tryz.func50 Tryz.results50 (by simp[hh,dc18]) (hQ _ _ _ _ (Sep.sub sp (by simp +contextual)) hid (by omega) ⟨(l12,k10),h,rfl,rfl⟩)
theorem markNodeS_ok (a:List GNode) (k_:Int) (hp:markNodeS_pre a k_):MutS Tryz.prog 50 (fun v=>[v,int k_]) (.s [.c,.c,.s [.c]]) (.list true (a.map (GNode.cells true))) (fun e' r=>e' = .list true (((markNodeS a k_).1).map (GNode.cells true))∧r=int ((markNodeS a k_).2)):=(markNodeS_walk a k_ _ (markNodeS_vc a k_ hp)).mono (by rintro _ _ ⟨_,rfl,rfl,rfl⟩;exact⟨rfl,rfl⟩)
theorem e18:Ent Tryz.prog 18:=Ent.of Tryz.func18 (by kernel_rfl) rfl
theorem markBig_walk (a:Big) (k_:Int) (Z:(Big × Int)→Prop) (h:markBig_wp a k_ Z):MutS Tryz.prog 18 (fun v=>[v,int k_]) (.a [.c,.s [.c,.c,.s [.c]],.s [.c],.c,.s [.c],.s [.c,.c]]) (.agg (bC true a)) (fun e' r=>∃ y:Big × Int,Z y∧e' = .agg (bC true y.1)∧r=int y.2):=by
 unfold markBig_wp at h
 refine MutS.of Tryz.func18 rfl Tryz.ntmps18 (fun _=>by simp) fun H0 n0 v0 K0 ids0 sp Q hQ=>?_
 have h00:=sp.1
 have hid:∀ i ∈ ids0,H0 i=H0 i:=fun _ _=>rfl
 have hnn:n0≤n0:=Nat.le_refl _
 replace sp:=Sep.unpack sp
 obtain⟨L0,hv,hl0,sp⟩:=sp
 subst hv
 obtain⟨a0_,a1_,a2_,a3_,a4_,a5_,hv⟩:=len6 (by simpa using hl0)
 subst hv
 simp only[zip3,List.cons_append,List.nil_append] at sp
 replace sp:=Sep.scalar sp
 obtain⟨hv,sp⟩:=sp
 subst hv
 replace sp:=Sep.rot sp
 try simp only[List.cons_append,List.nil_append,List.append_assoc] at sp
 replace sp:=Sep.rot sp
 try simp only[List.cons_append,List.nil_append,List.append_assoc] at sp
 replace sp:=Sep.scalar sp
 obtain⟨hv,sp⟩:=sp
 subst hv
 replace sp:=Sep.rot sp
 try simp only[List.cons_append,List.nil_append,List.append_assoc] at sp
 replace sp:=Sep.rot sp
 try simp only[List.cons_append,List.nil_append,List.append_assoc] at sp
 replace sp:=Sep.swap (K1:=K0) sp
 simp only[List.cons_append,List.nil_append] at sp
 refine Runs.cut (fun ρ H n=>(ρ 0 = .agg [int a.roots,a1_,a2_,int a.edges,a4_,a5_]∧ρ 1=int k_)∧n0≤n∧(∀ i ∈ ids0,H i=H0 i)∧Sep H n (oN a1_ a.nodes::oI a2_ a.sites::oS a4_ a.outer::oW a5_ a.inner::K0) (ids0)) (by refine⟨?_,(by omega),hid,sp⟩<;>simp ) ?_
 rintro ρ H n5 ⟨hh,hnn,hid,sp⟩
 have hq_n5:=hnn
 refine zE fun k' hk'=>?_
 have f6:=Sep.oc sp
 have f7:=Sep.oc sp.f1
 have f8:=Sep.oc sp.f2
 have f9:=Sep.oc sp.f3
 simp[hh,f6,f7,f8,f9,-cellsA,-one1,cAx,o1x]
 apply hk'
 refine Runs.cut (fun ρ H n=>(ρ 1=int k_∧ρ 2=pA n5 2)∧H (n5,2)=some ⟨6,[[int a.roots,a1_,a2_,int a.edges,a4_,a5_]]⟩∧n0≤n∧(∀ i ∈ ids0,H i=H0 i)∧Sep H n (oN a1_ a.nodes::oI a2_ a.sites::oS a4_ a.outer::oW a5_ a.inner::K0) ((n5,2)::ids0)) (by refine⟨?_,?_,(by omega),(by intro i hi;have hlt:=h00 i (by simp[hi]);repeat (first | exact hid i hi | rw[Heap.get_set_ne _ _ (by rintro rfl;simp at hlt;omega)])),sp.var⟩<;>simp[hh,f6,f7,f8,f9,-cellsA,-one1,cAx,o1x]) ?_
 clear hh
 rintro ρ H n11 ⟨hh,m2_9,hnn,hid,sp⟩
 have hq_n11:=hnn
 refine zE fun k' hk'=>?_
 obtain⟨hb12,h⟩:=h
 obtain⟨r13,er13,h⟩:=atm h
 have f14:=Sep.oc sp
 simp[hh,m2_9,f14,-cellsA,-one1,cAx,o1x]
 refine RunK.callM (v:=a1_) Ty_ok (markNodeS_ok a.nodes k_ hb12) e50 sp (by decide) (by decide) rfl (by simp[hh,m2_9,f14,-cellsA,-one1,cAx,o1x]) ?_
 rintro _ H15 n16 _ ⟨rfl,rfl⟩ sp hle18 hfr17
 rw[← er13] at sp
 rw[← er13]
 replace sp:Sep H15 n16 (oN a1_ r13.1::oI a2_ a.sites::oS a4_ a.outer::oW a5_ a.inner::K0) ((n5,2)::ids0):=sp
 have hid:∀ i ∈ ids0,H15 i=H0 i:=fun i hi=>(hfr17 i (by simp[hi])).trans (hid i hi)
 have hnn:n0≤n16:=by omega
 have hq_n16:=hnn
 have m2_9:=(hfr17 _ (by simp)).trans m2_9
 simp[hh,m2_9,f14,-cellsA,-one1,cAx,o1x]
 apply hk'
 refine Runs.cut (fun ρ H n=>(ρ 1=int r13.2∧ρ 2=pA n5 2)∧H (n5,2)=some ⟨6,[[int a.roots,a1_,a2_,int a.edges,a4_,a5_]]⟩∧n0≤n∧(∀ i ∈ ids0,H i=H0 i)∧Sep H n (oN a1_ r13.1::oI a2_ a.sites::oS a4_ a.outer::oW a5_ a.inner::K0) ((n5,2)::ids0)) (by refine⟨?_,?_,(by omega),hid,sp⟩<;>simp[hh,m2_9,f14,-cellsA,-one1,cAx,o1x]) ?_
 clear hh m2_9
 rintro ρ H n20 ⟨hh,m2_9,hnn,hid,sp⟩
 have hq_n20:=hnn
 refine zE fun k' hk'=>?_
 obtain⟨hb21,h⟩:=h
 obtain⟨r22,er22,h⟩:=atm h
 have f23:=Sep.oc sp.f1
 simp[hh,m2_9,f23,-cellsA,-one1,cAx,o1x]
 refine RunK.callM (v:=a2_) Ty_ok (markIntS_ok a.sites r13.2 hb21) e19 sp.f1 (by decide) (by decide) rfl (by simp[hh,m2_9,f23,-cellsA,-one1,cAx,o1x]) ?_
 rintro _ H24 n25 _ ⟨rfl,rfl⟩ sp hle27 hfr26
 rw[← er22] at sp
 rw[← er22]
 replace sp:Sep H24 n25 (oI a2_ r22.1::oN a1_ r13.1::oS a4_ a.outer::oW a5_ a.inner::K0) ((n5,2)::ids0):=sp
 have hid:∀ i ∈ ids0,H24 i=H0 i:=fun i hi=>(hfr26 i (by simp[hi])).trans (hid i hi)
 have hnn:n0≤n25:=by omega
 have hq_n25:=hnn
 have m2_9:=(hfr26 _ (by simp)).trans m2_9
 simp[hh,m2_9,f23,-cellsA,-one1,cAx,o1x]
 apply hk'
 refine Runs.cut (fun ρ H n=>(ρ 1=int r22.2∧ρ 2=pA n5 2)∧H (n5,2)=some ⟨6,[[int a.roots,a1_,a2_,int a.edges,a4_,a5_]]⟩∧n0≤n∧(∀ i ∈ ids0,H i=H0 i)∧Sep H n (oI a2_ r22.1::oN a1_ r13.1::oS a4_ a.outer::oW a5_ a.inner::K0) ((n5,2)::ids0)) (by refine⟨?_,?_,(by omega),hid,sp⟩<;>simp[hh,m2_9,f23,-cellsA,-one1,cAx,o1x]) ?_
 clear hh m2_9
 rintro ρ H n29 ⟨hh,m2_9,hnn,hid,sp⟩
 have hq_n29:=hnn
 refine zE fun k' hk'=>?_
 obtain⟨hb30,h⟩:=h
 obtain⟨r31,er31,h⟩:=atm h
 have f32:=Sep.oc sp.f2
 simp[hh,m2_9,f32,-cellsA,-one1,cAx,o1x]
 refine RunK.callM (v:=a4_) Ty_ok (markStringS_ok a.outer r22.2 hb30) e51 sp.f2 (by decide) (by decide) rfl (by simp[hh,m2_9,f32,-cellsA,-one1,cAx,o1x]) ?_
 rintro _ H33 n34 _ ⟨rfl,rfl⟩ sp hle36 hfr35
 rw[← er31] at sp
 rw[← er31]
 replace sp:Sep H33 n34 (oS a4_ r31.1::oI a2_ r22.1::oN a1_ r13.1::oW a5_ a.inner::K0) ((n5,2)::ids0):=sp
 have hid:∀ i ∈ ids0,H33 i=H0 i:=fun i hi=>(hfr35 i (by simp[hi])).trans (hid i hi)
 have hnn:n0≤n34:=by omega
 have hq_n34:=hnn
 have m2_9:=(hfr35 _ (by simp)).trans m2_9
 simp[hh,m2_9,f32,-cellsA,-one1,cAx,o1x]
 apply hk'
 refine Runs.cut (fun ρ H n=>(ρ 1=int r31.2∧ρ 2=pA n5 2)∧H (n5,2)=some ⟨6,[[int a.roots,a1_,a2_,int a.edges,a4_,a5_]]⟩∧n0≤n∧(∀ i ∈ ids0,H i=H0 i)∧Sep H n (oS a4_ r31.1::oI a2_ r22.1::oN a1_ r13.1::oW a5_ a.inner::K0) ((n5,2)::ids0)) (by refine⟨?_,?_,(by omega),hid,sp⟩<;>simp[hh,m2_9,f32,-cellsA,-one1,cAx,o1x]) ?_
 clear hh m2_9
 rintro ρ H n38 ⟨hh,m2_9,hnn,hid,sp⟩
 have hq_n38:=hnn
 refine zE fun k' hk'=>?_
 obtain⟨hb39,h⟩:=h
 obtain⟨r40,er40,h⟩:=atm h
 have f41:=Sep.oc sp.f3
 simp[hh,m2_9,f41,-cellsA,-one1,cAx,o1x]
 refine RunK.callM (v:=a5_) Ty_ok (markWireS_ok a.inner r31.2 hb39) e52 sp.f3 (by decide) (by decide) rfl (by simp[hh,m2_9,f41,-cellsA,-one1,cAx,o1x]) ?_
 rintro _ H42 n43 _ ⟨rfl,rfl⟩ sp hle45 hfr44
 rw[← er40] at sp
 rw[← er40]
 replace sp:Sep H42 n43 (oW a5_ r40.1::oS a4_ r31.1::oI a2_ r22.1::oN a1_ r13.1::K0) ((n5,2)::ids0):=sp
 have hid:∀ i ∈ ids0,H42 i=H0 i:=fun i hi=>(hfr44 i (by simp[hi])).trans (hid i hi)
 have hnn:n0≤n43:=by omega
 have hq_n43:=hnn
 have m2_9:=(hfr44 _ (by simp)).trans m2_9
 simp[hh,m2_9,f41,-cellsA,-one1,cAx,o1x]
 apply hk'
 refine Runs.cut (fun ρ H n=>ρ 1=int r40.2∧n0≤n∧(∀ i ∈ ids0,H i=H0 i)∧Sep H n (oW a5_ r40.1::oS a4_ r31.1::oI a2_ r22.1::oN a1_ r13.1::K0) (ids0)) (by refine⟨?_,(by omega),hid,(Sep.sub sp (by simp +contextual))⟩<;>simp[hh,m2_9,f41,-cellsA,-one1,cAx,o1x]) ?_
 clear hh m2_9
 rintro ρ H n47 ⟨hh,hnn,hid,sp⟩
 have hq_n47:=hnn
 refine zE fun k' hk'=>?_
 simp[hh]
 apply hk'
 exact Runs.ret1 (v:=int r40.2) Tryz.func18 Tryz.results18 (by simp[hh]) (hQ _ _ _ _ (Sep.sub (Sep.pack (Fill.v _ (Fill.own (Fill.own (Fill.v _ (Fill.own (Fill.own Fill.nil)))))) sp.f1.f2.f3) (by simp +contextual)) hid (by omega) ⟨((Big.mk a.roots r13.1 r22.1 a.edges r31.1 r40.1),r40.2),h,rfl,rfl⟩)
theorem markBig_ok (a:Big) (k_:Int) (hp:markBig_pre a k_):MutS Tryz.prog 18 (fun v=>[v,int k_]) (.a [.c,.s [.c,.c,.s [.c]],.s [.c],.c,.s [.c],.s [.c,.c]]) (.agg (bC true a)) (fun e' r=>e' = .agg [int (((markBig a k_).1).roots),.list true ((((markBig a k_).1).nodes).map (GNode.cells true)),.list true ((((markBig a k_).1).sites).map intC),int (((markBig a k_).1).edges),.list true ((((markBig a k_).1).outer).map strC),.list true ((((markBig a k_).1).inner).map Wire.cells)]∧r=int ((markBig a k_).2)):=(markBig_walk a k_ _ (markBig_vc a k_ hp)).mono (by rintro _ _ ⟨_,rfl,rfl,rfl⟩;exact⟨rfl,rfl⟩)
end Go.Ab.Vg
/- Walks by program for YtlmihcmpigdojaaGreatDoorAbMd. -/
namespace Go.Ab.Vg
open Go.Proofs
set_option maxRecDepth 100000
set_option linter.unusedSimpArgs false
set_option linter.unusedVariables false
end Go.Ab.Vg
/- Walks by program for YtlmihcmpigdojaaGreatDoorAbKr. -/
namespace Go.Ab.Vg
open Go.Proofs
set_option maxRecDepth 100000
set_option linter.unusedSimpArgs false
set_option linter.unusedVariables false
attribute [local simp] Control.cells GNode.cells Wire.cells intC sliceC strC bC pA
theorem ordC_ok (b:Big) (h:ordC_pre b):PureC Tryz.prog 54 [.agg (Big.cells false b)] (fun r=>∃ y0 y1 y2 y3 y4 y5 y6:Value,(one y0=true∧one y1=true∧one y2=true∧one y3=true∧one y4=true∧one y5=true∧one y6=true)∧r = .tup [.list true ((ordC b).1.map intC),.agg [.v y0,.v y1,.v y2,.v y3,.v y4,.v y5,.list true ((ordC b).2.edges.map intC),.list true ((ordC b).2.places.map intC),.v y6]]):=let ⟨_,hv⟩:=h;canonicalOrder_c hv hv.even hv.downs
theorem e54:Ent Tryz.prog 54:=Ent.of Tryz.func54 (by kernel_rfl) rfl
theorem e53:Ent Tryz.prog 53:=Ent.of Tryz.func53 (by kernel_rfl) rfl
theorem l5Order_walk (b:Big) (Z:(List Int)→Prop) (h:l5Order_wp b Z):PureC Tryz.prog 53 [.agg (bC false b)] (fun r=>∃ y:List Int,Z y∧r = .list true (y.map intC)):=by
 unfold l5Order_wp at h
 refine PureC.of Tryz.func53 rfl Tryz.ntmps53 (by simp) fun Q hQ=>?_
 refine Runs.cut (fun ρ H n=>ρ 0 = .agg (bC false b)) (by simp) ?_
 rintro ρ H n1 hh
 refine zE fun k' hk'=>?_
 simp[hh]
 apply hk'
 refine Runs.cut (fun ρ H n=>ρ 1=pA n1 1∧H (n1,1)=some ⟨6,[bC false b]⟩) (by refine⟨?_,?_⟩<;>simp[hh]) ?_
 clear hh
 rintro ρ H n3 ⟨hh,m1_1⟩
 refine Runs.seqD Ty_ok kindOp_ok draws (by decide) (by kernel_rfl) fun k' hk'=>?_
 obtain⟨len4,elen4,h⟩:=atm h
 have f5:=fun H=>len_list (H:=H) (fr:=false) (f:=(GNode.cells false)) kd_35 elen4
 obtain⟨hb6,h⟩:=h
 obtain⟨r7,er7,h⟩:=atm h
 simp[hh,m1_1,f5,-lenF]
 refine RunDK.callA Ty_ok kindOp_ok ((noneZ_ok len4 hb6).pure) e76 (.cons (.v _ _ _) .nil) (by decide) rfl (by simp[hh,m1_1,f5,-lenF]) ?_
 rw[← er7]
 obtain⟨hb8,h⟩:=h
 obtain⟨r9,er9,h⟩:=atm h
 simp[hh,m1_1,f5,-lenF]
 refine RunDK.callA Ty_ok kindOp_ok ((noneZ_ok b.edges hb8).pure) e76 (.cons (.v _ _ _) .nil) (by decide) rfl (by simp[hh,m1_1,f5,-lenF]) ?_
 rw[← er9]
 obtain⟨hb10,h⟩:=h
 obtain⟨r11,er11,h⟩:=atm h
 simp[hh,m1_1,f5,-lenF]
 refine RunDK.callA Ty_ok kindOp_ok ((bestZ_ok b r7 r9 0 hb10).pure) e97 (.cons (argB false b) (.cons (argI true r7) (.cons (argI true r9) (.cons (.v _ _ _) .nil)))) (by decide) rfl (by simp[hh,m1_1,f5,-lenF]) ?_
 rw[← er11]
 simp[hh,m1_1,f5,-lenF]
 apply hk'
 refine zE fun k' hk'=>?_
 simp[hh,m1_1]
 apply hk'
 refine Runs.cut (fun ρ H n=>ρ 2 = .list true (r11.2.map intC)) (by simp[hh,m1_1]) ?_
 clear hh m1_1
 rintro ρ H n12 hh
 exact Runs.ret1 (v:=.list true (r11.2.map intC)) Tryz.func53 Tryz.results53 (by simp[hh]) (hQ _ _ _ _ (.of (.fresh (by simp))) ⟨r11.2,h,rfl⟩)
theorem l5Order_ok (b:Big) (hp:l5Order_pre b):PureC Tryz.prog 53 [.agg (bC false b)] (fun r=>r = .list true ((l5Order b).map intC)):=(l5Order_walk b _ (l5Order_vc b hp)).mono (by rintro _ ⟨_,rfl,rfl⟩;rfl)
theorem e22:Ent Tryz.prog 22:=Ent.of Tryz.func22 (by kernel_rfl) rfl
theorem CanonicalOrder_walk (sig:List Control) (b:Big) (Z:((List Int) × Bool)→Prop) (h:CanonicalOrder_wp sig b Z):OwnS Tryz.prog 22 [.list false (sig.map Control.cells),.agg (bC false b)] (.t [.s [.c],.c]) (fun r=>∃ y:(List Int) × Bool,Z y∧r = .tup [.list true (y.1.map intC),bool y.2]):=by
 unfold CanonicalOrder_wp at h
 have sp:Sep noHeap 0 [] []:=Sep.nil (by simp)
 refine OwnS.of Tryz.func22 rfl Tryz.ntmps22 (by simp) fun Q hQ=>?_
 refine Runs.cut (fun ρ H n=>(ρ 0 = .list false (sig.map Control.cells)∧ρ 1 = .agg (bC false b))∧Sep H n [] []) (by refine⟨by simp ,sp⟩) ?_
 rintro ρ H n1 ⟨hh,sp⟩
 refine zE fun k' hk'=>?_
 simp[hh]
 apply hk'
 refine Runs.cut (fun ρ H n=>((ρ 0 = .list false (sig.map Control.cells)∧ρ 3=pA n1 3)∧H (n1,3)=some ⟨6,[bC false b]⟩)∧Sep H n [] [(n1,3)]) (by refine⟨by simp[hh],sp.var⟩) ?_
 clear hh
 rintro ρ H n3 ⟨⟨hh,m3_1⟩,sp⟩
 refine Runs.seq ?_
 refine zE fun k' hk'=>?_
 obtain⟨hb4,h⟩:=h
 obtain⟨r5,er5,h⟩:=atm h
 simp[hh,m3_1]
 refine RunK.callA Ty_ok (IsBigraph_ok sig b hb4) e43 (.cons (argC false sig) (.cons (argB false b) .nil)) (by decide) (by decide) rfl (by simp[hh,m3_1]) ?_
 rintro _ rfl
 rw[← er5]
 simp[hh,m3_1]
 apply hk'
 refine Runs.ite (b:=(!r5)) (by simp[hh,m3_1]) (fun dr5=>?_) (fun dr5=>?_)
 ·have dr5:r5=false:=by simpa using dr5
  replace h:=h.2 dr5
  refine zE fun k' hk'=>?_
  simp[hh,m3_1,dr5]
  apply hk'
  exact Runs.ret2 (v:=.v (.slice none 0 0)) (w:=bool false) Tryz.func22 Tryz.results22 (by simp[hh,m3_1,dr5]) (by simp[hh,m3_1,dr5]) (hQ _ _ _ _ (Sep.sub (ids':=[]) (Sep.packT (Fill.own (Fill.v _ Fill.nil)) (Sep.addNil sp)) (by simp)) ⟨([],false),h,rfl⟩)
 have dr5:r5=true:=by simpa using dr5
 replace h:=h.1 dr5
 refine Runs.skip ?_
 refine zE fun k' hk'=>?_
 obtain⟨hb8,h⟩:=h
 obtain⟨r9,er9,h⟩:=atm h
 simp[hh,m3_1,dr5]
 refine RunK.callA Ty_ok (ordC_ok b hb8) e54 (.cons (argB false b) .nil) (by decide) (by decide) rfl (by simp[hh,m3_1,dr5]) ?_
 rintro _ ⟨y10,y11,y12,y13,y14,y15,y16,⟨hy10,hy11,hy12,hy13,hy14,hy15,hy16⟩,rfl⟩
 simp only[one] at hy10 hy11 hy12 hy13 hy14 hy15 hy16
 rw[← er9]
 simp[hh,m3_1,hy10,hy11,hy12,hy13,hy14,hy15,hy16,dr5]
 apply hk'
 refine Runs.cut (fun ρ H n=>ρ 6 = .list true (r9.1.map intC)∧Sep H n [] []) (by refine⟨by simp[hh,m3_1,hy10,hy11,hy12,hy13,hy14,hy15,hy16,dr5],(Sep.sub sp.var (by simp +contextual))⟩) ?_
 clear hh m3_1 hy10 hy11 hy12 hy13 hy14 hy15 hy16
 rintro ρ H n18 ⟨hh,sp⟩
 refine zE fun k' hk'=>?_
 obtain⟨hb19,h⟩:=h
 obtain⟨r20,er20,h⟩:=atm h
 simp[hh]
 refine RunK.callW Ty_ok (cloneZ_ok r9.1 hb19) e55 (.cons (argI true r9.1) .nil) sp (by decide) (by decide) rfl (by simp[hh]) ?_
 rintro v21 H22 n23 _ sp rfl hle25 hfr24
 rw[← er20] at sp
 simp[hh]
 apply hk'
 refine Runs.cut (fun ρ H n=>∃ (v28:AVal),(ρ 4=v28∧ρ 5=bool true)∧Sep H n [oI v28 r20] []) (by refine⟨v21,by simp[hh],sp⟩) ?_
 clear hh
 rintro ρ H n29 ⟨v28,hh,sp⟩
 exact Runs.ret2 (v:=v28) (w:=bool true) Tryz.func22 Tryz.results22 (by simp[hh]) (by simp[hh]) (hQ _ _ _ _ (Sep.sub (ids':=[]) (Sep.packT (Fill.own (Fill.v _ Fill.nil)) sp) (by simp)) ⟨(r20,true),h,rfl⟩)
theorem CanonicalOrder_ok (sig:List Control) (b:Big) (hp:CanonicalOrder_pre sig b):OwnS Tryz.prog 22 [.list false (sig.map Control.cells),.agg (bC false b)] (.t [.s [.c],.c]) (fun r=>r = .tup [.list true (((CanonicalOrder sig b).1).map intC),bool ((CanonicalOrder sig b).2)]):=(CanonicalOrder_walk sig b _ (CanonicalOrder_vc sig b hp)).mono (by rintro _ ⟨_,rfl,rfl⟩;rfl)
theorem e21:Ent Tryz.prog 21:=Ent.of Tryz.func21 (by kernel_rfl) rfl
theorem sCanonicalOrder_walk (sig:List Control) (b:Big) (Z:((List Int) × Bool)→Prop) (h:sCanonicalOrder_wp sig b Z):PureC Tryz.prog 21 [.list false (sig.map Control.cells),.agg (bC false b)] (fun r=>∃ y:(List Int) × Bool,Z y∧r = .tup [.list true (y.1.map intC),bool y.2]):=by
 unfold sCanonicalOrder_wp at h
 refine PureC.of Tryz.func21 rfl Tryz.ntmps21 (by simp) fun Q hQ=>?_
 refine Runs.cut (fun ρ H n=>(ρ 0 = .list false (sig.map Control.cells)∧ρ 1 = .agg (bC false b))) (by simp) ?_
 rintro ρ H n1 hh
 refine zE fun k' hk'=>?_
 simp[hh]
 apply hk'
 refine Runs.cut (fun ρ H n=>(ρ 0 = .list false (sig.map Control.cells)∧ρ 3=pA n1 3)∧H (n1,3)=some ⟨6,[bC false b]⟩) (by refine⟨?_,?_⟩<;>simp[hh]) ?_
 clear hh
 rintro ρ H n3 ⟨hh,m3_1⟩
 refine Runs.seq ?_
 refine zE fun k' hk'=>?_
 obtain⟨hb4,h⟩:=h
 obtain⟨r5,er5,h⟩:=atm h
 simp[hh,m3_1]
 refine RunK.callA Ty_ok (l2Good_ok sig b hb4) e35 (.cons (argC false sig) (.cons (argB false b) .nil)) (by decide) (by decide) rfl (by simp[hh,m3_1]) ?_
 rintro _ rfl
 rw[← er5]
 simp[hh,m3_1]
 apply hk'
 refine Runs.ite (b:=(!r5)) (by simp[hh,m3_1]) (fun dr5=>?_) (fun dr5=>?_)
 ·have dr5:r5=false:=by simpa using dr5
  replace h:=h.2 dr5
  refine zE fun k' hk'=>?_
  simp[hh,m3_1,dr5]
  apply hk'
  refine Runs.cut (fun ρ H n=>(ρ 4 = .arr (n3,10) 0 0 0∧ρ 5=bool false)∧H (n3,10)=some ⟨1,([]:List Int).map intC⟩) (by refine⟨?_,?_⟩<;>simp[hh,m3_1,dr5]) ?_
  clear hh m3_1
  rintro ρ H n7 ⟨hh,m10_5⟩
  exact Runs.ret2 (v:=.arr (n3,10) 0 0 0) (w:=bool false) Tryz.func21 Tryz.results21 (by simp[hh,m10_5]) (by simp[hh,m10_5]) (hQ _ _ _ _ (.of (.tupL (.cons (.arrF (sz:=1) (els:=([]:List Int).map intC) (by simp[hh,m10_5,live]) (by simp)) (.cons (.v _) .nil)))) ⟨(([]:List Int),false),h,rfl⟩)
 have dr5:r5=true:=by simpa using dr5
 replace h:=h.1 dr5
 refine Runs.skip ?_
 refine zE fun k' hk'=>?_
 obtain⟨hb8,h⟩:=h
 obtain⟨r9,er9,h⟩:=atm h
 simp[hh,m3_1,dr5]
 refine RunK.callA Ty_ok (l5Order_ok b hb8) e53 (.cons (argB false b) .nil) (by decide) (by decide) rfl (by simp[hh,m3_1,dr5]) ?_
 rintro _ rfl
 rw[← er9]
 simp[hh,m3_1,dr5]
 apply hk'
 exact Runs.ret2 (v:=.list true (r9.map intC)) (w:=bool true) Tryz.func21 Tryz.results21 (by simp[hh,m3_1,dr5]) (by simp[hh,m3_1,dr5]) (hQ _ _ _ _ (.of (.tupL (.cons (.fresh (by simp)) (.cons (.v _) .nil)))) ⟨(r9,true),h,rfl⟩)
theorem sCanonicalOrder_ok (sig:List Control) (b:Big) (hp:sCanonicalOrder_pre sig b):PureC Tryz.prog 21 [.list false (sig.map Control.cells),.agg (bC false b)] (fun r=>r = .tup [.list true (((sCanonicalOrder sig b).1).map intC),bool ((sCanonicalOrder sig b).2)]):=(sCanonicalOrder_walk sig b _ (sCanonicalOrder_vc sig b hp)).mono (by rintro _ ⟨_,rfl,rfl⟩;rfl)
theorem e4:Ent Tryz.prog 4:=Ent.of Tryz.func4 (by kernel_rfl) rfl
set_option maxHeartbeats 4000000 in
theorem lawOrder_walk (aSig:List Control) (aB:Big) (Z:Bool→Prop) (h:lawOrder_wp aSig aB Z):PureC Tryz.prog 4 [.list false (aSig.map Control.cells),.agg (bC false aB)] (fun r=>∃ y:Bool,Z y∧r=bool y):=by
 unfold lawOrder_wp at h
 have sp:Sep noHeap 0 [] []:=Sep.nil (by simp)
 refine PureC.of Tryz.func4 rfl Tryz.ntmps4 (by simp) fun Q hQ=>?_
 refine Runs.cut (fun ρ H n=>(ρ 0 = .list false (aSig.map Control.cells)∧ρ 1 = .agg (bC false aB))∧Sep H n [] []) (by refine⟨by simp ,sp⟩) ?_
 rintro ρ H n1 ⟨hh,sp⟩
 refine zE fun k' hk'=>?_
 simp[hh]
 apply hk'
 refine Runs.cut (fun ρ H n=>((ρ 0 = .list false (aSig.map Control.cells)∧ρ 3=pA n1 3)∧H (n1,3)=some ⟨6,[bC false aB]⟩)∧Sep H n [] [(n1,3)]) (by refine⟨by simp[hh],sp.var⟩) ?_
 clear hh
 rintro ρ H n3 ⟨⟨hh,m3_1⟩,sp⟩
 refine zE fun k' hk'=>?_
 simp[hh,m3_1]
 apply hk'
 refine zE fun k' hk'=>?_
 obtain⟨hb4,h⟩:=h
 obtain⟨r5,er5,h⟩:=atm h
 simp[hh,m3_1]
 refine RunK.callA Ty_ok (szControlS_ok aSig 1048576 hb4.1.1 hb4.1.2 hb4.2.len hb4.2.names) e8 (.cons (argC false aSig) (.cons (.v _ _ _) .nil)) (by decide) (by decide) rfl (by simp[hh,m3_1]) ?_
 rintro _ rfl
 rw[← er5]
 simp[hh,m3_1]
 apply hk'
 refine Runs.seq ?_
 refine zE fun k' hk'=>?_
 obtain⟨c6,ec6,h⟩:=atm h
 have f7:=ib_lss (k:=.i64) ec6
 simp[hh,m3_1,f7,-intBin]
 apply hk'
 refine Runs.ite (b:=c6) (by simp[hh,m3_1]) (fun dc6=>?_) (fun dc6=>?_)
 ·replace h:=h.1 dc6
  refine zE fun k' hk'=>?_
  simp[hh,m3_1,dc6]
  apply hk'
  exact Runs.ret1 (v:=bool true) Tryz.func4 Tryz.results4 (by simp[hh,m3_1,dc6]) (hQ _ _ _ _ (.of (.v _)) ⟨true,h,rfl⟩)
 replace h:=h.2 dc6
 refine Runs.skip ?_
 refine zE fun k' hk'=>?_
 obtain⟨hb8,h⟩:=h
 obtain⟨r9,er9,h⟩:=atm h
 simp[hh,m3_1,dc6]
 refine RunK.callA Ty_ok (szBigraph_ok aB r5 hb8.1.1 hb8.1.2 hb8.2) e9 (.cons (argB false aB) (.cons (.v _ _ _) .nil)) (by decide) (by decide) rfl (by simp[hh,m3_1,dc6]) ?_
 rintro _ rfl
 rw[← er9]
 simp[hh,m3_1,dc6]
 apply hk'
 refine Runs.seq ?_
 refine zE fun k' hk'=>?_
 obtain⟨c10,ec10,h⟩:=atm h
 have f11:=ib_lss (k:=.i64) ec10
 simp[hh,m3_1,f11,dc6,-intBin]
 apply hk'
 refine Runs.ite (b:=c10) (by simp[hh,m3_1,dc6]) (fun dc10=>?_) (fun dc10=>?_)
 ·replace h:=h.1 dc10
  refine zE fun k' hk'=>?_
  simp[hh,m3_1,dc6,dc10]
  apply hk'
  exact Runs.ret1 (v:=bool true) Tryz.func4 Tryz.results4 (by simp[hh,m3_1,dc6,dc10]) (hQ _ _ _ _ (.of (.v _)) ⟨true,h,rfl⟩)
 replace h:=h.2 dc10
 refine Runs.skip ?_
 refine Runs.seqD Ty_ok kindOp_ok draws (by decide) (by kernel_rfl) fun k' hk'=>?_
 obtain⟨hb12,h⟩:=h
 obtain⟨r13,er13,h⟩:=atm h
 simp[hh,m3_1,dc6,dc10]
 refine RunDK.callA Ty_ok kindOp_ok ((toControlS_ok aSig hb12).pure) e11 (.cons (argC false aSig) .nil) (by decide) rfl (by simp[hh,m3_1,dc6,dc10]) ?_
 rw[← er13]
 obtain⟨hb14,h⟩:=h
 obtain⟨r15,er15,h⟩:=atm h
 simp[hh,m3_1,dc6,dc10]
 refine RunDK.callA Ty_ok kindOp_ok ((toBigraph_ok aB hb14).pure) e12 (.cons (argB false aB) .nil) (by decide) rfl (by simp[hh,m3_1,dc6,dc10]) ?_
 rw[← er15]
 obtain⟨hb16,h⟩:=h
 obtain⟨r17,er17,h⟩:=atm h
 simp[hh,m3_1,dc6,dc10]
 refine RunDK.callA Ty_ok kindOp_ok (sCanonicalOrder_ok r13 r15 hb16) e21 (.cons (argC true r13) (.cons (argB true r15) .nil)) (by decide) rfl (by simp[hh,m3_1,dc6,dc10]) ?_
 rw[← er17]
 simp[hh,m3_1,dc6,dc10]
 apply hk'
 refine Runs.cut (fun ρ H n=>((ρ 0 = .list false (aSig.map Control.cells)∧ρ 3=pA n1 3∧ρ 6 = .list true (r17.1.map intC)∧ρ 7=bool r17.2)∧H (n1,3)=some ⟨6,[bC false aB]⟩)∧Sep H n [] [(n1,3)]) (by refine⟨by simp[hh,m3_1,dc6,dc10],sp⟩) ?_
 clear hh m3_1
 rintro ρ H n18 ⟨⟨hh,m3_1⟩,sp⟩
 refine zE fun k' hk'=>?_
 obtain⟨hb19,h⟩:=h
 obtain⟨r20,er20,h⟩:=atm h
 simp[hh,m3_1]
 refine RunK.callW Ty_ok (toControlS_ok aSig hb19) e11 (.cons (argC false aSig) .nil) sp (by decide) (by decide) rfl (by simp[hh,m3_1]) ?_
 rintro v21 H22 n23 _ sp rfl hle25 hfr24
 rw[← er20] at sp
 have m3_1:=(hfr24 _ (by simp)).trans m3_1
 simp[hh,m3_1]
 apply hk'
 refine Runs.cut (fun ρ H n=>∃ (v28:AVal),((ρ 0 = .list false (aSig.map Control.cells)∧ρ 3=pA n1 3∧ρ 6 = .list true (r17.1.map intC)∧ρ 7=bool r17.2∧ρ 8=v28)∧H (n1,3)=some ⟨6,[bC false aB]⟩)∧Sep H n [oE [.c,.c,.c] Control.cells v28 r20] [(n1,3)]) (by refine⟨v21,by simp[hh,m3_1],sp⟩) ?_
 clear hh m3_1
 rintro ρ H n29 ⟨v28,⟨hh,m3_1⟩,sp⟩
 refine zE fun k' hk'=>?_
 obtain⟨hb30,h⟩:=h
 obtain⟨r31,er31,h⟩:=atm h
 simp[hh,m3_1]
 refine RunK.callW Ty_ok (toBigraph_ok aB hb30) e12 (.cons (argB false aB) .nil) sp (by decide) (by decide) rfl (by simp[hh,m3_1]) ?_
 rintro v32 H33 n34 _ sp rfl hle36 hfr35
 rw[← er31] at sp
 have m3_1:=(hfr35 _ (by simp)).trans m3_1
 replace sp:=Sep.unpack sp
 obtain⟨L44,hv,hl45,sp⟩:=sp
 subst hv
 obtain⟨v38,v39,v40,v41,v42,v43,hv⟩:=len6 (by simpa using hl45)
 subst hv
 simp only[zip3,List.cons_append,List.nil_append] at sp
 replace sp:=Sep.scalar sp
 obtain⟨hv,sp⟩:=sp
 subst hv
 replace sp:=Sep.rot sp
 try simp only[List.cons_append,List.nil_append,List.append_assoc] at sp
 replace sp:=Sep.rot sp
 try simp only[List.cons_append,List.nil_append,List.append_assoc] at sp
 replace sp:=Sep.scalar sp
 obtain⟨hv,sp⟩:=sp
 subst hv
 replace sp:=Sep.rot sp
 try simp only[List.cons_append,List.nil_append,List.append_assoc] at sp
 replace sp:=Sep.rot sp
 try simp only[List.cons_append,List.nil_append,List.append_assoc] at sp
 have f51:=Sep.oc sp.f1
 have f52:=Sep.oc sp.f2
 have f53:=Sep.oc sp.f3
 have f54:=Sep.oc sp.f4
 simp[hh,m3_1,f51,f52,f53,f54,-cellsA,-one1,cAx,o1x]
 apply hk'
 refine Runs.cut (fun ρ H n=>∃ (v55 v56 v57 v58 v59:AVal),((ρ 0 = .list false (aSig.map Control.cells)∧ρ 3=pA n1 3∧ρ 6 = .list true (r17.1.map intC)∧ρ 7=bool r17.2∧ρ 8=v55∧ρ 9=pA n34 9)∧H (n1,3)=some ⟨6,[bC false aB]⟩∧H (n34,9)=some ⟨6,[[int r31.roots,v56,v57,int r31.edges,v58,v59]]⟩)∧Sep H n [oE [.c,.c,.c] Control.cells v55 r20,oN v56 r31.nodes,oI v57 r31.sites,oS v58 r31.outer,oW v59 r31.inner] [(n34,9),(n1,3)]) (by refine⟨v28,v39,v40,v42,v43,by simp[hh,m3_1,f51,f52,f53,f54,-cellsA,-one1,cAx,o1x],sp.var⟩) ?_
 clear hh m3_1
 rintro ρ H n60 ⟨v55,v56,v57,v58,v59,⟨hh,m3_1,m9_49⟩,sp⟩
 refine zE fun k' hk'=>?_
 obtain⟨hb61,h⟩:=h
 obtain⟨r62,er62,h⟩:=atm h
 simp[hh,m3_1,m9_49]
 refine RunK.callW Ty_ok (CanonicalOrder_ok r20 r31 hb61) e22 (.cons (Sep.argOk' sp (old_listF (by simp))) (.cons (ArgOk.agg (.cons (.v _ _ _) (.cons (Sep.argOk' sp.f1 (old_nest_Node true r31.nodes)) (.cons (Sep.argOk' sp.f2 (old_listF (by simp))) (.cons (.v _ _ _) (.cons (Sep.argOk' sp.f3 (old_listF (by simp))) (.cons (Sep.argOk' sp.f4 (old_listF (by simp))) .nil))))))) .nil)) sp (by decide) (by decide) rfl (by simp[hh,m3_1,m9_49]) ?_
 rintro v63 H64 n65 _ sp rfl hle67 hfr66
 rw[← er62] at sp
 have m3_1:=(hfr66 _ (by simp)).trans m3_1
 have m9_49:=(hfr66 _ (by simp)).trans m9_49
 replace sp:=Sep.unpackT sp
 obtain⟨L71,hv,hl72,sp⟩:=sp
 subst hv
 obtain⟨v69,v70,hv⟩:=len2 (by simpa using hl72)
 subst hv
 simp only[zip3,List.cons_append,List.nil_append] at sp
 replace sp:=Sep.rot sp
 try simp only[List.cons_append,List.nil_append,List.append_assoc] at sp
 replace sp:=Sep.scalar sp
 obtain⟨hv,sp⟩:=sp
 subst hv
 simp[hh,m3_1,m9_49]
 apply hk'
 refine Runs.cut (fun ρ H n=>∃ (v74 v75 v76 v77 v78 v79:AVal),((ρ 0 = .list false (aSig.map Control.cells)∧ρ 3=pA n1 3∧ρ 6 = .list true (r17.1.map intC)∧ρ 7=bool r17.2∧ρ 8=v74∧ρ 9=pA n34 9∧ρ 10=v79∧ρ 11=bool r62.2)∧H (n1,3)=some ⟨6,[bC false aB]⟩∧H (n34,9)=some ⟨6,[[int r31.roots,v75,v76,int r31.edges,v77,v78]]⟩)∧Sep H n [oE [.c,.c,.c] Control.cells v74 r20,oN v75 r31.nodes,oI v76 r31.sites,oS v77 r31.outer,oW v78 r31.inner,oI v79 r62.1] [(n34,9),(n1,3)]) (by refine⟨v55,v56,v57,v58,v59,v69,by simp[hh,m3_1,m9_49],sp⟩) ?_
 clear hh m3_1 m9_49
 rintro ρ H n80 ⟨v74,v75,v76,v77,v78,v79,⟨hh,m3_1,m9_49⟩,sp⟩
 refine Runs.seq ?_
 refine zE fun k' hk'=>?_
 obtain⟨J81,hJ82,hr83⟩:=h
 have fin91:∀ (sJ:Bool) (ρ:Env) (H:Heap) (n:Nat),J81 sJ→(match sJ with | b84=>∃ (v85 v86 v87 v88 v89 v90:AVal),((ρ 0 = .list false (aSig.map Control.cells)∧ρ 3=pA n1 3∧ρ 6 = .list true (r17.1.map intC)∧ρ 7=bool r17.2∧ρ 8=v85∧ρ 9=pA n34 9∧ρ 10=v90∧ρ 11=bool r62.2∧ρ 53=bool b84)∧H (n1,3)=some ⟨6,[bC false aB]⟩∧H (n34,9)=some ⟨6,[[int r31.roots,v86,v87,int r31.edges,v88,v89]]⟩)∧Sep H n [oE [.c,.c,.c] Control.cells v85 r20,oN v86 r31.nodes,oI v87 r31.sites,oS v88 r31.outer,oW v89 r31.inner,oI v90 r62.1] [(n34,9),(n1,3)])→Runs Tryz.prog 4 119 k' ρ H n Q:=by
  rintro b84 ρ H n92 h ⟨v85,v86,v87,v88,v89,v90,⟨hh,m3_1,m9_49⟩,sp⟩
  replace h:=hr83 _ h
  apply hk'
  refine Runs.ite (b:=b84) (by simp[hh,m3_1,m9_49]) (fun db84=>?_) (fun db84=>?_)
  ·replace h:=h.1 db84
   refine zE fun k' hk'=>?_
   simp[hh,m3_1,m9_49,db84]
   apply hk'
   exact Runs.ret1 (v:=bool false) Tryz.func4 Tryz.results4 (by simp[hh,m3_1,m9_49,db84]) (hQ _ _ _ _ (.of (.v _)) ⟨false,h,rfl⟩)
  replace h:=h.2 db84
  refine Runs.skip ?_
  refine Runs.seq ?_
  refine zE fun k' hk'=>?_
  obtain⟨hb93,h⟩:=h
  obtain⟨r94,er94,h⟩:=atm h
  simp[hh,m3_1,m9_49,db84]
  refine RunK.callW Ty_ok (toControlS_ok aSig hb93) e11 (.cons (argC false aSig) .nil) sp (by decide) (by decide) rfl (by simp[hh,m3_1,m9_49,db84]) ?_
  rintro v95 H96 n97 _ sp rfl hle99 hfr98
  rw[← er94] at sp
  have m3_1:=(hfr98 _ (by simp)).trans m3_1
  have m9_49:=(hfr98 _ (by simp)).trans m9_49
  obtain⟨hb102,h⟩:=h
  obtain⟨r103,er103,h⟩:=atm h
  simp[hh,m3_1,m9_49,db84]
  refine RunK.callA Ty_ok (eqControlS_ok r20 r94 hb102) e15 (.cons (Sep.argOk' sp.f1 (old_listF (by simp))) (.cons (Sep.argOk' sp (old_listF (by simp))) .nil)) (by decide) (by decide) rfl (by simp[hh,m3_1,m9_49,db84]) ?_
  rintro _ rfl
  rw[← er103]
  simp[hh,m3_1,m9_49,db84]
  apply hk'
  refine Runs.cut (fun ρ H n=>∃ (v104 v105 v106 v107 v108 v109:AVal),((ρ 0 = .list false (aSig.map Control.cells)∧ρ 3=pA n1 3∧ρ 6 = .list true (r17.1.map intC)∧ρ 7=bool r17.2∧ρ 8=v104∧ρ 9=pA n34 9∧ρ 10=v109∧ρ 11=bool r62.2∧ρ 58=bool (!r103))∧H (n1,3)=some ⟨6,[bC false aB]⟩∧H (n34,9)=some ⟨6,[[int r31.roots,v105,v106,int r31.edges,v107,v108]]⟩)∧Sep H n [oE [.c,.c,.c] Control.cells v104 r20,oN v105 r31.nodes,oI v106 r31.sites,oS v107 r31.outer,oW v108 r31.inner,oI v109 r62.1] [(n34,9),(n1,3)]) (by refine⟨v85,v86,v87,v88,v89,v90,by simp[hh,m3_1,m9_49,db84],sp.dr⟩) ?_
  clear hh m3_1 m9_49
  rintro ρ H n110 ⟨v104,v105,v106,v107,v108,v109,⟨hh,m3_1,m9_49⟩,sp⟩
  refine Runs.ite (b:=(!r103)) (by simp[hh,m3_1,m9_49]) (fun dr103=>?_) (fun dr103=>?_)
  ·have dr103:r103=false:=by simpa using dr103
   replace h:=h.2 dr103
   refine zE fun k' hk'=>?_
   simp[hh,m3_1,m9_49,dr103]
   apply hk'
   exact Runs.ret1 (v:=bool false) Tryz.func4 Tryz.results4 (by simp[hh,m3_1,m9_49,dr103]) (hQ _ _ _ _ (.of (.v _)) ⟨false,h,rfl⟩)
  have dr103:r103=true:=by simpa using dr103
  replace h:=h.1 dr103
  refine Runs.skip ?_
  refine Runs.seq ?_
  refine Runs.seqD Ty_ok kindOp_ok draws (by decide) (by kernel_rfl) fun k' hk'=>?_
  obtain⟨hb111,h⟩:=h
  obtain⟨r112,er112,h⟩:=atm h
  simp[hh,m3_1,m9_49,dr103]
  refine RunDK.callA Ty_ok kindOp_ok ((toBigraph_ok aB hb111).pure) e12 (.cons (argB false aB) .nil) (by decide) rfl (by simp[hh,m3_1,m9_49,dr103]) ?_
  rw[← er112]
  obtain⟨hb113,h⟩:=h
  obtain⟨r114,er114,h⟩:=atm h
  simp[hh,m3_1,m9_49,dr103]
  refine RunDK.callA Ty_ok kindOp_ok (eqBigraph_ok r31 r112 hb113) e16 (.cons (ArgOk.agg (.cons (.v _ _ _) (.cons (Sep.argOk' sp.f1 (old_nest_Node true r31.nodes)) (.cons (Sep.argOk' sp.f2 (old_listF (by simp))) (.cons (.v _ _ _) (.cons (Sep.argOk' sp.f3 (old_listF (by simp))) (.cons (Sep.argOk' sp.f4 (old_listF (by simp))) .nil))))))) (.cons (argB true r112) .nil)) (by decide) rfl (by simp[hh,m3_1,m9_49,dr103]) ?_
  rw[← er114]
  simp[hh,m3_1,m9_49,dr103]
  apply hk'
  refine Runs.ite (b:=(!r114)) (by simp[hh,m3_1,m9_49,dr103]) (fun dr114=>?_) (fun dr114=>?_)
  ·have dr114:r114=false:=by simpa using dr114
   replace h:=h.2 dr114
   refine zE fun k' hk'=>?_
   simp[hh,m3_1,m9_49,dr103,dr114]
   apply hk'
   exact Runs.ret1 (v:=bool false) Tryz.func4 Tryz.results4 (by simp[hh,m3_1,m9_49,dr103,dr114]) (hQ _ _ _ _ (.of (.v _)) ⟨false,h,rfl⟩)
  have dr114:r114=true:=by simpa using dr114
  replace h:=h.1 dr114
  refine Runs.skip ?_
  refine zE fun k' hk'=>?_
  simp[hh,m3_1,m9_49,dr103,dr114]
  apply hk'
  refine zE fun k' hk'=>?_
  obtain⟨hb115,h⟩:=h
  obtain⟨r116,er116,h⟩:=atm h
  have f117:=Sep.oc sp
  simp[hh,m3_1,m9_49,f117,dr103,dr114,-cellsA,-one1,cAx,o1x]
  refine RunK.callM (v:=v104) Ty_ok (markControlS_ok r20 1 hb115) e17 sp (by decide) (by decide) rfl (by simp[hh,m3_1,m9_49,f117,dr103,dr114,-cellsA,-one1,cAx,o1x]) ?_
  rintro _ H118 n119 _ ⟨rfl,rfl⟩ sp hle121 hfr120
  rw[← er116] at sp
  rw[← er116]
  replace sp:Sep H118 n119 [oE [.c,.c,.c] Control.cells v104 r116.1,oN v105 r31.nodes,oI v106 r31.sites,oS v107 r31.outer,oW v108 r31.inner,oI v109 r62.1] [(n34,9),(n1,3)]:=sp
  have m3_1:=(hfr120 _ (by simp)).trans m3_1
  have m9_49:=(hfr120 _ (by simp)).trans m9_49
  simp[hh,m3_1,m9_49,f117,dr103,dr114,-cellsA,-one1,cAx,o1x]
  apply hk'
  refine Runs.cut (fun ρ H n=>∃ (v123 v124 v125 v126 v127:AVal),((ρ 0 = .list false (aSig.map Control.cells)∧ρ 3=pA n1 3∧ρ 6 = .list true (r17.1.map intC)∧ρ 7=bool r17.2∧ρ 9=pA n34 9∧ρ 10=v127∧ρ 11=bool r62.2∧ρ 12=int r116.2)∧H (n1,3)=some ⟨6,[bC false aB]⟩∧H (n34,9)=some ⟨6,[[int r31.roots,v123,v124,int r31.edges,v125,v126]]⟩)∧Sep H n [oN v123 r31.nodes,oI v124 r31.sites,oS v125 r31.outer,oW v126 r31.inner,oI v127 r62.1] [(n34,9),(n1,3)]) (by refine⟨v105,v106,v107,v108,v109,by simp[hh,m3_1,m9_49,f117,dr103,dr114,-cellsA,-one1,cAx,o1x],sp.dr⟩) ?_
  clear hh m3_1 m9_49
  rintro ρ H n128 ⟨v123,v124,v125,v126,v127,⟨hh,m3_1,m9_49⟩,sp⟩
  refine zE fun k' hk'=>?_
  obtain⟨hb129,h⟩:=h
  obtain⟨r130,er130,h⟩:=atm h
  have f131:=Sep.oc sp
  have f132:=Sep.oc sp.f1
  have f133:=Sep.oc sp.f2
  have f134:=Sep.oc sp.f3
  simp[hh,m3_1,m9_49,f131,f132,f133,f134,-cellsA,-one1,cAx,o1x]
  refine RunK.callM (v:=.agg [int r31.roots,v123,v124,int r31.edges,v125,v126]) Ty_ok (markBig_ok r31 r116.2 hb129) e18 (Sep.pack (Fill.v _ (Fill.own (Fill.own (Fill.v _ (Fill.own (Fill.own Fill.nil)))))) sp) (by decide) (by decide) rfl (by simp[hh,m3_1,m9_49,f131,f132,f133,f134,-cellsA,-one1,cAx,o1x]) ?_
  rintro _ H135 n136 _ ⟨rfl,rfl⟩ sp hle138 hfr137
  rw[← er130] at sp
  rw[← er130]
  replace sp:=Sep.unpack sp
  obtain⟨L139,hv,hl140,sp⟩:=sp
  cases hv
  simp only[zip3,List.cons_append,List.nil_append] at sp
  replace sp:=(Sep.scalar sp).2
  replace sp:=Sep.rot sp
  try simp only[List.cons_append,List.nil_append,List.append_assoc] at sp
  replace sp:=Sep.rot sp
  try simp only[List.cons_append,List.nil_append,List.append_assoc] at sp
  replace sp:=(Sep.scalar sp).2
  replace sp:=Sep.rot sp
  try simp only[List.cons_append,List.nil_append,List.append_assoc] at sp
  replace sp:=Sep.rot sp
  try simp only[List.cons_append,List.nil_append,List.append_assoc] at sp
  replace sp:Sep H135 n136 [oI v127 r62.1,oN v123 r130.1.nodes,oI v124 r130.1.sites,oS v125 r130.1.outer,oW v126 r130.1.inner] [(n34,9),(n1,3)]:=sp
  have m3_1:=(hfr137 _ (by simp)).trans m3_1
  have m9_49:=(hfr137 _ (by simp)).trans m9_49
  simp[hh,m3_1,m9_49,f131,f132,f133,f134,-cellsA,-one1,cAx,o1x]
  apply hk'
  refine Runs.cut (fun ρ H n=>∃ (v142:AVal),((ρ 0 = .list false (aSig.map Control.cells)∧ρ 3=pA n1 3∧ρ 6 = .list true (r17.1.map intC)∧ρ 7=bool r17.2∧ρ 10=v142∧ρ 11=bool r62.2∧ρ 12=int r130.2)∧H (n1,3)=some ⟨6,[bC false aB]⟩)∧Sep H n [oI v142 r62.1] [(n1,3)]) (by refine⟨v127,by simp[hh,m3_1,m9_49,f131,f132,f133,f134,-cellsA,-one1,cAx,o1x],(Sep.sub sp.f1.dr.f1.dr.f1.dr.f1.dr (by simp +contextual))⟩) ?_
  clear hh m3_1 m9_49
  rintro ρ H n143 ⟨v142,⟨hh,m3_1⟩,sp⟩
  refine Runs.seq ?_
  refine zE fun k' hk'=>?_
  obtain⟨J144,hJ145,hr146⟩:=h
  have fin149:∀ (sJ:Bool) (ρ:Env) (H:Heap) (n:Nat),J144 sJ→(match sJ with | b147=>∃ (v148:AVal),((ρ 0 = .list false (aSig.map Control.cells)∧ρ 3=pA n1 3∧ρ 6 = .list true (r17.1.map intC)∧ρ 7=bool r17.2∧ρ 10=v148∧ρ 82=bool b147)∧H (n1,3)=some ⟨6,[bC false aB]⟩)∧Sep H n [oI v148 r62.1] [(n1,3)])→Runs Tryz.prog 4 119 k' ρ H n Q:=by
   rintro b147 ρ H n150 h ⟨v148,⟨hh,m3_1⟩,sp⟩
   replace h:=hr146 _ h
   apply hk'
   refine Runs.ite (b:=b147) (by simp[hh,m3_1]) (fun db147=>?_) (fun db147=>?_)
   ·replace h:=h.1 db147
    refine zE fun k' hk'=>?_
    simp[hh,m3_1,db147]
    apply hk'
    exact Runs.ret1 (v:=bool false) Tryz.func4 Tryz.results4 (by simp[hh,m3_1,db147]) (hQ _ _ _ _ (.of (.v _)) ⟨false,h,rfl⟩)
   replace h:=h.2 db147
   refine Runs.skip ?_
   refine zE fun k' hk'=>?_
   simp[hh,m3_1,db147]
   apply hk'
   refine zE fun k' hk'=>?_
   obtain⟨hb151,h⟩:=h
   obtain⟨r152,er152,h⟩:=atm h
   have f153:=Sep.oc sp
   simp[hh,m3_1,f153,db147,-cellsA,-one1,cAx,o1x]
   refine RunK.callM (v:=v148) Ty_ok (markIntS_ok r62.1 1 hb151) e19 sp (by decide) (by decide) rfl (by simp[hh,m3_1,f153,db147,-cellsA,-one1,cAx,o1x]) ?_
   rintro _ H154 n155 _ ⟨rfl,rfl⟩ sp hle157 hfr156
   rw[← er152] at sp
   rw[← er152]
   replace sp:Sep H154 n155 [oI v148 r152.1] [(n1,3)]:=sp
   have m3_1:=(hfr156 _ (by simp)).trans m3_1
   simp[hh,m3_1,f153,db147,-cellsA,-one1,cAx,o1x]
   apply hk'
   refine Runs.cut (fun ρ H n=>∃ (v159:AVal),((ρ 0 = .list false (aSig.map Control.cells)∧ρ 3=pA n1 3∧ρ 6 = .list true (r17.1.map intC)∧ρ 7=bool r17.2∧ρ 10=v159∧ρ 13=int r152.2)∧H (n1,3)=some ⟨6,[bC false aB]⟩)∧Sep H n [oI v159 r152.1] [(n1,3)]) (by refine⟨v148,by simp[hh,m3_1,f153,db147,-cellsA,-one1,cAx,o1x],sp⟩) ?_
   clear hh m3_1
   rintro ρ H n160 ⟨v159,⟨hh,m3_1⟩,sp⟩
   refine zE fun k' hk'=>?_
   simp[hh,m3_1]
   apply hk'
   refine zE fun k' hk'=>?_
   obtain⟨hb161,h⟩:=h
   obtain⟨r162,er162,h⟩:=atm h
   simp[hh,m3_1]
   refine RunK.callA Ty_ok (heldIntS_ok r152.1 1 hb161) e20 (.cons (Sep.argOk' sp (old_listF (by simp))) (.cons (.v _ _ _) .nil)) (by decide) (by decide) rfl (by simp[hh,m3_1]) ?_
   rintro _ rfl
   rw[← er162]
   simp[hh,m3_1]
   apply hk'
   refine Runs.seq ?_
   refine zE fun k' hk'=>?_
   obtain⟨c163,ec163,h⟩:=atm h
   have f164:=ib_lss (k:=.i64) ec163
   simp[hh,m3_1,f164,-intBin]
   apply hk'
   refine Runs.ite (b:=c163) (by simp[hh,m3_1]) (fun dc163=>?_) (fun dc163=>?_)
   ·replace h:=h.1 dc163
    refine zE fun k' hk'=>?_
    simp[hh,m3_1,dc163]
    apply hk'
    exact Runs.ret1 (v:=bool false) Tryz.func4 Tryz.results4 (by simp[hh,m3_1,dc163]) (hQ _ _ _ _ (.of (.v _)) ⟨false,h,rfl⟩)
   replace h:=h.2 dc163
   refine Runs.skip ?_
   refine Runs.seq ?_
   refine zE fun k' hk'=>?_
   obtain⟨c165,ec165,h⟩:=atm h
   have f166:=ib_neq (k:=.i64) ec165
   simp[hh,m3_1,f166,dc163,-intBin]
   apply hk'
   refine Runs.ite (b:=c165) (by simp[hh,m3_1,dc163]) (fun dc165=>?_) (fun dc165=>?_)
   ·replace h:=h.1 dc165
    refine zE fun k' hk'=>?_
    simp[hh,m3_1,dc163,dc165]
    apply hk'
    exact Runs.ret1 (v:=bool false) Tryz.func4 Tryz.results4 (by simp[hh,m3_1,dc163,dc165]) (hQ _ _ _ _ (.of (.v _)) ⟨false,h,rfl⟩)
   replace h:=h.2 dc165
   refine Runs.skip ?_
   refine Runs.seqD Ty_ok kindOp_ok draws (by decide) (by kernel_rfl) fun k' hk'=>?_
   obtain⟨hb167,h⟩:=h
   obtain⟨r168,er168,h⟩:=atm h
   simp[hh,m3_1,dc163,dc165]
   refine RunDK.callA Ty_ok kindOp_ok ((toControlS_ok aSig hb167).pure) e11 (.cons (argC false aSig) .nil) (by decide) rfl (by simp[hh,m3_1,dc163,dc165]) ?_
   rw[← er168]
   obtain⟨hb169,h⟩:=h
   obtain⟨r170,er170,h⟩:=atm h
   simp[hh,m3_1,dc163,dc165]
   refine RunDK.callA Ty_ok kindOp_ok ((toBigraph_ok aB hb169).pure) e12 (.cons (argB false aB) .nil) (by decide) rfl (by simp[hh,m3_1,dc163,dc165]) ?_
   rw[← er170]
   obtain⟨hb171,h⟩:=h
   obtain⟨r172,er172,h⟩:=atm h
   simp[hh,m3_1,dc163,dc165]
   refine RunDK.callA Ty_ok kindOp_ok ((CanonicalOrder_ok r168 r170 hb171).pure) e22 (.cons (argC true r168) (.cons (argB true r170) .nil)) (by decide) rfl (by simp[hh,m3_1,dc163,dc165]) ?_
   rw[← er172]
   simp[hh,m3_1,dc163,dc165]
   apply hk'
   refine Runs.cut (fun ρ H n=>∃ (v173:AVal),(ρ 6 = .list true (r17.1.map intC)∧ρ 7=bool r17.2∧ρ 10=v173∧ρ 13=int r152.2∧ρ 15 = .list true (r172.1.map intC)∧ρ 16=bool r172.2)∧Sep H n [oI v173 r152.1] []) (by refine⟨v159,by simp[hh,m3_1,dc163,dc165],(Sep.sub sp (by simp +contextual))⟩) ?_
   clear hh m3_1
   rintro ρ H n174 ⟨v173,hh,sp⟩
   refine Runs.seq ?_
   refine zE fun k' hk'=>?_
   obtain⟨J175,hJ176,hr177⟩:=h
   have fin180:∀ (sJ:Bool) (ρ:Env) (H:Heap) (n:Nat),J175 sJ→(match sJ with | b178=>∃ (v179:AVal),(ρ 10=v179∧ρ 13=int r152.2∧ρ 110=bool b178)∧Sep H n [oI v179 r152.1] [])→Runs Tryz.prog 4 119 k' ρ H n Q:=by
    rintro b178 ρ H n181 h ⟨v179,hh,sp⟩
    replace h:=hr177 _ h
    apply hk'
    refine Runs.ite (b:=b178) (by simp[hh]) (fun db178=>?_) (fun db178=>?_)
    ·replace h:=h.1 db178
     refine zE fun k' hk'=>?_
     simp[hh,db178]
     apply hk'
     exact Runs.ret1 (v:=bool false) Tryz.func4 Tryz.results4 (by simp[hh,db178]) (hQ _ _ _ _ (.of (.v _)) ⟨false,h,rfl⟩)
    replace h:=h.2 db178
    refine Runs.skip ?_
    refine zE fun k' hk'=>?_
    simp[hh,db178]
    apply hk'
    refine zE fun k' hk'=>?_
    obtain⟨hb182,h⟩:=h
    obtain⟨r183,er183,h⟩:=atm h
    simp[hh,db178]
    refine RunK.callA Ty_ok (heldIntS_ok r152.1 1 hb182) e20 (.cons (Sep.argOk' sp (old_listF (by simp))) (.cons (.v _ _ _) .nil)) (by decide) (by decide) rfl (by simp[hh,db178]) ?_
    rintro _ rfl
    rw[← er183]
    simp[hh,db178]
    apply hk'
    refine Runs.seq ?_
    refine zE fun k' hk'=>?_
    obtain⟨c184,ec184,h⟩:=atm h
    have f185:=ib_lss (k:=.i64) ec184
    simp[hh,f185,db178,-intBin]
    apply hk'
    refine Runs.ite (b:=c184) (by simp[hh,db178]) (fun dc184=>?_) (fun dc184=>?_)
    ·replace h:=h.1 dc184
     refine zE fun k' hk'=>?_
     simp[hh,db178,dc184]
     apply hk'
     exact Runs.ret1 (v:=bool false) Tryz.func4 Tryz.results4 (by simp[hh,db178,dc184]) (hQ _ _ _ _ (.of (.v _)) ⟨false,h,rfl⟩)
    replace h:=h.2 dc184
    refine Runs.skip ?_
    refine Runs.seq ?_
    refine zE fun k' hk'=>?_
    obtain⟨c186,ec186,h⟩:=atm h
    have f187:=ib_neq (k:=.i64) ec186
    simp[hh,f187,db178,dc184,-intBin]
    apply hk'
    refine Runs.ite (b:=c186) (by simp[hh,db178,dc184]) (fun dc186=>?_) (fun dc186=>?_)
    ·replace h:=h.1 dc186
     refine zE fun k' hk'=>?_
     simp[hh,db178,dc184,dc186]
     apply hk'
     exact Runs.ret1 (v:=bool false) Tryz.func4 Tryz.results4 (by simp[hh,db178,dc184,dc186]) (hQ _ _ _ _ (.of (.v _)) ⟨false,h,rfl⟩)
    replace h:=h.2 dc186
    refine Runs.skip ?_
    refine zE fun k' hk'=>?_
    simp[hh,db178,dc184,dc186]
    apply hk'
    exact Runs.ret1 (v:=bool true) Tryz.func4 Tryz.results4 (by simp[hh,db178,dc184,dc186]) (hQ _ _ _ _ (.of (.v _)) ⟨true,h,rfl⟩)
   replace h:=hJ176
   obtain⟨hb188,h⟩:=h
   obtain⟨r189,er189,h⟩:=atm h
   simp[hh]
   refine RunK.callA Ty_ok (eqIntS_ok r172.1 r17.1 hb188) e14 (.cons (argI true r172.1) (.cons (argI true r17.1) .nil)) (by decide) (by decide) rfl (by simp[hh]) ?_
   rintro _ rfl
   rw[← er189]
   rcases Bool.eq_false_or_eq_true r189 with dr189 | dr189
   ·replace h:=h.1 dr189
    obtain⟨c190,ec190,h⟩:=atm h
    have f191:=bb_neq ec190
    simp[hh,f191,dr189,-boolBin]
    exact fin180 (c190) _ _ _ h (by refine⟨v173,by simp[hh,f191,dr189,-boolBin],sp⟩)
   replace h:=h.2 dr189
   simp[hh,dr189]
   exact fin180 (true) _ _ _ h (by refine⟨v173,by simp[hh,dr189],sp⟩)
  replace h:=hJ145
  obtain⟨c192,ec192,h⟩:=atm h
  have f193:=ib_lss (k:=.i64) ec192
  rcases Bool.eq_false_or_eq_true c192 with dc192 | dc192
  ·replace h:=h.1 dc192
   simp[hh,m3_1,f193,dc192,-intBin]
   exact fin149 (true) _ _ _ h (by refine⟨v142,by simp[hh,m3_1,f193,dc192,-intBin],sp⟩)
  replace h:=h.2 dc192
  obtain⟨hb194,h⟩:=h
  obtain⟨r195,er195,h⟩:=atm h
  simp[hh,m3_1,f193,dc192,-intBin]
  refine RunK.callA Ty_ok (eqIntS_ok r62.1 r17.1 hb194) e14 (.cons (Sep.argOk' sp (old_listF (by simp))) (.cons (argI true r17.1) .nil)) (by decide) (by decide) rfl (by simp[hh,m3_1,f193,dc192,-intBin]) ?_
  rintro _ rfl
  rw[← er195]
  rcases Bool.eq_false_or_eq_true r195 with dr195 | dr195
  ·replace h:=h.1 dr195
   obtain⟨c196,ec196,h⟩:=atm h
   have f197:=bb_neq ec196
   simp[hh,m3_1,f193,f197,dc192,dr195,-boolBin,-intBin]
   exact fin149 (c196) _ _ _ h (by refine⟨v142,by simp[hh,m3_1,f193,f197,dc192,dr195,-boolBin,-intBin],sp⟩)
  replace h:=h.2 dr195
  simp[hh,m3_1,f193,dc192,dr195,-intBin]
  exact fin149 (true) _ _ _ h (by refine⟨v142,by simp[hh,m3_1,f193,dc192,dr195,-intBin],sp⟩)
 replace h:=hJ82
 obtain⟨hb198,h⟩:=h
 obtain⟨r199,er199,h⟩:=atm h
 simp[hh,m3_1,m9_49]
 refine RunK.callA Ty_ok (eqIntS_ok r62.1 r17.1 hb198) e14 (.cons (Sep.argOk' sp.f5 (old_listF (by simp))) (.cons (argI true r17.1) .nil)) (by decide) (by decide) rfl (by simp[hh,m3_1,m9_49]) ?_
 rintro _ rfl
 rw[← er199]
 rcases Bool.eq_false_or_eq_true r199 with dr199 | dr199
 ·replace h:=h.1 dr199
  obtain⟨c200,ec200,h⟩:=atm h
  have f201:=bb_neq ec200
  simp[hh,m3_1,m9_49,f201,dr199,-boolBin]
  exact fin91 (c200) _ _ _ h (by refine⟨v74,v75,v76,v77,v78,v79,by simp[hh,m3_1,m9_49,f201,dr199,-boolBin],sp⟩)
 replace h:=h.2 dr199
 simp[hh,m3_1,m9_49,dr199]
 exact fin91 (true) _ _ _ h (by refine⟨v74,v75,v76,v77,v78,v79,by simp[hh,m3_1,m9_49,dr199],sp⟩)
theorem lawOrder_ok (aSig:List Control) (aB:Big) (hp:lawOrder_pre aSig aB):PureC Tryz.prog 4 [.list false (aSig.map Control.cells),.agg (bC false aB)] (fun r=>r=bool (lawOrder aSig aB)):=(lawOrder_walk aSig aB _ (lawOrder_vc aSig aB hp)).mono (by rintro _ ⟨_,rfl,rfl⟩;rfl)
end Go.Ab.Vg
/- The contract of laws.FnExactCanonicalOrder: it answers true. -/
namespace Go.Ab
open Go.Proofs
theorem exactCanonicalOrder_ok (a0:Sig) (a1:Big) (h0:HugeS a0) (h1:HugeB a1):PureC Tryz.prog 4 [encSig false a0,encB false a1] (fun r=>r=bool true):=Vg.lawOrder_ok a0 a1 ⟨h0,h1⟩
end Go.Ab
