/- Merged texts (13 of 15) of the proof that ends in Lly: Nmw Mdw Muw Cow Mpw Emw. -/
import Derived.Test.YtbpdcoahefnnkaaGreatDoorAbQll12
/- Walks by program for YtbpdcoahefnnkaaGreatDoorAbNm. -/
namespace Go.Ab.Vg
open Go.Proofs
set_option maxRecDepth 100000
set_option linter.unusedSimpArgs false
set_option linter.unusedVariables false
attribute [local simp] GNode.cells Wire.cells intC sliceC strC bC pA
theorem e82:Ent Tryz.prog 82:=Ent.of Tryz.func82 (by kernel_rfl) rfl
theorem markNodeS_walk (a:List GNode) (k_:Int) (Z:((List GNode) × Int)→Prop) (h:markNodeS_wp a k_ Z):MutS Tryz.prog 82 (fun v=>[v,int k_]) (.s [.c,.c,.s [.c]]) (.list true (a.map (GNode.cells true))) (fun e' r=>∃ y:(List GNode) × Int,Z y∧e' = .list true (y.1.map (GNode.cells true))∧r=int y.2):=by
 unfold markNodeS_wp at h
 refine MutS.of Tryz.func82 rfl Tryz.ntmps82 (fun _=>by simp) fun H0 n0 v0 K0 ids0 sp Q hQ=>?_
 have h00:=sp.1
 have hid:∀ i ∈ ids0,H0 i=H0 i:=fun _ _=>rfl
 have hnn:n0≤n0:=Nat.le_refl _
 refine Runs.cut (fun ρ H n=>(ρ 0=v0∧ρ 1=int k_)∧n0≤n∧(∀ i ∈ ids0,H i=H0 i)∧Sep H n (oN v0 a::K0) (ids0)) (by refine⟨?_,(by omega),hid,sp⟩<;>simp ) ?_
 rintro ρ H n2 ⟨hh,hnn,hid,sp⟩
 have hq_n2:=hnn
 refine zE fun k' hk'=>?_
 simp[hh]
 apply hk'
 refine Runs.seq ?_
 refine zE fun k' hk'=>?_
 simp[hh]
 apply hk'
 refine Runs.block ?_
 refine Runs.loopW h (fun (sJ:Int × Int × (List GNode)) ρ H n=>match sJ with | (k10,i11,l12)=>(ρ 0=v0∧ρ 1=int k10∧ρ 5=int i11)∧n0≤n∧(∀ i ∈ ids0,H i=H0 i)∧Sep H n (oN v0 l12::K0) (ids0)) (by refine⟨?_,(by omega),hid,sp⟩<;>simp[hh]) ?_
 clear hh
 rintro⟨k10,i11,l12⟩ ρ H n13 K h ⟨hh,hnn,hid,sp⟩ IH14
 have hq_n13:=hnn
 refine Runs.seq ?_
 refine zE fun k' hk'=>?_
 obtain⟨len16,elen16,h⟩:=atm h
 have f17:=len_own (Sep.len (m:=len16) sp kd_44 (by rw[elen16,List.length_map]))
 obtain⟨c18,ec18,h⟩:=atm h
 have f19:=ib_lss (k:=.i64) ec18
 simp[hh,f17,f19,-intBin,-lenF]
 apply hk'
 refine Runs.ite (b:=c18) (by simp[hh]) (fun dc18=>?_) (fun dc18=>?_)
 ·replace h:=h.1 dc18
  refine Runs.skip ?_
  refine Runs.seq ?_
  refine Runs.block ?_
  refine zE fun k' hk'=>?_
  obtain⟨hb20,h⟩:=h
  obtain⟨x21,ex21,h⟩:=atm h
  obtain⟨id22,els23,row24,W25,hq26,mo27,moL28,moR29,hrl30,hW31,hsub32,hni33,spr34,hcl35⟩:=Sep.rowF (q:=i11.toNat) (f:=(GNode.cells true)) sp hb20 ex21 rfl
  subst hq26
  obtain⟨c36,c37,c38,hq26⟩:=len3 (by simpa using hrl30)
  subst hq26
  replace spr34:Sep _ _ [(.c,c36,int x21.control),(.c,c37,int x21.parent),(.s [.c],c38,.list true (x21.links.map intC))] W25:=spr34
  obtain rfl:=Sep.cAt (K1:=[]) (K2:=[(.c,c37,int x21.parent),(.s [.c],c38,.list true (x21.links.map intC))]) spr34
  obtain rfl:=Sep.cAt (K1:=[(.c,int x21.control,int x21.control)]) (K2:=[(.s [.c],c38,.list true (x21.links.map intC))]) spr34
  have f39:=ix_arr (k:=.i64) (off:=0) (len:=l12.length) kd_44 mo27 moL28 rfl hb20
  obtain⟨l40,el40,h⟩:=atm h
  simp[hh,mo27,moL28,moR29,f39,dc18,-indexAddrF,-storeF]
  refine bind_cell (i:=ty3) (q:=i11.toNat) (off:=0) (ix:=i11) (x:=x21) (y:=(GNode.mk k10 x21.parent x21.links)) (f:=(GNode.cells true)) [] [.c,.s [.c]] [] [int x21.parent,.list true (x21.links.map intC)] sp rfl rfl hb20 ex21 rfl rfl rfl rfl rfl rfl rfl ?_
  rintro H41 sp hfr42
  replace sp:Sep H41 n13 (oN (.arr id22 l12.length 0 l12.length) l40::K0) (ids0):=by rw[el40];exact sp
  have hid:∀ i ∈ ids0,H41 i=H0 i:=fun i hi=>(hfr42 i (by simp[hi])).trans (hid i hi)
  simp[hh,f39,dc18,-indexAddrF]
  apply hk'
  refine Runs.cut (fun ρ H n=>(ρ 0 = .arr id22 l12.length 0 l12.length∧ρ 1=int k10∧ρ 5=int i11)∧n0≤n∧(∀ i ∈ ids0,H i=H0 i)∧Sep H n (oN (.arr id22 l12.length 0 l12.length) l40::K0) (ids0)) (by refine⟨?_,(by omega),hid,sp⟩<;>simp[hh,f39,dc18,-indexAddrF]) ?_
  clear hh
  rintro ρ H n44 ⟨hh,hnn,hid,sp⟩
  have hq_n44:=hnn
  refine zE fun k' hk'=>?_
  obtain⟨hb45,h⟩:=h
  obtain⟨v46,ev46,h⟩:=atm h
  have f47:=ib_add hb45 ev46
  simp[hh,f47,-intBin]
  apply hk'
  refine zE fun k' hk'=>?_
  obtain⟨hb48,h⟩:=h
  obtain⟨x49,ex49,h⟩:=atm h
  obtain⟨id50,els51,row52,W53,hq54,mo55,moL56,moR57,hrl58,hW59,hsub60,hni61,spr62,hcl63⟩:=Sep.rowF (q:=i11.toNat) (f:=(GNode.cells true)) sp hb48 ex49 rfl
  simp only[AVal.arr.injEq] at hq54
  obtain⟨hq54,hln64,-⟩:=hq54
  subst hq54
  replace moL56:=moL56.trans hln64.symm
  obtain⟨c65,c66,c67,hq54⟩:=len3 (by simpa using hrl58)
  subst hq54
  replace spr62:Sep _ _ [(.c,c65,int x49.control),(.c,c66,int x49.parent),(.s [.c],c67,.list true (x49.links.map intC))] W53:=spr62
  obtain rfl:=Sep.cAt (K1:=[]) (K2:=[(.c,c66,int x49.parent),(.s [.c],c67,.list true (x49.links.map intC))]) spr62
  obtain rfl:=Sep.cAt (K1:=[(.c,int x49.control,int x49.control)]) (K2:=[(.s [.c],c67,.list true (x49.links.map intC))]) spr62
  have f68:=ix_arr (k:=.i64) (off:=0) (len:=l12.length) kd_44 mo55 moL56 rfl (by rw[hln64];exact hb48)
  obtain⟨l69,el69,h⟩:=atm h
  simp[hh,mo55,moL56,moR57,f68,-indexAddrF,-storeF]
  refine bind_cell (i:=ty3) (q:=i11.toNat) (off:=1) (ix:=i11) (x:=x49) (y:=(GNode.mk x49.control v46 x49.links)) (f:=(GNode.cells true)) [.c] [.s [.c]] [int x49.control] [.list true (x49.links.map intC)] sp rfl rfl hb48 ex49 rfl hln64 rfl rfl rfl rfl rfl ?_
  rintro H70 sp hfr71
  replace sp:Sep H70 n44 (oN (.arr id22 l12.length 0 l12.length) l69::K0) (ids0):=by rw[el69];exact sp
  have hid:∀ i ∈ ids0,H70 i=H0 i:=fun i hi=>(hfr71 i (by simp[hi])).trans (hid i hi)
  simp[hh,f68,-indexAddrF]
  apply hk'
  refine Runs.cut (fun ρ H n=>(ρ 0 = .arr id22 l12.length 0 l12.length∧ρ 1=int v46∧ρ 5=int i11)∧n0≤n∧(∀ i ∈ ids0,H i=H0 i)∧Sep H n (oN (.arr id22 l12.length 0 l12.length) l69::K0) (ids0)) (by refine⟨?_,(by omega),hid,sp⟩<;>simp[hh,f68,-indexAddrF]) ?_
  clear hh
  rintro ρ H n73 ⟨hh,hnn,hid,sp⟩
  have hq_n73:=hnn
  refine zE fun k' hk'=>?_
  obtain⟨hb74,h⟩:=h
  obtain⟨v75,ev75,h⟩:=atm h
  have f76:=ib_add hb74 ev75
  simp[hh,f76,-intBin]
  apply hk'
  refine zF fun k' hk'=>?_
  obtain⟨hb77,h⟩:=h
  obtain⟨x78,ex78,h⟩:=atm h
  obtain⟨id79,els80,row81,W82,hq83,mo84,moL85,moR86,hrl87,hW88,hsub89,hni90,spr91,hcl92⟩:=Sep.rowF (q:=i11.toNat) (f:=(GNode.cells true)) sp hb77 ex78 rfl
  simp only[AVal.arr.injEq] at hq83
  obtain⟨hq83,hln93,-⟩:=hq83
  subst hq83
  replace moL85:=moL85.trans hln93.symm
  obtain⟨c94,c95,c96,hq83⟩:=len3 (by simpa using hrl87)
  subst hq83
  replace spr91:Sep _ _ [(.c,c94,int x78.control),(.c,c95,int x78.parent),(.s [.c],c96,.list true (x78.links.map intC))] W82:=spr91
  obtain rfl:=Sep.cAt (K1:=[]) (K2:=[(.c,c95,int x78.parent),(.s [.c],c96,.list true (x78.links.map intC))]) spr91
  obtain rfl:=Sep.cAt (K1:=[(.c,int x78.control,int x78.control)]) (K2:=[(.s [.c],c96,.list true (x78.links.map intC))]) spr91
  have f97:=ix_arr (k:=.i64) (off:=0) (len:=l12.length) kd_44 mo84 moL85 rfl (by rw[hln93];exact hb77)
  obtain⟨hb98,h⟩:=h
  obtain⟨r99,er99,h⟩:=atm h
  simp[hh,mo84,moL85,moR86,f97,-indexAddrF]
  refine RunK.callM (v:=c96) Ty_ok (markIntS_ok x78.links v75 hb98) e32 (Sep.front (K1:=[(.c,int x78.control,int x78.control),(.c,int x78.parent,int x78.parent)]) (K2:=[]) spr91) (by decide) (by decide) rfl (by simp[hh,mo84,moL85,moR86,f97,-indexAddrF]) ?_
  rintro _ H100 n101 _ ⟨rfl,rfl⟩ spx hle103 hfrW102
  rw[← er99] at spx
  rw[← er99]
  obtain⟨l105,el105,h⟩:=atm h
  replace sp:=hcl92 H100 n101 (GNode.mk x78.control x78.parent r99.1) (Sep.unfront (K1:=[(.c,int x78.control,int x78.control),(.c,int x78.parent,int x78.parent)]) (K2:=[]) spx) rfl hfrW102 hle103
  have hfr104:=fun i hi=>hfrW102 i (hsub89 i hi)
  replace sp:Sep H100 n101 (oN (.arr id22 l12.length 0 l12.length) l105::K0) (ids0):=by rw[el105];exact sp
  have hid:∀ i ∈ ids0,H100 i=H0 i:=fun i hi=>(hfr104 i (by simp[hi])).trans (hid i hi)
  have hnn:n0≤n101:=by omega
  have hq_n101:=hnn
  simp[hh,f97,-indexAddrF]
  apply hk'
  refine Runs.cut (fun ρ H n=>(ρ 0 = .arr id22 l12.length 0 l12.length∧ρ 1=int r99.2∧ρ 5=int i11)∧n0≤n∧(∀ i ∈ ids0,H i=H0 i)∧Sep H n (oN (.arr id22 l12.length 0 l12.length) l105::K0) (ids0)) (by refine⟨?_,(by omega),hid,sp⟩<;>simp[hh,f97,-indexAddrF]) ?_
  clear hh
  rintro ρ H n107 ⟨hh,hnn,hid,sp⟩
  have hq_n107:=hnn
  refine Runs.inBlock ?_
  refine zF fun k' hk'=>?_
  obtain⟨hb108,h⟩:=h
  obtain⟨v109,ev109,h⟩:=atm h
  have f110:=ib_add hb108 ev109
  simp[hh,f110,-intBin]
  apply hk'
  refine IH14 (r99.2,v109,l105) _ _ _ h (by refine⟨?_,(by omega),hid,sp⟩<;>simp[hh])
 replace h:=h.2 dc18
 refine Runs.exit rfl ?_
 refine zE fun k' hk'=>?_
 simp[hh,dc18]
 apply hk'
 exact Runs.ret1 (v:=int k10) Tryz.func82 Tryz.results82 (by simp[hh,dc18]) (hQ _ _ _ _ (Sep.sub sp (by simp +contextual)) hid (by omega) ⟨(l12,k10),h,rfl,rfl⟩)
theorem markNodeS_ok (a:List GNode) (k_:Int) (hp:markNodeS_pre a k_):MutS Tryz.prog 82 (fun v=>[v,int k_]) (.s [.c,.c,.s [.c]]) (.list true (a.map (GNode.cells true))) (fun e' r=>e' = .list true (((markNodeS a k_).1).map (GNode.cells true))∧r=int ((markNodeS a k_).2)):=(markNodeS_walk a k_ _ (markNodeS_vc a k_ hp)).mono (by rintro _ _ ⟨_,rfl,rfl,rfl⟩;exact⟨rfl,rfl⟩)
theorem e39:Ent Tryz.prog 39:=Ent.of Tryz.func39 (by kernel_rfl) rfl
theorem heldStringS_walk (a:List Str) (k_:Int) (Z:Int→Prop) (h:heldStringS_wp a k_ Z):PureC Tryz.prog 39 [.list false (a.map strC),int k_] (fun r=>∃ y:Int,Z y∧r=int y):=by
 unfold heldStringS_wp at h
 refine PureC.of Tryz.func39 rfl Tryz.ntmps39 (by simp) fun Q hQ=>?_
 refine Runs.cut (fun ρ H n=>(ρ 0 = .list false (a.map strC)∧ρ 1=int k_)) (by simp) ?_
 rintro ρ H n1 hh
 refine zE fun k' hk'=>?_
 simp[hh]
 apply hk'
 refine Runs.seq ?_
 refine zE fun k' hk'=>?_
 simp[hh]
 apply hk'
 refine Runs.block ?_
 refine Runs.loopW h (fun (sJ:Int × Int) ρ H n=>match sJ with | (k5,i6)=>(ρ 0 = .list false (a.map strC)∧ρ 1=int k5∧ρ 5=int i6)) (by simp[hh]) ?_
 clear hh
 rintro⟨k5,i6⟩ ρ H n7 K h hh IH8
 refine Runs.seq ?_
 refine zE fun k' hk'=>?_
 obtain⟨len10,elen10,h⟩:=atm h
 have f11:=fun H=>len_list (H:=H) (fr:=false) (f:=strC) kd_25 elen10
 obtain⟨c12,ec12,h⟩:=atm h
 have f13:=ib_lss (k:=.i64) ec12
 simp[hh,f11,f13,-intBin,-lenF]
 apply hk'
 refine Runs.ite (b:=c12) (by simp[hh]) (fun dc12=>?_) (fun dc12=>?_)
 ·replace h:=h.1 dc12
  refine Runs.skip ?_
  refine Runs.seq ?_
  refine Runs.block ?_
  refine Runs.seq ?_
  refine Runs.seqD Ty_ok kindOp_ok draws (by decide) (by kernel_rfl) fun k' hk'=>?_
  obtain⟨hb14,h⟩:=h
  obtain⟨x15,ex15,h⟩:=atm h
  have f16:=fun H=>ix_list (H:=H) (fr:=false) (f:=strC) (k:=.i64) kd_25 (fun _=>rfl) hb14 ex15
  obtain⟨hb17,h⟩:=h
  obtain⟨r18,er18,h⟩:=atm h
  simp[hh,f16,dc12,-indexAddrF]
  refine RunDK.callA Ty_ok kindOp_ok (markTxt_ok k5 hb17) e79 (.cons (.v _ _ _) .nil) (by decide) rfl (by simp[hh,f16,dc12,-indexAddrF]) ?_
  rw[← er18]
  obtain⟨c19,ec19,h⟩:=atm h
  have f20:=sb_neq ec19
  simp[hh,f16,f20,dc12,-indexAddrF,-strBin]
  apply hk'
  refine Runs.ite (b:=c19) (by simp[hh,dc12]) (fun dc19=>?_) (fun dc19=>?_)
  ·replace h:=h.1 dc19
   refine zE fun k' hk'=>?_
   simp[hh,dc12,dc19]
   apply hk'
   exact Runs.ret1 (v:=int (-1)) Tryz.func39 Tryz.results39 (by simp[hh,dc12,dc19]) (hQ _ _ _ _ (.of (.v _)) ⟨(-1),h,rfl⟩)
  replace h:=h.2 dc19
  refine Runs.skip ?_
  refine zF fun k' hk'=>?_
  obtain⟨hb21,h⟩:=h
  obtain⟨v22,ev22,h⟩:=atm h
  have f23:=ib_add hb21 ev22
  simp[hh,f23,dc12,dc19,-intBin]
  apply hk'
  refine Runs.inBlock ?_
  refine zF fun k' hk'=>?_
  obtain⟨hb24,h⟩:=h
  obtain⟨v25,ev25,h⟩:=atm h
  have f26:=ib_add hb24 ev25
  simp[hh,f26,dc12,dc19,-intBin]
  apply hk'
  refine Runs.cut (fun ρ H n=>(ρ 0 = .list false (a.map strC)∧ρ 1=int v22∧ρ 5=int v25)) (by simp[hh,f26,dc12,dc19,-intBin]) ?_
  clear hh
  rintro ρ H n27 hh
  refine IH8 (v22,v25) _ _ _ h (by simp[hh])
 replace h:=h.2 dc12
 refine Runs.exit rfl ?_
 refine zE fun k' hk'=>?_
 simp[hh,dc12]
 apply hk'
 exact Runs.ret1 (v:=int k5) Tryz.func39 Tryz.results39 (by simp[hh,dc12]) (hQ _ _ _ _ (.of (.v _)) ⟨k5,h,rfl⟩)
theorem heldStringS_ok (a:List Str) (k_:Int) (hp:heldStringS_pre a k_):PureC Tryz.prog 39 [.list false (a.map strC),int k_] (fun r=>r=int (heldStringS a k_)):=(heldStringS_walk a k_ _ (heldStringS_vc a k_ hp)).mono (by rintro _ ⟨_,rfl,rfl⟩;rfl)
theorem e31:Ent Tryz.prog 31:=Ent.of Tryz.func31 (by kernel_rfl) rfl
theorem markBig_walk (a:Big) (k_:Int) (Z:(Big × Int)→Prop) (h:markBig_wp a k_ Z):MutS Tryz.prog 31 (fun v=>[v,int k_]) (.a [.c,.s [.c,.c,.s [.c]],.s [.c],.c,.s [.c],.s [.c,.c]]) (.agg (bC true a)) (fun e' r=>∃ y:Big × Int,Z y∧e' = .agg (bC true y.1)∧r=int y.2):=by
 unfold markBig_wp at h
 refine MutS.of Tryz.func31 rfl Tryz.ntmps31 (fun _=>by simp) fun H0 n0 v0 K0 ids0 sp Q hQ=>?_
 have h00:=sp.1
 have hid:∀ i ∈ ids0,H0 i=H0 i:=fun _ _=>rfl
 have hnn:n0≤n0:=Nat.le_refl _
 replace sp:=Sep.unpack sp
 obtain⟨L0,hv,hl0,sp⟩:=sp
 subst hv
 obtain⟨a0_,a1_,a2_,a3_,a4_,a5_,hv⟩:=len6 (by simpa using hl0)
 subst hv
 simp only[zip3,List.cons_append,List.nil_append] at sp
 replace sp:=Sep.scalar sp
 obtain⟨hv,sp⟩:=sp
 subst hv
 replace sp:=Sep.rot sp
 try simp only[List.cons_append,List.nil_append,List.append_assoc] at sp
 replace sp:=Sep.rot sp
 try simp only[List.cons_append,List.nil_append,List.append_assoc] at sp
 replace sp:=Sep.scalar sp
 obtain⟨hv,sp⟩:=sp
 subst hv
 replace sp:=Sep.rot sp
 try simp only[List.cons_append,List.nil_append,List.append_assoc] at sp
 replace sp:=Sep.rot sp
 try simp only[List.cons_append,List.nil_append,List.append_assoc] at sp
 replace sp:=Sep.swap (K1:=K0) sp
 simp only[List.cons_append,List.nil_append] at sp
 refine Runs.cut (fun ρ H n=>(ρ 0 = .agg [int a.roots,a1_,a2_,int a.edges,a4_,a5_]∧ρ 1=int k_)∧n0≤n∧(∀ i ∈ ids0,H i=H0 i)∧Sep H n (oN a1_ a.nodes::oI a2_ a.sites::oS a4_ a.outer::oW a5_ a.inner::K0) (ids0)) (by refine⟨?_,(by omega),hid,sp⟩<;>simp ) ?_
 rintro ρ H n5 ⟨hh,hnn,hid,sp⟩
 have hq_n5:=hnn
 refine zE fun k' hk'=>?_
 have f6:=Sep.oc sp
 have f7:=Sep.oc sp.f1
 have f8:=Sep.oc sp.f2
 have f9:=Sep.oc sp.f3
 simp[hh,f6,f7,f8,f9,-cellsA,-one1,cAx,o1x]
 apply hk'
 refine Runs.cut (fun ρ H n=>(ρ 1=int k_∧ρ 2=pA n5 2)∧H (n5,2)=some ⟨6,[[int a.roots,a1_,a2_,int a.edges,a4_,a5_]]⟩∧n0≤n∧(∀ i ∈ ids0,H i=H0 i)∧Sep H n (oN a1_ a.nodes::oI a2_ a.sites::oS a4_ a.outer::oW a5_ a.inner::K0) ((n5,2)::ids0)) (by refine⟨?_,?_,(by omega),(by intro i hi;have hlt:=h00 i (by simp[hi]);repeat (first | exact hid i hi | rw[Heap.get_set_ne _ _ (by rintro rfl;simp at hlt;omega)])),sp.var⟩<;>simp[hh,f6,f7,f8,f9,-cellsA,-one1,cAx,o1x]) ?_
 clear hh
 rintro ρ H n11 ⟨hh,m2_9,hnn,hid,sp⟩
 have hq_n11:=hnn
 refine zE fun k' hk'=>?_
 obtain⟨hb12,h⟩:=h
 obtain⟨r13,er13,h⟩:=atm h
 have f14:=Sep.oc sp
 simp[hh,m2_9,f14,-cellsA,-one1,cAx,o1x]
 refine RunK.callM (v:=a1_) Ty_ok (markNodeS_ok a.nodes k_ hb12) e82 sp (by decide) (by decide) rfl (by simp[hh,m2_9,f14,-cellsA,-one1,cAx,o1x]) ?_
 rintro _ H15 n16 _ ⟨rfl,rfl⟩ sp hle18 hfr17
 rw[← er13] at sp
 rw[← er13]
 replace sp:Sep H15 n16 (oN a1_ r13.1::oI a2_ a.sites::oS a4_ a.outer::oW a5_ a.inner::K0) ((n5,2)::ids0):=sp
 have hid:∀ i ∈ ids0,H15 i=H0 i:=fun i hi=>(hfr17 i (by simp[hi])).trans (hid i hi)
 have hnn:n0≤n16:=by omega
 have hq_n16:=hnn
 have m2_9:H15 (n5,2)=some ⟨6,[[int a.roots,a1_,a2_,int a.edges,a4_,a5_]]⟩:=(hfr17 _ (by simp)).trans (by simp[hh,m2_9,Heap.get_set])
 simp[hh,m2_9,f14,-cellsA,-one1,cAx,o1x]
 apply hk'
 refine Runs.cut (fun ρ H n=>(ρ 1=int r13.2∧ρ 2=pA n5 2)∧H (n5,2)=some ⟨6,[[int a.roots,a1_,a2_,int a.edges,a4_,a5_]]⟩∧n0≤n∧(∀ i ∈ ids0,H i=H0 i)∧Sep H n (oN a1_ r13.1::oI a2_ a.sites::oS a4_ a.outer::oW a5_ a.inner::K0) ((n5,2)::ids0)) (by refine⟨?_,?_,(by omega),hid,sp⟩<;>simp[hh,m2_9,f14,-cellsA,-one1,cAx,o1x]) ?_
 clear hh m2_9
 rintro ρ H n20 ⟨hh,m2_9,hnn,hid,sp⟩
 have hq_n20:=hnn
 refine zE fun k' hk'=>?_
 obtain⟨hb21,h⟩:=h
 obtain⟨r22,er22,h⟩:=atm h
 have f23:=Sep.oc sp.f1
 simp[hh,m2_9,f23,-cellsA,-one1,cAx,o1x]
 refine RunK.callM (v:=a2_) Ty_ok (markIntS_ok a.sites r13.2 hb21) e32 sp.f1 (by decide) (by decide) rfl (by simp[hh,m2_9,f23,-cellsA,-one1,cAx,o1x]) ?_
 rintro _ H24 n25 _ ⟨rfl,rfl⟩ sp hle27 hfr26
 rw[← er22] at sp
 rw[← er22]
 replace sp:Sep H24 n25 (oI a2_ r22.1::oN a1_ r13.1::oS a4_ a.outer::oW a5_ a.inner::K0) ((n5,2)::ids0):=sp
 have hid:∀ i ∈ ids0,H24 i=H0 i:=fun i hi=>(hfr26 i (by simp[hi])).trans (hid i hi)
 have hnn:n0≤n25:=by omega
 have hq_n25:=hnn
 have m2_9:H24 (n5,2)=some ⟨6,[[int a.roots,a1_,a2_,int a.edges,a4_,a5_]]⟩:=(hfr26 _ (by simp)).trans (by simp[hh,m2_9,Heap.get_set])
 simp[hh,m2_9,f23,-cellsA,-one1,cAx,o1x]
 apply hk'
 refine Runs.cut (fun ρ H n=>(ρ 1=int r22.2∧ρ 2=pA n5 2)∧H (n5,2)=some ⟨6,[[int a.roots,a1_,a2_,int a.edges,a4_,a5_]]⟩∧n0≤n∧(∀ i ∈ ids0,H i=H0 i)∧Sep H n (oI a2_ r22.1::oN a1_ r13.1::oS a4_ a.outer::oW a5_ a.inner::K0) ((n5,2)::ids0)) (by refine⟨?_,?_,(by omega),hid,sp⟩<;>simp[hh,m2_9,f23,-cellsA,-one1,cAx,o1x]) ?_
 clear hh m2_9
 rintro ρ H n29 ⟨hh,m2_9,hnn,hid,sp⟩
 have hq_n29:=hnn
 refine zE fun k' hk'=>?_
 obtain⟨hb30,h⟩:=h
 obtain⟨r31,er31,h⟩:=atm h
 have f32:=Sep.oc sp.f2
 simp[hh,m2_9,f32,-cellsA,-one1,cAx,o1x]
 refine RunK.callM (v:=a4_) Ty_ok (markStringS_ok a.outer r22.2 hb30) e38 sp.f2 (by decide) (by decide) rfl (by simp[hh,m2_9,f32,-cellsA,-one1,cAx,o1x]) ?_
 rintro _ H33 n34 _ ⟨rfl,rfl⟩ sp hle36 hfr35
 rw[← er31] at sp
 rw[← er31]
 replace sp:Sep H33 n34 (oS a4_ r31.1::oI a2_ r22.1::oN a1_ r13.1::oW a5_ a.inner::K0) ((n5,2)::ids0):=sp
 have hid:∀ i ∈ ids0,H33 i=H0 i:=fun i hi=>(hfr35 i (by simp[hi])).trans (hid i hi)
 have hnn:n0≤n34:=by omega
 have hq_n34:=hnn
 have m2_9:H33 (n5,2)=some ⟨6,[[int a.roots,a1_,a2_,int a.edges,a4_,a5_]]⟩:=(hfr35 _ (by simp)).trans (by simp[hh,m2_9,Heap.get_set])
 simp[hh,m2_9,f32,-cellsA,-one1,cAx,o1x]
 apply hk'
 refine Runs.cut (fun ρ H n=>(ρ 1=int r31.2∧ρ 2=pA n5 2)∧H (n5,2)=some ⟨6,[[int a.roots,a1_,a2_,int a.edges,a4_,a5_]]⟩∧n0≤n∧(∀ i ∈ ids0,H i=H0 i)∧Sep H n (oS a4_ r31.1::oI a2_ r22.1::oN a1_ r13.1::oW a5_ a.inner::K0) ((n5,2)::ids0)) (by refine⟨?_,?_,(by omega),hid,sp⟩<;>simp[hh,m2_9,f32,-cellsA,-one1,cAx,o1x]) ?_
 clear hh m2_9
 rintro ρ H n38 ⟨hh,m2_9,hnn,hid,sp⟩
 have hq_n38:=hnn
 refine zE fun k' hk'=>?_
 obtain⟨hb39,h⟩:=h
 obtain⟨r40,er40,h⟩:=atm h
 have f41:=Sep.oc sp.f3
 simp[hh,m2_9,f41,-cellsA,-one1,cAx,o1x]
 refine RunK.callM (v:=a5_) Ty_ok (markWireS_ok a.inner r31.2 hb39) e83 sp.f3 (by decide) (by decide) rfl (by simp[hh,m2_9,f41,-cellsA,-one1,cAx,o1x]) ?_
 rintro _ H42 n43 _ ⟨rfl,rfl⟩ sp hle45 hfr44
 rw[← er40] at sp
 rw[← er40]
 replace sp:Sep H42 n43 (oW a5_ r40.1::oS a4_ r31.1::oI a2_ r22.1::oN a1_ r13.1::K0) ((n5,2)::ids0):=sp
 have hid:∀ i ∈ ids0,H42 i=H0 i:=fun i hi=>(hfr44 i (by simp[hi])).trans (hid i hi)
 have hnn:n0≤n43:=by omega
 have hq_n43:=hnn
 have m2_9:H42 (n5,2)=some ⟨6,[[int a.roots,a1_,a2_,int a.edges,a4_,a5_]]⟩:=(hfr44 _ (by simp)).trans (by simp[hh,m2_9,Heap.get_set])
 simp[hh,m2_9,f41,-cellsA,-one1,cAx,o1x]
 apply hk'
 refine Runs.cut (fun ρ H n=>ρ 1=int r40.2∧n0≤n∧(∀ i ∈ ids0,H i=H0 i)∧Sep H n (oW a5_ r40.1::oS a4_ r31.1::oI a2_ r22.1::oN a1_ r13.1::K0) (ids0)) (by refine⟨?_,(by omega),hid,(Sep.sub sp (by simp +contextual))⟩<;>simp[hh,m2_9,f41,-cellsA,-one1,cAx,o1x]) ?_
 clear hh m2_9
 rintro ρ H n47 ⟨hh,hnn,hid,sp⟩
 have hq_n47:=hnn
 refine zE fun k' hk'=>?_
 simp[hh]
 apply hk'
 exact Runs.ret1 (v:=int r40.2) Tryz.func31 Tryz.results31 (by simp[hh]) (hQ _ _ _ _ (Sep.sub (Sep.pack (Fill.v _ (Fill.own (Fill.own (Fill.v _ (Fill.own (Fill.own Fill.nil)))))) sp.f1.f2.f3) (by simp +contextual)) hid (by omega) ⟨((Big.mk a.roots r13.1 r22.1 a.edges r31.1 r40.1),r40.2),h,rfl,rfl⟩)
theorem markBig_ok (a:Big) (k_:Int) (hp:markBig_pre a k_):MutS Tryz.prog 31 (fun v=>[v,int k_]) (.a [.c,.s [.c,.c,.s [.c]],.s [.c],.c,.s [.c],.s [.c,.c]]) (.agg (bC true a)) (fun e' r=>e' = .agg [int (((markBig a k_).1).roots),.list true ((((markBig a k_).1).nodes).map (GNode.cells true)),.list true ((((markBig a k_).1).sites).map intC),int (((markBig a k_).1).edges),.list true ((((markBig a k_).1).outer).map strC),.list true ((((markBig a k_).1).inner).map Wire.cells)]∧r=int ((markBig a k_).2)):=(markBig_walk a k_ _ (markBig_vc a k_ hp)).mono (by rintro _ _ ⟨_,rfl,rfl,rfl⟩;exact⟨rfl,rfl⟩)
end Go.Ab.Vg
/- Walks by program for YtbpdcoahefnnkaaGreatDoorAbMd. -/
namespace Go.Ab.Vg
open Go.Proofs
set_option maxRecDepth 100000
set_option linter.unusedSimpArgs false
set_option linter.unusedVariables false
attribute [local simp] intC mC pA
theorem e16:Ent Tryz.prog 16:=Ent.of Tryz.func16 (by kernel_rfl) rfl
theorem toMatch_walk (a:Match) (Z:Match→Prop) (h:toMatch_wp a Z):OwnS Tryz.prog 16 [.agg (mC false a)] (.a [.s [.c],.s [.c]]) (fun r=>∃ y:Match,Z y∧r = .agg (mC true y)):=by
 unfold toMatch_wp at h
 have sp:Sep noHeap 0 [] []:=Sep.nil (by simp)
 refine OwnS.of Tryz.func16 rfl Tryz.ntmps16 (by simp) fun Q hQ=>?_
 refine Runs.cut (fun ρ H n=>ρ 0 = .agg (mC false a)∧Sep H n [] []) (by refine⟨?_,sp⟩<;>simp ) ?_
 rintro ρ H n1 ⟨hh,sp⟩
 refine zE fun k' hk'=>?_
 simp[hh]
 apply hk'
 refine Runs.cut (fun ρ H n=>(ρ 1=pA n1 1∧ρ 2=pA (n1+1) 2)∧H (n1,1)=some ⟨2,[mC false a]⟩∧H (n1+1,2)=some ⟨2,[[.v (.slice none 0 0),.v (.slice none 0 0)]]⟩∧Sep H n [] [(n1+1,2),(n1,1)]) (by refine⟨?_,?_,?_,sp.var.var⟩<;>simp[hh]) ?_
 clear hh
 rintro ρ H n4 ⟨hh,m1_1,m2_2,sp⟩
 refine zE fun k' hk'=>?_
 simp[hh,m1_1,m2_2]
 apply hk'
 refine Runs.cut (fun ρ H n=>(ρ 1=pA n1 1∧ρ 2=pA (n1+1) 2∧ρ 3=pA n4 3)∧H (n1,1)=some ⟨2,[mC false a]⟩∧H (n1+1,2)=some ⟨2,[[.v (.slice none 0 0),.v (.slice none 0 0)]]⟩∧H (n4,3)=some ⟨2,[[.v (.slice none 0 0),.v (.slice none 0 0)]]⟩∧Sep H n [] [(n4,3),(n1+1,2),(n1,1)]) (by refine⟨?_,?_,?_,?_,sp.var⟩<;>simp[hh,m1_1,m2_2]) ?_
 clear hh m1_1 m2_2
 rintro ρ H n6 ⟨hh,m1_1,m2_2,m3_4,sp⟩
 refine zE fun k' hk'=>?_
 obtain⟨hb7,h⟩:=h
 obtain⟨r8,er8,h⟩:=atm h
 simp[hh,m1_1,m2_2,m3_4]
 refine RunK.callW Ty_ok (toIntS_ok a.nodes hb7) e50 (.cons (argI false a.nodes) .nil) sp (by decide) (by decide) rfl (by simp[hh,m1_1,m2_2,m3_4]) ?_
 rintro v9 H10 n11 _ sp rfl hle13 hfr12
 rw[← er8] at sp
 have m1_1:H10 (n1,1)=some ⟨2,[mC false a]⟩:=(hfr12 _ (by simp)).trans (by simp[hh,m1_1,m2_2,m3_4,Heap.get_set])
 have m2_2:H10 (n1+1,2)=some ⟨2,[[.v (.slice none 0 0),.v (.slice none 0 0)]]⟩:=(hfr12 _ (by simp)).trans (by simp[hh,m1_1,m2_2,m3_4,Heap.get_set])
 have m3_4:H10 (n4,3)=some ⟨2,[[.v (.slice none 0 0),.v (.slice none 0 0)]]⟩:=(hfr12 _ (by simp)).trans (by simp[hh,m1_1,m2_2,m3_4,Heap.get_set])
 have f16:=Sep.oc sp
 simp[hh,m1_1,m2_2,m3_4,f16,-cellsA,-one1,cAx,o1x]
 apply hk'
 refine Runs.cut (fun ρ H n=>∃ (v17:AVal),(ρ 1=pA n1 1∧ρ 2=pA (n1+1) 2∧ρ 3=pA n4 3)∧H (n1,1)=some ⟨2,[mC false a]⟩∧H (n1+1,2)=some ⟨2,[[.v (.slice none 0 0),.v (.slice none 0 0)]]⟩∧H (n4,3)=some ⟨2,[[v17,.v (.slice none 0 0)]]⟩∧Sep H n [oI v17 r8] [(n4,3),(n1+1,2),(n1,1)]) (by refine⟨v9,?_,?_,?_,?_,(Sep.setVar (w:=(n4,3)) sp (by simp))⟩<;>simp[hh,m1_1,m2_2,m3_4,f16,-cellsA,-one1,cAx,o1x]) ?_
 clear hh m1_1 m2_2 m3_4
 rintro ρ H n18 ⟨v17,hh,m1_1,m2_2,m3_4,sp⟩
 refine zE fun k' hk'=>?_
 obtain⟨hb19,h⟩:=h
 obtain⟨r20,er20,h⟩:=atm h
 simp[hh,m1_1,m2_2,m3_4]
 refine RunK.callW Ty_ok (toIntS_ok a.roots hb19) e50 (.cons (argI false a.roots) .nil) sp (by decide) (by decide) rfl (by simp[hh,m1_1,m2_2,m3_4]) ?_
 rintro v21 H22 n23 _ sp rfl hle25 hfr24
 rw[← er20] at sp
 have m1_1:H22 (n1,1)=some ⟨2,[mC false a]⟩:=(hfr24 _ (by simp)).trans (by simp[hh,m1_1,m2_2,m3_4,Heap.get_set])
 have m2_2:H22 (n1+1,2)=some ⟨2,[[.v (.slice none 0 0),.v (.slice none 0 0)]]⟩:=(hfr24 _ (by simp)).trans (by simp[hh,m1_1,m2_2,m3_4,Heap.get_set])
 have m3_4:H22 (n4,3)=some ⟨2,[[v17,.v (.slice none 0 0)]]⟩:=(hfr24 _ (by simp)).trans (by simp[hh,m1_1,m2_2,m3_4,Heap.get_set])
 have f28:=Sep.oc sp
 simp[hh,m1_1,m2_2,m3_4,f28,-cellsA,-one1,cAx,o1x]
 apply hk'
 refine Runs.cut (fun ρ H n=>∃ (v29 v30:AVal),(ρ 2=pA (n1+1) 2∧ρ 3=pA n4 3)∧H (n1+1,2)=some ⟨2,[[.v (.slice none 0 0),.v (.slice none 0 0)]]⟩∧H (n4,3)=some ⟨2,[[v30,v29]]⟩∧Sep H n [oI v29 r20,oI v30 r8] [(n4,3),(n1+1,2)]) (by refine⟨v21,v17,?_,?_,?_,(Sep.sub (Sep.setVar (w:=(n4,3)) sp (by simp)) (by simp +contextual))⟩<;>simp[hh,m1_1,m2_2,m3_4,f28,-cellsA,-one1,cAx,o1x]) ?_
 clear hh m1_1 m2_2 m3_4
 rintro ρ H n31 ⟨v29,v30,hh,m2_2,m3_4,sp⟩
 refine zE fun k' hk'=>?_
 have f32:=Sep.oc sp.f1
 have f33:=Sep.oc sp
 simp[hh,m2_2,m3_4,f32,f33,-cellsA,-one1,cAx,o1x]
 apply hk'
 refine Runs.cut (fun ρ H n=>∃ (v34 v35:AVal),ρ 2=pA (n1+1) 2∧H (n1+1,2)=some ⟨2,[[v35,v34]]⟩∧Sep H n [oI v34 r20,oI v35 r8] [(n1+1,2)]) (by refine⟨v29,v30,?_,?_,(Sep.sub (Sep.setVar (w:=(n1+1,2)) sp (by simp)) (by simp +contextual))⟩<;>simp[hh,m2_2,m3_4,f32,f33,-cellsA,-one1,cAx,o1x]) ?_
 clear hh m2_2 m3_4
 rintro ρ H n36 ⟨v34,v35,hh,m2_2,sp⟩
 exact Runs.res1 Ty_ok (v:=.agg [v35,v34]) Tryz.func16 Tryz.results16 (by simp[hh,m2_2,resA]) (hQ _ _ _ _ (Sep.sub (ids':=[]) (Sep.pack (Fill.own (Fill.own Fill.nil)) sp.f1) (by simp)) ⟨(Match.mk r8 r20),h,rfl⟩)
theorem toMatch_ok (a:Match) (hp:toMatch_pre a):OwnS Tryz.prog 16 [.agg (mC false a)] (.a [.s [.c],.s [.c]]) (fun r=>r = .agg [.list true (((toMatch a).nodes).map intC),.list true (((toMatch a).roots).map intC)]):=(toMatch_walk a _ (toMatch_vc a hp)).mono (by rintro _ ⟨_,rfl,rfl⟩;rfl)
theorem e10:Ent Tryz.prog 10:=Ent.of Tryz.func10 (by kernel_rfl) rfl
theorem szM_walk (a:Match) (left:Int) (Z:Int→Prop) (h:szM_wp a left Z):PureC Tryz.prog 10 [.agg (mC false a),int left] (fun r=>∃ y:Int,Z y∧r=int y):=by
 unfold szM_wp at h
 refine PureC.of Tryz.func10 rfl Tryz.ntmps10 (by simp) fun Q hQ=>?_
 refine Runs.cut (fun ρ H n=>(ρ 0 = .agg (mC false a)∧ρ 1=int left)) (by simp) ?_
 rintro ρ H n1 hh
 refine zE fun k' hk'=>?_
 simp[hh]
 apply hk'
 refine Runs.cut (fun ρ H n=>(ρ 1=int left∧ρ 2=pA n1 2)∧H (n1,2)=some ⟨2,[mC false a]⟩) (by refine⟨?_,?_⟩<;>simp[hh]) ?_
 clear hh
 rintro ρ H n3 ⟨hh,m2_1⟩
 refine zE fun k' hk'=>?_
 obtain⟨hb4,h⟩:=h
 obtain⟨r5,er5,h⟩:=atm h
 simp[hh,m2_1]
 refine RunK.callA Ty_ok (szIntS_ok a.nodes left hb4.1.1 hb4.1.2 hb4.2) e41 (.cons (argI false a.nodes) (.cons (.v _ _ _) .nil)) (by decide) (by decide) rfl (by simp[hh,m2_1]) ?_
 rintro _ rfl
 rw[← er5]
 simp[hh,m2_1]
 apply hk'
 refine Runs.seq ?_
 refine zE fun k' hk'=>?_
 obtain⟨c6,ec6,h⟩:=atm h
 have f7:=ib_lss (k:=.i64) ec6
 simp[hh,m2_1,f7,-intBin]
 apply hk'
 refine Runs.ite (b:=c6) (by simp[hh,m2_1]) (fun dc6=>?_) (fun dc6=>?_)
 ·replace h:=h.1 dc6
  refine zE fun k' hk'=>?_
  simp[hh,m2_1,dc6]
  apply hk'
  exact Runs.ret1 (v:=int (-1)) Tryz.func10 Tryz.results10 (by simp[hh,m2_1,dc6]) (hQ _ _ _ _ (.of (.v _)) ⟨(-1),h,rfl⟩)
 replace h:=h.2 dc6
 refine Runs.skip ?_
 refine zE fun k' hk'=>?_
 obtain⟨hb8,h⟩:=h
 obtain⟨r9,er9,h⟩:=atm h
 simp[hh,m2_1,dc6]
 refine RunK.callA Ty_ok (szIntS_ok a.roots r5 hb8.1.1 hb8.1.2 hb8.2) e41 (.cons (argI false a.roots) (.cons (.v _ _ _) .nil)) (by decide) (by decide) rfl (by simp[hh,m2_1,dc6]) ?_
 rintro _ rfl
 rw[← er9]
 simp[hh,m2_1,dc6]
 apply hk'
 refine Runs.seq ?_
 refine zE fun k' hk'=>?_
 obtain⟨c10,ec10,h⟩:=atm h
 have f11:=ib_lss (k:=.i64) ec10
 simp[hh,m2_1,f11,dc6,-intBin]
 apply hk'
 refine Runs.ite (b:=c10) (by simp[hh,m2_1,dc6]) (fun dc10=>?_) (fun dc10=>?_)
 ·replace h:=h.1 dc10
  refine zE fun k' hk'=>?_
  simp[hh,m2_1,dc6,dc10]
  apply hk'
  refine Runs.cut (fun ρ H n=>ρ 4=int (-1)) (by simp[hh,m2_1,dc6,dc10]) ?_
  clear hh m2_1
  rintro ρ H n12 hh
  exact Runs.ret1 (v:=int (-1)) Tryz.func10 Tryz.results10 (by simp[hh]) (hQ _ _ _ _ (.of (.v _)) ⟨(-1),h,rfl⟩)
 replace h:=h.2 dc10
 refine Runs.skip ?_
 refine zE fun k' hk'=>?_
 simp[hh,m2_1,dc6,dc10]
 apply hk'
 refine Runs.cut (fun ρ H n=>ρ 4=int r9) (by simp[hh,m2_1,dc6,dc10]) ?_
 clear hh m2_1
 rintro ρ H n13 hh
 exact Runs.ret1 (v:=int r9) Tryz.func10 Tryz.results10 (by simp[hh]) (hQ _ _ _ _ (.of (.v _)) ⟨r9,h,rfl⟩)
theorem szM_ok (a:Match) (left:Int) (hp:szM_pre a left):PureC Tryz.prog 10 [.agg (mC false a),int left] (fun r=>r=int (szM a left)):=(szM_walk a left _ (szM_vc a left hp)).mono (by rintro _ ⟨_,rfl,rfl⟩;rfl)
theorem e22:Ent Tryz.prog 22:=Ent.of Tryz.func22 (by kernel_rfl) rfl
theorem eqM_walk (a:Match) (b:Match) (Z:Bool→Prop) (h:eqM_wp a b Z):PureC Tryz.prog 22 [.agg (mC false a),.agg (mC false b)] (fun r=>∃ y:Bool,Z y∧r=bool y):=by
 unfold eqM_wp at h
 refine PureC.of Tryz.func22 rfl Tryz.ntmps22 (by simp) fun Q hQ=>?_
 refine Runs.cut (fun ρ H n=>(ρ 0 = .agg (mC false a)∧ρ 1 = .agg (mC false b))) (by simp) ?_
 rintro ρ H n1 hh
 refine zE fun k' hk'=>?_
 simp[hh]
 apply hk'
 refine Runs.cut (fun ρ H n=>(ρ 2=pA n1 2∧ρ 3=pA (n1+1) 3)∧H (n1,2)=some ⟨2,[mC false a]⟩∧H (n1+1,3)=some ⟨2,[mC false b]⟩) (by refine⟨?_,?_,?_⟩<;>simp[hh]) ?_
 clear hh
 rintro ρ H n4 ⟨hh,m2_1,m3_2⟩
 refine Runs.seq ?_
 refine zE fun k' hk'=>?_
 obtain⟨hb5,h⟩:=h
 obtain⟨r6,er6,h⟩:=atm h
 simp[hh,m2_1,m3_2]
 refine RunK.callA Ty_ok (eqIntS_ok a.nodes b.nodes hb5) e27 (.cons (argI false a.nodes) (.cons (argI false b.nodes) .nil)) (by decide) (by decide) rfl (by simp[hh,m2_1,m3_2]) ?_
 rintro _ rfl
 rw[← er6]
 simp[hh,m2_1,m3_2]
 apply hk'
 refine Runs.ite (b:=(!r6)) (by simp[hh,m2_1,m3_2]) (fun dr6=>?_) (fun dr6=>?_)
 ·have dr6:r6=false:=by simpa using dr6
  replace h:=h.2 dr6
  refine zE fun k' hk'=>?_
  simp[hh,m2_1,m3_2,dr6]
  apply hk'
  exact Runs.ret1 (v:=bool false) Tryz.func22 Tryz.results22 (by simp[hh,m2_1,m3_2,dr6]) (hQ _ _ _ _ (.of (.v _)) ⟨false,h,rfl⟩)
 have dr6:r6=true:=by simpa using dr6
 replace h:=h.1 dr6
 refine Runs.skip ?_
 refine Runs.seq ?_
 refine zE fun k' hk'=>?_
 obtain⟨hb7,h⟩:=h
 obtain⟨r8,er8,h⟩:=atm h
 simp[hh,m2_1,m3_2,dr6]
 refine RunK.callA Ty_ok (eqIntS_ok a.roots b.roots hb7) e27 (.cons (argI false a.roots) (.cons (argI false b.roots) .nil)) (by decide) (by decide) rfl (by simp[hh,m2_1,m3_2,dr6]) ?_
 rintro _ rfl
 rw[← er8]
 simp[hh,m2_1,m3_2,dr6]
 apply hk'
 refine Runs.ite (b:=(!r8)) (by simp[hh,m2_1,m3_2,dr6]) (fun dr8=>?_) (fun dr8=>?_)
 ·have dr8:r8=false:=by simpa using dr8
  replace h:=h.2 dr8
  refine zE fun k' hk'=>?_
  simp[hh,m2_1,m3_2,dr6,dr8]
  apply hk'
  exact Runs.ret1 (v:=bool false) Tryz.func22 Tryz.results22 (by simp[hh,m2_1,m3_2,dr6,dr8]) (hQ _ _ _ _ (.of (.v _)) ⟨false,h,rfl⟩)
 have dr8:r8=true:=by simpa using dr8
 replace h:=h.1 dr8
 refine Runs.skip ?_
 refine zE fun k' hk'=>?_
 simp[hh,m2_1,m3_2,dr6,dr8]
 apply hk'
 exact Runs.ret1 (v:=bool true) Tryz.func22 Tryz.results22 (by simp[hh,m2_1,m3_2,dr6,dr8]) (hQ _ _ _ _ (.of (.v _)) ⟨true,h,rfl⟩)
theorem eqM_ok (a:Match) (b:Match) (hp:eqM_pre a b):PureC Tryz.prog 22 [.agg (mC false a),.agg (mC false b)] (fun r=>r=bool (eqM a b)):=(eqM_walk a b _ (eqM_vc a b hp)).mono (by rintro _ ⟨_,rfl,rfl⟩;rfl)
theorem e37:Ent Tryz.prog 37:=Ent.of Tryz.func37 (by kernel_rfl) rfl
theorem markMatch_walk (a:Match) (k_:Int) (Z:(Match × Int)→Prop) (h:markMatch_wp a k_ Z):MutS Tryz.prog 37 (fun v=>[v,int k_]) (.a [.s [.c],.s [.c]]) (.agg (mC true a)) (fun e' r=>∃ y:Match × Int,Z y∧e' = .agg (mC true y.1)∧r=int y.2):=by
 unfold markMatch_wp at h
 refine MutS.of Tryz.func37 rfl Tryz.ntmps37 (fun _=>by simp) fun H0 n0 v0 K0 ids0 sp Q hQ=>?_
 have h00:=sp.1
 have hid:∀ i ∈ ids0,H0 i=H0 i:=fun _ _=>rfl
 have hnn:n0≤n0:=Nat.le_refl _
 replace sp:=Sep.unpack sp
 obtain⟨L0,hv,hl0,sp⟩:=sp
 subst hv
 obtain⟨a0_,a1_,hv⟩:=len2 (by simpa using hl0)
 subst hv
 simp only[zip3,List.cons_append,List.nil_append] at sp
 replace sp:=Sep.rot sp
 try simp only[List.cons_append,List.nil_append,List.append_assoc] at sp
 replace sp:=Sep.rot sp
 try simp only[List.cons_append,List.nil_append,List.append_assoc] at sp
 replace sp:=Sep.swap (K1:=K0) sp
 simp only[List.cons_append,List.nil_append] at sp
 refine Runs.cut (fun ρ H n=>(ρ 0 = .agg [a0_,a1_]∧ρ 1=int k_)∧n0≤n∧(∀ i ∈ ids0,H i=H0 i)∧Sep H n (oI a0_ a.nodes::oI a1_ a.roots::K0) (ids0)) (by refine⟨?_,(by omega),hid,sp⟩<;>simp ) ?_
 rintro ρ H n3 ⟨hh,hnn,hid,sp⟩
 have hq_n3:=hnn
 refine zE fun k' hk'=>?_
 have f4:=Sep.oc sp
 have f5:=Sep.oc sp.f1
 simp[hh,f4,f5,-cellsA,-one1,cAx,o1x]
 apply hk'
 refine Runs.cut (fun ρ H n=>(ρ 1=int k_∧ρ 2=pA n3 2)∧H (n3,2)=some ⟨2,[[a0_,a1_]]⟩∧n0≤n∧(∀ i ∈ ids0,H i=H0 i)∧Sep H n (oI a0_ a.nodes::oI a1_ a.roots::K0) ((n3,2)::ids0)) (by refine⟨?_,?_,(by omega),(by intro i hi;have hlt:=h00 i (by simp[hi]);repeat (first | exact hid i hi | rw[Heap.get_set_ne _ _ (by rintro rfl;simp at hlt;omega)])),sp.var⟩<;>simp[hh,f4,f5,-cellsA,-one1,cAx,o1x]) ?_
 clear hh
 rintro ρ H n7 ⟨hh,m2_5,hnn,hid,sp⟩
 have hq_n7:=hnn
 refine zE fun k' hk'=>?_
 obtain⟨hb8,h⟩:=h
 obtain⟨r9,er9,h⟩:=atm h
 have f10:=Sep.oc sp
 simp[hh,m2_5,f10,-cellsA,-one1,cAx,o1x]
 refine RunK.callM (v:=a0_) Ty_ok (markIntS_ok a.nodes k_ hb8) e32 sp (by decide) (by decide) rfl (by simp[hh,m2_5,f10,-cellsA,-one1,cAx,o1x]) ?_
 rintro _ H11 n12 _ ⟨rfl,rfl⟩ sp hle14 hfr13
 rw[← er9] at sp
 rw[← er9]
 replace sp:Sep H11 n12 (oI a0_ r9.1::oI a1_ a.roots::K0) ((n3,2)::ids0):=sp
 have hid:∀ i ∈ ids0,H11 i=H0 i:=fun i hi=>(hfr13 i (by simp[hi])).trans (hid i hi)
 have hnn:n0≤n12:=by omega
 have hq_n12:=hnn
 have m2_5:H11 (n3,2)=some ⟨2,[[a0_,a1_]]⟩:=(hfr13 _ (by simp)).trans (by simp[hh,m2_5,Heap.get_set])
 simp[hh,m2_5,f10,-cellsA,-one1,cAx,o1x]
 apply hk'
 refine Runs.cut (fun ρ H n=>(ρ 1=int r9.2∧ρ 2=pA n3 2)∧H (n3,2)=some ⟨2,[[a0_,a1_]]⟩∧n0≤n∧(∀ i ∈ ids0,H i=H0 i)∧Sep H n (oI a0_ r9.1::oI a1_ a.roots::K0) ((n3,2)::ids0)) (by refine⟨?_,?_,(by omega),hid,sp⟩<;>simp[hh,m2_5,f10,-cellsA,-one1,cAx,o1x]) ?_
 clear hh m2_5
 rintro ρ H n16 ⟨hh,m2_5,hnn,hid,sp⟩
 have hq_n16:=hnn
 refine zE fun k' hk'=>?_
 obtain⟨hb17,h⟩:=h
 obtain⟨r18,er18,h⟩:=atm h
 have f19:=Sep.oc sp.f1
 simp[hh,m2_5,f19,-cellsA,-one1,cAx,o1x]
 refine RunK.callM (v:=a1_) Ty_ok (markIntS_ok a.roots r9.2 hb17) e32 sp.f1 (by decide) (by decide) rfl (by simp[hh,m2_5,f19,-cellsA,-one1,cAx,o1x]) ?_
 rintro _ H20 n21 _ ⟨rfl,rfl⟩ sp hle23 hfr22
 rw[← er18] at sp
 rw[← er18]
 replace sp:Sep H20 n21 (oI a1_ r18.1::oI a0_ r9.1::K0) ((n3,2)::ids0):=sp
 have hid:∀ i ∈ ids0,H20 i=H0 i:=fun i hi=>(hfr22 i (by simp[hi])).trans (hid i hi)
 have hnn:n0≤n21:=by omega
 have hq_n21:=hnn
 have m2_5:H20 (n3,2)=some ⟨2,[[a0_,a1_]]⟩:=(hfr22 _ (by simp)).trans (by simp[hh,m2_5,Heap.get_set])
 simp[hh,m2_5,f19,-cellsA,-one1,cAx,o1x]
 apply hk'
 refine Runs.cut (fun ρ H n=>ρ 1=int r18.2∧n0≤n∧(∀ i ∈ ids0,H i=H0 i)∧Sep H n (oI a1_ r18.1::oI a0_ r9.1::K0) (ids0)) (by refine⟨?_,(by omega),hid,(Sep.sub sp (by simp +contextual))⟩<;>simp[hh,m2_5,f19,-cellsA,-one1,cAx,o1x]) ?_
 clear hh m2_5
 rintro ρ H n25 ⟨hh,hnn,hid,sp⟩
 have hq_n25:=hnn
 refine zE fun k' hk'=>?_
 simp[hh]
 apply hk'
 exact Runs.ret1 (v:=int r18.2) Tryz.func37 Tryz.results37 (by simp[hh]) (hQ _ _ _ _ (Sep.sub (Sep.pack (Fill.own (Fill.own Fill.nil)) sp.f1) (by simp +contextual)) hid (by omega) ⟨((Match.mk r9.1 r18.1),r18.2),h,rfl,rfl⟩)
theorem markMatch_ok (a:Match) (k_:Int) (hp:markMatch_pre a k_):MutS Tryz.prog 37 (fun v=>[v,int k_]) (.a [.s [.c],.s [.c]]) (.agg (mC true a)) (fun e' r=>e' = .agg [.list true ((((markMatch a k_).1).nodes).map intC),.list true ((((markMatch a k_).1).roots).map intC)]∧r=int ((markMatch a k_).2)):=(markMatch_walk a k_ _ (markMatch_vc a k_ hp)).mono (by rintro _ _ ⟨_,rfl,rfl,rfl⟩;exact⟨rfl,rfl⟩)
end Go.Ab.Vg
/- Walks by program for YtbpdcoahefnnkaaGreatDoorAbMu. -/
namespace Go.Ab.Vg
open Go.Proofs
set_option maxRecDepth 100000
set_option linter.unusedSimpArgs false
set_option linter.unusedVariables false
attribute [local simp] Control.cells GNode.cells Wire.cells intC sliceC strC bC mC rC gC pA
theorem e105:Ent Tryz.prog 105:=Ent.of Tryz.func105 (by kernel_rfl) rfl
theorem parameterOf_walk (agent:Big) (m:Match) (Z:(List Int)→Prop) (h:parameterOf_wp agent m Z):OwnS Tryz.prog 105 [.agg (bC false agent),.agg (mC false m)] (.s [.c]) (fun r=>∃ y:List Int,Z y∧r = .list true (y.map intC)):=by
 unfold parameterOf_wp at h
 have sp:Sep noHeap 0 [] []:=Sep.nil (by simp)
 refine OwnS.of Tryz.func105 rfl Tryz.ntmps105 (by simp) fun Q hQ=>?_
 refine Runs.cut (fun ρ H n=>(ρ 0 = .agg (bC false agent)∧ρ 1 = .agg (mC false m))∧Sep H n [] []) (by refine⟨?_,sp⟩<;>simp ) ?_
 rintro ρ H n1 ⟨hh,sp⟩
 refine zE fun k' hk'=>?_
 simp[hh]
 apply hk'
 refine Runs.cut (fun ρ H n=>(ρ 2=pA n1 2∧ρ 3=pA (n1+1) 3)∧H (n1,2)=some ⟨6,[bC false agent]⟩∧H (n1+1,3)=some ⟨2,[mC false m]⟩∧Sep H n [] [(n1+1,3),(n1,2)]) (by refine⟨?_,?_,?_,sp.var.var⟩<;>simp[hh]) ?_
 clear hh
 rintro ρ H n4 ⟨hh,m2_1,m3_2,sp⟩
 refine zE fun k' hk'=>?_
 simp[hh,m2_1,m3_2]
 apply hk'
 refine Runs.cut (fun ρ H n=>∃ (v6:AVal),(ρ 2=pA n1 2∧ρ 3=pA (n1+1) 3∧ρ 5=v6)∧H (n1,2)=some ⟨6,[bC false agent]⟩∧H (n1+1,3)=some ⟨2,[mC false m]⟩∧Sep H n [oI v6 ([]:List Int)] [(n1+1,3),(n1,2)]) (by refine⟨.arr (n4,7) 0 0 0,?_,?_,?_,(Sep.addEmpty (l:=[.c]) sp)⟩<;>simp[hh,m2_1,m3_2]) ?_
 clear hh m2_1 m3_2
 rintro ρ H n7 ⟨v6,hh,m2_1,m3_2,sp⟩
 refine Runs.seq ?_
 refine zE fun k' hk'=>?_
 obtain⟨len8,elen8,h⟩:=atm h
 have f9:=fun H=>len_list (H:=H) (fr:=false) (f:=(GNode.cells false)) kd_44 elen8
 simp[hh,m2_1,m3_2,f9,-lenF]
 apply hk'
 refine Runs.block ?_
 refine Runs.loopW h (fun (sJ:Int × (List Int)) ρ H n=>match sJ with | (v17,l18)=>∃ (v19:AVal),(ρ 2=pA n1 2∧ρ 3=pA (n1+1) 3∧ρ 5=v19∧ρ 10=int len8∧ρ 11=int v17)∧H (n1,2)=some ⟨6,[bC false agent]⟩∧H (n1+1,3)=some ⟨2,[mC false m]⟩∧Sep H n [oI v19 l18] [(n1+1,3),(n1,2)]) (by refine⟨v6,?_,?_,?_,sp⟩<;>simp[hh,m2_1,m3_2]) ?_
 clear hh m2_1 m3_2
 rintro⟨v17,l18⟩ ρ H n20 K h ⟨v19,hh,m2_1,m3_2,sp⟩ IH21
 refine zE fun k' hk'=>?_
 obtain⟨c23,ec23,h⟩:=atm h
 have f24:=ib_lss (k:=.i64) ec23
 simp[hh,m2_1,m3_2,f24,-intBin]
 apply hk'
 refine Runs.seq ?_
 refine Runs.ite (b:=c23) (by simp[hh,m2_1,m3_2]) (fun dc23=>?_) (fun dc23=>?_)
 ·replace h:=h.1 dc23
  refine Runs.skip ?_
  refine Runs.seq ?_
  refine Runs.block ?_
  refine zE fun k' hk'=>?_
  simp[hh,m2_1,m3_2,dc23]
  apply hk'
  refine zE fun k' hk'=>?_
  obtain⟨J25,hJ26,hr27⟩:=h
  have fin30:∀ (sJ:Bool) (ρ:Env) (H:Heap) (n:Nat),J25 sJ→(match sJ with | b28=>∃ (v29:AVal),(ρ 2=pA n1 2∧ρ 3=pA (n1+1) 3∧ρ 5=v29∧ρ 6=int v17∧ρ 10=int len8∧ρ 11=int v17∧ρ 25=bool b28)∧H (n1,2)=some ⟨6,[bC false agent]⟩∧H (n1+1,3)=some ⟨2,[mC false m]⟩∧Sep H n [oI v29 l18] [(n1+1,3),(n1,2)])→Runs Tryz.prog 105 32 k' ρ H n Q:=by
   rintro b28 ρ H n31 h ⟨v29,hh,m2_1,m3_2,sp⟩
   replace h:=hr27 _ h
   apply hk'
   refine Runs.ite (b:=b28) (by simp[hh,m2_1,m3_2]) (fun db28=>?_) (fun db28=>?_)
   ·replace h:=h.1 db28
    refine zF fun k' hk'=>?_
    obtain⟨hb32,h⟩:=h
    obtain⟨l33,el33,h⟩:=atm h
    simp[hh,m2_1,m3_2,db28,-appendF]
    refine bind_append [] [] [[int v17]] [intC v17] sp kd_24 (by simp) (by simp) (by simp) (by simp[-one1,o1x]) (rows_one (Fill.v _ Fill.nil)) (by simp) (by simpa using hb32) ?_
    rintro v34 H35 n36 sp hfr37 hle38
    replace sp:Sep H35 n36 [oI v34 l33] [(n1+1,3),(n1,2)]:=Sep.ap el33 sp
    have m2_1:H35 (n1,2)=some ⟨6,[bC false agent]⟩:=(hfr37 _ (by simp)).trans (by simp[hh,m2_1,m3_2,Heap.get_set])
    have m3_2:H35 (n1+1,3)=some ⟨2,[mC false m]⟩:=(hfr37 _ (by simp)).trans (by simp[hh,m2_1,m3_2,Heap.get_set])
    simp[hh,m2_1,m3_2,db28]
    apply hk'
    refine Runs.cut (fun ρ H n=>∃ (v40:AVal),(ρ 2=pA n1 2∧ρ 3=pA (n1+1) 3∧ρ 5=v40∧ρ 10=int len8∧ρ 11=int v17)∧H (n1,2)=some ⟨6,[bC false agent]⟩∧H (n1+1,3)=some ⟨2,[mC false m]⟩∧Sep H n [oI v40 l33] [(n1+1,3),(n1,2)]) (by refine⟨v34,?_,?_,?_,sp⟩<;>simp[hh,m2_1,m3_2,db28]) ?_
    clear hh m2_1 m3_2
    rintro ρ H n41 ⟨v40,hh,m2_1,m3_2,sp⟩
    refine Runs.inBlock ?_
    refine zF fun k' hk'=>?_
    obtain⟨hb42,h⟩:=h
    obtain⟨v43,ev43,h⟩:=atm h
    have f44:=ib_add hb42 ev43
    simp[hh,m2_1,m3_2,f44,-intBin]
    apply hk'
    refine IH21 (v43,l33) _ _ _ h (by refine⟨v40,?_,?_,?_,sp⟩<;>simp[hh,m2_1,m3_2])
   replace h:=h.2 db28
   refine Runs.skip ?_
   refine Runs.inBlock ?_
   refine zF fun k' hk'=>?_
   obtain⟨hb45,h⟩:=h
   obtain⟨v46,ev46,h⟩:=atm h
   have f47:=ib_add hb45 ev46
   simp[hh,m2_1,m3_2,f47,db28,-intBin]
   apply hk'
   refine IH21 (v46,l18) _ _ _ h (by refine⟨v29,?_,?_,?_,sp⟩<;>simp[hh,m2_1,m3_2,db28])
  replace h:=hJ26
  obtain⟨hb48,h⟩:=h
  obtain⟨r49,er49,h⟩:=atm h
  simp[hh,m2_1,m3_2,dc23]
  refine RunK.callA Ty_ok (isUnder_ok agent v17 m.nodes hb48) e156 (.cons (argB false agent) (.cons (.v _ _ _) (.cons (argI false m.nodes) .nil))) (by decide) (by decide) rfl (by simp[hh,m2_1,m3_2,dc23]) ?_
  rintro _ rfl
  rw[← er49]
  rcases Bool.eq_false_or_eq_true r49 with dr49 | dr49
  ·replace h:=h.1 dr49
   obtain⟨hb50,h⟩:=h
   obtain⟨r51,er51,h⟩:=atm h
   simp[hh,m2_1,m3_2,dc23,dr49]
   refine RunK.callA Ty_ok (hasI_ok m.nodes v17 hb50) e131 (.cons (argI false m.nodes) (.cons (.v _ _ _) .nil)) (by decide) (by decide) rfl (by simp[hh,m2_1,m3_2,dc23,dr49]) ?_
   rintro _ rfl
   rw[← er51]
   simp[hh,m2_1,m3_2,dc23,dr49]
   exact fin30 ((!r51)) _ _ _ h (by refine⟨v19,?_,?_,?_,sp⟩<;>simp[hh,m2_1,m3_2,dc23,dr49])
  replace h:=h.2 dr49
  simp[hh,m2_1,m3_2,dc23,dr49]
  exact fin30 (false) _ _ _ h (by refine⟨v19,?_,?_,?_,sp⟩<;>simp[hh,m2_1,m3_2,dc23,dr49])
 replace h:=h.2 dc23
 refine Runs.exit rfl ?_
 refine zE fun k' hk'=>?_
 simp[hh,m2_1,m3_2,dc23]
 apply hk'
 exact Runs.ret1 (v:=v19) Tryz.func105 Tryz.results105 (by simp[hh,m2_1,m3_2,dc23]) (hQ _ _ _ _ (Sep.sub (ids':=[]) sp (by simp)) ⟨l18,h,rfl⟩)
theorem parameterOf_ok (agent:Big) (m:Match) (hp:parameterOf_pre agent m):OwnS Tryz.prog 105 [.agg (bC false agent),.agg (mC false m)] (.s [.c]) (fun r=>r = .list true ((parameterOf agent m).map intC)):=(parameterOf_walk agent m _ (parameterOf_vc agent m hp)).mono (by rintro _ ⟨_,rfl,rfl⟩;rfl)
end Go.Ab.Vg
/- Walks by program for YtbpdcoahefnnkaaGreatDoorAbCo. -/
namespace Go.Ab.Vg
open Go.Proofs
set_option maxRecDepth 100000
set_option linter.unusedSimpArgs false
set_option linter.unusedVariables false
end Go.Ab.Vg
/- Walks by program for YtbpdcoahefnnkaaGreatDoorAbMp. -/
namespace Go.Ab.Vg
open Go.Proofs
set_option maxRecDepth 100000
set_option linter.unusedSimpArgs false
set_option linter.unusedVariables false
end Go.Ab.Vg
/- Walks by program for YtbpdcoahefnnkaaGreatDoorAbEm. -/
namespace Go.Ab.Vg
open Go.Proofs
set_option maxRecDepth 100000
set_option linter.unusedSimpArgs false
set_option linter.unusedVariables false
attribute [local simp] strC
theorem e176:Ent Tryz.prog 176:=Ent.of Tryz.func176 (by kernel_rfl) rfl
theorem indexS_walk (s:List Str) (v_:Str) (Z:Int→Prop) (h:indexS_wp s v_ Z):PureC Tryz.prog 176 [.list false (s.map strC),str v_] (fun r=>∃ y:Int,Z y∧r=int y):=by
 unfold indexS_wp at h
 refine PureC.of Tryz.func176 rfl Tryz.ntmps176 (by simp) fun Q hQ=>?_
 refine Runs.cut (fun ρ H n=>(ρ 0 = .list false (s.map strC)∧ρ 1=str v_)) (by simp) ?_
 rintro ρ H n1 hh
 refine zE fun k' hk'=>?_
 simp[hh]
 apply hk'
 refine Runs.seq ?_
 refine zE fun k' hk'=>?_
 obtain⟨len2,elen2,h⟩:=atm h
 have f3:=fun H=>len_list (H:=H) (fr:=false) (f:=strC) kd_25 elen2
 simp[hh,f3,-lenF]
 apply hk'
 refine Runs.block ?_
 refine Runs.loopW h (fun (sJ:Int) ρ H n=>match sJ with | v6=>(ρ 0 = .list false (s.map strC)∧ρ 1=str v_∧ρ 7=int len2∧ρ 8=int v6)) (by simp[hh]) ?_
 clear hh
 rintro v6 ρ H n7 K h hh IH8
 refine zE fun k' hk'=>?_
 obtain⟨c10,ec10,h⟩:=atm h
 have f11:=ib_lss (k:=.i64) ec10
 simp[hh,f11,-intBin]
 apply hk'
 refine Runs.seq ?_
 refine Runs.ite (b:=c10) (by simp[hh]) (fun dc10=>?_) (fun dc10=>?_)
 ·replace h:=h.1 dc10
  refine Runs.skip ?_
  refine Runs.seq ?_
  refine Runs.block ?_
  refine zE fun k' hk'=>?_
  simp[hh,dc10]
  apply hk'
  refine zE fun k' hk'=>?_
  obtain⟨hb12,h⟩:=h
  obtain⟨x13,ex13,h⟩:=atm h
  have f14:=fun H=>ix_list (H:=H) (fr:=false) (f:=strC) (k:=.i64) kd_25 (fun _=>rfl) hb12 ex13
  obtain⟨c15,ec15,h⟩:=atm h
  have f16:=sb_eql ec15
  simp[hh,f14,f16,dc10,-indexAddrF,-strBin]
  apply hk'
  refine Runs.ite (b:=c15) (by simp[hh,dc10]) (fun dc15=>?_) (fun dc15=>?_)
  ·replace h:=h.1 dc15
   refine zE fun k' hk'=>?_
   simp[hh,dc10,dc15]
   apply hk'
   exact Runs.ret1 (v:=int v6) Tryz.func176 Tryz.results176 (by simp[hh,dc10,dc15]) (hQ _ _ _ _ (.of (.v _)) ⟨v6,h,rfl⟩)
  replace h:=h.2 dc15
  refine Runs.skip ?_
  refine Runs.inBlock ?_
  refine zF fun k' hk'=>?_
  obtain⟨hb17,h⟩:=h
  obtain⟨v18,ev18,h⟩:=atm h
  have f19:=ib_add hb17 ev18
  simp[hh,f19,dc10,dc15,-intBin]
  apply hk'
  refine IH8 (v18) _ _ _ h (by simp[hh,dc10,dc15])
 replace h:=h.2 dc10
 refine Runs.exit rfl ?_
 refine zE fun k' hk'=>?_
 simp[hh,dc10]
 apply hk'
 exact Runs.ret1 (v:=int (-1)) Tryz.func176 Tryz.results176 (by simp[hh,dc10]) (hQ _ _ _ _ (.of (.v _)) ⟨(-1),h,rfl⟩)
theorem indexS_ok (s:List Str) (v_:Str) (hp:indexS_pre s v_):PureC Tryz.prog 176 [.list false (s.map strC),str v_] (fun r=>r=int (indexS s v_)):=(indexS_walk s v_ _ (indexS_vc s v_ hp)).mono (by rintro _ ⟨_,rfl,rfl⟩;rfl)
theorem e137:Ent Tryz.prog 137:=Ent.of Tryz.func137 (by kernel_rfl) rfl
theorem l2At_walk (list:List Str) (name:Str) (Z:Int→Prop) (h:l2At_wp list name Z):PureC Tryz.prog 137 [.list false (list.map strC),str name] (fun r=>∃ y:Int,Z y∧r=int y):=by
 unfold l2At_wp at h
 refine PureC.of Tryz.func137 rfl Tryz.ntmps137 (by simp) fun Q hQ=>?_
 refine Runs.cut (fun ρ H n=>(ρ 0 = .list false (list.map strC)∧ρ 1=str name)) (by simp) ?_
 rintro ρ H n1 hh
 refine zE fun k' hk'=>?_
 simp[hh]
 apply hk'
 refine Runs.seq ?_
 refine zE fun k' hk'=>?_
 simp[hh]
 apply hk'
 refine Runs.block ?_
 refine Runs.loopW h (fun (sJ:Int) ρ H n=>match sJ with | i4=>(ρ 0 = .list false (list.map strC)∧ρ 1=str name∧ρ 5=int i4)) (by simp[hh]) ?_
 clear hh
 rintro i4 ρ H n5 K h hh IH6
 refine Runs.seq ?_
 refine zE fun k' hk'=>?_
 obtain⟨len8,elen8,h⟩:=atm h
 have f9:=fun H=>len_list (H:=H) (fr:=false) (f:=strC) kd_25 elen8
 obtain⟨c10,ec10,h⟩:=atm h
 have f11:=ib_lss (k:=.i64) ec10
 simp[hh,f9,f11,-intBin,-lenF]
 apply hk'
 refine Runs.ite (b:=c10) (by simp[hh]) (fun dc10=>?_) (fun dc10=>?_)
 ·replace h:=h.1 dc10
  refine Runs.skip ?_
  refine Runs.seq ?_
  refine Runs.block ?_
  refine zE fun k' hk'=>?_
  obtain⟨hb12,h⟩:=h
  obtain⟨x13,ex13,h⟩:=atm h
  have f14:=fun H=>ix_list (H:=H) (fr:=false) (f:=strC) (k:=.i64) kd_25 (fun _=>rfl) hb12 ex13
  obtain⟨c15,ec15,h⟩:=atm h
  have f16:=sb_eql ec15
  simp[hh,f14,f16,dc10,-indexAddrF,-strBin]
  apply hk'
  refine Runs.ite (b:=c15) (by simp[hh,dc10]) (fun dc15=>?_) (fun dc15=>?_)
  ·replace h:=h.1 dc15
   refine zE fun k' hk'=>?_
   simp[hh,dc10,dc15]
   apply hk'
   exact Runs.ret1 (v:=int i4) Tryz.func137 Tryz.results137 (by simp[hh,dc10,dc15]) (hQ _ _ _ _ (.of (.v _)) ⟨i4,h,rfl⟩)
  replace h:=h.2 dc15
  refine Runs.skip ?_
  refine Runs.inBlock ?_
  refine zF fun k' hk'=>?_
  obtain⟨hb17,h⟩:=h
  obtain⟨v18,ev18,h⟩:=atm h
  have f19:=ib_add hb17 ev18
  simp[hh,f19,dc10,dc15,-intBin]
  apply hk'
  refine IH6 (v18) _ _ _ h (by simp[hh,dc10,dc15])
 replace h:=h.2 dc10
 refine Runs.exit rfl ?_
 refine zE fun k' hk'=>?_
 simp[hh,dc10]
 apply hk'
 exact Runs.ret1 (v:=int (-1)) Tryz.func137 Tryz.results137 (by simp[hh,dc10]) (hQ _ _ _ _ (.of (.v _)) ⟨(-1),h,rfl⟩)
theorem l2At_ok (list:List Str) (name:Str) (hp:l2At_pre list name):PureC Tryz.prog 137 [.list false (list.map strC),str name] (fun r=>r=int (l2At list name)):=(l2At_walk list name _ (l2At_vc list name hp)).mono (by rintro _ ⟨_,rfl,rfl⟩;rfl)
end Go.Ab.Vg
