/- Merged texts (15 of 16) of the proof that ends in Lky: Mzw Ry Lkz. -/
import Derived.Test.YtbpdcoahefnnkaaGreatDoorAbQlk14
/- Walks by program for YtbpdcoahefnnkaaGreatDoorAbMz. -/
namespace Go.Ab.Vg
open Go.Proofs
set_option maxRecDepth 100000
set_option linter.unusedSimpArgs false
set_option linter.unusedVariables false
attribute [local simp] Control.cells GNode.cells Wire.cells intC intC3 sliceC strC bC pA
theorem e80:Ent Tryz.prog 80:=Ent.of Tryz.func80 (by kernel_rfl) rfl
theorem markBigS_walk (a:List Big) (k_:Int) (Z:((List Big) × Int)→Prop) (h:markBigS_wp a k_ Z):MutS Tryz.prog 80 (fun v=>[v,int k_]) (.s [.c,.s [.c,.c,.s [.c]],.s [.c],.c,.s [.c],.s [.c,.c]]) (.list true (a.map (Big.cells true))) (fun e' r=>∃ y:(List Big) × Int,Z y∧e' = .list true (y.1.map (Big.cells true))∧r=int y.2):=by
 unfold markBigS_wp at h
 refine MutS.of Tryz.func80 rfl Tryz.ntmps80 (fun _=>by simp) fun H0 n0 v0 K0 ids0 sp Q hQ=>?_
 have h00:=sp.1
 have hid:∀ i ∈ ids0,H0 i=H0 i:=fun _ _=>rfl
 have hnn:n0≤n0:=Nat.le_refl _
 refine Runs.cut (fun ρ H n=>(ρ 0=v0∧ρ 1=int k_)∧n0≤n∧(∀ i ∈ ids0,H i=H0 i)∧Sep H n (oE [.c,.s [.c,.c,.s [.c]],.s [.c],.c,.s [.c],.s [.c,.c]] (Big.cells true) v0 a::K0) (ids0)) (by refine⟨?_,(by omega),hid,sp⟩<;>simp[Big.cells,encI,encN,encS,encW]) ?_
 rintro ρ H n2 ⟨hh,hnn,hid,sp⟩
 have hq_n2:=hnn
 refine zE fun k' hk'=>?_
 simp[hh,Big.cells,encI,encN,encS,encW]
 apply hk'
 refine Runs.seq ?_
 refine zE fun k' hk'=>?_
 simp[hh,Big.cells,encI,encN,encS,encW]
 apply hk'
 refine Runs.block ?_
 refine Runs.loopW h (fun (sJ:Int × Int × (List Big)) ρ H n=>match sJ with | (k10,i11,l12)=>(ρ 0=v0∧ρ 1=int k10∧ρ 5=int i11)∧n0≤n∧(∀ i ∈ ids0,H i=H0 i)∧Sep H n (oE [.c,.s [.c,.c,.s [.c]],.s [.c],.c,.s [.c],.s [.c,.c]] (Big.cells true) v0 l12::K0) (ids0)) (by refine⟨?_,(by omega),hid,sp⟩<;>simp[hh,Big.cells,encI,encN,encS,encW]) ?_
 clear hh
 rintro⟨k10,i11,l12⟩ ρ H n13 K h ⟨hh,hnn,hid,sp⟩ IH14
 have hq_n13:=hnn
 refine Runs.seq ?_
 refine zE fun k' hk'=>?_
 obtain⟨len16,elen16,h⟩:=atm h
 have f17:=len_own (Sep.len (m:=len16) sp kd_70 (by rw[elen16,List.length_map]))
 obtain⟨c18,ec18,h⟩:=atm h
 have f19:=ib_lss (k:=.i64) ec18
 simp[hh,f17,f19,Big.cells,encI,encN,encS,encW,-intBin,-lenF]
 apply hk'
 refine Runs.ite (b:=c18) (by simp[hh,Big.cells,encI,encN,encS,encW]) (fun dc18=>?_) (fun dc18=>?_)
 ·replace h:=h.1 dc18
  refine Runs.skip ?_
  refine Runs.seq ?_
  refine Runs.block ?_
  refine zE fun k' hk'=>?_
  obtain⟨hb20,h⟩:=h
  obtain⟨x21,ex21,h⟩:=atm h
  obtain⟨id22,els23,row24,W25,hq26,mo27,moL28,moR29,hrl30,hW31,hsub32,hni33,spr34,hcl35⟩:=Sep.rowF (q:=i11.toNat) (f:=(Big.cells true)) sp hb20 ex21 rfl
  subst hq26
  obtain⟨c36,c37,c38,c39,c40,c41,hq26⟩:=len6 (by simpa using hrl30)
  subst hq26
  replace spr34:Sep _ _ [(.c,c36,int x21.roots),(.s [.c,.c,.s [.c]],c37,.list true (x21.nodes.map (GNode.cells true))),(.s [.c],c38,.list true (x21.sites.map intC)),(.c,c39,int x21.edges),(.s [.c],c40,.list true (x21.outer.map strC)),(.s [.c,.c],c41,.list true (x21.inner.map Wire.cells))] W25:=spr34
  obtain rfl:=Sep.cAt (K1:=[]) (K2:=[(.s [.c,.c,.s [.c]],c37,.list true (x21.nodes.map (GNode.cells true))),(.s [.c],c38,.list true (x21.sites.map intC)),(.c,c39,int x21.edges),(.s [.c],c40,.list true (x21.outer.map strC)),(.s [.c,.c],c41,.list true (x21.inner.map Wire.cells))]) spr34
  obtain rfl:=Sep.cAt (K1:=[(.c,int x21.roots,int x21.roots),(.s [.c,.c,.s [.c]],c37,.list true (x21.nodes.map (GNode.cells true))),(.s [.c],c38,.list true (x21.sites.map intC))]) (K2:=[(.s [.c],c40,.list true (x21.outer.map strC)),(.s [.c,.c],c41,.list true (x21.inner.map Wire.cells))]) spr34
  have f42:=ix_arr (k:=.i64) (off:=0) (len:=l12.length) kd_70 mo27 moL28 rfl hb20
  obtain⟨l43,el43,h⟩:=atm h
  simp[hh,mo27,moL28,moR29,f42,dc18,Big.cells,encI,encN,encS,encW,-indexAddrF,-storeF]
  refine bind_cell (i:=ty3) (q:=i11.toNat) (off:=0) (ix:=i11) (x:=x21) (y:=(Big.mk k10 x21.nodes x21.sites x21.edges x21.outer x21.inner)) (f:=(Big.cells true)) [] [.s [.c,.c,.s [.c]],.s [.c],.c,.s [.c],.s [.c,.c]] [] [.list true (x21.nodes.map (GNode.cells true)),.list true (x21.sites.map intC),int x21.edges,.list true (x21.outer.map strC),.list true (x21.inner.map Wire.cells)] sp rfl rfl hb20 ex21 rfl rfl rfl rfl rfl rfl rfl ?_
  rintro H44 sp hfr45
  replace sp:Sep H44 n13 (oE [.c,.s [.c,.c,.s [.c]],.s [.c],.c,.s [.c],.s [.c,.c]] (Big.cells true) (.arr id22 l12.length 0 l12.length) l43::K0) (ids0):=by rw[el43];exact sp
  have hid:∀ i ∈ ids0,H44 i=H0 i:=fun i hi=>(hfr45 i (by simp[hi])).trans (hid i hi)
  simp[hh,f42,dc18,Big.cells,encI,encN,encS,encW,-indexAddrF]
  apply hk'
  refine Runs.cut (fun ρ H n=>(ρ 0 = .arr id22 l12.length 0 l12.length∧ρ 1=int k10∧ρ 5=int i11)∧n0≤n∧(∀ i ∈ ids0,H i=H0 i)∧Sep H n (oE [.c,.s [.c,.c,.s [.c]],.s [.c],.c,.s [.c],.s [.c,.c]] (Big.cells true) (.arr id22 l12.length 0 l12.length) l43::K0) (ids0)) (by refine⟨?_,(by omega),hid,sp⟩<;>simp[hh,f42,dc18,Big.cells,encI,encN,encS,encW,-indexAddrF]) ?_
  clear hh
  rintro ρ H n47 ⟨hh,hnn,hid,sp⟩
  have hq_n47:=hnn
  refine zE fun k' hk'=>?_
  obtain⟨hb48,h⟩:=h
  obtain⟨v49,ev49,h⟩:=atm h
  have f50:=ib_add hb48 ev49
  simp[hh,f50,Big.cells,encI,encN,encS,encW,-intBin]
  apply hk'
  refine zE fun k' hk'=>?_
  obtain⟨hb51,h⟩:=h
  obtain⟨x52,ex52,h⟩:=atm h
  obtain⟨id53,els54,row55,W56,hq57,mo58,moL59,moR60,hrl61,hW62,hsub63,hni64,spr65,hcl66⟩:=Sep.rowF (q:=i11.toNat) (f:=(Big.cells true)) sp hb51 ex52 rfl
  simp only[AVal.arr.injEq] at hq57
  obtain⟨hq57,hln67,-⟩:=hq57
  subst hq57
  replace moL59:=moL59.trans hln67.symm
  obtain⟨c68,c69,c70,c71,c72,c73,hq57⟩:=len6 (by simpa using hrl61)
  subst hq57
  replace spr65:Sep _ _ [(.c,c68,int x52.roots),(.s [.c,.c,.s [.c]],c69,.list true (x52.nodes.map (GNode.cells true))),(.s [.c],c70,.list true (x52.sites.map intC)),(.c,c71,int x52.edges),(.s [.c],c72,.list true (x52.outer.map strC)),(.s [.c,.c],c73,.list true (x52.inner.map Wire.cells))] W56:=spr65
  obtain rfl:=Sep.cAt (K1:=[]) (K2:=[(.s [.c,.c,.s [.c]],c69,.list true (x52.nodes.map (GNode.cells true))),(.s [.c],c70,.list true (x52.sites.map intC)),(.c,c71,int x52.edges),(.s [.c],c72,.list true (x52.outer.map strC)),(.s [.c,.c],c73,.list true (x52.inner.map Wire.cells))]) spr65
  obtain rfl:=Sep.cAt (K1:=[(.c,int x52.roots,int x52.roots),(.s [.c,.c,.s [.c]],c69,.list true (x52.nodes.map (GNode.cells true))),(.s [.c],c70,.list true (x52.sites.map intC))]) (K2:=[(.s [.c],c72,.list true (x52.outer.map strC)),(.s [.c,.c],c73,.list true (x52.inner.map Wire.cells))]) spr65
  have f74:=ix_arr (k:=.i64) (off:=0) (len:=l12.length) kd_70 mo58 moL59 rfl (by rw[hln67];exact hb51)
  obtain⟨hb75,h⟩:=h
  obtain⟨r76,er76,h⟩:=atm h
  simp[hh,mo58,moL59,moR60,f74,Big.cells,encI,encN,encS,encW,-indexAddrF]
  refine RunK.callM (v:=c69) Ty_ok (markNodeS_ok x52.nodes v49 hb75) e82 (Sep.front (K1:=[(.c,int x52.roots,int x52.roots)]) (K2:=[(.s [.c],c70,.list true (x52.sites.map intC)),(.c,int x52.edges,int x52.edges),(.s [.c],c72,.list true (x52.outer.map strC)),(.s [.c,.c],c73,.list true (x52.inner.map Wire.cells))]) spr65) (by decide) (by decide) rfl (by simp[hh,mo58,moL59,moR60,f74,Big.cells,encI,encN,encS,encW,-indexAddrF]) ?_
  rintro _ H77 n78 _ ⟨rfl,rfl⟩ spx hle80 hfrW79
  rw[← er76] at spx
  rw[← er76]
  obtain⟨l82,el82,h⟩:=atm h
  replace sp:=hcl66 H77 n78 (Big.mk x52.roots r76.1 x52.sites x52.edges x52.outer x52.inner) (Sep.unfront (K1:=[(.c,int x52.roots,int x52.roots)]) (K2:=[(.s [.c],c70,.list true (x52.sites.map intC)),(.c,int x52.edges,int x52.edges),(.s [.c],c72,.list true (x52.outer.map strC)),(.s [.c,.c],c73,.list true (x52.inner.map Wire.cells))]) spx) rfl hfrW79 hle80
  have hfr81:=fun i hi=>hfrW79 i (hsub63 i hi)
  replace sp:Sep H77 n78 (oE [.c,.s [.c,.c,.s [.c]],.s [.c],.c,.s [.c],.s [.c,.c]] (Big.cells true) (.arr id22 l12.length 0 l12.length) l82::K0) (ids0):=by rw[el82];exact sp
  have hid:∀ i ∈ ids0,H77 i=H0 i:=fun i hi=>(hfr81 i (by simp[hi])).trans (hid i hi)
  have hnn:n0≤n78:=by omega
  have hq_n78:=hnn
  simp[hh,f74,Big.cells,encI,encN,encS,encW,-indexAddrF]
  apply hk'
  refine Runs.cut (fun ρ H n=>(ρ 0 = .arr id22 l12.length 0 l12.length∧ρ 1=int r76.2∧ρ 5=int i11)∧n0≤n∧(∀ i ∈ ids0,H i=H0 i)∧Sep H n (oE [.c,.s [.c,.c,.s [.c]],.s [.c],.c,.s [.c],.s [.c,.c]] (Big.cells true) (.arr id22 l12.length 0 l12.length) l82::K0) (ids0)) (by refine⟨?_,(by omega),hid,sp⟩<;>simp[hh,f74,Big.cells,encI,encN,encS,encW,-indexAddrF]) ?_
  clear hh
  rintro ρ H n84 ⟨hh,hnn,hid,sp⟩
  have hq_n84:=hnn
  refine zE fun k' hk'=>?_
  obtain⟨hb85,h⟩:=h
  obtain⟨x86,ex86,h⟩:=atm h
  obtain⟨id87,els88,row89,W90,hq91,mo92,moL93,moR94,hrl95,hW96,hsub97,hni98,spr99,hcl100⟩:=Sep.rowF (q:=i11.toNat) (f:=(Big.cells true)) sp hb85 ex86 rfl
  simp only[AVal.arr.injEq] at hq91
  obtain⟨hq91,hln101,-⟩:=hq91
  subst hq91
  replace moL93:=moL93.trans hln101.symm
  obtain⟨c102,c103,c104,c105,c106,c107,hq91⟩:=len6 (by simpa using hrl95)
  subst hq91
  replace spr99:Sep _ _ [(.c,c102,int x86.roots),(.s [.c,.c,.s [.c]],c103,.list true (x86.nodes.map (GNode.cells true))),(.s [.c],c104,.list true (x86.sites.map intC)),(.c,c105,int x86.edges),(.s [.c],c106,.list true (x86.outer.map strC)),(.s [.c,.c],c107,.list true (x86.inner.map Wire.cells))] W90:=spr99
  obtain rfl:=Sep.cAt (K1:=[]) (K2:=[(.s [.c,.c,.s [.c]],c103,.list true (x86.nodes.map (GNode.cells true))),(.s [.c],c104,.list true (x86.sites.map intC)),(.c,c105,int x86.edges),(.s [.c],c106,.list true (x86.outer.map strC)),(.s [.c,.c],c107,.list true (x86.inner.map Wire.cells))]) spr99
  obtain rfl:=Sep.cAt (K1:=[(.c,int x86.roots,int x86.roots),(.s [.c,.c,.s [.c]],c103,.list true (x86.nodes.map (GNode.cells true))),(.s [.c],c104,.list true (x86.sites.map intC))]) (K2:=[(.s [.c],c106,.list true (x86.outer.map strC)),(.s [.c,.c],c107,.list true (x86.inner.map Wire.cells))]) spr99
  have f108:=ix_arr (k:=.i64) (off:=0) (len:=l12.length) kd_70 mo92 moL93 rfl (by rw[hln101];exact hb85)
  obtain⟨hb109,h⟩:=h
  obtain⟨r110,er110,h⟩:=atm h
  simp[hh,mo92,moL93,moR94,f108,Big.cells,encI,encN,encS,encW,-indexAddrF]
  refine RunK.callM (v:=c104) Ty_ok (markIntS_ok x86.sites r76.2 hb109) e32 (Sep.front (K1:=[(.c,int x86.roots,int x86.roots),(.s [.c,.c,.s [.c]],c103,.list true (x86.nodes.map (GNode.cells true)))]) (K2:=[(.c,int x86.edges,int x86.edges),(.s [.c],c106,.list true (x86.outer.map strC)),(.s [.c,.c],c107,.list true (x86.inner.map Wire.cells))]) spr99) (by decide) (by decide) rfl (by simp[hh,mo92,moL93,moR94,f108,Big.cells,encI,encN,encS,encW,-indexAddrF]) ?_
  rintro _ H111 n112 _ ⟨rfl,rfl⟩ spx hle114 hfrW113
  rw[← er110] at spx
  rw[← er110]
  obtain⟨l116,el116,h⟩:=atm h
  replace sp:=hcl100 H111 n112 (Big.mk x86.roots x86.nodes r110.1 x86.edges x86.outer x86.inner) (Sep.unfront (K1:=[(.c,int x86.roots,int x86.roots),(.s [.c,.c,.s [.c]],c103,.list true (x86.nodes.map (GNode.cells true)))]) (K2:=[(.c,int x86.edges,int x86.edges),(.s [.c],c106,.list true (x86.outer.map strC)),(.s [.c,.c],c107,.list true (x86.inner.map Wire.cells))]) spx) rfl hfrW113 hle114
  have hfr115:=fun i hi=>hfrW113 i (hsub97 i hi)
  replace sp:Sep H111 n112 (oE [.c,.s [.c,.c,.s [.c]],.s [.c],.c,.s [.c],.s [.c,.c]] (Big.cells true) (.arr id22 l12.length 0 l12.length) l116::K0) (ids0):=by rw[el116];exact sp
  have hid:∀ i ∈ ids0,H111 i=H0 i:=fun i hi=>(hfr115 i (by simp[hi])).trans (hid i hi)
  have hnn:n0≤n112:=by omega
  have hq_n112:=hnn
  simp[hh,f108,Big.cells,encI,encN,encS,encW,-indexAddrF]
  apply hk'
  refine Runs.cut (fun ρ H n=>(ρ 0 = .arr id22 l12.length 0 l12.length∧ρ 1=int r110.2∧ρ 5=int i11)∧n0≤n∧(∀ i ∈ ids0,H i=H0 i)∧Sep H n (oE [.c,.s [.c,.c,.s [.c]],.s [.c],.c,.s [.c],.s [.c,.c]] (Big.cells true) (.arr id22 l12.length 0 l12.length) l116::K0) (ids0)) (by refine⟨?_,(by omega),hid,sp⟩<;>simp[hh,f108,Big.cells,encI,encN,encS,encW,-indexAddrF]) ?_
  clear hh
  rintro ρ H n118 ⟨hh,hnn,hid,sp⟩
  have hq_n118:=hnn
  refine zE fun k' hk'=>?_
  obtain⟨hb119,h⟩:=h
  obtain⟨x120,ex120,h⟩:=atm h
  obtain⟨id121,els122,row123,W124,hq125,mo126,moL127,moR128,hrl129,hW130,hsub131,hni132,spr133,hcl134⟩:=Sep.rowF (q:=i11.toNat) (f:=(Big.cells true)) sp hb119 ex120 rfl
  simp only[AVal.arr.injEq] at hq125
  obtain⟨hq125,hln135,-⟩:=hq125
  subst hq125
  replace moL127:=moL127.trans hln135.symm
  obtain⟨c136,c137,c138,c139,c140,c141,hq125⟩:=len6 (by simpa using hrl129)
  subst hq125
  replace spr133:Sep _ _ [(.c,c136,int x120.roots),(.s [.c,.c,.s [.c]],c137,.list true (x120.nodes.map (GNode.cells true))),(.s [.c],c138,.list true (x120.sites.map intC)),(.c,c139,int x120.edges),(.s [.c],c140,.list true (x120.outer.map strC)),(.s [.c,.c],c141,.list true (x120.inner.map Wire.cells))] W124:=spr133
  obtain rfl:=Sep.cAt (K1:=[]) (K2:=[(.s [.c,.c,.s [.c]],c137,.list true (x120.nodes.map (GNode.cells true))),(.s [.c],c138,.list true (x120.sites.map intC)),(.c,c139,int x120.edges),(.s [.c],c140,.list true (x120.outer.map strC)),(.s [.c,.c],c141,.list true (x120.inner.map Wire.cells))]) spr133
  obtain rfl:=Sep.cAt (K1:=[(.c,int x120.roots,int x120.roots),(.s [.c,.c,.s [.c]],c137,.list true (x120.nodes.map (GNode.cells true))),(.s [.c],c138,.list true (x120.sites.map intC))]) (K2:=[(.s [.c],c140,.list true (x120.outer.map strC)),(.s [.c,.c],c141,.list true (x120.inner.map Wire.cells))]) spr133
  have f142:=ix_arr (k:=.i64) (off:=0) (len:=l12.length) kd_70 mo126 moL127 rfl (by rw[hln135];exact hb119)
  obtain⟨l143,el143,h⟩:=atm h
  simp[hh,mo126,moL127,moR128,f142,Big.cells,encI,encN,encS,encW,-indexAddrF,-storeF]
  refine bind_cell (i:=ty3) (q:=i11.toNat) (off:=3) (ix:=i11) (x:=x120) (y:=(Big.mk x120.roots x120.nodes x120.sites r110.2 x120.outer x120.inner)) (f:=(Big.cells true)) [.c,.s [.c,.c,.s [.c]],.s [.c]] [.s [.c],.s [.c,.c]] [int x120.roots,.list true (x120.nodes.map (GNode.cells true)),.list true (x120.sites.map intC)] [.list true (x120.outer.map strC),.list true (x120.inner.map Wire.cells)] sp rfl rfl hb119 ex120 rfl hln135 rfl rfl rfl rfl rfl ?_
  rintro H144 sp hfr145
  replace sp:Sep H144 n118 (oE [.c,.s [.c,.c,.s [.c]],.s [.c],.c,.s [.c],.s [.c,.c]] (Big.cells true) (.arr id22 l12.length 0 l12.length) l143::K0) (ids0):=by rw[el143];exact sp
  have hid:∀ i ∈ ids0,H144 i=H0 i:=fun i hi=>(hfr145 i (by simp[hi])).trans (hid i hi)
  simp[hh,f142,Big.cells,encI,encN,encS,encW,-indexAddrF]
  apply hk'
  refine Runs.cut (fun ρ H n=>(ρ 0 = .arr id22 l12.length 0 l12.length∧ρ 1=int r110.2∧ρ 5=int i11)∧n0≤n∧(∀ i ∈ ids0,H i=H0 i)∧Sep H n (oE [.c,.s [.c,.c,.s [.c]],.s [.c],.c,.s [.c],.s [.c,.c]] (Big.cells true) (.arr id22 l12.length 0 l12.length) l143::K0) (ids0)) (by refine⟨?_,(by omega),hid,sp⟩<;>simp[hh,f142,Big.cells,encI,encN,encS,encW,-indexAddrF]) ?_
  clear hh
  rintro ρ H n147 ⟨hh,hnn,hid,sp⟩
  have hq_n147:=hnn
  refine zE fun k' hk'=>?_
  obtain⟨hb148,h⟩:=h
  obtain⟨v149,ev149,h⟩:=atm h
  have f150:=ib_add hb148 ev149
  simp[hh,f150,Big.cells,encI,encN,encS,encW,-intBin]
  apply hk'
  refine zE fun k' hk'=>?_
  obtain⟨hb151,h⟩:=h
  obtain⟨x152,ex152,h⟩:=atm h
  obtain⟨id153,els154,row155,W156,hq157,mo158,moL159,moR160,hrl161,hW162,hsub163,hni164,spr165,hcl166⟩:=Sep.rowF (q:=i11.toNat) (f:=(Big.cells true)) sp hb151 ex152 rfl
  simp only[AVal.arr.injEq] at hq157
  obtain⟨hq157,hln167,-⟩:=hq157
  subst hq157
  replace moL159:=moL159.trans hln167.symm
  obtain⟨c168,c169,c170,c171,c172,c173,hq157⟩:=len6 (by simpa using hrl161)
  subst hq157
  replace spr165:Sep _ _ [(.c,c168,int x152.roots),(.s [.c,.c,.s [.c]],c169,.list true (x152.nodes.map (GNode.cells true))),(.s [.c],c170,.list true (x152.sites.map intC)),(.c,c171,int x152.edges),(.s [.c],c172,.list true (x152.outer.map strC)),(.s [.c,.c],c173,.list true (x152.inner.map Wire.cells))] W156:=spr165
  obtain rfl:=Sep.cAt (K1:=[]) (K2:=[(.s [.c,.c,.s [.c]],c169,.list true (x152.nodes.map (GNode.cells true))),(.s [.c],c170,.list true (x152.sites.map intC)),(.c,c171,int x152.edges),(.s [.c],c172,.list true (x152.outer.map strC)),(.s [.c,.c],c173,.list true (x152.inner.map Wire.cells))]) spr165
  obtain rfl:=Sep.cAt (K1:=[(.c,int x152.roots,int x152.roots),(.s [.c,.c,.s [.c]],c169,.list true (x152.nodes.map (GNode.cells true))),(.s [.c],c170,.list true (x152.sites.map intC))]) (K2:=[(.s [.c],c172,.list true (x152.outer.map strC)),(.s [.c,.c],c173,.list true (x152.inner.map Wire.cells))]) spr165
  have f174:=ix_arr (k:=.i64) (off:=0) (len:=l12.length) kd_70 mo158 moL159 rfl (by rw[hln167];exact hb151)
  obtain⟨hb175,h⟩:=h
  obtain⟨r176,er176,h⟩:=atm h
  simp[hh,mo158,moL159,moR160,f174,Big.cells,encI,encN,encS,encW,-indexAddrF]
  refine RunK.callM (v:=c172) Ty_ok (markStringS_ok x152.outer v149 hb175) e38 (Sep.front (K1:=[(.c,int x152.roots,int x152.roots),(.s [.c,.c,.s [.c]],c169,.list true (x152.nodes.map (GNode.cells true))),(.s [.c],c170,.list true (x152.sites.map intC)),(.c,int x152.edges,int x152.edges)]) (K2:=[(.s [.c,.c],c173,.list true (x152.inner.map Wire.cells))]) spr165) (by decide) (by decide) rfl (by simp[hh,mo158,moL159,moR160,f174,Big.cells,encI,encN,encS,encW,-indexAddrF]) ?_
  rintro _ H177 n178 _ ⟨rfl,rfl⟩ spx hle180 hfrW179
  rw[← er176] at spx
  rw[← er176]
  obtain⟨l182,el182,h⟩:=atm h
  replace sp:=hcl166 H177 n178 (Big.mk x152.roots x152.nodes x152.sites x152.edges r176.1 x152.inner) (Sep.unfront (K1:=[(.c,int x152.roots,int x152.roots),(.s [.c,.c,.s [.c]],c169,.list true (x152.nodes.map (GNode.cells true))),(.s [.c],c170,.list true (x152.sites.map intC)),(.c,int x152.edges,int x152.edges)]) (K2:=[(.s [.c,.c],c173,.list true (x152.inner.map Wire.cells))]) spx) rfl hfrW179 hle180
  have hfr181:=fun i hi=>hfrW179 i (hsub163 i hi)
  replace sp:Sep H177 n178 (oE [.c,.s [.c,.c,.s [.c]],.s [.c],.c,.s [.c],.s [.c,.c]] (Big.cells true) (.arr id22 l12.length 0 l12.length) l182::K0) (ids0):=by rw[el182];exact sp
  have hid:∀ i ∈ ids0,H177 i=H0 i:=fun i hi=>(hfr181 i (by simp[hi])).trans (hid i hi)
  have hnn:n0≤n178:=by omega
  have hq_n178:=hnn
  simp[hh,f174,Big.cells,encI,encN,encS,encW,-indexAddrF]
  apply hk'
  refine Runs.cut (fun ρ H n=>(ρ 0 = .arr id22 l12.length 0 l12.length∧ρ 1=int r176.2∧ρ 5=int i11)∧n0≤n∧(∀ i ∈ ids0,H i=H0 i)∧Sep H n (oE [.c,.s [.c,.c,.s [.c]],.s [.c],.c,.s [.c],.s [.c,.c]] (Big.cells true) (.arr id22 l12.length 0 l12.length) l182::K0) (ids0)) (by refine⟨?_,(by omega),hid,sp⟩<;>simp[hh,f174,Big.cells,encI,encN,encS,encW,-indexAddrF]) ?_
  clear hh
  rintro ρ H n184 ⟨hh,hnn,hid,sp⟩
  have hq_n184:=hnn
  refine zF fun k' hk'=>?_
  obtain⟨hb185,h⟩:=h
  obtain⟨x186,ex186,h⟩:=atm h
  obtain⟨id187,els188,row189,W190,hq191,mo192,moL193,moR194,hrl195,hW196,hsub197,hni198,spr199,hcl200⟩:=Sep.rowF (q:=i11.toNat) (f:=(Big.cells true)) sp hb185 ex186 rfl
  simp only[AVal.arr.injEq] at hq191
  obtain⟨hq191,hln201,-⟩:=hq191
  subst hq191
  replace moL193:=moL193.trans hln201.symm
  obtain⟨c202,c203,c204,c205,c206,c207,hq191⟩:=len6 (by simpa using hrl195)
  subst hq191
  replace spr199:Sep _ _ [(.c,c202,int x186.roots),(.s [.c,.c,.s [.c]],c203,.list true (x186.nodes.map (GNode.cells true))),(.s [.c],c204,.list true (x186.sites.map intC)),(.c,c205,int x186.edges),(.s [.c],c206,.list true (x186.outer.map strC)),(.s [.c,.c],c207,.list true (x186.inner.map Wire.cells))] W190:=spr199
  obtain rfl:=Sep.cAt (K1:=[]) (K2:=[(.s [.c,.c,.s [.c]],c203,.list true (x186.nodes.map (GNode.cells true))),(.s [.c],c204,.list true (x186.sites.map intC)),(.c,c205,int x186.edges),(.s [.c],c206,.list true (x186.outer.map strC)),(.s [.c,.c],c207,.list true (x186.inner.map Wire.cells))]) spr199
  obtain rfl:=Sep.cAt (K1:=[(.c,int x186.roots,int x186.roots),(.s [.c,.c,.s [.c]],c203,.list true (x186.nodes.map (GNode.cells true))),(.s [.c],c204,.list true (x186.sites.map intC))]) (K2:=[(.s [.c],c206,.list true (x186.outer.map strC)),(.s [.c,.c],c207,.list true (x186.inner.map Wire.cells))]) spr199
  have f208:=ix_arr (k:=.i64) (off:=0) (len:=l12.length) kd_70 mo192 moL193 rfl (by rw[hln201];exact hb185)
  obtain⟨hb209,h⟩:=h
  obtain⟨r210,er210,h⟩:=atm h
  simp[hh,mo192,moL193,moR194,f208,Big.cells,encI,encN,encS,encW,-indexAddrF]
  refine RunK.callM (v:=c207) Ty_ok (markWireS_ok x186.inner r176.2 hb209) e83 (Sep.front (K1:=[(.c,int x186.roots,int x186.roots),(.s [.c,.c,.s [.c]],c203,.list true (x186.nodes.map (GNode.cells true))),(.s [.c],c204,.list true (x186.sites.map intC)),(.c,int x186.edges,int x186.edges),(.s [.c],c206,.list true (x186.outer.map strC))]) (K2:=[]) spr199) (by decide) (by decide) rfl (by simp[hh,mo192,moL193,moR194,f208,Big.cells,encI,encN,encS,encW,-indexAddrF]) ?_
  rintro _ H211 n212 _ ⟨rfl,rfl⟩ spx hle214 hfrW213
  rw[← er210] at spx
  rw[← er210]
  obtain⟨l216,el216,h⟩:=atm h
  replace sp:=hcl200 H211 n212 (Big.mk x186.roots x186.nodes x186.sites x186.edges x186.outer r210.1) (Sep.unfront (K1:=[(.c,int x186.roots,int x186.roots),(.s [.c,.c,.s [.c]],c203,.list true (x186.nodes.map (GNode.cells true))),(.s [.c],c204,.list true (x186.sites.map intC)),(.c,int x186.edges,int x186.edges),(.s [.c],c206,.list true (x186.outer.map strC))]) (K2:=[]) spx) rfl hfrW213 hle214
  have hfr215:=fun i hi=>hfrW213 i (hsub197 i hi)
  replace sp:Sep H211 n212 (oE [.c,.s [.c,.c,.s [.c]],.s [.c],.c,.s [.c],.s [.c,.c]] (Big.cells true) (.arr id22 l12.length 0 l12.length) l216::K0) (ids0):=by rw[el216];exact sp
  have hid:∀ i ∈ ids0,H211 i=H0 i:=fun i hi=>(hfr215 i (by simp[hi])).trans (hid i hi)
  have hnn:n0≤n212:=by omega
  have hq_n212:=hnn
  simp[hh,f208,Big.cells,encI,encN,encS,encW,-indexAddrF]
  apply hk'
  refine Runs.cut (fun ρ H n=>(ρ 0 = .arr id22 l12.length 0 l12.length∧ρ 1=int r210.2∧ρ 5=int i11)∧n0≤n∧(∀ i ∈ ids0,H i=H0 i)∧Sep H n (oE [.c,.s [.c,.c,.s [.c]],.s [.c],.c,.s [.c],.s [.c,.c]] (Big.cells true) (.arr id22 l12.length 0 l12.length) l216::K0) (ids0)) (by refine⟨?_,(by omega),hid,sp⟩<;>simp[hh,f208,Big.cells,encI,encN,encS,encW,-indexAddrF]) ?_
  clear hh
  rintro ρ H n218 ⟨hh,hnn,hid,sp⟩
  have hq_n218:=hnn
  refine Runs.inBlock ?_
  refine zF fun k' hk'=>?_
  obtain⟨hb219,h⟩:=h
  obtain⟨v220,ev220,h⟩:=atm h
  have f221:=ib_add hb219 ev220
  simp[hh,f221,Big.cells,encI,encN,encS,encW,-intBin]
  apply hk'
  refine IH14 (r210.2,v220,l216) _ _ _ h (by refine⟨?_,(by omega),hid,sp⟩<;>simp[hh,Big.cells,encI,encN,encS,encW])
 replace h:=h.2 dc18
 refine Runs.exit rfl ?_
 refine zE fun k' hk'=>?_
 simp[hh,dc18,Big.cells,encI,encN,encS,encW]
 apply hk'
 exact Runs.ret1 (v:=int k10) Tryz.func80 Tryz.results80 (by simp[hh,dc18,Big.cells,encI,encN,encS,encW]) (hQ _ _ _ _ (Sep.sub sp (by simp +contextual)) hid (by omega) ⟨(l12,k10),h,rfl,rfl⟩)
theorem markBigS_ok (a:List Big) (k_:Int) (hp:markBigS_pre a k_):MutS Tryz.prog 80 (fun v=>[v,int k_]) (.s [.c,.s [.c,.c,.s [.c]],.s [.c],.c,.s [.c],.s [.c,.c]]) (.list true (a.map (Big.cells true))) (fun e' r=>e' = .list true (((markBigS a k_).1).map (Big.cells true))∧r=int ((markBigS a k_).2)):=(markBigS_walk a k_ _ (markBigS_vc a k_ hp)).mono (by rintro _ _ ⟨_,rfl,rfl,rfl⟩;exact⟨rfl,rfl⟩)
theorem e81:Ent Tryz.prog 81:=Ent.of Tryz.func81 (by kernel_rfl) rfl
theorem markA3S_walk (a:List (Int × Int × Int)) (k_:Int) (Z:((List (Int × Int × Int)) × Int)→Prop) (h:markA3S_wp a k_ Z):MutS Tryz.prog 81 (fun v=>[v,int k_]) (.s [.c,.c,.c]) (.list true (a.map intC3)) (fun e' r=>∃ y:(List (Int × Int × Int)) × Int,Z y∧e' = .list true (y.1.map intC3)∧r=int y.2):=by
 unfold markA3S_wp at h
 refine MutS.of Tryz.func81 rfl Tryz.ntmps81 (fun _=>by simp) fun H0 n0 v0 K0 ids0 sp Q hQ=>?_
 have h00:=sp.1
 have hid:∀ i ∈ ids0,H0 i=H0 i:=fun _ _=>rfl
 have hnn:n0≤n0:=Nat.le_refl _
 refine Runs.cut (fun ρ H n=>(ρ 0=v0∧ρ 1=int k_)∧n0≤n∧(∀ i ∈ ids0,H i=H0 i)∧Sep H n (oE [.c,.c,.c] intC3 v0 a::K0) (ids0)) (by refine⟨?_,(by omega),hid,sp⟩<;>simp ) ?_
 rintro ρ H n2 ⟨hh,hnn,hid,sp⟩
 have hq_n2:=hnn
 refine zE fun k' hk'=>?_
 simp[hh]
 apply hk'
 refine Runs.seq ?_
 refine zE fun k' hk'=>?_
 simp[hh]
 apply hk'
 refine Runs.block ?_
 refine Runs.loopW h (fun (sJ:Int × Int × (List (Int × Int × Int))) ρ H n=>match sJ with | (k10,i11,l12)=>(ρ 0=v0∧ρ 1=int k10∧ρ 5=int i11)∧n0≤n∧(∀ i ∈ ids0,H i=H0 i)∧Sep H n (oE [.c,.c,.c] intC3 v0 l12::K0) (ids0)) (by refine⟨?_,(by omega),hid,sp⟩<;>simp[hh]) ?_
 clear hh
 rintro⟨k10,i11,l12⟩ ρ H n13 K h ⟨hh,hnn,hid,sp⟩ IH14
 have hq_n13:=hnn
 refine Runs.seq ?_
 refine zE fun k' hk'=>?_
 obtain⟨len16,elen16,h⟩:=atm h
 have f17:=len_own (Sep.len (m:=len16) sp kd_64 (by rw[elen16,List.length_map]))
 obtain⟨c18,ec18,h⟩:=atm h
 have f19:=ib_lss (k:=.i64) ec18
 simp[hh,f17,f19,-intBin,-lenF]
 apply hk'
 refine Runs.ite (b:=c18) (by simp[hh]) (fun dc18=>?_) (fun dc18=>?_)
 ·replace h:=h.1 dc18
  refine Runs.skip ?_
  refine Runs.seq ?_
  refine Runs.block ?_
  refine zE fun k' hk'=>?_
  simp[hh,dc18]
  apply hk'
  refine Runs.block ?_
  refine Runs.loop ?_
  refine Runs.seq ?_
  refine zE fun k' hk'=>?_
  have f20:=ib_lss (k:=.i64) (show true=decide (0<(3:Int)) by decide)
  simp[hh,f20,dc18,-intBin]
  apply hk'
  refine Runs.cond (b:=true) (by simp[hh,dc18]) ?_
  simp only[if_true,if_false,Bool.false_eq_true,↓reduceIte]
  refine Runs.skip ?_
  refine Runs.seq ?_
  refine Runs.block ?_
  refine zE fun k' hk'=>?_
  obtain⟨hb21,h⟩:=h
  obtain⟨id22,hv,mo23,ln24,ni25⟩:=Sep.openF sp (by simp) hb21
  subst hv
  obtain⟨x26,ex26,h⟩:=atm h
  have f27:=fun H (hm:H id22=some ⟨3,l12.map intC3⟩)=>ix_arr (H:=H) (k:=.i64) (off:=0) (len:=l12.length) (g:=l12.length) kd_64 hm (by simp) rfl hb21
  have f28:=at_some (q:=i11.toNat) hb21 ex26 rfl
  have f29:=fun H (hm:H id22=some ⟨3,l12.map intC3⟩)=>ixa_p (H:=H) (kk:=.i64) (i:=0) (id:=id22) (g:=l12.length) (idx:=i11.toNat) (off:=0) kd_145 (by decide) (by simp[viewOf,hm,f28])
  obtain⟨l30,el30,h⟩:=atm h
  simp[hh,mo23,f27,f28,f29,dc18,-indexAddrF,-storeF]
  refine bind_field (i:=ty3) (q:=i11.toNat) (off:=0) (new:=[int k10]) (ix:=i11) (x:=x26) (y:=(k10,x26.2.1,x26.2.2)) (f:=intC3) sp (by simp) (by simp) hb21 ex26 rfl rfl (fun _=>rfl) (by simp) (by simp) (by simp[splice]) (by simp) ?_
  rintro H31 sp hfr32
  replace sp:Sep H31 n13 (oE [.c,.c,.c] intC3 (.arr id22 l12.length 0 l12.length) l30::K0) (ids0):=by rw[el30];exact sp
  have hid:∀ i ∈ ids0,H31 i=H0 i:=fun i hi=>(hfr32 i (by simp[hi])).trans (hid i hi)
  simp[hh,f27,f28,f29,dc18,-indexAddrF]
  apply hk'
  refine Runs.cut (fun ρ H n=>(ρ 0 = .arr id22 l12.length 0 l12.length∧ρ 1=int k10∧ρ 5=int i11∧ρ 6=int 0)∧n0≤n∧(∀ i ∈ ids0,H i=H0 i)∧Sep H n (oE [.c,.c,.c] intC3 (.arr id22 l12.length 0 l12.length) l30::K0) (ids0)) (by refine⟨?_,(by omega),hid,sp⟩<;>simp[hh,f27,f28,f29,dc18,-indexAddrF]) ?_
  clear hh
  rintro ρ H n34 ⟨hh,hnn,hid,sp⟩
  have hq_n34:=hnn
  refine zF fun k' hk'=>?_
  obtain⟨hb35,h⟩:=h
  obtain⟨v36,ev36,h⟩:=atm h
  have f37:=ib_add hb35 ev36
  simp[hh,f37,-intBin]
  apply hk'
  refine Runs.inBlock ?_
  refine zF fun k' hk'=>?_
  have f38:=ib_add (show I64 ((0:Int)+1) from ⟨by decide,by decide⟩) (show (1:Int)=(0:Int)+1 by decide)
  simp[hh,f38,-intBin]
  apply hk'
  refine Runs.inLoop ?_
  refine Runs.seq ?_
  refine zE fun k' hk'=>?_
  have f39:=ib_lss (k:=.i64) (show true=decide (1<(3:Int)) by decide)
  simp[hh,f39,-intBin]
  apply hk'
  refine Runs.cond (b:=true) (by simp[hh]) ?_
  simp only[if_true,if_false,Bool.false_eq_true,↓reduceIte]
  refine Runs.skip ?_
  refine Runs.seq ?_
  refine Runs.block ?_
  refine zE fun k' hk'=>?_
  obtain⟨hb40,h⟩:=h
  obtain⟨id41,hv,mo42,ln43,ni44⟩:=Sep.openF sp (by simp) hb40
  simp only[AVal.arr.injEq] at hv
  obtain⟨hv,hln45,-⟩:=hv
  subst hv
  have hlshln45:=hln45.symm
  obtain⟨x46,ex46,h⟩:=atm h
  have f47:=fun H (hm:H id22=some ⟨3,l30.map intC3⟩)=>ix_arr (H:=H) (k:=.i64) (off:=0) (len:=l12.length) (g:=l12.length) kd_64 hm (by simp[hln45]) rfl (by rw[hln45];exact hb40)
  have f48:=at_some (q:=i11.toNat) hb40 ex46 rfl
  have f49:=fun H (hm:H id22=some ⟨3,l30.map intC3⟩)=>ixa_p (H:=H) (kk:=.i64) (i:=1) (id:=id22) (g:=l12.length) (idx:=i11.toNat) (off:=0) kd_145 (by decide) (by simp[viewOf,hm,f48,hln45])
  obtain⟨l50,el50,h⟩:=atm h
  simp[hh,hlshln45,mo42,f47,f48,f49,-indexAddrF,-storeF]
  refine bind_field (i:=ty3) (q:=i11.toNat) (off:=1) (new:=[int v36]) (ix:=i11) (x:=x46) (y:=(x46.1,v36,x46.2.2)) (f:=intC3) sp (by simp) (by simp) hb40 ex46 rfl hln45 (fun _=>rfl) (by simp) (by simp) (by simp[splice]) (by simp) ?_
  rintro H51 sp hfr52
  replace sp:Sep H51 n34 (oE [.c,.c,.c] intC3 (.arr id22 l12.length 0 l12.length) l50::K0) (ids0):=by rw[el50];exact sp
  have hid:∀ i ∈ ids0,H51 i=H0 i:=fun i hi=>(hfr52 i (by simp[hi])).trans (hid i hi)
  simp[hh,hlshln45,f47,f48,f49,-indexAddrF]
  apply hk'
  refine Runs.cut (fun ρ H n=>(ρ 0 = .arr id22 l12.length 0 l12.length∧ρ 1=int v36∧ρ 5=int i11∧ρ 6=int 1)∧n0≤n∧(∀ i ∈ ids0,H i=H0 i)∧Sep H n (oE [.c,.c,.c] intC3 (.arr id22 l12.length 0 l12.length) l50::K0) (ids0)) (by refine⟨?_,(by omega),hid,sp⟩<;>simp[hh,hlshln45,f47,f48,f49,-indexAddrF]) ?_
  clear hh hlshln45
  rintro ρ H n54 ⟨hh,hnn,hid,sp⟩
  have hq_n54:=hnn
  refine zF fun k' hk'=>?_
  obtain⟨hb55,h⟩:=h
  obtain⟨v56,ev56,h⟩:=atm h
  have f57:=ib_add hb55 ev56
  simp[hh,f57,-intBin]
  apply hk'
  refine Runs.inBlock ?_
  refine zF fun k' hk'=>?_
  have f58:=ib_add (show I64 ((1:Int)+1) from ⟨by decide,by decide⟩) (show (2:Int)=(1:Int)+1 by decide)
  simp[hh,f58,-intBin]
  apply hk'
  refine Runs.inLoop ?_
  refine Runs.seq ?_
  refine zE fun k' hk'=>?_
  have f59:=ib_lss (k:=.i64) (show true=decide (2<(3:Int)) by decide)
  simp[hh,f59,-intBin]
  apply hk'
  refine Runs.cond (b:=true) (by simp[hh]) ?_
  simp only[if_true,if_false,Bool.false_eq_true,↓reduceIte]
  refine Runs.skip ?_
  refine Runs.seq ?_
  refine Runs.block ?_
  refine zE fun k' hk'=>?_
  obtain⟨hb60,h⟩:=h
  obtain⟨id61,hv,mo62,ln63,ni64⟩:=Sep.openF sp (by simp) hb60
  simp only[AVal.arr.injEq] at hv
  obtain⟨hv,hln65,-⟩:=hv
  subst hv
  have hlshln65:=hln65.symm
  obtain⟨x66,ex66,h⟩:=atm h
  have f67:=fun H (hm:H id22=some ⟨3,l50.map intC3⟩)=>ix_arr (H:=H) (k:=.i64) (off:=0) (len:=l12.length) (g:=l12.length) kd_64 hm (by simp[hln65]) rfl (by rw[hln65];exact hb60)
  have f68:=at_some (q:=i11.toNat) hb60 ex66 rfl
  have f69:=fun H (hm:H id22=some ⟨3,l50.map intC3⟩)=>ixa_p (H:=H) (kk:=.i64) (i:=2) (id:=id22) (g:=l12.length) (idx:=i11.toNat) (off:=0) kd_145 (by decide) (by simp[viewOf,hm,f68,hln65])
  obtain⟨l70,el70,h⟩:=atm h
  simp[hh,hlshln65,mo62,f67,f68,f69,-indexAddrF,-storeF]
  refine bind_field (i:=ty3) (q:=i11.toNat) (off:=2) (new:=[int v56]) (ix:=i11) (x:=x66) (y:=(x66.1,x66.2.1,v56)) (f:=intC3) sp (by simp) (by simp) hb60 ex66 rfl hln65 (fun _=>rfl) (by simp) (by simp) (by simp[splice]) (by simp) ?_
  rintro H71 sp hfr72
  replace sp:Sep H71 n54 (oE [.c,.c,.c] intC3 (.arr id22 l12.length 0 l12.length) l70::K0) (ids0):=by rw[el70];exact sp
  have hid:∀ i ∈ ids0,H71 i=H0 i:=fun i hi=>(hfr72 i (by simp[hi])).trans (hid i hi)
  simp[hh,hlshln65,f67,f68,f69,-indexAddrF]
  apply hk'
  refine Runs.cut (fun ρ H n=>(ρ 0 = .arr id22 l12.length 0 l12.length∧ρ 1=int v56∧ρ 5=int i11∧ρ 6=int 2)∧n0≤n∧(∀ i ∈ ids0,H i=H0 i)∧Sep H n (oE [.c,.c,.c] intC3 (.arr id22 l12.length 0 l12.length) l70::K0) (ids0)) (by refine⟨?_,(by omega),hid,sp⟩<;>simp[hh,hlshln65,f67,f68,f69,-indexAddrF]) ?_
  clear hh hlshln65
  rintro ρ H n74 ⟨hh,hnn,hid,sp⟩
  have hq_n74:=hnn
  refine zF fun k' hk'=>?_
  obtain⟨hb75,h⟩:=h
  obtain⟨v76,ev76,h⟩:=atm h
  have f77:=ib_add hb75 ev76
  simp[hh,f77,-intBin]
  apply hk'
  refine Runs.inBlock ?_
  refine zF fun k' hk'=>?_
  have f78:=ib_add (show I64 ((2:Int)+1) from ⟨by decide,by decide⟩) (show (3:Int)=(2:Int)+1 by decide)
  simp[hh,f78,-intBin]
  apply hk'
  refine Runs.inLoop ?_
  refine Runs.seq ?_
  refine zE fun k' hk'=>?_
  have f79:=ib_lss (k:=.i64) (show false=decide (3<(3:Int)) by decide)
  simp[hh,f79,-intBin]
  apply hk'
  refine Runs.cond (b:=false) (by simp[hh]) ?_
  simp only[if_true,if_false,Bool.false_eq_true,↓reduceIte]
  refine Runs.exit rfl ?_
  refine Runs.inBlock ?_
  refine zF fun k' hk'=>?_
  obtain⟨hb80,h⟩:=h
  obtain⟨v81,ev81,h⟩:=atm h
  have f82:=ib_add hb80 ev81
  simp[hh,f82,-intBin]
  apply hk'
  refine IH14 (v76,v81,l70) _ _ _ h (by refine⟨?_,(by omega),hid,sp⟩<;>simp[hh])
 replace h:=h.2 dc18
 refine Runs.exit rfl ?_
 refine zE fun k' hk'=>?_
 simp[hh,dc18]
 apply hk'
 exact Runs.ret1 (v:=int k10) Tryz.func81 Tryz.results81 (by simp[hh,dc18]) (hQ _ _ _ _ (Sep.sub sp (by simp +contextual)) hid (by omega) ⟨(l12,k10),h,rfl,rfl⟩)
theorem markA3S_ok (a:List (Int × Int × Int)) (k_:Int) (hp:markA3S_pre a k_):MutS Tryz.prog 81 (fun v=>[v,int k_]) (.s [.c,.c,.c]) (.list true (a.map intC3)) (fun e' r=>e' = .list true (((markA3S a k_).1).map intC3)∧r=int ((markA3S a k_).2)):=(markA3S_walk a k_ _ (markA3S_vc a k_ hp)).mono (by rintro _ _ ⟨_,rfl,rfl,rfl⟩;exact⟨rfl,rfl⟩)
theorem e30:Ent Tryz.prog 30:=Ent.of Tryz.func30 (by kernel_rfl) rfl
theorem markY_walk (a:Sys) (k_:Int) (Z:(Sys × Int)→Prop) (h:markY_wp a k_ Z):MutS Tryz.prog 30 (fun v=>[v,int k_]) (.a [.s [.c,.s [.c,.c,.s [.c]],.s [.c],.c,.s [.c],.s [.c,.c]],.s [.c,.c,.c]]) (.agg [.list true (a.states.map (Big.cells true)),.list true (a.steps.map intC3)]) (fun e' r=>∃ y:Sys × Int,Z y∧e' = .agg [.list true (y.1.states.map (Big.cells true)),.list true (y.1.steps.map intC3)]∧r=int y.2):=by
 unfold markY_wp at h
 refine MutS.of Tryz.func30 rfl Tryz.ntmps30 (fun _=>by simp) fun H0 n0 v0 K0 ids0 sp Q hQ=>?_
 have h00:=sp.1
 have hid:∀ i ∈ ids0,H0 i=H0 i:=fun _ _=>rfl
 have hnn:n0≤n0:=Nat.le_refl _
 replace sp:=Sep.unpack sp
 obtain⟨L0,hv,hl0,sp⟩:=sp
 subst hv
 obtain⟨a0_,a1_,hv⟩:=len2 (by simpa using hl0)
 subst hv
 simp only[zip3,List.cons_append,List.nil_append] at sp
 replace sp:=Sep.rot sp
 try simp only[List.cons_append,List.nil_append,List.append_assoc] at sp
 replace sp:=Sep.rot sp
 try simp only[List.cons_append,List.nil_append,List.append_assoc] at sp
 replace sp:=Sep.swap (K1:=K0) sp
 simp only[List.cons_append,List.nil_append] at sp
 refine Runs.cut (fun ρ H n=>(ρ 0 = .agg [a0_,a1_]∧ρ 1=int k_)∧n0≤n∧(∀ i ∈ ids0,H i=H0 i)∧Sep H n (oE [.c,.s [.c,.c,.s [.c]],.s [.c],.c,.s [.c],.s [.c,.c]] (Big.cells true) a0_ a.states::oE [.c,.c,.c] intC3 a1_ a.steps::K0) (ids0)) (by refine⟨?_,(by omega),hid,sp⟩<;>simp[Big.cells,encI,encN,encS,encW]) ?_
 rintro ρ H n3 ⟨hh,hnn,hid,sp⟩
 have hq_n3:=hnn
 refine zE fun k' hk'=>?_
 have f4:=Sep.oc sp
 have f5:=Sep.oc sp.f1
 simp[hh,f4,f5,Big.cells,encI,encN,encS,encW,-cellsA,-one1,cAx,o1x]
 apply hk'
 refine Runs.cut (fun ρ H n=>(ρ 1=int k_∧ρ 2=pA n3 2)∧H (n3,2)=some ⟨2,[[a0_,a1_]]⟩∧n0≤n∧(∀ i ∈ ids0,H i=H0 i)∧Sep H n (oE [.c,.s [.c,.c,.s [.c]],.s [.c],.c,.s [.c],.s [.c,.c]] (Big.cells true) a0_ a.states::oE [.c,.c,.c] intC3 a1_ a.steps::K0) ((n3,2)::ids0)) (by refine⟨?_,?_,(by omega),(by intro i hi;have hlt:=h00 i (by simp[hi]);repeat (first | exact hid i hi | rw[Heap.get_set_ne _ _ (by rintro rfl;simp at hlt;omega)])),sp.var⟩<;>simp[hh,f4,f5,Big.cells,encI,encN,encS,encW,-cellsA,-one1,cAx,o1x]) ?_
 clear hh
 rintro ρ H n7 ⟨hh,m2_5,hnn,hid,sp⟩
 have hq_n7:=hnn
 refine zE fun k' hk'=>?_
 obtain⟨hb8,h⟩:=h
 obtain⟨r9,er9,h⟩:=atm h
 have f10:=Sep.oc sp
 simp[hh,m2_5,f10,Big.cells,encI,encN,encS,encW,-cellsA,-one1,cAx,o1x]
 refine RunK.callM (v:=a0_) Ty_ok (markBigS_ok a.states k_ hb8) e80 sp (by decide) (by decide) rfl (by simp[hh,m2_5,f10,Big.cells,encI,encN,encS,encW,-cellsA,-one1,cAx,o1x]) ?_
 rintro _ H11 n12 _ ⟨rfl,rfl⟩ sp hle14 hfr13
 rw[← er9] at sp
 rw[← er9]
 replace sp:Sep H11 n12 (oE [.c,.s [.c,.c,.s [.c]],.s [.c],.c,.s [.c],.s [.c,.c]] (Big.cells true) a0_ r9.1::oE [.c,.c,.c] intC3 a1_ a.steps::K0) ((n3,2)::ids0):=sp
 have hid:∀ i ∈ ids0,H11 i=H0 i:=fun i hi=>(hfr13 i (by simp[hi])).trans (hid i hi)
 have hnn:n0≤n12:=by omega
 have hq_n12:=hnn
 have m2_5:H11 (n3,2)=some ⟨2,[[a0_,a1_]]⟩:=(hfr13 _ (by simp)).trans (by simp[hh,m2_5,Heap.get_set])
 simp[hh,m2_5,f10,Big.cells,encI,encN,encS,encW,-cellsA,-one1,cAx,o1x]
 apply hk'
 refine Runs.cut (fun ρ H n=>(ρ 1=int r9.2∧ρ 2=pA n3 2)∧H (n3,2)=some ⟨2,[[a0_,a1_]]⟩∧n0≤n∧(∀ i ∈ ids0,H i=H0 i)∧Sep H n (oE [.c,.s [.c,.c,.s [.c]],.s [.c],.c,.s [.c],.s [.c,.c]] (Big.cells true) a0_ r9.1::oE [.c,.c,.c] intC3 a1_ a.steps::K0) ((n3,2)::ids0)) (by refine⟨?_,?_,(by omega),hid,sp⟩<;>simp[hh,m2_5,f10,Big.cells,encI,encN,encS,encW,-cellsA,-one1,cAx,o1x]) ?_
 clear hh m2_5
 rintro ρ H n16 ⟨hh,m2_5,hnn,hid,sp⟩
 have hq_n16:=hnn
 refine zE fun k' hk'=>?_
 obtain⟨hb17,h⟩:=h
 obtain⟨r18,er18,h⟩:=atm h
 have f19:=Sep.oc sp.f1
 simp[hh,m2_5,f19,Big.cells,encI,encN,encS,encW,-cellsA,-one1,cAx,o1x]
 refine RunK.callM (v:=a1_) Ty_ok (markA3S_ok a.steps r9.2 hb17) e81 sp.f1 (by decide) (by decide) rfl (by simp[hh,m2_5,f19,Big.cells,encI,encN,encS,encW,-cellsA,-one1,cAx,o1x]) ?_
 rintro _ H20 n21 _ ⟨rfl,rfl⟩ sp hle23 hfr22
 rw[← er18] at sp
 rw[← er18]
 replace sp:Sep H20 n21 (oE [.c,.c,.c] intC3 a1_ r18.1::oE [.c,.s [.c,.c,.s [.c]],.s [.c],.c,.s [.c],.s [.c,.c]] (Big.cells true) a0_ r9.1::K0) ((n3,2)::ids0):=sp
 have hid:∀ i ∈ ids0,H20 i=H0 i:=fun i hi=>(hfr22 i (by simp[hi])).trans (hid i hi)
 have hnn:n0≤n21:=by omega
 have hq_n21:=hnn
 have m2_5:H20 (n3,2)=some ⟨2,[[a0_,a1_]]⟩:=(hfr22 _ (by simp)).trans (by simp[hh,m2_5,Heap.get_set])
 simp[hh,m2_5,f19,Big.cells,encI,encN,encS,encW,-cellsA,-one1,cAx,o1x]
 apply hk'
 refine Runs.cut (fun ρ H n=>ρ 1=int r18.2∧n0≤n∧(∀ i ∈ ids0,H i=H0 i)∧Sep H n (oE [.c,.c,.c] intC3 a1_ r18.1::oE [.c,.s [.c,.c,.s [.c]],.s [.c],.c,.s [.c],.s [.c,.c]] (Big.cells true) a0_ r9.1::K0) (ids0)) (by refine⟨?_,(by omega),hid,(Sep.sub sp (by simp +contextual))⟩<;>simp[hh,m2_5,f19,Big.cells,encI,encN,encS,encW,-cellsA,-one1,cAx,o1x]) ?_
 clear hh m2_5
 rintro ρ H n25 ⟨hh,hnn,hid,sp⟩
 have hq_n25:=hnn
 refine zE fun k' hk'=>?_
 simp[hh,Big.cells,encI,encN,encS,encW]
 apply hk'
 exact Runs.ret1 (v:=int r18.2) Tryz.func30 Tryz.results30 (by simp[hh,Big.cells,encI,encN,encS,encW]) (hQ _ _ _ _ (Sep.sub (Sep.pack (Fill.own (Fill.own Fill.nil)) sp.f1) (by simp +contextual)) hid (by omega) ⟨((Sys.mk r9.1 r18.1),r18.2),h,rfl,rfl⟩)
theorem markY_ok (a:Sys) (k_:Int) (hp:markY_pre a k_):MutS Tryz.prog 30 (fun v=>[v,int k_]) (.a [.s [.c,.s [.c,.c,.s [.c]],.s [.c],.c,.s [.c],.s [.c,.c]],.s [.c,.c,.c]]) (.agg [.list true (a.states.map (Big.cells true)),.list true (a.steps.map intC3)]) (fun e' r=>e' = .agg [.list true ((((markY a k_).1).states).map (Big.cells true)),.list true ((((markY a k_).1).steps).map intC3)]∧r=int ((markY a k_).2)):=(markY_walk a k_ _ (markY_vc a k_ hp)).mono (by rintro _ _ ⟨_,rfl,rfl,rfl⟩;exact⟨rfl,rfl⟩)
theorem e4:Ent Tryz.prog 4:=Ent.of Tryz.func4 (by kernel_rfl) rfl
set_option maxHeartbeats 4000000 in
theorem lawPat_walk (aSig:List Control) (aX:Sys) (aPattern:Big) (Z:Bool→Prop) (h:lawPat_wp aSig aX aPattern Z):PureC Tryz.prog 4 [.list false (aSig.map Control.cells),.agg [.list false (aX.states.map (Big.cells false)),.list false (aX.steps.map intC3)],.agg (bC false aPattern)] (fun r=>∃ y:Bool,Z y∧r=bool y):=by
 unfold lawPat_wp at h
 have sp:Sep noHeap 0 [] []:=Sep.nil (by simp)
 refine PureC.of Tryz.func4 rfl Tryz.ntmps4 (by simp) fun Q hQ=>?_
 refine Runs.cut (fun ρ H n=>(ρ 0 = .list false (aSig.map Control.cells)∧ρ 1 = .agg [.list false (aX.states.map (Big.cells false)),.list false (aX.steps.map intC3)]∧ρ 2 = .agg (bC false aPattern))∧Sep H n [] []) (by refine⟨?_,sp⟩<;>simp[Big.cells,encI,encN,encS,encW]) ?_
 rintro ρ H n1 ⟨hh,sp⟩
 refine zE fun k' hk'=>?_
 simp[hh,Big.cells,encI,encN,encS,encW]
 apply hk'
 refine Runs.cut (fun ρ H n=>(ρ 0 = .list false (aSig.map Control.cells)∧ρ 4=pA n1 4∧ρ 5=pA (n1+1) 5)∧H (n1,4)=some ⟨2,[[.list false (aX.states.map (Big.cells false)),.list false (aX.steps.map intC3)]]⟩∧H (n1+1,5)=some ⟨6,[bC false aPattern]⟩∧Sep H n [] [(n1+1,5),(n1,4)]) (by refine⟨?_,?_,?_,sp.var.var⟩<;>simp[hh,Big.cells,encI,encN,encS,encW]) ?_
 clear hh
 rintro ρ H n4 ⟨hh,m4_1,m5_2,sp⟩
 refine zE fun k' hk'=>?_
 simp[hh,m4_1,m5_2,Big.cells,encI,encN,encS,encW]
 apply hk'
 refine zE fun k' hk'=>?_
 obtain⟨hb5,h⟩:=h
 obtain⟨r6,er6,h⟩:=atm h
 simp[hh,m4_1,m5_2,Big.cells,encI,encN,encS,encW]
 refine RunK.callA Ty_ok (szControlS_ok aSig 1048576 hb5.1.1 hb5.1.2 hb5.2.len hb5.2.names) e6 (.cons (argC false aSig) (.cons (.v _ _ _) .nil)) (by decide) (by decide) rfl (by simp[hh,m4_1,m5_2,Big.cells,encI,encN,encS,encW]) ?_
 rintro _ rfl
 rw[← er6]
 simp[hh,m4_1,m5_2,Big.cells,encI,encN,encS,encW]
 apply hk'
 refine Runs.seq ?_
 refine zE fun k' hk'=>?_
 obtain⟨c7,ec7,h⟩:=atm h
 have f8:=ib_lss (k:=.i64) ec7
 simp[hh,m4_1,m5_2,f8,Big.cells,encI,encN,encS,encW,-intBin]
 apply hk'
 refine Runs.ite (b:=c7) (by simp[hh,m4_1,m5_2,Big.cells,encI,encN,encS,encW]) (fun dc7=>?_) (fun dc7=>?_)
 ·replace h:=h.1 dc7
  refine zE fun k' hk'=>?_
  simp[hh,m4_1,m5_2,dc7,Big.cells,encI,encN,encS,encW]
  apply hk'
  exact Runs.ret1 (v:=bool true) Tryz.func4 Tryz.results4 (by simp[hh,m4_1,m5_2,dc7,Big.cells,encI,encN,encS,encW]) (hQ _ _ _ _ (.of (.v _)) ⟨true,h,rfl⟩)
 replace h:=h.2 dc7
 refine Runs.skip ?_
 refine zE fun k' hk'=>?_
 obtain⟨hb9,h⟩:=h
 obtain⟨r10,er10,h⟩:=atm h
 simp[hh,m4_1,m5_2,dc7,Big.cells,encI,encN,encS,encW]
 refine RunK.callA Ty_ok (szY_ok aX r6 hb9) e23 (.cons (ArgOk.agg (.cons (ArgOk.nest_Bigraph false aX.states) (.cons (ArgOk.listF (fr:=false) (els:=aX.steps.map intC3) (flatI3 _)) .nil))) (.cons (.v _ _ _) .nil)) (by decide) (by decide) rfl (by simp[hh,m4_1,m5_2,dc7,Big.cells,encI,encN,encS,encW]) ?_
 rintro _ rfl
 rw[← er10]
 simp[hh,m4_1,m5_2,dc7,Big.cells,encI,encN,encS,encW]
 apply hk'
 refine Runs.seq ?_
 refine zE fun k' hk'=>?_
 obtain⟨c11,ec11,h⟩:=atm h
 have f12:=ib_lss (k:=.i64) ec11
 simp[hh,m4_1,m5_2,f12,dc7,Big.cells,encI,encN,encS,encW,-intBin]
 apply hk'
 refine Runs.ite (b:=c11) (by simp[hh,m4_1,m5_2,dc7,Big.cells,encI,encN,encS,encW]) (fun dc11=>?_) (fun dc11=>?_)
 ·replace h:=h.1 dc11
  refine zE fun k' hk'=>?_
  simp[hh,m4_1,m5_2,dc7,dc11,Big.cells,encI,encN,encS,encW]
  apply hk'
  exact Runs.ret1 (v:=bool true) Tryz.func4 Tryz.results4 (by simp[hh,m4_1,m5_2,dc7,dc11,Big.cells,encI,encN,encS,encW]) (hQ _ _ _ _ (.of (.v _)) ⟨true,h,rfl⟩)
 replace h:=h.2 dc11
 refine Runs.skip ?_
 refine zE fun k' hk'=>?_
 obtain⟨hb13,h⟩:=h
 obtain⟨r14,er14,h⟩:=atm h
 simp[hh,m4_1,m5_2,dc7,dc11,Big.cells,encI,encN,encS,encW]
 refine RunK.callA Ty_ok (szBigraph_ok aPattern r10 hb13.1.1 hb13.1.2 hb13.2) e9 (.cons (argB false aPattern) (.cons (.v _ _ _) .nil)) (by decide) (by decide) rfl (by simp[hh,m4_1,m5_2,dc7,dc11,Big.cells,encI,encN,encS,encW]) ?_
 rintro _ rfl
 rw[← er14]
 simp[hh,m4_1,m5_2,dc7,dc11,Big.cells,encI,encN,encS,encW]
 apply hk'
 refine Runs.cut (fun ρ H n=>(ρ 0 = .list false (aSig.map Control.cells)∧ρ 4=pA n1 4∧ρ 5=pA (n1+1) 5∧ρ 7=int r14)∧H (n1,4)=some ⟨2,[[.list false (aX.states.map (Big.cells false)),.list false (aX.steps.map intC3)]]⟩∧H (n1+1,5)=some ⟨6,[bC false aPattern]⟩∧Sep H n [] [(n1+1,5),(n1,4)]) (by refine⟨?_,?_,?_,sp⟩<;>simp[hh,m4_1,m5_2,dc7,dc11,Big.cells,encI,encN,encS,encW]) ?_
 clear hh m4_1 m5_2
 rintro ρ H n15 ⟨hh,m4_1,m5_2,sp⟩
 refine Runs.seq ?_
 refine zE fun k' hk'=>?_
 obtain⟨c16,ec16,h⟩:=atm h
 have f17:=ib_lss (k:=.i64) ec16
 simp[hh,m4_1,m5_2,f17,Big.cells,encI,encN,encS,encW,-intBin]
 apply hk'
 refine Runs.ite (b:=c16) (by simp[hh,m4_1,m5_2,Big.cells,encI,encN,encS,encW]) (fun dc16=>?_) (fun dc16=>?_)
 ·replace h:=h.1 dc16
  refine zE fun k' hk'=>?_
  simp[hh,m4_1,m5_2,dc16,Big.cells,encI,encN,encS,encW]
  apply hk'
  exact Runs.ret1 (v:=bool true) Tryz.func4 Tryz.results4 (by simp[hh,m4_1,m5_2,dc16,Big.cells,encI,encN,encS,encW]) (hQ _ _ _ _ (.of (.v _)) ⟨true,h,rfl⟩)
 replace h:=h.2 dc16
 refine Runs.skip ?_
 refine Runs.seqD Ty_ok kindOp_ok draws (by decide) (by kernel_rfl) fun k' hk'=>?_
 obtain⟨hb18,h⟩:=h
 obtain⟨r19,er19,h⟩:=atm h
 simp[hh,m4_1,m5_2,dc16,Big.cells,encI,encN,encS,encW]
 refine RunDK.callA Ty_ok kindOp_ok ((toControlS_ok aSig hb18).pure) e12 (.cons (argC false aSig) .nil) (by decide) rfl (by simp[hh,m4_1,m5_2,dc16,Big.cells,encI,encN,encS,encW]) ?_
 rw[← er19]
 obtain⟨hb20,h⟩:=h
 obtain⟨r21,er21,h⟩:=atm h
 simp[hh,m4_1,m5_2,dc16,Big.cells,encI,encN,encS,encW]
 refine RunDK.callA Ty_ok kindOp_ok ((toSystem_ok aX hb20).pure) e25 (.cons (ArgOk.agg (.cons (ArgOk.nest_Bigraph false aX.states) (.cons (ArgOk.listF (fr:=false) (els:=aX.steps.map intC3) (flatI3 _)) .nil))) .nil) (by decide) rfl (by simp[hh,m4_1,m5_2,dc16,Big.cells,encI,encN,encS,encW]) ?_
 rw[← er21]
 obtain⟨hb22,h⟩:=h
 obtain⟨r23,er23,h⟩:=atm h
 simp[hh,m4_1,m5_2,dc16,Big.cells,encI,encN,encS,encW]
 refine RunDK.callA Ty_ok kindOp_ok ((toBigraph_ok aPattern hb22).pure) e15 (.cons (argB false aPattern) .nil) (by decide) rfl (by simp[hh,m4_1,m5_2,dc16,Big.cells,encI,encN,encS,encW]) ?_
 rw[← er23]
 obtain⟨hb24,h⟩:=h
 obtain⟨r25,er25,h⟩:=atm h
 simp[hh,m4_1,m5_2,dc16,Big.cells,encI,encN,encS,encW]
 refine RunDK.callA Ty_ok kindOp_ok ((sPatternStates_ok r19 r21 r23 hb24).pure) e24 (.cons (argC true r19) (.cons (ArgOk.agg (.cons (ArgOk.nest_Bigraph true r21.states) (.cons (ArgOk.listF (fr:=true) (els:=r21.steps.map intC3) (flatI3 _)) .nil))) (.cons (argB true r23) .nil))) (by decide) rfl (by simp[hh,m4_1,m5_2,dc16,Big.cells,encI,encN,encS,encW]) ?_
 rw[← er25]
 simp[hh,m4_1,m5_2,dc16,Big.cells,encI,encN,encS,encW]
 apply hk'
 refine zE fun k' hk'=>?_
 obtain⟨hb26,h⟩:=h
 obtain⟨r27,er27,h⟩:=atm h
 simp[hh,m4_1,m5_2,dc16,Big.cells,encI,encN,encS,encW]
 refine RunK.callW Ty_ok (toControlS_ok aSig hb26) e12 (.cons (argC false aSig) .nil) sp (by decide) (by decide) rfl (by simp[hh,m4_1,m5_2,dc16,Big.cells,encI,encN,encS,encW]) ?_
 rintro v28 H29 n30 _ sp rfl hle32 hfr31
 rw[← er27] at sp
 have m4_1:H29 (n1,4)=some ⟨2,[[.list false (aX.states.map (Big.cells false)),.list false (aX.steps.map intC3)]]⟩:=(hfr31 _ (by simp)).trans (by simp[hh,m4_1,m5_2,Heap.get_set])
 have m5_2:H29 (n1+1,5)=some ⟨6,[bC false aPattern]⟩:=(hfr31 _ (by simp)).trans (by simp[hh,m4_1,m5_2,Heap.get_set])
 simp[hh,m4_1,m5_2,dc16,Big.cells,encI,encN,encS,encW]
 apply hk'
 refine Runs.cut (fun ρ H n=>∃ (v35:AVal),(ρ 0 = .list false (aSig.map Control.cells)∧ρ 4=pA n1 4∧ρ 5=pA (n1+1) 5∧ρ 8 = .list true (r25.1.map intC)∧ρ 9=bool r25.2∧ρ 10=v35)∧H (n1,4)=some ⟨2,[[.list false (aX.states.map (Big.cells false)),.list false (aX.steps.map intC3)]]⟩∧H (n1+1,5)=some ⟨6,[bC false aPattern]⟩∧Sep H n [oE [.c,.c,.c] Control.cells v35 r27] [(n1+1,5),(n1,4)]) (by refine⟨v28,?_,?_,?_,sp⟩<;>simp[hh,m4_1,m5_2,dc16,Big.cells,encI,encN,encS,encW]) ?_
 clear hh m4_1 m5_2
 rintro ρ H n36 ⟨v35,hh,m4_1,m5_2,sp⟩
 refine zE fun k' hk'=>?_
 obtain⟨hb37,h⟩:=h
 obtain⟨r38,er38,h⟩:=atm h
 simp[hh,m4_1,m5_2,Big.cells,encI,encN,encS,encW]
 refine RunK.callW Ty_ok (toSystem_ok aX hb37) e25 (.cons (ArgOk.agg (.cons (ArgOk.nest_Bigraph false aX.states) (.cons (ArgOk.listF (fr:=false) (els:=aX.steps.map intC3) (flatI3 _)) .nil))) .nil) sp (by decide) (by decide) rfl (by simp[hh,m4_1,m5_2,Big.cells,encI,encN,encS,encW]) ?_
 rintro v39 H40 n41 _ sp rfl hle43 hfr42
 rw[← er38] at sp
 have m4_1:H40 (n1,4)=some ⟨2,[[.list false (aX.states.map (Big.cells false)),.list false (aX.steps.map intC3)]]⟩:=(hfr42 _ (by simp)).trans (by simp[hh,m4_1,m5_2,Heap.get_set])
 have m5_2:H40 (n1+1,5)=some ⟨6,[bC false aPattern]⟩:=(hfr42 _ (by simp)).trans (by simp[hh,m4_1,m5_2,Heap.get_set])
 replace sp:=Sep.unpack sp
 obtain⟨L47,hv,hl48,sp⟩:=sp
 subst hv
 obtain⟨v45,v46,hv⟩:=len2 (by simpa using hl48)
 subst hv
 simp only[zip3,List.cons_append,List.nil_append] at sp
 replace sp:=Sep.rot sp
 try simp only[List.cons_append,List.nil_append,List.append_assoc] at sp
 replace sp:=Sep.rot sp
 try simp only[List.cons_append,List.nil_append,List.append_assoc] at sp
 replace sp:Sep H40 n41 [oE [.c,.c,.c] Control.cells v35 r27,oE [.c,.s [.c,.c,.s [.c]],.s [.c],.c,.s [.c],.s [.c,.c]] (Big.cells true) v45 r38.states,oE [.c,.c,.c] intC3 v46 r38.steps] [(n1+1,5),(n1,4)]:=sp
 have f52:=Sep.oc sp.f1
 have f53:=Sep.oc sp.f2
 simp[hh,m4_1,m5_2,f52,f53,Big.cells,encI,encN,encS,encW,-cellsA,-one1,cAx,o1x]
 apply hk'
 refine Runs.cut (fun ρ H n=>∃ (v54 v55 v56:AVal),(ρ 0 = .list false (aSig.map Control.cells)∧ρ 4=pA n1 4∧ρ 5=pA (n1+1) 5∧ρ 8 = .list true (r25.1.map intC)∧ρ 9=bool r25.2∧ρ 10=v54∧ρ 11=pA n41 11)∧H (n1,4)=some ⟨2,[[.list false (aX.states.map (Big.cells false)),.list false (aX.steps.map intC3)]]⟩∧H (n1+1,5)=some ⟨6,[bC false aPattern]⟩∧H (n41,11)=some ⟨2,[[v55,v56]]⟩∧Sep H n [oE [.c,.c,.c] Control.cells v54 r27,oE [.c,.s [.c,.c,.s [.c]],.s [.c],.c,.s [.c],.s [.c,.c]] (Big.cells true) v55 r38.states,oE [.c,.c,.c] intC3 v56 r38.steps] [(n41,11),(n1+1,5),(n1,4)]) (by refine⟨v35,v45,v46,?_,?_,?_,?_,sp.var⟩<;>simp[hh,m4_1,m5_2,f52,f53,Big.cells,encI,encN,encS,encW,-cellsA,-one1,cAx,o1x]) ?_
 clear hh m4_1 m5_2
 rintro ρ H n57 ⟨v54,v55,v56,hh,m4_1,m5_2,m11_50,sp⟩
 refine zE fun k' hk'=>?_
 obtain⟨hb58,h⟩:=h
 obtain⟨r59,er59,h⟩:=atm h
 simp[hh,m4_1,m5_2,m11_50,Big.cells,encI,encN,encS,encW]
 refine RunK.callW Ty_ok (toBigraph_ok aPattern hb58) e15 (.cons (argB false aPattern) .nil) sp (by decide) (by decide) rfl (by simp[hh,m4_1,m5_2,m11_50,Big.cells,encI,encN,encS,encW]) ?_
 rintro v60 H61 n62 _ sp rfl hle64 hfr63
 rw[← er59] at sp
 have m4_1:H61 (n1,4)=some ⟨2,[[.list false (aX.states.map (Big.cells false)),.list false (aX.steps.map intC3)]]⟩:=(hfr63 _ (by simp)).trans (by simp[hh,m4_1,m5_2,m11_50,Heap.get_set])
 have m5_2:H61 (n1+1,5)=some ⟨6,[bC false aPattern]⟩:=(hfr63 _ (by simp)).trans (by simp[hh,m4_1,m5_2,m11_50,Heap.get_set])
 have m11_50:H61 (n41,11)=some ⟨2,[[v55,v56]]⟩:=(hfr63 _ (by simp)).trans (by simp[hh,m4_1,m5_2,m11_50,Heap.get_set])
 replace sp:=Sep.unpack sp
 obtain⟨L72,hv,hl73,sp⟩:=sp
 subst hv
 obtain⟨v66,v67,v68,v69,v70,v71,hv⟩:=len6 (by simpa using hl73)
 subst hv
 simp only[zip3,List.cons_append,List.nil_append] at sp
 replace sp:=Sep.scalar sp
 obtain⟨hv,sp⟩:=sp
 subst hv
 replace sp:=Sep.rot sp
 try simp only[List.cons_append,List.nil_append,List.append_assoc] at sp
 replace sp:=Sep.rot sp
 try simp only[List.cons_append,List.nil_append,List.append_assoc] at sp
 replace sp:=Sep.scalar sp
 obtain⟨hv,sp⟩:=sp
 subst hv
 replace sp:=Sep.rot sp
 try simp only[List.cons_append,List.nil_append,List.append_assoc] at sp
 replace sp:=Sep.rot sp
 try simp only[List.cons_append,List.nil_append,List.append_assoc] at sp
 replace sp:Sep H61 n62 [oE [.c,.c,.c] Control.cells v54 r27,oE [.c,.s [.c,.c,.s [.c]],.s [.c],.c,.s [.c],.s [.c,.c]] (Big.cells true) v55 r38.states,oE [.c,.c,.c] intC3 v56 r38.steps,oN v67 r59.nodes,oI v68 r59.sites,oS v70 r59.outer,oW v71 r59.inner] [(n41,11),(n1+1,5),(n1,4)]:=sp
 have f79:=Sep.oc sp.f3
 have f80:=Sep.oc sp.f4
 have f81:=Sep.oc sp.f5
 have f82:=Sep.oc sp.f6
 simp[hh,m4_1,m5_2,m11_50,f79,f80,f81,f82,Big.cells,encI,encN,encS,encW,-cellsA,-one1,cAx,o1x]
 apply hk'
 refine Runs.cut (fun ρ H n=>∃ (v83 v84 v85 v86 v87 v88 v89:AVal),(ρ 0 = .list false (aSig.map Control.cells)∧ρ 4=pA n1 4∧ρ 5=pA (n1+1) 5∧ρ 8 = .list true (r25.1.map intC)∧ρ 9=bool r25.2∧ρ 10=v83∧ρ 11=pA n41 11∧ρ 12=pA n62 12)∧H (n1,4)=some ⟨2,[[.list false (aX.states.map (Big.cells false)),.list false (aX.steps.map intC3)]]⟩∧H (n1+1,5)=some ⟨6,[bC false aPattern]⟩∧H (n41,11)=some ⟨2,[[v84,v85]]⟩∧H (n62,12)=some ⟨6,[[int r59.roots,v86,v87,int r59.edges,v88,v89]]⟩∧Sep H n [oE [.c,.c,.c] Control.cells v83 r27,oE [.c,.s [.c,.c,.s [.c]],.s [.c],.c,.s [.c],.s [.c,.c]] (Big.cells true) v84 r38.states,oE [.c,.c,.c] intC3 v85 r38.steps,oN v86 r59.nodes,oI v87 r59.sites,oS v88 r59.outer,oW v89 r59.inner] [(n62,12),(n41,11),(n1+1,5),(n1,4)]) (by refine⟨v54,v55,v56,v67,v68,v70,v71,?_,?_,?_,?_,?_,sp.var⟩<;>simp[hh,m4_1,m5_2,m11_50,f79,f80,f81,f82,Big.cells,encI,encN,encS,encW,-cellsA,-one1,cAx,o1x]) ?_
 clear hh m4_1 m5_2 m11_50
 rintro ρ H n90 ⟨v83,v84,v85,v86,v87,v88,v89,hh,m4_1,m5_2,m11_50,m12_77,sp⟩
 refine zE fun k' hk'=>?_
 obtain⟨hb91,h⟩:=h
 obtain⟨r92,er92,h⟩:=atm h
 simp[hh,m4_1,m5_2,m11_50,m12_77,Big.cells,encI,encN,encS,encW]
 refine RunK.callW Ty_ok (PatternStates_ok r27 r38 r59 hb91) e26 (.cons (Sep.argOk' sp (old_listF (by simp))) (.cons (ArgOk.agg (.cons (Sep.argOk' sp.f1 (old_nest_Bigraph true r38.states)) (.cons (Sep.argOk' sp.f2 (old_listF (flatI3 _))) .nil))) (.cons (ArgOk.agg (.cons (.v _ _ _) (.cons (Sep.argOk' sp.f3 (old_nest_Node true r59.nodes)) (.cons (Sep.argOk' sp.f4 (old_listF (by simp))) (.cons (.v _ _ _) (.cons (Sep.argOk' sp.f5 (old_listF (by simp))) (.cons (Sep.argOk' sp.f6 (old_listF (by simp))) .nil))))))) .nil))) sp (by decide) (by decide) rfl (by simp[hh,m4_1,m5_2,m11_50,m12_77,Big.cells,encI,encN,encS,encW]) ?_
 rintro v93 H94 n95 _ sp rfl hle97 hfr96
 rw[← er92] at sp
 have m4_1:H94 (n1,4)=some ⟨2,[[.list false (aX.states.map (Big.cells false)),.list false (aX.steps.map intC3)]]⟩:=(hfr96 _ (by simp)).trans (by simp[hh,m4_1,m5_2,m11_50,m12_77,Heap.get_set])
 have m5_2:H94 (n1+1,5)=some ⟨6,[bC false aPattern]⟩:=(hfr96 _ (by simp)).trans (by simp[hh,m4_1,m5_2,m11_50,m12_77,Heap.get_set])
 have m11_50:H94 (n41,11)=some ⟨2,[[v84,v85]]⟩:=(hfr96 _ (by simp)).trans (by simp[hh,m4_1,m5_2,m11_50,m12_77,Heap.get_set])
 have m12_77:H94 (n62,12)=some ⟨6,[[int r59.roots,v86,v87,int r59.edges,v88,v89]]⟩:=(hfr96 _ (by simp)).trans (by simp[hh,m4_1,m5_2,m11_50,m12_77,Heap.get_set])
 replace sp:=Sep.unpackT sp
 obtain⟨L101,hv,hl102,sp⟩:=sp
 subst hv
 obtain⟨v99,v100,hv⟩:=len2 (by simpa using hl102)
 subst hv
 simp only[zip3,List.cons_append,List.nil_append] at sp
 replace sp:=Sep.rot sp
 try simp only[List.cons_append,List.nil_append,List.append_assoc] at sp
 replace sp:=Sep.scalar sp
 obtain⟨hv,sp⟩:=sp
 subst hv
 replace sp:Sep H94 n95 [oE [.c,.c,.c] Control.cells v83 r27,oE [.c,.s [.c,.c,.s [.c]],.s [.c],.c,.s [.c],.s [.c,.c]] (Big.cells true) v84 r38.states,oE [.c,.c,.c] intC3 v85 r38.steps,oN v86 r59.nodes,oI v87 r59.sites,oS v88 r59.outer,oW v89 r59.inner,oI v99 r92.1] [(n62,12),(n41,11),(n1+1,5),(n1,4)]:=sp
 simp[hh,m4_1,m5_2,m11_50,m12_77,Big.cells,encI,encN,encS,encW]
 apply hk'
 refine Runs.cut (fun ρ H n=>∃ (v104 v105 v106 v107 v108 v109 v110 v111:AVal),(ρ 0 = .list false (aSig.map Control.cells)∧ρ 4=pA n1 4∧ρ 5=pA (n1+1) 5∧ρ 8 = .list true (r25.1.map intC)∧ρ 9=bool r25.2∧ρ 10=v104∧ρ 11=pA n41 11∧ρ 12=pA n62 12∧ρ 13=v111∧ρ 14=bool r92.2)∧H (n1,4)=some ⟨2,[[.list false (aX.states.map (Big.cells false)),.list false (aX.steps.map intC3)]]⟩∧H (n1+1,5)=some ⟨6,[bC false aPattern]⟩∧H (n41,11)=some ⟨2,[[v105,v106]]⟩∧H (n62,12)=some ⟨6,[[int r59.roots,v107,v108,int r59.edges,v109,v110]]⟩∧Sep H n [oE [.c,.c,.c] Control.cells v104 r27,oE [.c,.s [.c,.c,.s [.c]],.s [.c],.c,.s [.c],.s [.c,.c]] (Big.cells true) v105 r38.states,oE [.c,.c,.c] intC3 v106 r38.steps,oN v107 r59.nodes,oI v108 r59.sites,oS v109 r59.outer,oW v110 r59.inner,oI v111 r92.1] [(n62,12),(n41,11),(n1+1,5),(n1,4)]) (by refine⟨v83,v84,v85,v86,v87,v88,v89,v99,?_,?_,?_,?_,?_,sp⟩<;>simp[hh,m4_1,m5_2,m11_50,m12_77,Big.cells,encI,encN,encS,encW]) ?_
 clear hh m4_1 m5_2 m11_50 m12_77
 rintro ρ H n112 ⟨v104,v105,v106,v107,v108,v109,v110,v111,hh,m4_1,m5_2,m11_50,m12_77,sp⟩
 refine Runs.seq ?_
 refine zE fun k' hk'=>?_
 obtain⟨J113,hJ114,hr115⟩:=h
 have fin125:∀ (sJ:Bool) (ρ:Env) (H:Heap) (n:Nat),J113 sJ→(match sJ with | b116=>∃ (v117 v118 v119 v120 v121 v122 v123 v124:AVal),(ρ 0 = .list false (aSig.map Control.cells)∧ρ 4=pA n1 4∧ρ 5=pA (n1+1) 5∧ρ 8 = .list true (r25.1.map intC)∧ρ 9=bool r25.2∧ρ 10=v117∧ρ 11=pA n41 11∧ρ 12=pA n62 12∧ρ 13=v124∧ρ 14=bool r92.2∧ρ 66=bool b116)∧H (n1,4)=some ⟨2,[[.list false (aX.states.map (Big.cells false)),.list false (aX.steps.map intC3)]]⟩∧H (n1+1,5)=some ⟨6,[bC false aPattern]⟩∧H (n41,11)=some ⟨2,[[v118,v119]]⟩∧H (n62,12)=some ⟨6,[[int r59.roots,v120,v121,int r59.edges,v122,v123]]⟩∧Sep H n [oE [.c,.c,.c] Control.cells v117 r27,oE [.c,.s [.c,.c,.s [.c]],.s [.c],.c,.s [.c],.s [.c,.c]] (Big.cells true) v118 r38.states,oE [.c,.c,.c] intC3 v119 r38.steps,oN v120 r59.nodes,oI v121 r59.sites,oS v122 r59.outer,oW v123 r59.inner,oI v124 r92.1] [(n62,12),(n41,11),(n1+1,5),(n1,4)])→Runs Tryz.prog 4 142 k' ρ H n Q:=by
  rintro b116 ρ H n126 h ⟨v117,v118,v119,v120,v121,v122,v123,v124,hh,m4_1,m5_2,m11_50,m12_77,sp⟩
  replace h:=hr115 _ h
  apply hk'
  refine Runs.ite (b:=b116) (by simp[hh,m4_1,m5_2,m11_50,m12_77,Big.cells,encI,encN,encS,encW]) (fun db116=>?_) (fun db116=>?_)
  ·replace h:=h.1 db116
   refine zE fun k' hk'=>?_
   simp[hh,m4_1,m5_2,m11_50,m12_77,db116,Big.cells,encI,encN,encS,encW]
   apply hk'
   exact Runs.ret1 (v:=bool false) Tryz.func4 Tryz.results4 (by simp[hh,m4_1,m5_2,m11_50,m12_77,db116,Big.cells,encI,encN,encS,encW]) (hQ _ _ _ _ (.of (.v _)) ⟨false,h,rfl⟩)
  replace h:=h.2 db116
  refine Runs.skip ?_
  refine Runs.seq ?_
  refine zE fun k' hk'=>?_
  obtain⟨hb127,h⟩:=h
  obtain⟨r128,er128,h⟩:=atm h
  simp[hh,m4_1,m5_2,m11_50,m12_77,db116,Big.cells,encI,encN,encS,encW]
  refine RunK.callW Ty_ok (toControlS_ok aSig hb127) e12 (.cons (argC false aSig) .nil) sp (by decide) (by decide) rfl (by simp[hh,m4_1,m5_2,m11_50,m12_77,db116,Big.cells,encI,encN,encS,encW]) ?_
  rintro v129 H130 n131 _ sp rfl hle133 hfr132
  rw[← er128] at sp
  have m4_1:H130 (n1,4)=some ⟨2,[[.list false (aX.states.map (Big.cells false)),.list false (aX.steps.map intC3)]]⟩:=(hfr132 _ (by simp)).trans (by simp[hh,m4_1,m5_2,m11_50,m12_77,Heap.get_set])
  have m5_2:H130 (n1+1,5)=some ⟨6,[bC false aPattern]⟩:=(hfr132 _ (by simp)).trans (by simp[hh,m4_1,m5_2,m11_50,m12_77,Heap.get_set])
  have m11_50:H130 (n41,11)=some ⟨2,[[v118,v119]]⟩:=(hfr132 _ (by simp)).trans (by simp[hh,m4_1,m5_2,m11_50,m12_77,Heap.get_set])
  have m12_77:H130 (n62,12)=some ⟨6,[[int r59.roots,v120,v121,int r59.edges,v122,v123]]⟩:=(hfr132 _ (by simp)).trans (by simp[hh,m4_1,m5_2,m11_50,m12_77,Heap.get_set])
  obtain⟨hb136,h⟩:=h
  obtain⟨r137,er137,h⟩:=atm h
  simp[hh,m4_1,m5_2,m11_50,m12_77,db116,Big.cells,encI,encN,encS,encW]
  refine RunK.callA Ty_ok (eqControlS_ok r27 r128 hb136) e18 (.cons (Sep.argOk' sp.f1 (old_listF (by simp))) (.cons (Sep.argOk' sp (old_listF (by simp))) .nil)) (by decide) (by decide) rfl (by simp[hh,m4_1,m5_2,m11_50,m12_77,db116,Big.cells,encI,encN,encS,encW]) ?_
  rintro _ rfl
  rw[← er137]
  simp[hh,m4_1,m5_2,m11_50,m12_77,db116,Big.cells,encI,encN,encS,encW]
  apply hk'
  refine Runs.cut (fun ρ H n=>∃ (v138 v139 v140 v141 v142 v143 v144 v145:AVal),(ρ 0 = .list false (aSig.map Control.cells)∧ρ 4=pA n1 4∧ρ 5=pA (n1+1) 5∧ρ 8 = .list true (r25.1.map intC)∧ρ 9=bool r25.2∧ρ 10=v138∧ρ 11=pA n41 11∧ρ 12=pA n62 12∧ρ 13=v145∧ρ 14=bool r92.2∧ρ 71=bool (!r137))∧H (n1,4)=some ⟨2,[[.list false (aX.states.map (Big.cells false)),.list false (aX.steps.map intC3)]]⟩∧H (n1+1,5)=some ⟨6,[bC false aPattern]⟩∧H (n41,11)=some ⟨2,[[v139,v140]]⟩∧H (n62,12)=some ⟨6,[[int r59.roots,v141,v142,int r59.edges,v143,v144]]⟩∧Sep H n [oE [.c,.c,.c] Control.cells v138 r27,oE [.c,.s [.c,.c,.s [.c]],.s [.c],.c,.s [.c],.s [.c,.c]] (Big.cells true) v139 r38.states,oE [.c,.c,.c] intC3 v140 r38.steps,oN v141 r59.nodes,oI v142 r59.sites,oS v143 r59.outer,oW v144 r59.inner,oI v145 r92.1] [(n62,12),(n41,11),(n1+1,5),(n1,4)]) (by refine⟨v117,v118,v119,v120,v121,v122,v123,v124,?_,?_,?_,?_,?_,sp.dr⟩<;>simp[hh,m4_1,m5_2,m11_50,m12_77,db116,Big.cells,encI,encN,encS,encW]) ?_
  clear hh m4_1 m5_2 m11_50 m12_77
  rintro ρ H n146 ⟨v138,v139,v140,v141,v142,v143,v144,v145,hh,m4_1,m5_2,m11_50,m12_77,sp⟩
  refine Runs.ite (b:=(!r137)) (by simp[hh,m4_1,m5_2,m11_50,m12_77,Big.cells,encI,encN,encS,encW]) (fun dr137=>?_) (fun dr137=>?_)
  ·have dr137:r137=false:=by simpa using dr137
   replace h:=h.2 dr137
   refine zE fun k' hk'=>?_
   simp[hh,m4_1,m5_2,m11_50,m12_77,dr137,Big.cells,encI,encN,encS,encW]
   apply hk'
   exact Runs.ret1 (v:=bool false) Tryz.func4 Tryz.results4 (by simp[hh,m4_1,m5_2,m11_50,m12_77,dr137,Big.cells,encI,encN,encS,encW]) (hQ _ _ _ _ (.of (.v _)) ⟨false,h,rfl⟩)
  have dr137:r137=true:=by simpa using dr137
  replace h:=h.1 dr137
  refine Runs.skip ?_
  refine Runs.seq ?_
  refine Runs.seqD Ty_ok kindOp_ok draws (by decide) (by kernel_rfl) fun k' hk'=>?_
  obtain⟨hb147,h⟩:=h
  obtain⟨r148,er148,h⟩:=atm h
  simp[hh,m4_1,m5_2,m11_50,m12_77,dr137,Big.cells,encI,encN,encS,encW]
  refine RunDK.callA Ty_ok kindOp_ok ((toSystem_ok aX hb147).pure) e25 (.cons (ArgOk.agg (.cons (ArgOk.nest_Bigraph false aX.states) (.cons (ArgOk.listF (fr:=false) (els:=aX.steps.map intC3) (flatI3 _)) .nil))) .nil) (by decide) rfl (by simp[hh,m4_1,m5_2,m11_50,m12_77,dr137,Big.cells,encI,encN,encS,encW]) ?_
  rw[← er148]
  obtain⟨hb149,h⟩:=h
  obtain⟨r150,er150,h⟩:=atm h
  simp[hh,m4_1,m5_2,m11_50,m12_77,dr137,Big.cells,encI,encN,encS,encW]
  refine RunDK.callA Ty_ok kindOp_ok (eqY_ok r38 r148 hb149) e28 (.cons (ArgOk.agg (.cons (Sep.argOk' sp.f1 (old_nest_Bigraph true r38.states)) (.cons (Sep.argOk' sp.f2 (old_listF (flatI3 _))) .nil))) (.cons (ArgOk.agg (.cons (ArgOk.nest_Bigraph true r148.states) (.cons (ArgOk.listF (fr:=true) (els:=r148.steps.map intC3) (flatI3 _)) .nil))) .nil)) (by decide) rfl (by simp[hh,m4_1,m5_2,m11_50,m12_77,dr137,Big.cells,encI,encN,encS,encW]) ?_
  rw[← er150]
  simp[hh,m4_1,m5_2,m11_50,m12_77,dr137,Big.cells,encI,encN,encS,encW]
  apply hk'
  refine Runs.ite (b:=(!r150)) (by simp[hh,m4_1,m5_2,m11_50,m12_77,dr137,Big.cells,encI,encN,encS,encW]) (fun dr150=>?_) (fun dr150=>?_)
  ·have dr150:r150=false:=by simpa using dr150
   replace h:=h.2 dr150
   refine zE fun k' hk'=>?_
   simp[hh,m4_1,m5_2,m11_50,m12_77,dr137,dr150,Big.cells,encI,encN,encS,encW]
   apply hk'
   exact Runs.ret1 (v:=bool false) Tryz.func4 Tryz.results4 (by simp[hh,m4_1,m5_2,m11_50,m12_77,dr137,dr150,Big.cells,encI,encN,encS,encW]) (hQ _ _ _ _ (.of (.v _)) ⟨false,h,rfl⟩)
  have dr150:r150=true:=by simpa using dr150
  replace h:=h.1 dr150
  refine Runs.skip ?_
  refine Runs.seq ?_
  refine Runs.seqD Ty_ok kindOp_ok draws (by decide) (by kernel_rfl) fun k' hk'=>?_
  obtain⟨hb151,h⟩:=h
  obtain⟨r152,er152,h⟩:=atm h
  simp[hh,m4_1,m5_2,m11_50,m12_77,dr137,dr150,Big.cells,encI,encN,encS,encW]
  refine RunDK.callA Ty_ok kindOp_ok ((toBigraph_ok aPattern hb151).pure) e15 (.cons (argB false aPattern) .nil) (by decide) rfl (by simp[hh,m4_1,m5_2,m11_50,m12_77,dr137,dr150,Big.cells,encI,encN,encS,encW]) ?_
  rw[← er152]
  obtain⟨hb153,h⟩:=h
  obtain⟨r154,er154,h⟩:=atm h
  simp[hh,m4_1,m5_2,m11_50,m12_77,dr137,dr150,Big.cells,encI,encN,encS,encW]
  refine RunDK.callA Ty_ok kindOp_ok (eqBigraph_ok r59 r152 hb153) e21 (.cons (ArgOk.agg (.cons (.v _ _ _) (.cons (Sep.argOk' sp.f3 (old_nest_Node true r59.nodes)) (.cons (Sep.argOk' sp.f4 (old_listF (by simp))) (.cons (.v _ _ _) (.cons (Sep.argOk' sp.f5 (old_listF (by simp))) (.cons (Sep.argOk' sp.f6 (old_listF (by simp))) .nil))))))) (.cons (argB true r152) .nil)) (by decide) rfl (by simp[hh,m4_1,m5_2,m11_50,m12_77,dr137,dr150,Big.cells,encI,encN,encS,encW]) ?_
  rw[← er154]
  simp[hh,m4_1,m5_2,m11_50,m12_77,dr137,dr150,Big.cells,encI,encN,encS,encW]
  apply hk'
  refine Runs.ite (b:=(!r154)) (by simp[hh,m4_1,m5_2,m11_50,m12_77,dr137,dr150,Big.cells,encI,encN,encS,encW]) (fun dr154=>?_) (fun dr154=>?_)
  ·have dr154:r154=false:=by simpa using dr154
   replace h:=h.2 dr154
   refine zE fun k' hk'=>?_
   simp[hh,m4_1,m5_2,m11_50,m12_77,dr137,dr150,dr154,Big.cells,encI,encN,encS,encW]
   apply hk'
   exact Runs.ret1 (v:=bool false) Tryz.func4 Tryz.results4 (by simp[hh,m4_1,m5_2,m11_50,m12_77,dr137,dr150,dr154,Big.cells,encI,encN,encS,encW]) (hQ _ _ _ _ (.of (.v _)) ⟨false,h,rfl⟩)
  have dr154:r154=true:=by simpa using dr154
  replace h:=h.1 dr154
  refine Runs.skip ?_
  refine zE fun k' hk'=>?_
  simp[hh,m4_1,m5_2,m11_50,m12_77,dr137,dr150,dr154,Big.cells,encI,encN,encS,encW]
  apply hk'
  refine zE fun k' hk'=>?_
  obtain⟨hb155,h⟩:=h
  obtain⟨r156,er156,h⟩:=atm h
  have f157:=Sep.oc sp
  simp[hh,m4_1,m5_2,m11_50,m12_77,f157,dr137,dr150,dr154,Big.cells,encI,encN,encS,encW,-cellsA,-one1,cAx,o1x]
  refine RunK.callM (v:=v138) Ty_ok (markControlS_ok r27 1 hb155) e29 sp (by decide) (by decide) rfl (by simp[hh,m4_1,m5_2,m11_50,m12_77,f157,dr137,dr150,dr154,Big.cells,encI,encN,encS,encW,-cellsA,-one1,cAx,o1x]) ?_
  rintro _ H158 n159 _ ⟨rfl,rfl⟩ sp hle161 hfr160
  rw[← er156] at sp
  rw[← er156]
  replace sp:Sep H158 n159 [oE [.c,.c,.c] Control.cells v138 r156.1,oE [.c,.s [.c,.c,.s [.c]],.s [.c],.c,.s [.c],.s [.c,.c]] (Big.cells true) v139 r38.states,oE [.c,.c,.c] intC3 v140 r38.steps,oN v141 r59.nodes,oI v142 r59.sites,oS v143 r59.outer,oW v144 r59.inner,oI v145 r92.1] [(n62,12),(n41,11),(n1+1,5),(n1,4)]:=sp
  have m4_1:H158 (n1,4)=some ⟨2,[[.list false (aX.states.map (Big.cells false)),.list false (aX.steps.map intC3)]]⟩:=(hfr160 _ (by simp)).trans (by simp[hh,m4_1,m5_2,m11_50,m12_77,Heap.get_set])
  have m5_2:H158 (n1+1,5)=some ⟨6,[bC false aPattern]⟩:=(hfr160 _ (by simp)).trans (by simp[hh,m4_1,m5_2,m11_50,m12_77,Heap.get_set])
  have m11_50:H158 (n41,11)=some ⟨2,[[v139,v140]]⟩:=(hfr160 _ (by simp)).trans (by simp[hh,m4_1,m5_2,m11_50,m12_77,Heap.get_set])
  have m12_77:H158 (n62,12)=some ⟨6,[[int r59.roots,v141,v142,int r59.edges,v143,v144]]⟩:=(hfr160 _ (by simp)).trans (by simp[hh,m4_1,m5_2,m11_50,m12_77,Heap.get_set])
  simp[hh,m4_1,m5_2,m11_50,m12_77,f157,dr137,dr150,dr154,Big.cells,encI,encN,encS,encW,-cellsA,-one1,cAx,o1x]
  apply hk'
  refine Runs.cut (fun ρ H n=>∃ (v163 v164 v165 v166 v167 v168 v169:AVal),(ρ 0 = .list false (aSig.map Control.cells)∧ρ 4=pA n1 4∧ρ 5=pA (n1+1) 5∧ρ 8 = .list true (r25.1.map intC)∧ρ 9=bool r25.2∧ρ 11=pA n41 11∧ρ 12=pA n62 12∧ρ 13=v169∧ρ 14=bool r92.2∧ρ 15=int r156.2)∧H (n1,4)=some ⟨2,[[.list false (aX.states.map (Big.cells false)),.list false (aX.steps.map intC3)]]⟩∧H (n1+1,5)=some ⟨6,[bC false aPattern]⟩∧H (n41,11)=some ⟨2,[[v163,v164]]⟩∧H (n62,12)=some ⟨6,[[int r59.roots,v165,v166,int r59.edges,v167,v168]]⟩∧Sep H n [oE [.c,.s [.c,.c,.s [.c]],.s [.c],.c,.s [.c],.s [.c,.c]] (Big.cells true) v163 r38.states,oE [.c,.c,.c] intC3 v164 r38.steps,oN v165 r59.nodes,oI v166 r59.sites,oS v167 r59.outer,oW v168 r59.inner,oI v169 r92.1] [(n62,12),(n41,11),(n1+1,5),(n1,4)]) (by refine⟨v139,v140,v141,v142,v143,v144,v145,?_,?_,?_,?_,?_,sp.dr⟩<;>simp[hh,m4_1,m5_2,m11_50,m12_77,f157,dr137,dr150,dr154,Big.cells,encI,encN,encS,encW,-cellsA,-one1,cAx,o1x]) ?_
  clear hh m4_1 m5_2 m11_50 m12_77
  rintro ρ H n170 ⟨v163,v164,v165,v166,v167,v168,v169,hh,m4_1,m5_2,m11_50,m12_77,sp⟩
  refine zE fun k' hk'=>?_
  obtain⟨hb171,h⟩:=h
  obtain⟨r172,er172,h⟩:=atm h
  have f173:=Sep.oc sp
  have f174:=Sep.oc sp.f1
  simp[hh,m4_1,m5_2,m11_50,m12_77,f173,f174,Big.cells,encI,encN,encS,encW,-cellsA,-one1,cAx,o1x]
  refine RunK.callM (v:=.agg [v163,v164]) Ty_ok (markY_ok r38 r156.2 hb171) e30 (Sep.pack (Fill.own (Fill.own Fill.nil)) sp) (by decide) (by decide) rfl (by simp[hh,m4_1,m5_2,m11_50,m12_77,f173,f174,Big.cells,encI,encN,encS,encW,-cellsA,-one1,cAx,o1x]) ?_
  rintro _ H175 n176 _ ⟨rfl,rfl⟩ sp hle178 hfr177
  rw[← er172] at sp
  rw[← er172]
  replace sp:=Sep.unpack sp
  obtain⟨L179,hv,hl180,sp⟩:=sp
  cases hv
  simp only[zip3,List.cons_append,List.nil_append] at sp
  replace sp:=Sep.rot sp
  try simp only[List.cons_append,List.nil_append,List.append_assoc] at sp
  replace sp:=Sep.rot sp
  try simp only[List.cons_append,List.nil_append,List.append_assoc] at sp
  replace sp:Sep H175 n176 [oN v165 r59.nodes,oI v166 r59.sites,oS v167 r59.outer,oW v168 r59.inner,oI v169 r92.1,oE [.c,.s [.c,.c,.s [.c]],.s [.c],.c,.s [.c],.s [.c,.c]] (Big.cells true) v163 r172.1.states,oE [.c,.c,.c] intC3 v164 r172.1.steps] [(n62,12),(n41,11),(n1+1,5),(n1,4)]:=sp
  have m4_1:H175 (n1,4)=some ⟨2,[[.list false (aX.states.map (Big.cells false)),.list false (aX.steps.map intC3)]]⟩:=(hfr177 _ (by simp)).trans (by simp[hh,m4_1,m5_2,m11_50,m12_77,Heap.get_set])
  have m5_2:H175 (n1+1,5)=some ⟨6,[bC false aPattern]⟩:=(hfr177 _ (by simp)).trans (by simp[hh,m4_1,m5_2,m11_50,m12_77,Heap.get_set])
  have m11_50:H175 (n41,11)=some ⟨2,[[v163,v164]]⟩:=(hfr177 _ (by simp)).trans (by simp[hh,m4_1,m5_2,m11_50,m12_77,Heap.get_set])
  have m12_77:H175 (n62,12)=some ⟨6,[[int r59.roots,v165,v166,int r59.edges,v167,v168]]⟩:=(hfr177 _ (by simp)).trans (by simp[hh,m4_1,m5_2,m11_50,m12_77,Heap.get_set])
  simp[hh,m4_1,m5_2,m11_50,m12_77,f173,f174,Big.cells,encI,encN,encS,encW,-cellsA,-one1,cAx,o1x]
  apply hk'
  refine Runs.cut (fun ρ H n=>∃ (v182 v183 v184 v185 v186:AVal),(ρ 0 = .list false (aSig.map Control.cells)∧ρ 4=pA n1 4∧ρ 5=pA (n1+1) 5∧ρ 8 = .list true (r25.1.map intC)∧ρ 9=bool r25.2∧ρ 12=pA n62 12∧ρ 13=v186∧ρ 14=bool r92.2∧ρ 15=int r172.2)∧H (n1,4)=some ⟨2,[[.list false (aX.states.map (Big.cells false)),.list false (aX.steps.map intC3)]]⟩∧H (n1+1,5)=some ⟨6,[bC false aPattern]⟩∧H (n62,12)=some ⟨6,[[int r59.roots,v182,v183,int r59.edges,v184,v185]]⟩∧Sep H n [oN v182 r59.nodes,oI v183 r59.sites,oS v184 r59.outer,oW v185 r59.inner,oI v186 r92.1] [(n62,12),(n1+1,5),(n1,4)]) (by refine⟨v165,v166,v167,v168,v169,?_,?_,?_,?_,(Sep.sub sp.f5.dr.f5.dr (by simp +contextual))⟩<;>simp[hh,m4_1,m5_2,m11_50,m12_77,f173,f174,Big.cells,encI,encN,encS,encW,-cellsA,-one1,cAx,o1x]) ?_
  clear hh m4_1 m5_2 m11_50 m12_77
  rintro ρ H n187 ⟨v182,v183,v184,v185,v186,hh,m4_1,m5_2,m12_77,sp⟩
  refine zE fun k' hk'=>?_
  obtain⟨hb188,h⟩:=h
  obtain⟨r189,er189,h⟩:=atm h
  have f190:=Sep.oc sp
  have f191:=Sep.oc sp.f1
  have f192:=Sep.oc sp.f2
  have f193:=Sep.oc sp.f3
  simp[hh,m4_1,m5_2,m12_77,f190,f191,f192,f193,Big.cells,encI,encN,encS,encW,-cellsA,-one1,cAx,o1x]
  refine RunK.callM (v:=.agg [int r59.roots,v182,v183,int r59.edges,v184,v185]) Ty_ok (markBig_ok r59 r172.2 hb188) e31 (Sep.pack (Fill.v _ (Fill.own (Fill.own (Fill.v _ (Fill.own (Fill.own Fill.nil)))))) sp) (by decide) (by decide) rfl (by simp[hh,m4_1,m5_2,m12_77,f190,f191,f192,f193,Big.cells,encI,encN,encS,encW,-cellsA,-one1,cAx,o1x]) ?_
  rintro _ H194 n195 _ ⟨rfl,rfl⟩ sp hle197 hfr196
  rw[← er189] at sp
  rw[← er189]
  replace sp:=Sep.unpack sp
  obtain⟨L198,hv,hl199,sp⟩:=sp
  cases hv
  simp only[zip3,List.cons_append,List.nil_append] at sp
  replace sp:=(Sep.scalar sp).2
  replace sp:=Sep.rot sp
  try simp only[List.cons_append,List.nil_append,List.append_assoc] at sp
  replace sp:=Sep.rot sp
  try simp only[List.cons_append,List.nil_append,List.append_assoc] at sp
  replace sp:=(Sep.scalar sp).2
  replace sp:=Sep.rot sp
  try simp only[List.cons_append,List.nil_append,List.append_assoc] at sp
  replace sp:=Sep.rot sp
  try simp only[List.cons_append,List.nil_append,List.append_assoc] at sp
  replace sp:Sep H194 n195 [oI v186 r92.1,oN v182 r189.1.nodes,oI v183 r189.1.sites,oS v184 r189.1.outer,oW v185 r189.1.inner] [(n62,12),(n1+1,5),(n1,4)]:=sp
  have m4_1:H194 (n1,4)=some ⟨2,[[.list false (aX.states.map (Big.cells false)),.list false (aX.steps.map intC3)]]⟩:=(hfr196 _ (by simp)).trans (by simp[hh,m4_1,m5_2,m12_77,Heap.get_set])
  have m5_2:H194 (n1+1,5)=some ⟨6,[bC false aPattern]⟩:=(hfr196 _ (by simp)).trans (by simp[hh,m4_1,m5_2,m12_77,Heap.get_set])
  have m12_77:H194 (n62,12)=some ⟨6,[[int r59.roots,v182,v183,int r59.edges,v184,v185]]⟩:=(hfr196 _ (by simp)).trans (by simp[hh,m4_1,m5_2,m12_77,Heap.get_set])
  simp[hh,m4_1,m5_2,m12_77,f190,f191,f192,f193,Big.cells,encI,encN,encS,encW,-cellsA,-one1,cAx,o1x]
  apply hk'
  refine Runs.cut (fun ρ H n=>∃ (v201:AVal),(ρ 0 = .list false (aSig.map Control.cells)∧ρ 4=pA n1 4∧ρ 5=pA (n1+1) 5∧ρ 8 = .list true (r25.1.map intC)∧ρ 9=bool r25.2∧ρ 13=v201∧ρ 14=bool r92.2∧ρ 15=int r189.2)∧H (n1,4)=some ⟨2,[[.list false (aX.states.map (Big.cells false)),.list false (aX.steps.map intC3)]]⟩∧H (n1+1,5)=some ⟨6,[bC false aPattern]⟩∧Sep H n [oI v201 r92.1] [(n1+1,5),(n1,4)]) (by refine⟨v186,?_,?_,?_,(Sep.sub sp.f1.dr.f1.dr.f1.dr.f1.dr (by simp +contextual))⟩<;>simp[hh,m4_1,m5_2,m12_77,f190,f191,f192,f193,Big.cells,encI,encN,encS,encW,-cellsA,-one1,cAx,o1x]) ?_
  clear hh m4_1 m5_2 m12_77
  rintro ρ H n202 ⟨v201,hh,m4_1,m5_2,sp⟩
  refine Runs.seq ?_
  refine zE fun k' hk'=>?_
  obtain⟨J203,hJ204,hr205⟩:=h
  have fin208:∀ (sJ:Bool) (ρ:Env) (H:Heap) (n:Nat),J203 sJ→(match sJ with | b206=>∃ (v207:AVal),(ρ 0 = .list false (aSig.map Control.cells)∧ρ 4=pA n1 4∧ρ 5=pA (n1+1) 5∧ρ 8 = .list true (r25.1.map intC)∧ρ 9=bool r25.2∧ρ 13=v207∧ρ 103=bool b206)∧H (n1,4)=some ⟨2,[[.list false (aX.states.map (Big.cells false)),.list false (aX.steps.map intC3)]]⟩∧H (n1+1,5)=some ⟨6,[bC false aPattern]⟩∧Sep H n [oI v207 r92.1] [(n1+1,5),(n1,4)])→Runs Tryz.prog 4 142 k' ρ H n Q:=by
   rintro b206 ρ H n209 h ⟨v207,hh,m4_1,m5_2,sp⟩
   replace h:=hr205 _ h
   apply hk'
   refine Runs.ite (b:=b206) (by simp[hh,m4_1,m5_2,Big.cells,encI,encN,encS,encW]) (fun db206=>?_) (fun db206=>?_)
   ·replace h:=h.1 db206
    refine zE fun k' hk'=>?_
    simp[hh,m4_1,m5_2,db206,Big.cells,encI,encN,encS,encW]
    apply hk'
    exact Runs.ret1 (v:=bool false) Tryz.func4 Tryz.results4 (by simp[hh,m4_1,m5_2,db206,Big.cells,encI,encN,encS,encW]) (hQ _ _ _ _ (.of (.v _)) ⟨false,h,rfl⟩)
   replace h:=h.2 db206
   refine Runs.skip ?_
   refine zE fun k' hk'=>?_
   simp[hh,m4_1,m5_2,db206,Big.cells,encI,encN,encS,encW]
   apply hk'
   refine zE fun k' hk'=>?_
   obtain⟨hb210,h⟩:=h
   obtain⟨r211,er211,h⟩:=atm h
   have f212:=Sep.oc sp
   simp[hh,m4_1,m5_2,f212,db206,Big.cells,encI,encN,encS,encW,-cellsA,-one1,cAx,o1x]
   refine RunK.callM (v:=v207) Ty_ok (markIntS_ok r92.1 1 hb210) e32 sp (by decide) (by decide) rfl (by simp[hh,m4_1,m5_2,f212,db206,Big.cells,encI,encN,encS,encW,-cellsA,-one1,cAx,o1x]) ?_
   rintro _ H213 n214 _ ⟨rfl,rfl⟩ sp hle216 hfr215
   rw[← er211] at sp
   rw[← er211]
   replace sp:Sep H213 n214 [oI v207 r211.1] [(n1+1,5),(n1,4)]:=sp
   have m4_1:H213 (n1,4)=some ⟨2,[[.list false (aX.states.map (Big.cells false)),.list false (aX.steps.map intC3)]]⟩:=(hfr215 _ (by simp)).trans (by simp[hh,m4_1,m5_2,Heap.get_set])
   have m5_2:H213 (n1+1,5)=some ⟨6,[bC false aPattern]⟩:=(hfr215 _ (by simp)).trans (by simp[hh,m4_1,m5_2,Heap.get_set])
   simp[hh,m4_1,m5_2,f212,db206,Big.cells,encI,encN,encS,encW,-cellsA,-one1,cAx,o1x]
   apply hk'
   refine Runs.cut (fun ρ H n=>∃ (v218:AVal),(ρ 0 = .list false (aSig.map Control.cells)∧ρ 4=pA n1 4∧ρ 5=pA (n1+1) 5∧ρ 8 = .list true (r25.1.map intC)∧ρ 9=bool r25.2∧ρ 13=v218∧ρ 16=int r211.2)∧H (n1,4)=some ⟨2,[[.list false (aX.states.map (Big.cells false)),.list false (aX.steps.map intC3)]]⟩∧H (n1+1,5)=some ⟨6,[bC false aPattern]⟩∧Sep H n [oI v218 r211.1] [(n1+1,5),(n1,4)]) (by refine⟨v207,?_,?_,?_,sp⟩<;>simp[hh,m4_1,m5_2,f212,db206,Big.cells,encI,encN,encS,encW,-cellsA,-one1,cAx,o1x]) ?_
   clear hh m4_1 m5_2
   rintro ρ H n219 ⟨v218,hh,m4_1,m5_2,sp⟩
   refine zE fun k' hk'=>?_
   simp[hh,m4_1,m5_2,Big.cells,encI,encN,encS,encW]
   apply hk'
   refine zE fun k' hk'=>?_
   obtain⟨hb220,h⟩:=h
   obtain⟨r221,er221,h⟩:=atm h
   simp[hh,m4_1,m5_2,Big.cells,encI,encN,encS,encW]
   refine RunK.callA Ty_ok (heldIntS_ok r211.1 1 hb220) e33 (.cons (Sep.argOk' sp (old_listF (by simp))) (.cons (.v _ _ _) .nil)) (by decide) (by decide) rfl (by simp[hh,m4_1,m5_2,Big.cells,encI,encN,encS,encW]) ?_
   rintro _ rfl
   rw[← er221]
   simp[hh,m4_1,m5_2,Big.cells,encI,encN,encS,encW]
   apply hk'
   refine Runs.seq ?_
   refine zE fun k' hk'=>?_
   obtain⟨c222,ec222,h⟩:=atm h
   have f223:=ib_lss (k:=.i64) ec222
   simp[hh,m4_1,m5_2,f223,Big.cells,encI,encN,encS,encW,-intBin]
   apply hk'
   refine Runs.ite (b:=c222) (by simp[hh,m4_1,m5_2,Big.cells,encI,encN,encS,encW]) (fun dc222=>?_) (fun dc222=>?_)
   ·replace h:=h.1 dc222
    refine zE fun k' hk'=>?_
    simp[hh,m4_1,m5_2,dc222,Big.cells,encI,encN,encS,encW]
    apply hk'
    exact Runs.ret1 (v:=bool false) Tryz.func4 Tryz.results4 (by simp[hh,m4_1,m5_2,dc222,Big.cells,encI,encN,encS,encW]) (hQ _ _ _ _ (.of (.v _)) ⟨false,h,rfl⟩)
   replace h:=h.2 dc222
   refine Runs.skip ?_
   refine Runs.seq ?_
   refine zE fun k' hk'=>?_
   obtain⟨c224,ec224,h⟩:=atm h
   have f225:=ib_neq (k:=.i64) ec224
   simp[hh,m4_1,m5_2,f225,dc222,Big.cells,encI,encN,encS,encW,-intBin]
   apply hk'
   refine Runs.ite (b:=c224) (by simp[hh,m4_1,m5_2,dc222,Big.cells,encI,encN,encS,encW]) (fun dc224=>?_) (fun dc224=>?_)
   ·replace h:=h.1 dc224
    refine zE fun k' hk'=>?_
    simp[hh,m4_1,m5_2,dc222,dc224,Big.cells,encI,encN,encS,encW]
    apply hk'
    exact Runs.ret1 (v:=bool false) Tryz.func4 Tryz.results4 (by simp[hh,m4_1,m5_2,dc222,dc224,Big.cells,encI,encN,encS,encW]) (hQ _ _ _ _ (.of (.v _)) ⟨false,h,rfl⟩)
   replace h:=h.2 dc224
   refine Runs.skip ?_
   refine Runs.seqD Ty_ok kindOp_ok draws (by decide) (by kernel_rfl) fun k' hk'=>?_
   obtain⟨hb226,h⟩:=h
   obtain⟨r227,er227,h⟩:=atm h
   simp[hh,m4_1,m5_2,dc222,dc224,Big.cells,encI,encN,encS,encW]
   refine RunDK.callA Ty_ok kindOp_ok ((toControlS_ok aSig hb226).pure) e12 (.cons (argC false aSig) .nil) (by decide) rfl (by simp[hh,m4_1,m5_2,dc222,dc224,Big.cells,encI,encN,encS,encW]) ?_
   rw[← er227]
   obtain⟨hb228,h⟩:=h
   obtain⟨r229,er229,h⟩:=atm h
   simp[hh,m4_1,m5_2,dc222,dc224,Big.cells,encI,encN,encS,encW]
   refine RunDK.callA Ty_ok kindOp_ok ((toSystem_ok aX hb228).pure) e25 (.cons (ArgOk.agg (.cons (ArgOk.nest_Bigraph false aX.states) (.cons (ArgOk.listF (fr:=false) (els:=aX.steps.map intC3) (flatI3 _)) .nil))) .nil) (by decide) rfl (by simp[hh,m4_1,m5_2,dc222,dc224,Big.cells,encI,encN,encS,encW]) ?_
   rw[← er229]
   obtain⟨hb230,h⟩:=h
   obtain⟨r231,er231,h⟩:=atm h
   simp[hh,m4_1,m5_2,dc222,dc224,Big.cells,encI,encN,encS,encW]
   refine RunDK.callA Ty_ok kindOp_ok ((toBigraph_ok aPattern hb230).pure) e15 (.cons (argB false aPattern) .nil) (by decide) rfl (by simp[hh,m4_1,m5_2,dc222,dc224,Big.cells,encI,encN,encS,encW]) ?_
   rw[← er231]
   obtain⟨hb232,h⟩:=h
   obtain⟨r233,er233,h⟩:=atm h
   simp[hh,m4_1,m5_2,dc222,dc224,Big.cells,encI,encN,encS,encW]
   refine RunDK.callA Ty_ok kindOp_ok ((PatternStates_ok r227 r229 r231 hb232).pure) e26 (.cons (argC true r227) (.cons (ArgOk.agg (.cons (ArgOk.nest_Bigraph true r229.states) (.cons (ArgOk.listF (fr:=true) (els:=r229.steps.map intC3) (flatI3 _)) .nil))) (.cons (argB true r231) .nil))) (by decide) rfl (by simp[hh,m4_1,m5_2,dc222,dc224,Big.cells,encI,encN,encS,encW]) ?_
   rw[← er233]
   simp[hh,m4_1,m5_2,dc222,dc224,Big.cells,encI,encN,encS,encW]
   apply hk'
   refine Runs.cut (fun ρ H n=>∃ (v234:AVal),(ρ 8 = .list true (r25.1.map intC)∧ρ 9=bool r25.2∧ρ 13=v234∧ρ 16=int r211.2∧ρ 18 = .list true (r233.1.map intC)∧ρ 19=bool r233.2)∧Sep H n [oI v234 r211.1] []) (by refine⟨v218,?_,(Sep.sub sp (by simp +contextual))⟩<;>simp[hh,m4_1,m5_2,dc222,dc224,Big.cells,encI,encN,encS,encW]) ?_
   clear hh m4_1 m5_2
   rintro ρ H n235 ⟨v234,hh,sp⟩
   refine Runs.seq ?_
   refine zE fun k' hk'=>?_
   obtain⟨J236,hJ237,hr238⟩:=h
   have fin241:∀ (sJ:Bool) (ρ:Env) (H:Heap) (n:Nat),J236 sJ→(match sJ with | b239=>∃ (v240:AVal),(ρ 13=v240∧ρ 16=int r211.2∧ρ 133=bool b239)∧Sep H n [oI v240 r211.1] [])→Runs Tryz.prog 4 142 k' ρ H n Q:=by
    rintro b239 ρ H n242 h ⟨v240,hh,sp⟩
    replace h:=hr238 _ h
    apply hk'
    refine Runs.ite (b:=b239) (by simp[hh,Big.cells,encI,encN,encS,encW]) (fun db239=>?_) (fun db239=>?_)
    ·replace h:=h.1 db239
     refine zE fun k' hk'=>?_
     simp[hh,db239,Big.cells,encI,encN,encS,encW]
     apply hk'
     exact Runs.ret1 (v:=bool false) Tryz.func4 Tryz.results4 (by simp[hh,db239,Big.cells,encI,encN,encS,encW]) (hQ _ _ _ _ (.of (.v _)) ⟨false,h,rfl⟩)
    replace h:=h.2 db239
    refine Runs.skip ?_
    refine zE fun k' hk'=>?_
    simp[hh,db239,Big.cells,encI,encN,encS,encW]
    apply hk'
    refine zE fun k' hk'=>?_
    obtain⟨hb243,h⟩:=h
    obtain⟨r244,er244,h⟩:=atm h
    simp[hh,db239,Big.cells,encI,encN,encS,encW]
    refine RunK.callA Ty_ok (heldIntS_ok r211.1 1 hb243) e33 (.cons (Sep.argOk' sp (old_listF (by simp))) (.cons (.v _ _ _) .nil)) (by decide) (by decide) rfl (by simp[hh,db239,Big.cells,encI,encN,encS,encW]) ?_
    rintro _ rfl
    rw[← er244]
    simp[hh,db239,Big.cells,encI,encN,encS,encW]
    apply hk'
    refine Runs.seq ?_
    refine zE fun k' hk'=>?_
    obtain⟨c245,ec245,h⟩:=atm h
    have f246:=ib_lss (k:=.i64) ec245
    simp[hh,f246,db239,Big.cells,encI,encN,encS,encW,-intBin]
    apply hk'
    refine Runs.ite (b:=c245) (by simp[hh,db239,Big.cells,encI,encN,encS,encW]) (fun dc245=>?_) (fun dc245=>?_)
    ·replace h:=h.1 dc245
     refine zE fun k' hk'=>?_
     simp[hh,db239,dc245,Big.cells,encI,encN,encS,encW]
     apply hk'
     exact Runs.ret1 (v:=bool false) Tryz.func4 Tryz.results4 (by simp[hh,db239,dc245,Big.cells,encI,encN,encS,encW]) (hQ _ _ _ _ (.of (.v _)) ⟨false,h,rfl⟩)
    replace h:=h.2 dc245
    refine Runs.skip ?_
    refine Runs.seq ?_
    refine zE fun k' hk'=>?_
    obtain⟨c247,ec247,h⟩:=atm h
    have f248:=ib_neq (k:=.i64) ec247
    simp[hh,f248,db239,dc245,Big.cells,encI,encN,encS,encW,-intBin]
    apply hk'
    refine Runs.ite (b:=c247) (by simp[hh,db239,dc245,Big.cells,encI,encN,encS,encW]) (fun dc247=>?_) (fun dc247=>?_)
    ·replace h:=h.1 dc247
     refine zE fun k' hk'=>?_
     simp[hh,db239,dc245,dc247,Big.cells,encI,encN,encS,encW]
     apply hk'
     exact Runs.ret1 (v:=bool false) Tryz.func4 Tryz.results4 (by simp[hh,db239,dc245,dc247,Big.cells,encI,encN,encS,encW]) (hQ _ _ _ _ (.of (.v _)) ⟨false,h,rfl⟩)
    replace h:=h.2 dc247
    refine Runs.skip ?_
    refine zE fun k' hk'=>?_
    simp[hh,db239,dc245,dc247,Big.cells,encI,encN,encS,encW]
    apply hk'
    exact Runs.ret1 (v:=bool true) Tryz.func4 Tryz.results4 (by simp[hh,db239,dc245,dc247,Big.cells,encI,encN,encS,encW]) (hQ _ _ _ _ (.of (.v _)) ⟨true,h,rfl⟩)
   replace h:=hJ237
   obtain⟨hb249,h⟩:=h
   obtain⟨r250,er250,h⟩:=atm h
   simp[hh,Big.cells,encI,encN,encS,encW]
   refine RunK.callA Ty_ok (eqIntS_ok r233.1 r25.1 hb249) e27 (.cons (argI true r233.1) (.cons (argI true r25.1) .nil)) (by decide) (by decide) rfl (by simp[hh,Big.cells,encI,encN,encS,encW]) ?_
   rintro _ rfl
   rw[← er250]
   rcases Bool.eq_false_or_eq_true r250 with dr250 | dr250
   ·replace h:=h.1 dr250
    obtain⟨c251,ec251,h⟩:=atm h
    have f252:=bb_neq ec251
    simp[hh,f252,dr250,Big.cells,encI,encN,encS,encW,-boolBin]
    exact fin241 (c251) _ _ _ h (by refine⟨v234,?_,sp⟩<;>simp[hh,f252,dr250,Big.cells,encI,encN,encS,encW,-boolBin])
   replace h:=h.2 dr250
   simp[hh,dr250,Big.cells,encI,encN,encS,encW]
   exact fin241 (true) _ _ _ h (by refine⟨v234,?_,sp⟩<;>simp[hh,dr250,Big.cells,encI,encN,encS,encW])
  replace h:=hJ204
  obtain⟨c253,ec253,h⟩:=atm h
  have f254:=ib_lss (k:=.i64) ec253
  rcases Bool.eq_false_or_eq_true c253 with dc253 | dc253
  ·replace h:=h.1 dc253
   simp[hh,m4_1,m5_2,f254,dc253,Big.cells,encI,encN,encS,encW,-intBin]
   exact fin208 (true) _ _ _ h (by refine⟨v201,?_,?_,?_,sp⟩<;>simp[hh,m4_1,m5_2,f254,dc253,Big.cells,encI,encN,encS,encW,-intBin])
  replace h:=h.2 dc253
  obtain⟨hb255,h⟩:=h
  obtain⟨r256,er256,h⟩:=atm h
  simp[hh,m4_1,m5_2,f254,dc253,Big.cells,encI,encN,encS,encW,-intBin]
  refine RunK.callA Ty_ok (eqIntS_ok r92.1 r25.1 hb255) e27 (.cons (Sep.argOk' sp (old_listF (by simp))) (.cons (argI true r25.1) .nil)) (by decide) (by decide) rfl (by simp[hh,m4_1,m5_2,f254,dc253,Big.cells,encI,encN,encS,encW,-intBin]) ?_
  rintro _ rfl
  rw[← er256]
  rcases Bool.eq_false_or_eq_true r256 with dr256 | dr256
  ·replace h:=h.1 dr256
   obtain⟨c257,ec257,h⟩:=atm h
   have f258:=bb_neq ec257
   simp[hh,m4_1,m5_2,f254,f258,dc253,dr256,Big.cells,encI,encN,encS,encW,-boolBin,-intBin]
   exact fin208 (c257) _ _ _ h (by refine⟨v201,?_,?_,?_,sp⟩<;>simp[hh,m4_1,m5_2,f254,f258,dc253,dr256,Big.cells,encI,encN,encS,encW,-boolBin,-intBin])
  replace h:=h.2 dr256
  simp[hh,m4_1,m5_2,f254,dc253,dr256,Big.cells,encI,encN,encS,encW,-intBin]
  exact fin208 (true) _ _ _ h (by refine⟨v201,?_,?_,?_,sp⟩<;>simp[hh,m4_1,m5_2,f254,dc253,dr256,Big.cells,encI,encN,encS,encW,-intBin])
 replace h:=hJ114
 obtain⟨hb259,h⟩:=h
 obtain⟨r260,er260,h⟩:=atm h
 simp[hh,m4_1,m5_2,m11_50,m12_77,Big.cells,encI,encN,encS,encW]
 refine RunK.callA Ty_ok (eqIntS_ok r92.1 r25.1 hb259) e27 (.cons (Sep.argOk' sp.f7 (old_listF (by simp))) (.cons (argI true r25.1) .nil)) (by decide) (by decide) rfl (by simp[hh,m4_1,m5_2,m11_50,m12_77,Big.cells,encI,encN,encS,encW]) ?_
 rintro _ rfl
 rw[← er260]
 rcases Bool.eq_false_or_eq_true r260 with dr260 | dr260
 ·replace h:=h.1 dr260
  obtain⟨c261,ec261,h⟩:=atm h
  have f262:=bb_neq ec261
  simp[hh,m4_1,m5_2,m11_50,m12_77,f262,dr260,Big.cells,encI,encN,encS,encW,-boolBin]
  exact fin125 (c261) _ _ _ h (by refine⟨v104,v105,v106,v107,v108,v109,v110,v111,?_,?_,?_,?_,?_,sp⟩<;>simp[hh,m4_1,m5_2,m11_50,m12_77,f262,dr260,Big.cells,encI,encN,encS,encW,-boolBin])
 replace h:=h.2 dr260
 simp[hh,m4_1,m5_2,m11_50,m12_77,dr260,Big.cells,encI,encN,encS,encW]
 exact fin125 (true) _ _ _ h (by refine⟨v104,v105,v106,v107,v108,v109,v110,v111,?_,?_,?_,?_,?_,sp⟩<;>simp[hh,m4_1,m5_2,m11_50,m12_77,dr260,Big.cells,encI,encN,encS,encW])
theorem lawPat_ok (aSig:List Control) (aX:Sys) (aPattern:Big) (hp:lawPat_pre aSig aX aPattern):PureC Tryz.prog 4 [.list false (aSig.map Control.cells),.agg [.list false (aX.states.map (Big.cells false)),.list false (aX.steps.map intC3)],.agg (bC false aPattern)] (fun r=>r=bool (lawPat aSig aX aPattern)):=(lawPat_walk aSig aX aPattern _ (lawPat_vc aSig aX aPattern hp)).mono (by rintro _ ⟨_,rfl,rfl⟩;rfl)
end Go.Ab.Vg
/- Reader of a law's argument: a system. (Template.) -/
namespace Go.Ab
open Go.RowKit Go.ChangeAt Go.WideShapes Go.ChangeShapes
abbrev HugeY (x:Sys):Prop:=(x.states.length≤9223372036854775807∧∀ b ∈ x.states,HugeB b)∧x.steps.length≤9223372036854775807
theorem Reader.ints3 {P:Program} {t e:TypeId} (hu:P.underlying t=some (.array 3 e)) (he:P.underlying e=some (.int .i64)) (hn:P.cellsOf e=1) (hm:P.cellsOf t=3):Reader P t intC3 (fun _=>True):=by
 intro H enc w base spare held fuel cs x hx
 obtain⟨xs,m,_,_,hl,hxl,hf⟩:=DataW.trod_array hu hx
 rw[hm] at hl
 obtain⟨c0,c1,c2,rfl⟩:∃ a b c,cs=[a,b,c]:=by
  match cs,hl with
  | [a,b,c],_=>exact⟨a,b,c,rfl⟩
 obtain⟨x0,x1,x2,rfl⟩:∃ a b c,xs=[a,b,c]:=by
  match xs,hxl with
  | [a,b,c],_=>exact⟨a,b,c,rfl⟩
 rw[hn] at hf
 obtain⟨n0,_,r0⟩:=Reader.int he H enc w base spare held m _ x0 (hf 0 (by decide))
 obtain⟨n1,_,r1⟩:=Reader.int he H enc w base spare held m _ x1 (hf 1 (by decide))
 obtain⟨n2,_,r2⟩:=Reader.int he H enc w base spare held m _ x2 (hf 2 (by decide))
 exact⟨(n0,n1,n2),trivial,RepC.append r0 (RepC.append r1 r2)⟩
end Go.Ab
namespace Go.Proofs.YtbpdcoahefnnkaaGreatDoor
open Go.ChangeShapes Go.WideShapes Go.ChangeAt Go.RowKit Go.Ab
set_option maxRecDepth 100000
theorem rSysF:Reader Tryz.prog 66 (Go.Ab.Sys.cells false) HugeY:=by
 have h1:=Reader.slice Tryz.underlying63 (of_decide_eq_true (by kernel_rfl)) rBigF
 have h2:=Reader.slice Tryz.underlying64 (of_decide_eq_true (by kernel_rfl)) (Reader.ints3 Tryz.underlying145 Tryz.underlying3 (by kernel_rfl) (by kernel_rfl))
 have h:=Reader.struct Tryz.underlying66 (n:=2) (by kernel_rfl) (FReader.cons (n:=1) rfl (by kernel_rfl) h1 (FReader.cons (n:=1) rfl (by kernel_rfl) h2 (FReader.nil 2)))
 exact h.map (e':=Go.Ab.Sys.cells false) (ok':=HugeY) (fun p=>⟨p.1,p.2.1⟩) (fun p=>rfl) (fun p hp=>⟨hp.1,hp.2.1.1⟩)
theorem rSys:ArgR Tryz.prog 66 (fun x:Go.Ab.Sys=>.agg (x.cells false)) HugeY:=ArgR.struct Tryz.underlying66 rSysF
end Go.Proofs.YtbpdcoahefnnkaaGreatDoor
/- The contract of laws.FnExactPatternStates: it answers true. -/
namespace Go.Ab
open Go.Proofs
theorem exactPatternStates_ok (a0:Sig) (a1:Sys) (a2:Big) (h0:HugeS a0) (h1:HugeY a1) (h2:HugeB a2):PureC Tryz.prog 4 [encSig false a0,.agg (Sys.cells false a1),encB false a2] (fun r=>r=bool true):=Vg.lawPat_ok a0 a1 a2 ⟨h0,h1,h2⟩
end Go.Ab
