/- Merged texts (8 of 11) of the proof that ends in Fpy: Dbw. -/
import Derived.Test.YtiokiodmcghlhaaDoorAbQfp7
/- Walks by program for YtiokiodmcghlhaaDoorAbDb. -/
namespace Go.Ab.Vg
open Go.Proofs
set_option maxRecDepth 100000
set_option linter.unusedSimpArgs false
set_option linter.unusedVariables false
attribute [local simp] Control.cells GNode.cells Wire.cells intC sliceC strC bC pA zB
theorem e15:Ent Tryd.prog 15:=Ent.of Tryd.func15 (by kernel_rfl) rfl
theorem sigR_walk (c:Cur) (Z:(Cur × (List Control))→Prop) (h:sigR_wp c Z):DrawS Tryd.prog 15 (fun p=>[p]) 3 (fun s=>[.list false (s.code.map byteC),int s.pos,.v (.int .u64 s.seed)]) c [] (.s [.c,.c,.c]) (fun s' r=>∃ y:List Control,Z (s',y)∧r = .list true (y.map Control.cells)):=by
 unfold sigR_wp at h
 refine DrawS.of Tryd.func15 rfl Tryd.ntmps15 (fun _=>by simp) fun X H0 n0 K0 ids0 hX hxi sp Q hQ=>?_
 have h00:=sp.1
 have lX:X.1<n0:=h00 X (by simp)
 have neX:∀ m d,n0≤m→(X=(m,d))=False:=fun m d hm=>by simp only[eq_iff_iff,iff_false];rintro rfl;simp at lX;omega
 have hid:∀ i ∈ ids0,H0 i=H0 i:=fun _ _=>rfl
 have hnn:n0≤n0:=Nat.le_refl _
 have hn1:=Nat.le_succ_of_le hnn
 have hn2:=Nat.le_succ_of_le hn1
 replace sp:Sep H0 n0 (K0) (X::ids0):=sp
 refine Runs.cut (fun ρ H n=>ρ 0 = .ptr X 1 0 0∧H X=some ⟨3,[[.list false (c.code.map byteC),int c.pos,.v (.int .u64 c.seed)]]⟩∧n0≤n∧(∀ i ∈ ids0,H i=H0 i)∧Sep H n (K0) (X::ids0)) (by refine⟨?_,?_,(by omega),hid,sp⟩<;>simp[hX,hnn,hn1,hn2,neX,byteC]) ?_
 rintro ρ H n1 ⟨hh,mX0,hnn,hid,sp⟩
 have hq_n1:=hnn
 have hn1:=Nat.le_succ_of_le hnn
 have hn2:=Nat.le_succ_of_le hn1
 refine zE fun k' hk'=>?_
 simp[hh,mX0,hnn,hn1,hn2,neX,byteC]
 apply hk'
 refine Runs.seqK Ty_ok (by decide) fun k' hk'=>?_
 refine RunK.same1 (v:=(.agg [str [114,111,111,109],int 0,int 0])) Ty_ok (by decide) rfl (by simp[hh,mX0,hnn,hn1,hn2,neX,byteC]) ?_
 refine RunK.same1 (v:=(.ptr X 1 0 0)) Ty_ok (by decide) rfl (by simp[hh,mX0,hnn,hn1,hn2,neX,byteC]) ?_
 obtain⟨hb2,h⟩:=h
 obtain⟨r3,er3,h⟩:=atm h
 refine RunK.callDr2 (xsA:=[.ptr X 1 0 0,int 2]) (X:=X) (A:=[]) (B:=(ids0)) (M:=[]) (K0:=(K0)) Ty_ok (pickZ_ok c 2 hb2) (.cons (Sub.refl _) (.cons (Sub.refl _) .nil)) e17 (by simp[hh,mX0,hnn,hn1,hn2,neX,byteC]) (by simp[hh,mX0,hnn,hn1,hn2,neX,hxi,byteC]) sp (by decide) rfl (by simp[hh,mX0,hnn,hn1,hn2,neX,byteC]) ?_
 rintro v4 H5 n6 _ _ ⟨rfl,rfl⟩ hmx sp hle8 hfr7
 rw[← er3] at hmx sp
 have mX0:H5 X=some ⟨3,[[.list false (r3.1.code.map byteC),int r3.1.pos,.v (.int .u64 r3.1.seed)]]⟩:=hmx
 have hid:∀ i ∈ ids0,H5 i=H0 i:=fun i hi=>(hfr7 i (by simp[hi])).trans (hid i hi)
 have hnn:n0≤n6:=by omega
 have hq_n6:=hnn
 replace sp:=Sep.scalar sp
 obtain⟨hv,sp⟩:=sp
 subst hv
 replace sp:Sep H5 n6 (K0) (X::ids0):=sp
 refine RunK.same1 (v:=(.agg [str [107,101,121],int 1,int r3.2])) Ty_ok (by decide) rfl (by simp[hh,mX0,hnn,hn1,hn2,neX,byteC]) ?_
 refine RunK.same1 (v:=(.agg [str [108,101,97,102],int 1,int 2])) Ty_ok (by decide) rfl (by simp[hh,mX0,hnn,hn1,hn2,neX,byteC]) ?_
 refine RunK.same1 (v:=(.agg [str [112,97,105,114],int 2,int 0])) Ty_ok (by decide) rfl (by simp[hh,mX0,hnn,hn1,hn2,neX,byteC]) ?_
 obtain⟨l10,el10,h⟩:=atm h
 refine RunK.makeS (l':=[.c,.c,.c]) (cs:=[str [114,111,111,109],int 0,int 0,str [107,101,121],int 1,int r3.2,str [108,101,97,102],int 1,int 2,str [112,97,105,114],int 2,int 0]) Ty_ok (([(Control.mk [114,111,111,109] 0 0),(Control.mk [107,101,121] 1 r3.2),(Control.mk [108,101,97,102] 1 2),(Control.mk [112,97,105,114] 2 0)]:List Control).map Control.cells) sp (by decide) (by decide) (by simp) kd_24 (by simp) (by simp) (by simp[hh,mX0,hnn,hn1,hn2,neX,splice,List.replicate,fillA,byteC]) (by simp[chunks,List.range_succ,byteC]) (by simp) (by simp[byteC]) ?_
 rintro id11 H12 n13 sp hfr14 hle15
 replace sp:Sep H12 n13 (oE [.c,.c,.c] Control.cells (.arr id11 4 0 4) l10::K0) (X::ids0):=by rw[el10];exact sp
 have hid:∀ i ∈ ids0,H12 i=H0 i:=fun i hi=>(hfr14 i (by simp[hi])).trans (hid i hi)
 have hnn:n0≤n13:=by omega
 have hq_n13:=hnn
 have mX0:=(hfr14 _ (by simp)).trans mX0
 simp[hh,mX0,hnn,hn1,hn2,neX,byteC]
 apply hk'
 refine Runs.cut (fun ρ H n=>∃ (v18:AVal),(ρ 0 = .ptr X 1 0 0∧ρ 3=v18)∧H X=some ⟨3,[[.list false (r3.1.code.map byteC),int r3.1.pos,.v (.int .u64 r3.1.seed)]]⟩∧n0≤n∧(∀ i ∈ ids0,H i=H0 i)∧Sep H n (oE [.c,.c,.c] Control.cells v18 l10::K0) (X::ids0)) (by refine⟨.arr id11 4 0 4,?_,?_,(by omega),hid,sp⟩<;>simp[hh,mX0,hnn,hn1,hn2,neX,byteC]) ?_
 clear hh mX0
 rintro ρ H n19 ⟨v18,hh,mX0,hnn,hid,sp⟩
 have hq_n19:=hnn
 have hn1:=Nat.le_succ_of_le hnn
 have hn2:=Nat.le_succ_of_le hn1
 refine zE fun k' hk'=>?_
 obtain⟨hb20,h⟩:=h
 obtain⟨r21,er21,h⟩:=atm h
 simp[hh,mX0,hnn,hn1,hn2,neX,byteC]
 refine RunK.callDr (xsA:=[.ptr X 1 0 0,int 3]) (X:=X) (A:=[]) (B:=(ids0)) (M:=[]) (K0:=(oE [.c,.c,.c] Control.cells v18 l10::K0)) Ty_ok (pickZ_ok r3.1 3 hb20) (.cons (Sub.refl _) (.cons (Sub.refl _) .nil)) e17 (by simp[hh,mX0,hnn,hn1,hn2,neX,byteC]) (by simp[hh,mX0,hnn,hn1,hn2,neX,hxi,byteC]) sp (by decide) (by decide) rfl (by simp[hh,mX0,hnn,hn1,hn2,neX,byteC]) ?_
 rintro v22 H23 n24 _ _ ⟨rfl,rfl⟩ hmx sp hle26 hfr25
 rw[← er21] at hmx sp
 have mX0:H23 X=some ⟨3,[[.list false (r21.1.code.map byteC),int r21.1.pos,.v (.int .u64 r21.1.seed)]]⟩:=hmx
 have hid:∀ i ∈ ids0,H23 i=H0 i:=fun i hi=>(hfr25 i (by simp[hi])).trans (hid i hi)
 have hnn:n0≤n24:=by omega
 have hq_n24:=hnn
 replace sp:=Sep.scalar sp
 obtain⟨hv,sp⟩:=sp
 subst hv
 replace sp:Sep H23 n24 (oE [.c,.c,.c] Control.cells v18 l10::K0) (X::ids0):=sp
 obtain⟨hb28,h⟩:=h
 obtain⟨v29,ev29,h⟩:=atm h
 have f30:=ib_add hb28 ev29
 obtain⟨hb31,h⟩:=h
 obtain⟨l32,el32,h⟩:=atm h
 simp[hh,mX0,hnn,hn1,hn2,neX,f30,byteC,-intBin,-sliceF]
 refine bind_short (g:=Control.cells) (xs:=l10) v29 sp (by simp) kd_24 (by simp) (by simp[boundOf]) (by simp[boundOf]) (by simpa using hb31) ?_
 rintro w33 hw34
 simp[hh,mX0,hnn,hn1,hn2,neX,f30,byteC,-intBin]
 apply hk'
 refine Runs.shortS (g:=Control.cells) (xs:=l10) (b:=v29) 3 hw34 sp (by simp) (by simpa using hb31) (by simp) ?_
 rintro v35 H36 n37 sp hle39 hfr38
 replace sp:Sep H36 n37 (oE [.c,.c,.c] Control.cells v35 l32::K0) (X::ids0):=by rw[show l32=l10.take v29.toNat from by rw[el32];simp];exact sp
 have hid:∀ i ∈ ids0,H36 i=H0 i:=fun i hi=>(hfr38 i (by simp[hi])).trans (hid i hi)
 have hnn:n0≤n37:=by omega
 have hq_n37:=hnn
 have mX0:=(hfr38 _ (by simp)).trans mX0
 refine Runs.cut (fun ρ H n=>∃ (v41:AVal),(ρ 0 = .ptr X 1 0 0∧ρ 3=v41)∧H X=some ⟨3,[[.list false (r21.1.code.map byteC),int r21.1.pos,.v (.int .u64 r21.1.seed)]]⟩∧n0≤n∧(∀ i ∈ ids0,H i=H0 i)∧Sep H n (oE [.c,.c,.c] Control.cells v41 l32::K0) (X::ids0)) (by refine⟨v35,?_,?_,(by omega),hid,sp⟩<;>simp[hh,mX0,hnn,hn1,hn2,neX,f30,byteC,-intBin]) ?_
 clear hh mX0
 rintro ρ H n42 ⟨v41,hh,mX0,hnn,hid,sp⟩
 have hq_n42:=hnn
 have hn1:=Nat.le_succ_of_le hnn
 have hn2:=Nat.le_succ_of_le hn1
 refine Runs.seq ?_
 refine zE fun k' hk'=>?_
 obtain⟨hb43,h⟩:=h
 obtain⟨r44,er44,h⟩:=atm h
 simp[hh,mX0,hnn,hn1,hn2,neX,byteC]
 refine RunK.callDr (xsA:=[.ptr X 1 0 0,int 40]) (X:=X) (A:=[]) (B:=(ids0)) (M:=[]) (K0:=(oE [.c,.c,.c] Control.cells v41 l32::K0)) Ty_ok (pickZ_ok r21.1 40 hb43) (.cons (Sub.refl _) (.cons (Sub.refl _) .nil)) e17 (by simp[hh,mX0,hnn,hn1,hn2,neX,byteC]) (by simp[hh,mX0,hnn,hn1,hn2,neX,hxi,byteC]) sp (by decide) (by decide) rfl (by simp[hh,mX0,hnn,hn1,hn2,neX,byteC]) ?_
 rintro v45 H46 n47 _ _ ⟨rfl,rfl⟩ hmx sp hle49 hfr48
 rw[← er44] at hmx sp
 have mX0:H46 X=some ⟨3,[[.list false (r44.1.code.map byteC),int r44.1.pos,.v (.int .u64 r44.1.seed)]]⟩:=hmx
 have hid:∀ i ∈ ids0,H46 i=H0 i:=fun i hi=>(hfr48 i (by simp[hi])).trans (hid i hi)
 have hnn:n0≤n47:=by omega
 have hq_n47:=hnn
 replace sp:=Sep.scalar sp
 obtain⟨hv,sp⟩:=sp
 subst hv
 replace sp:Sep H46 n47 (oE [.c,.c,.c] Control.cells v41 l32::K0) (X::ids0):=sp
 simp[hh,mX0,hnn,hn1,hn2,neX,byteC]
 apply hk'
 refine Runs.cut (fun ρ H n=>∃ (v51:AVal),(ρ 0 = .ptr X 1 0 0∧ρ 3=v51∧ρ 17=int r44.2)∧H X=some ⟨3,[[.list false (r44.1.code.map byteC),int r44.1.pos,.v (.int .u64 r44.1.seed)]]⟩∧n0≤n∧(∀ i ∈ ids0,H i=H0 i)∧Sep H n (oE [.c,.c,.c] Control.cells v51 l32::K0) (X::ids0)) (by refine⟨v41,?_,?_,(by omega),hid,sp⟩<;>simp[hh,mX0,hnn,hn1,hn2,neX,byteC]) ?_
 clear hh mX0
 rintro ρ H n52 ⟨v51,hh,mX0,hnn,hid,sp⟩
 have hq_n52:=hnn
 have hn1:=Nat.le_succ_of_le hnn
 have hn2:=Nat.le_succ_of_le hn1
 refine Runs.block ?_
 refine zE fun k' hk'=>?_
 obtain⟨c53,ec53,h⟩:=atm h
 have f54:=ib_eql (k:=.i64) ec53
 simp[hh,mX0,hnn,hn1,hn2,neX,f54,byteC,-intBin]
 apply hk'
 refine Runs.ite (b:=c53) (by simp[hh,mX0,hnn,hn1,hn2,neX,byteC]) (fun dc53=>?_) (fun dc53=>?_)
 ·replace h:=h.1 dc53
  refine zE fun k' hk'=>?_
  simp[hh,mX0,hnn,hn1,hn2,neX,dc53,byteC]
  apply hk'
  refine Runs.cut (fun ρ H n=>∃ (v56:AVal),ρ 2=v56∧H X=some ⟨3,[[.list false (r44.1.code.map byteC),int r44.1.pos,.v (.int .u64 r44.1.seed)]]⟩∧n0≤n∧(∀ i ∈ ids0,H i=H0 i)∧Sep H n (oE [.c,.c,.c] Control.cells v56 ([]:List Control)::K0) (X::ids0)) (by refine⟨.arr (n52,20) 0 0 0,?_,?_,(by omega),(by intro i hi;have hlt:=h00 i (by simp[hi]);have hxx:i ≠ X:=fun e=>hxi (e ▸ hi);repeat (first | exact hid i hi | rw[Heap.get_set_ne _ _ hxx] | rw[Heap.get_set_ne _ _ (by rintro rfl;simp at hlt;omega)])),(Sep.dr (Sep.f1 (Sep.addEmpty (l:=[.c,.c,.c]) sp)))⟩<;>simp[hh,mX0,hnn,hn1,hn2,neX,dc53,byteC]) ?_
  clear hh mX0
  rintro ρ H n57 ⟨v56,hh,mX0,hnn,hid,sp⟩
  have hq_n57:=hnn
  have hn1:=Nat.le_succ_of_le hnn
  have hn2:=Nat.le_succ_of_le hn1
  exact Runs.ret1 (v:=v56) Tryd.func15 Tryd.results15 (by simp[hh,mX0,hnn,hn1,hn2,neX,byteC]) (hQ _ _ _ r44.1 _ (by simp[hh,mX0,hnn,hn1,hn2,neX,byteC]) (Sep.sub sp (by simp +contextual)) hid (by omega) ⟨([]:List Control),h,rfl⟩)
 replace h:=h.2 dc53
 refine zE fun k' hk'=>?_
 obtain⟨c58,ec58,h⟩:=atm h
 have f59:=ib_eql (k:=.i64) ec58
 simp[hh,mX0,hnn,hn1,hn2,neX,f59,dc53,byteC,-intBin]
 apply hk'
 refine Runs.ite (b:=c58) (by simp[hh,mX0,hnn,hn1,hn2,neX,dc53,byteC]) (fun dc58=>?_) (fun dc58=>?_)
 ·replace h:=h.1 dc58
  refine zE fun k' hk'=>?_
  obtain⟨hb60,h⟩:=h
  obtain⟨r61,er61,h⟩:=atm h
  simp[hh,mX0,hnn,hn1,hn2,neX,dc53,dc58,List.range_succ,byteC]
  refine RunK.callDr (xsA:=[.ptr X 1 0 0,.list true ([[107,101,121],[],[75,101,121],[114,111,111,109,115],[108,111,99,107]].map strC)]) (X:=X) (A:=[]) (B:=(ids0)) (M:=[]) (K0:=(oE [.c,.c,.c] Control.cells v51 l32::K0)) Ty_ok (ofZ_ok r44.1 [[107,101,121],[],[75,101,121],[114,111,111,109,115],[108,111,99,107]] hb60) (.cons (Sub.refl _) (.cons (Sub.old _) .nil)) e41 (by simp[hh,mX0,hnn,hn1,hn2,neX,dc53,dc58,List.range_succ,byteC]) (by simp[hh,mX0,hnn,hn1,hn2,neX,hxi,List.range_succ,byteC]) sp (by decide) (by decide) rfl (by simp[hh,mX0,hnn,hn1,hn2,neX,dc53,dc58,List.range_succ,byteC]) ?_
  rintro v62 H63 n64 _ _ ⟨rfl,rfl⟩ hmx sp hle66 hfr65
  rw[← er61] at hmx sp
  have mX0:H63 X=some ⟨3,[[.list false (r61.1.code.map byteC),int r61.1.pos,.v (.int .u64 r61.1.seed)]]⟩:=hmx
  have hid:∀ i ∈ ids0,H63 i=H0 i:=fun i hi=>(hfr65 i (by simp[hi])).trans (hid i hi)
  have hnn:n0≤n64:=by omega
  have hq_n64:=hnn
  replace sp:=Sep.scalar sp
  obtain⟨hv,sp⟩:=sp
  subst hv
  replace sp:Sep H63 n64 (oE [.c,.c,.c] Control.cells v51 l32::K0) (X::ids0):=sp
  obtain⟨hb68,h⟩:=h
  obtain⟨r69,er69,h⟩:=atm h
  simp[hh,mX0,hnn,hn1,hn2,neX,dc53,dc58,List.range_succ,byteC]
  refine RunK.callDr (xsA:=[.ptr X 1 0 0,.list true ([0,3,4,(-1)].map intC)]) (X:=X) (A:=[]) (B:=(ids0)) (M:=[]) (K0:=(oE [.c,.c,.c] Control.cells v51 l32::K0)) Ty_ok (amongZ_ok r61.1 [0,3,4,(-1)] hb68) (.cons (Sub.refl _) (.cons (Sub.old _) .nil)) e42 (by simp[hh,mX0,hnn,hn1,hn2,neX,dc53,dc58,List.range_succ,byteC]) (by simp[hh,mX0,hnn,hn1,hn2,neX,hxi,List.range_succ,byteC]) sp (by decide) (by decide) rfl (by simp[hh,mX0,hnn,hn1,hn2,neX,dc53,dc58,List.range_succ,byteC]) ?_
  rintro v70 H71 n72 _ _ ⟨rfl,rfl⟩ hmx sp hle74 hfr73
  rw[← er69] at hmx sp
  have mX0:H71 X=some ⟨3,[[.list false (r69.1.code.map byteC),int r69.1.pos,.v (.int .u64 r69.1.seed)]]⟩:=hmx
  have hid:∀ i ∈ ids0,H71 i=H0 i:=fun i hi=>(hfr73 i (by simp[hi])).trans (hid i hi)
  have hnn:n0≤n72:=by omega
  have hq_n72:=hnn
  replace sp:=Sep.scalar sp
  obtain⟨hv,sp⟩:=sp
  subst hv
  replace sp:Sep H71 n72 (oE [.c,.c,.c] Control.cells v51 l32::K0) (X::ids0):=sp
  obtain⟨hb76,h⟩:=h
  obtain⟨r77,er77,h⟩:=atm h
  simp[hh,mX0,hnn,hn1,hn2,neX,dc53,dc58,List.range_succ,byteC]
  refine RunK.callDr (xsA:=[.ptr X 1 0 0,.list true ([0,1,2,3,(-1)].map intC)]) (X:=X) (A:=[]) (B:=(ids0)) (M:=[]) (K0:=(oE [.c,.c,.c] Control.cells v51 l32::K0)) Ty_ok (amongZ_ok r69.1 [0,1,2,3,(-1)] hb76) (.cons (Sub.refl _) (.cons (Sub.old _) .nil)) e42 (by simp[hh,mX0,hnn,hn1,hn2,neX,dc53,dc58,List.range_succ,byteC]) (by simp[hh,mX0,hnn,hn1,hn2,neX,hxi,List.range_succ,byteC]) sp (by decide) (by decide) rfl (by simp[hh,mX0,hnn,hn1,hn2,neX,dc53,dc58,List.range_succ,byteC]) ?_
  rintro v78 H79 n80 _ _ ⟨rfl,rfl⟩ hmx sp hle82 hfr81
  rw[← er77] at hmx sp
  have mX0:H79 X=some ⟨3,[[.list false (r77.1.code.map byteC),int r77.1.pos,.v (.int .u64 r77.1.seed)]]⟩:=hmx
  have hid:∀ i ∈ ids0,H79 i=H0 i:=fun i hi=>(hfr81 i (by simp[hi])).trans (hid i hi)
  have hnn:n0≤n80:=by omega
  have hq_n80:=hnn
  replace sp:=Sep.scalar sp
  obtain⟨hv,sp⟩:=sp
  subst hv
  replace sp:Sep H79 n80 (oE [.c,.c,.c] Control.cells v51 l32::K0) (X::ids0):=sp
  obtain⟨hb84,h⟩:=h
  obtain⟨l85,el85,h⟩:=atm h
  simp[hh,mX0,hnn,hn1,hn2,neX,dc53,dc58,List.range_succ,byteC,-appendF]
  refine bind_append [] (K0) [[str r61.2,int r69.2,int r77.2]] [Control.cells (Control.mk r61.2 r69.2 r77.2)] sp kd_24 (by simp) (by simp) (by simp[List.range_succ,byteC]) (by simp[-one1,o1x]) (rows_one (Fill.v _ (Fill.v _ (Fill.v _ Fill.nil)))) (by simp) (by simpa using hb84) ?_
  rintro v86 H87 n88 sp hfr89 hle90
  replace sp:Sep H87 n88 (oE [.c,.c,.c] Control.cells v86 l85::K0) (X::ids0):=Sep.ap el85 sp
  have hid:∀ i ∈ ids0,H87 i=H0 i:=fun i hi=>(hfr89 i (by simp[hi])).trans (hid i hi)
  have hnn:n0≤n88:=by omega
  have hq_n88:=hnn
  have mX0:=(hfr89 _ (by simp)).trans mX0
  simp[hh,mX0,hnn,hn1,hn2,neX,dc53,dc58,List.range_succ,byteC]
  apply hk'
  refine Runs.cut (fun ρ H n=>∃ (v92:AVal),ρ 2=v92∧H X=some ⟨3,[[.list false (r77.1.code.map byteC),int r77.1.pos,.v (.int .u64 r77.1.seed)]]⟩∧n0≤n∧(∀ i ∈ ids0,H i=H0 i)∧Sep H n (oE [.c,.c,.c] Control.cells v92 l85::K0) (X::ids0)) (by refine⟨v86,?_,?_,(by omega),hid,sp⟩<;>simp[hh,mX0,hnn,hn1,hn2,neX,dc53,dc58,List.range_succ,byteC]) ?_
  clear hh mX0
  rintro ρ H n93 ⟨v92,hh,mX0,hnn,hid,sp⟩
  have hq_n93:=hnn
  have hn1:=Nat.le_succ_of_le hnn
  have hn2:=Nat.le_succ_of_le hn1
  exact Runs.ret1 (v:=v92) Tryd.func15 Tryd.results15 (by simp[hh,mX0,hnn,hn1,hn2,neX,List.range_succ,byteC]) (hQ _ _ _ r77.1 _ (by simp[hh,mX0,hnn,hn1,hn2,neX,List.range_succ,byteC]) (Sep.sub sp (by simp +contextual)) hid (by omega) ⟨l85,h,rfl⟩)
 replace h:=h.2 dc58
 refine zE fun k' hk'=>?_
 obtain⟨c94,ec94,h⟩:=atm h
 have f95:=ib_eql (k:=.i64) ec94
 simp[hh,mX0,hnn,hn1,hn2,neX,f95,dc53,dc58,List.range_succ,byteC,-intBin]
 apply hk'
 refine Runs.ite (b:=c94) (by simp[hh,mX0,hnn,hn1,hn2,neX,dc53,dc58,List.range_succ,byteC]) (fun dc94=>?_) (fun dc94=>?_)
 ·replace h:=h.1 dc94
  refine zE fun k' hk'=>?_
  obtain⟨hb96,h⟩:=h
  obtain⟨l97,el97,h⟩:=atm h
  simp[hh,mX0,hnn,hn1,hn2,neX,dc53,dc58,dc94,List.range_succ,byteC,-appendF]
  refine bind_append0 (([(Control.mk [120] 0 0),(Control.mk [121] 0 0)]:List Control).map Control.cells) sp (by simp) kd_24 (by simp) (by simp) (by simp[srcOf,List.range_succ,byteC]) (by simp[-one1,o1x,List.range_succ,byteC]) (by simpa using hb96) ?_
  rintro v98 H99 n100 sp hfr101 hle102
  replace sp:Sep H99 n100 (oE [.c,.c,.c] Control.cells v98 l97::K0) (X::ids0):=by refine Sep.ap el97 ?_;exact sp
  have hid:∀ i ∈ ids0,H99 i=H0 i:=fun i hi=>(hfr101 i (by simp[hi])).trans (hid i hi)
  have hnn:n0≤n100:=by omega
  have hq_n100:=hnn
  have mX0:=(hfr101 _ (by simp)).trans mX0
  obtain⟨hb104,h⟩:=h
  obtain⟨l105,el105,h⟩:=atm h
  simp[hh,mX0,hnn,hn1,hn2,neX,dc53,dc58,dc94,List.range_succ,byteC,-appendF]
  refine bind_append [] (K0) [[str [122],int 0,int 0]] [Control.cells (Control.mk [122] 0 0)] sp kd_24 (by simp) (by simp) (by simp[List.range_succ,byteC]) (by simp[-one1,o1x]) (rows_one (Fill.v _ (Fill.v _ (Fill.v _ Fill.nil)))) (by simp) (by simpa using hb104) ?_
  rintro v106 H107 n108 sp hfr109 hle110
  replace sp:Sep H107 n108 (oE [.c,.c,.c] Control.cells v106 l105::K0) (X::ids0):=Sep.ap el105 sp
  have hid:∀ i ∈ ids0,H107 i=H0 i:=fun i hi=>(hfr109 i (by simp[hi])).trans (hid i hi)
  have hnn:n0≤n108:=by omega
  have hq_n108:=hnn
  have mX0:=(hfr109 _ (by simp)).trans mX0
  simp[hh,mX0,hnn,hn1,hn2,neX,dc53,dc58,dc94,List.range_succ,byteC]
  apply hk'
  refine Runs.cut (fun ρ H n=>∃ (v112:AVal),ρ 2=v112∧H X=some ⟨3,[[.list false (r44.1.code.map byteC),int r44.1.pos,.v (.int .u64 r44.1.seed)]]⟩∧n0≤n∧(∀ i ∈ ids0,H i=H0 i)∧Sep H n (oE [.c,.c,.c] Control.cells v112 l105::K0) (X::ids0)) (by refine⟨v106,?_,?_,(by omega),hid,sp⟩<;>simp[hh,mX0,hnn,hn1,hn2,neX,dc53,dc58,dc94,List.range_succ,byteC]) ?_
  clear hh mX0
  rintro ρ H n113 ⟨v112,hh,mX0,hnn,hid,sp⟩
  have hq_n113:=hnn
  have hn1:=Nat.le_succ_of_le hnn
  have hn2:=Nat.le_succ_of_le hn1
  exact Runs.ret1 (v:=v112) Tryd.func15 Tryd.results15 (by simp[hh,mX0,hnn,hn1,hn2,neX,List.range_succ,byteC]) (hQ _ _ _ r44.1 _ (by simp[hh,mX0,hnn,hn1,hn2,neX,List.range_succ,byteC]) (Sep.sub sp (by simp +contextual)) hid (by omega) ⟨l105,h,rfl⟩)
 replace h:=h.2 dc94
 refine Runs.skip ?_
 refine Runs.inBlock ?_
 refine zE fun k' hk'=>?_
 simp[hh,mX0,hnn,hn1,hn2,neX,dc53,dc58,dc94,List.range_succ,byteC]
 apply hk'
 exact Runs.ret1 (v:=v51) Tryd.func15 Tryd.results15 (by simp[hh,mX0,hnn,hn1,hn2,neX,dc53,dc58,dc94,List.range_succ,byteC]) (hQ _ _ _ r44.1 _ (by simp[hh,mX0,hnn,hn1,hn2,neX,dc53,dc58,dc94,List.range_succ,byteC]) (Sep.sub sp (by simp +contextual)) hid (by omega) ⟨l32,h,rfl⟩)
theorem sigR_ok (c:Cur) (hp:sigR_pre c)  : DrawS Tryd.prog 15 (fun p=>[p]) 3 (fun s=>[.list false (s.code.map byteC),int s.pos,.v (.int .u64 s.seed)]) c [] (.s [.c,.c,.c]) (fun s' r=>∃ y:Cur × (List Control),sigR c y∧s'=y.1∧r = .list true (y.2.map Control.cells)):=(sigR_walk c _ (sigR_vc c hp)).mono (by rintro s' _ ⟨y,hz,rfl⟩;exact⟨(s',y),hz,rfl,rfl⟩)
theorem sigR_fz (c:Cur) (hp:sigR_pre c):DrawS Tryd.prog 15 (fun p=>[p]) 3 (fun s=>[.list false (s.code.map byteC),int s.pos,.v (.int .u64 s.seed)]) c [] .c (fun s' r=>∃ y:Cur × (List Control),sigR c y∧s'=y.1∧r = .list true (y.2.map Control.cells)):=(sigR_ok c hp).fz (by rintro _ _ ⟨y,_,rfl,rfl⟩;simp )
theorem e43:Ent Tryd.prog 43:=Ent.of Tryd.func43 (by kernel_rfl) rfl
theorem l1MostZ_walk (a:Int) (b:Int) (Z:Int→Prop) (h:l1MostZ_wp a b Z):PureC Tryd.prog 43 [int a,int b] (fun r=>∃ y:Int,Z y∧r=int y):=by
 unfold l1MostZ_wp at h
 refine PureC.of Tryd.func43 rfl Tryd.ntmps43 (by simp) fun Q hQ=>?_
 refine Runs.cut (fun ρ H n=>(ρ 0=int a∧ρ 1=int b)) (by simp[]) ?_
 rintro ρ H n1 hh
 refine zE fun k' hk'=>?_
 simp[hh]
 apply hk'
 refine Runs.seq ?_
 refine zE fun k' hk'=>?_
 obtain⟨c2,ec2,h⟩:=atm h
 have f3:=ib_gtr (k:=.i64) ec2
 simp[hh,f3,-intBin]
 apply hk'
 refine Runs.ite (b:=c2) (by simp[hh]) (fun dc2=>?_) (fun dc2=>?_)
 ·replace h:=h.1 dc2
  refine zE fun k' hk'=>?_
  simp[hh,dc2]
  apply hk'
  exact Runs.ret1 (v:=int a) Tryd.func43 Tryd.results43 (by simp[hh,dc2]) (hQ _ _ _ _ (.of (.v _)) ⟨a,h,rfl⟩)
 replace h:=h.2 dc2
 refine Runs.skip ?_
 refine zE fun k' hk'=>?_
 simp[hh,dc2]
 apply hk'
 exact Runs.ret1 (v:=int b) Tryd.func43 Tryd.results43 (by simp[hh,dc2]) (hQ _ _ _ _ (.of (.v _)) ⟨b,h,rfl⟩)
theorem l1MostZ_ok (a:Int) (b:Int)  : PureC Tryd.prog 43 [int a,int b] (fun r=>r=int (l1MostZ a b)):=(l1MostZ_walk a b _ (l1MostZ_vc a b )).mono (by rintro _ ⟨_,rfl,rfl⟩;rfl)
theorem e44:Ent Tryd.prog 44:=Ent.of Tryd.func44 (by kernel_rfl) rfl
set_option maxHeartbeats 2000000 in
theorem harmedR_walk (c:Cur) (b:Big) (v0:AVal) (Z:(Cur × Big)→Prop) (h:harmedR_wp c b Z):DrawS Tryd.prog 44 (fun p=>[p,v0]) 3 (fun s=>[.list false (s.code.map byteC),int s.pos,.v (.int .u64 s.seed)]) c [(.a [.c,.s [.c,.c,.s [.c]],.s [.c],.c,.s [.c],.s [.c,.c]],v0,.agg (bC true b))] (.a [.c,.s [.c,.c,.c],.s [.c],.c,.s [.c],.s [.c,.c]]) (fun s' r=>∃ y:Big,Z (s',y)∧r = .agg (bC true y)):=by
 unfold harmedR_wp at h
 refine DrawS.of Tryd.func44 rfl Tryd.ntmps44 (fun _=>by simp) fun X H0 n0 K0 ids0 hX hxi sp Q hQ=>?_
 have h00:=sp.1
 have lX:X.1<n0:=h00 X (by simp)
 have neX:∀ m d,n0≤m→(X=(m,d))=False:=fun m d hm=>by simp only[eq_iff_iff,iff_false];rintro rfl;simp at lX;omega
 have hid:∀ i ∈ ids0,H0 i=H0 i:=fun _ _=>rfl
 have hnn:n0≤n0:=Nat.le_refl _
 have hn1:=Nat.le_succ_of_le hnn
 have hn2:=Nat.le_succ_of_le hn1
 replace sp:Sep H0 n0 ((.a [.c,.s [.c,.c,.s [.c]],.s [.c],.c,.s [.c],.s [.c,.c]],v0,.agg (bC true b))::K0) (X::ids0):=sp
 replace sp:=Sep.unpack sp
 obtain⟨L0,hv,hl0,sp⟩:=sp
 subst hv
 obtain⟨a0_,a1_,a2_,a3_,a4_,a5_,hv⟩:=len6 (by simpa using hl0)
 subst hv
 simp only[zip3,List.cons_append,List.nil_append] at sp
 replace sp:=Sep.scalar sp
 obtain⟨hv,sp⟩:=sp
 subst hv
 replace sp:=Sep.rot sp
 try simp only[List.cons_append,List.nil_append,List.append_assoc] at sp
 replace sp:=Sep.rot sp
 try simp only[List.cons_append,List.nil_append,List.append_assoc] at sp
 replace sp:=Sep.scalar sp
 obtain⟨hv,sp⟩:=sp
 subst hv
 replace sp:=Sep.rot sp
 try simp only[List.cons_append,List.nil_append,List.append_assoc] at sp
 replace sp:=Sep.rot sp
 try simp only[List.cons_append,List.nil_append,List.append_assoc] at sp
 replace sp:=Sep.swap (K1:=K0) sp
 replace sp:Sep H0 n0 (oN a1_ b.nodes::oI a2_ b.sites::oS a4_ b.outer::oW a5_ b.inner::K0) (X::ids0):=sp
 refine Runs.cut (fun ρ H n=>∃ (v5 v6 v7 v8:AVal),(ρ 0 = .ptr X 1 0 0∧ρ 1 = .agg [int b.roots,v5,v6,int b.edges,v7,v8])∧H X=some ⟨3,[[.list false (c.code.map byteC),int c.pos,.v (.int .u64 c.seed)]]⟩∧n0≤n∧(∀ i ∈ ids0,H i=H0 i)∧Sep H n (oN v5 b.nodes::oI v6 b.sites::oS v7 b.outer::oW v8 b.inner::K0) (X::ids0)) (by refine⟨a1_,a2_,a4_,a5_,?_,?_,(by omega),hid,sp⟩<;>simp[hX,hnn,hn1,hn2,neX,byteC]) ?_
 rintro ρ H n9 ⟨v5,v6,v7,v8,hh,mX0,hnn,hid,sp⟩
 have hq_n9:=hnn
 have hn1:=Nat.le_succ_of_le hnn
 have hn2:=Nat.le_succ_of_le hn1
 refine zE fun k' hk'=>?_
 have f10:=Sep.oc sp
 have f11:=Sep.oc sp.f1
 have f12:=Sep.oc sp.f2
 have f13:=Sep.oc sp.f3
 simp[hh,mX0,hnn,hn1,hn2,neX,f10,f11,f12,f13,byteC,-cellsA,-one1,cAx,o1x]
 apply hk'
 refine Runs.cut (fun ρ H n=>∃ (v16 v17 v18 v19:AVal),(ρ 0 = .ptr X 1 0 0∧ρ 3=pA n9 3∧ρ 4=pA (n9+1) 4)∧H X=some ⟨3,[[.list false (c.code.map byteC),int c.pos,.v (.int .u64 c.seed)]]⟩∧H (n9,3)=some ⟨6,[[int b.roots,v16,v17,int b.edges,v18,v19]]⟩∧H (n9+1,4)=some ⟨6,[zB]⟩∧(X=(n9,3))=False∧(X=(n9+1,4))=False∧n0≤n∧(∀ i ∈ ids0,H i=H0 i)∧Sep H n (oN v16 b.nodes::oI v17 b.sites::oS v18 b.outer::oW v19 b.inner::K0) ((n9+1,4)::(n9,3)::X::ids0)) (by refine⟨v5,v6,v7,v8,?_,?_,?_,?_,?_,?_,(by omega),(by intro i hi;have hlt:=h00 i (by simp[hi]);have hxx:i ≠ X:=fun e=>hxi (e ▸ hi);repeat (first | exact hid i hi | rw[Heap.get_set_ne _ _ hxx] | rw[Heap.get_set_ne _ _ (by rintro rfl;simp at hlt;omega)])),sp.var.var⟩<;>simp[hh,mX0,hnn,hn1,hn2,neX,f10,f11,f12,f13,byteC,-cellsA,-one1,cAx,o1x]) ?_
 clear hh mX0
 rintro ρ H n20 ⟨v16,v17,v18,v19,hh,mX0,m3_13,m4_14,x3_13,x4_14,hnn,hid,sp⟩
 have hq_n20:=hnn
 have hn1:=Nat.le_succ_of_le hnn
 have hn2:=Nat.le_succ_of_le hn1
 refine zE fun k' hk'=>?_
 obtain⟨len21,elen21,h⟩:=atm h
 have f22:=len_own (Sep.len (m:=len21) sp kd_25 (by rw[elen21,List.length_map]))
 obtain⟨r23,er23,h⟩:=atm h
 simp[hh,mX0,m3_13,m4_14,x3_13,x4_14,hnn,hn1,hn2,neX,f22,byteC,-lenF]
 refine RunK.callA Ty_ok (l1MostZ_ok len21 1 ) e43 (.cons (.v _ _ _) (.cons (.v _ _ _) .nil)) (by decide) (by decide) rfl (by simp[hh,mX0,m3_13,m4_14,x3_13,x4_14,hnn,hn1,hn2,neX,f22,byteC,-lenF]) ?_
 rintro _ rfl
 rw[← er23]
 obtain⟨hb24,h⟩:=h
 obtain⟨r25,er25,h⟩:=atm h
 simp[hh,mX0,m3_13,m4_14,x3_13,x4_14,hnn,hn1,hn2,neX,f22,byteC,-lenF]
 refine RunK.callDr (xsA:=[.ptr X 1 0 0,int r23]) (X:=X) (A:=[(n9+1,4),(n9,3)]) (B:=(ids0)) (M:=[]) (K0:=(oN v16 b.nodes::oI v17 b.sites::oS v18 b.outer::oW v19 b.inner::K0)) Ty_ok (pickZ_ok c r23 hb24) (.cons (Sub.refl _) (.cons (Sub.refl _) .nil)) e17 (by simp[hh,mX0,m3_13,m4_14,x3_13,x4_14,hnn,hn1,hn2,neX,f22,byteC,-lenF]) (by simp[hh,mX0,m3_13,m4_14,x3_13,x4_14,hnn,hn1,hn2,neX,f22,hxi,byteC,-lenF]) sp (by decide) (by decide) rfl (by simp[hh,mX0,m3_13,m4_14,x3_13,x4_14,hnn,hn1,hn2,neX,f22,byteC,-lenF]) ?_
 rintro v26 H27 n28 _ _ ⟨rfl,rfl⟩ hmx sp hle30 hfr29
 rw[← er25] at hmx sp
 have mX0:H27 X=some ⟨3,[[.list false (r25.1.code.map byteC),int r25.1.pos,.v (.int .u64 r25.1.seed)]]⟩:=hmx
 have hid:∀ i ∈ ids0,H27 i=H0 i:=fun i hi=>(hfr29 i (by simp[hi])).trans (hid i hi)
 have hnn:n0≤n28:=by omega
 have hq_n28:=hnn
 have m3_13:=(hfr29 _ (by simp)).trans m3_13
 have m4_14:=(hfr29 _ (by simp)).trans m4_14
 replace sp:=Sep.scalar sp
 obtain⟨hv,sp⟩:=sp
 subst hv
 replace sp:Sep H27 n28 (oN v16 b.nodes::oI v17 b.sites::oS v18 b.outer::oW v19 b.inner::K0) ((n9+1,4)::(n9,3)::X::ids0):=sp
 simp[hh,mX0,m3_13,m4_14,x3_13,x4_14,hnn,hn1,hn2,neX,f22,byteC,-lenF]
 apply hk'
 refine Runs.cut (fun ρ H n=>∃ (v32 v33 v34 v35:AVal),(ρ 0 = .ptr X 1 0 0∧ρ 3=pA n9 3∧ρ 4=pA (n9+1) 4∧ρ 5=int r25.2)∧H X=some ⟨3,[[.list false (r25.1.code.map byteC),int r25.1.pos,.v (.int .u64 r25.1.seed)]]⟩∧H (n9,3)=some ⟨6,[[int b.roots,v32,v33,int b.edges,v34,v35]]⟩∧H (n9+1,4)=some ⟨6,[zB]⟩∧(X=(n9,3))=False∧(X=(n9+1,4))=False∧n0≤n∧(∀ i ∈ ids0,H i=H0 i)∧Sep H n (oN v32 b.nodes::oI v33 b.sites::oS v34 b.outer::oW v35 b.inner::K0) ((n9+1,4)::(n9,3)::X::ids0)) (by refine⟨v16,v17,v18,v19,?_,?_,?_,?_,?_,?_,(by omega),hid,sp⟩<;>simp[hh,mX0,m3_13,m4_14,x3_13,x4_14,hnn,hn1,hn2,neX,f22,byteC,-lenF]) ?_
 clear hh mX0 m3_13 m4_14 x3_13 x4_14
 rintro ρ H n36 ⟨v32,v33,v34,v35,hh,mX0,m3_13,m4_14,x3_13,x4_14,hnn,hid,sp⟩
 have hq_n36:=hnn
 have hn1:=Nat.le_succ_of_le hnn
 have hn2:=Nat.le_succ_of_le hn1
 refine Runs.seq ?_
 refine zE fun k' hk'=>?_
 obtain⟨hb37,h⟩:=h
 obtain⟨r38,er38,h⟩:=atm h
 simp[hh,mX0,m3_13,m4_14,x3_13,x4_14,hnn,hn1,hn2,neX,byteC]
 refine RunK.callDr (xsA:=[.ptr X 1 0 0,int 60]) (X:=X) (A:=[(n9+1,4),(n9,3)]) (B:=(ids0)) (M:=[]) (K0:=(oN v32 b.nodes::oI v33 b.sites::oS v34 b.outer::oW v35 b.inner::K0)) Ty_ok (pickZ_ok r25.1 60 hb37) (.cons (Sub.refl _) (.cons (Sub.refl _) .nil)) e17 (by simp[hh,mX0,m3_13,m4_14,x3_13,x4_14,hnn,hn1,hn2,neX,byteC]) (by simp[hh,mX0,m3_13,m4_14,x3_13,x4_14,hnn,hn1,hn2,neX,hxi,byteC]) sp (by decide) (by decide) rfl (by simp[hh,mX0,m3_13,m4_14,x3_13,x4_14,hnn,hn1,hn2,neX,byteC]) ?_
 rintro v39 H40 n41 _ _ ⟨rfl,rfl⟩ hmx sp hle43 hfr42
 rw[← er38] at hmx sp
 have mX0:H40 X=some ⟨3,[[.list false (r38.1.code.map byteC),int r38.1.pos,.v (.int .u64 r38.1.seed)]]⟩:=hmx
 have hid:∀ i ∈ ids0,H40 i=H0 i:=fun i hi=>(hfr42 i (by simp[hi])).trans (hid i hi)
 have hnn:n0≤n41:=by omega
 have hq_n41:=hnn
 have m3_13:=(hfr42 _ (by simp)).trans m3_13
 have m4_14:=(hfr42 _ (by simp)).trans m4_14
 replace sp:=Sep.scalar sp
 obtain⟨hv,sp⟩:=sp
 subst hv
 replace sp:Sep H40 n41 (oN v32 b.nodes::oI v33 b.sites::oS v34 b.outer::oW v35 b.inner::K0) ((n9+1,4)::(n9,3)::X::ids0):=sp
 simp[hh,mX0,m3_13,m4_14,x3_13,x4_14,hnn,hn1,hn2,neX,byteC]
 apply hk'
 refine Runs.cut (fun ρ H n=>∃ (v45 v46 v47 v48:AVal),(ρ 0 = .ptr X 1 0 0∧ρ 3=pA n9 3∧ρ 4=pA (n9+1) 4∧ρ 5=int r25.2∧ρ 14=int r38.2)∧H X=some ⟨3,[[.list false (r38.1.code.map byteC),int r38.1.pos,.v (.int .u64 r38.1.seed)]]⟩∧H (n9,3)=some ⟨6,[[int b.roots,v45,v46,int b.edges,v47,v48]]⟩∧H (n9+1,4)=some ⟨6,[zB]⟩∧(X=(n9,3))=False∧(X=(n9+1,4))=False∧n0≤n∧(∀ i ∈ ids0,H i=H0 i)∧Sep H n (oN v45 b.nodes::oI v46 b.sites::oS v47 b.outer::oW v48 b.inner::K0) ((n9+1,4)::(n9,3)::X::ids0)) (by refine⟨v32,v33,v34,v35,?_,?_,?_,?_,?_,?_,(by omega),hid,sp⟩<;>simp[hh,mX0,m3_13,m4_14,x3_13,x4_14,hnn,hn1,hn2,neX,byteC]) ?_
 clear hh mX0 m3_13 m4_14 x3_13 x4_14
 rintro ρ H n49 ⟨v45,v46,v47,v48,hh,mX0,m3_13,m4_14,x3_13,x4_14,hnn,hid,sp⟩
 have hq_n49:=hnn
 have hn1:=Nat.le_succ_of_le hnn
 have hn2:=Nat.le_succ_of_le hn1
 refine Runs.block ?_
 refine zE fun k' hk'=>?_
 obtain⟨c50,ec50,h⟩:=atm h
 have f51:=ib_eql (k:=.i64) ec50
 simp[hh,mX0,m3_13,m4_14,x3_13,x4_14,hnn,hn1,hn2,neX,f51,byteC,-intBin]
 apply hk'
 refine Runs.ite (b:=c50) (by simp[hh,mX0,m3_13,m4_14,x3_13,x4_14,hnn,hn1,hn2,neX,byteC]) (fun dc50=>?_) (fun dc50=>?_)
 ·replace h:=h.1 dc50
  refine zF fun k' hk'=>?_
  obtain⟨hb52,h⟩:=h
  obtain⟨r53,er53,h⟩:=atm h
  simp[hh,mX0,m3_13,m4_14,x3_13,x4_14,hnn,hn1,hn2,neX,dc50,List.range_succ,byteC]
  refine RunK.callDr (xsA:=[.ptr X 1 0 0,.list true ([(-1),0,4,5].map intC)]) (X:=X) (A:=[(n9+1,4),(n9,3)]) (B:=(ids0)) (M:=[]) (K0:=(oN v45 b.nodes::oI v46 b.sites::oS v47 b.outer::oW v48 b.inner::K0)) Ty_ok (amongZ_ok r38.1 [(-1),0,4,5] hb52) (.cons (Sub.refl _) (.cons (Sub.old _) .nil)) e42 (by simp[hh,mX0,m3_13,m4_14,x3_13,x4_14,hnn,hn1,hn2,neX,dc50,List.range_succ,byteC]) (by simp[hh,mX0,m3_13,m4_14,x3_13,x4_14,hnn,hn1,hn2,neX,hxi,List.range_succ,byteC]) sp (by decide) (by decide) rfl (by simp[hh,mX0,m3_13,m4_14,x3_13,x4_14,hnn,hn1,hn2,neX,dc50,List.range_succ,byteC]) ?_
  rintro v54 H55 n56 _ _ ⟨rfl,rfl⟩ hmx sp hle58 hfr57
  rw[← er53] at hmx sp
  have mX0:H55 X=some ⟨3,[[.list false (r53.1.code.map byteC),int r53.1.pos,.v (.int .u64 r53.1.seed)]]⟩:=hmx
  have hid:∀ i ∈ ids0,H55 i=H0 i:=fun i hi=>(hfr57 i (by simp[hi])).trans (hid i hi)
  have hnn:n0≤n56:=by omega
  have hq_n56:=hnn
  have m3_13:=(hfr57 _ (by simp)).trans m3_13
  have m4_14:=(hfr57 _ (by simp)).trans m4_14
  replace sp:=Sep.scalar sp
  obtain⟨hv,sp⟩:=sp
  subst hv
  replace sp:Sep H55 n56 (oN v45 b.nodes::oI v46 b.sites::oS v47 b.outer::oW v48 b.inner::K0) ((n9+1,4)::(n9,3)::X::ids0):=sp
  simp[hh,mX0,m3_13,m4_14,x3_13,x4_14,hnn,hn1,hn2,neX,dc50,List.range_succ,byteC]
  apply hk'
  refine Runs.cut (fun ρ H n=>∃ (v60 v61 v62 v63:AVal),(ρ 3=pA n9 3∧ρ 4=pA (n9+1) 4)∧H (n9,3)=some ⟨6,[[int r53.2,v60,v61,int b.edges,v62,v63]]⟩∧H (n9+1,4)=some ⟨6,[zB]⟩∧H X=some ⟨3,[[.list false (r53.1.code.map byteC),int r53.1.pos,.v (.int .u64 r53.1.seed)]]⟩∧(X=(n9,3))=False∧(X=(n9+1,4))=False∧n0≤n∧(∀ i ∈ ids0,H i=H0 i)∧Sep H n (oN v60 b.nodes::oI v61 b.sites::oS v62 b.outer::oW v63 b.inner::K0) ((n9+1,4)::(n9,3)::X::ids0)) (by refine⟨v45,v46,v47,v48,?_,?_,?_,?_,?_,?_,(by omega),(by intro i hi;have hlt:=h00 i (by simp[hi]);have hxx:i ≠ X:=fun e=>hxi (e ▸ hi);repeat (first | exact hid i hi | rw[Heap.get_set_ne _ _ hxx] | rw[Heap.get_set_ne _ _ (by rintro rfl;simp at hlt;omega)])),(Sep.setVar (w:=(n9,3)) sp (by simp))⟩<;>simp[hh,mX0,m3_13,m4_14,x3_13,x4_14,hnn,hn1,hn2,neX,dc50,List.range_succ,byteC]) ?_
  clear hh mX0 m3_13 m4_14 x3_13 x4_14
  rintro ρ H n64 ⟨v60,v61,v62,v63,hh,m3_13,m4_14,mX0,x3_13,x4_14,hnn,hid,sp⟩
  have hq_n64:=hnn
  have hn1:=Nat.le_succ_of_le hnn
  have hn2:=Nat.le_succ_of_le hn1
  refine Runs.inBlock ?_
  refine zE fun k' hk'=>?_
  have f65:=Sep.oc sp
  have f66:=Sep.oc sp.f1
  have f67:=Sep.oc sp.f2
  have f68:=Sep.oc sp.f3
  simp[hh,m3_13,m4_14,mX0,x3_13,x4_14,hnn,hn1,hn2,neX,f65,f66,f67,f68,List.range_succ,byteC,-cellsA,-one1,cAx,o1x]
  apply hk'
  refine Runs.cut (fun ρ H n=>∃ (v69 v70 v71 v72:AVal),ρ 4=pA (n9+1) 4∧H (n9+1,4)=some ⟨6,[[int r53.2,v69,v70,int b.edges,v71,v72]]⟩∧H X=some ⟨3,[[.list false (r53.1.code.map byteC),int r53.1.pos,.v (.int .u64 r53.1.seed)]]⟩∧(X=(n9+1,4))=False∧n0≤n∧(∀ i ∈ ids0,H i=H0 i)∧Sep H n (oN v69 b.nodes::oI v70 b.sites::oS v71 b.outer::oW v72 b.inner::K0) ((n9+1,4)::X::ids0)) (by refine⟨v60,v61,v62,v63,?_,?_,?_,?_,(by omega),(by intro i hi;have hlt:=h00 i (by simp[hi]);have hxx:i ≠ X:=fun e=>hxi (e ▸ hi);repeat (first | exact hid i hi | rw[Heap.get_set_ne _ _ hxx] | rw[Heap.get_set_ne _ _ (by rintro rfl;simp at hlt;omega)])),(Sep.sub (Sep.setVar (w:=(n9+1,4)) sp (by simp)) (by simp +contextual))⟩<;>simp[hh,m3_13,m4_14,mX0,x3_13,x4_14,hnn,hn1,hn2,neX,f65,f66,f67,f68,List.range_succ,byteC,-cellsA,-one1,cAx,o1x]) ?_
  clear hh m3_13 m4_14 mX0 x3_13 x4_14
  rintro ρ H n73 ⟨v69,v70,v71,v72,hh,m4_14,mX0,x4_14,hnn,hid,sp⟩
  have hq_n73:=hnn
  have hn1:=Nat.le_succ_of_le hnn
  have hn2:=Nat.le_succ_of_le hn1
  refine Runs.cut (fun ρ H n=>∃ (v74 v75 v76 v77:AVal),ρ 4=pA (n9+1) 4∧H (n9+1,4)=some ⟨6,[[int r53.2,v74,v75,int b.edges,v76,v77]]⟩∧H X=some ⟨3,[[.list false (r53.1.code.map byteC),int r53.1.pos,.v (.int .u64 r53.1.seed)]]⟩∧(X=(n9+1,4))=False∧n0≤n∧(∀ i ∈ ids0,H i=H0 i)∧Sep H n (oN v74 b.nodes::oI v75 b.sites::oS v76 b.outer::oW v77 b.inner::K0) ((n9+1,4)::X::ids0)) (by refine⟨v69,v70,v71,v72,?_,?_,?_,?_,(by omega),hid,sp⟩<;>simp[hh,m4_14,mX0,x4_14,hnn,hn1,hn2,neX,List.range_succ,byteC]) ?_
  clear hh m4_14 mX0 x4_14
  rintro ρ H n78 ⟨v74,v75,v76,v77,hh,m4_14,mX0,x4_14,hnn,hid,sp⟩
  have hq_n78:=hnn
  have hn1:=Nat.le_succ_of_le hnn
  have hn2:=Nat.le_succ_of_le hn1
  refine Runs.frzIn sp (by simp) ?_
  rintro H79 sp hfr80
  replace sp:Sep H79 n78 (oE [.c,.c,.c] (GNode.cells true) v74 b.nodes::oI v75 b.sites::oS v76 b.outer::oW v77 b.inner::K0) ((n9+1,4)::X::ids0):=sp
  have hid:∀ i ∈ ids0,H79 i=H0 i:=fun i hi=>(hfr80 i (by simp[hi])).trans (hid i hi)
  have m4_14:=(hfr80 _ (by simp)).trans m4_14
  have mX0:=(hfr80 _ (by simp)).trans mX0
  exact Runs.res1 Ty_ok (v:=.agg [int r53.2,v74,v75,int b.edges,v76,v77]) Tryd.func44 Tryd.results44 (by simp[hh,m4_14,mX0,x4_14,hnn,hn1,hn2,neX,resA,List.range_succ,byteC]) (hQ _ _ _ r53.1 _ (by simp[hh,m4_14,mX0,x4_14,hnn,hn1,hn2,neX,resA,List.range_succ,byteC]) (Sep.sub (Sep.pack (Fill.v _ (Fill.own (Fill.own (Fill.v _ (Fill.own (Fill.own Fill.nil)))))) sp) (by simp +contextual)) hid (by omega) ⟨(Big.mk r53.2 b.nodes b.sites b.edges b.outer b.inner),h,rfl⟩)
 replace h:=h.2 dc50
 refine zE fun k' hk'=>?_
 obtain⟨c83,ec83,h⟩:=atm h
 have f84:=ib_eql (k:=.i64) ec83
 simp[hh,mX0,m3_13,m4_14,x3_13,x4_14,hnn,hn1,hn2,neX,f84,dc50,List.range_succ,byteC,-intBin]
 apply hk'
 refine Runs.ite (b:=c83) (by simp[hh,mX0,m3_13,m4_14,x3_13,x4_14,hnn,hn1,hn2,neX,dc50,List.range_succ,byteC]) (fun dc83=>?_) (fun dc83=>?_)
 ·replace h:=h.1 dc83
  refine zF fun k' hk'=>?_
  obtain⟨hb85,h⟩:=h
  obtain⟨r86,er86,h⟩:=atm h
  simp[hh,mX0,m3_13,m4_14,x3_13,x4_14,hnn,hn1,hn2,neX,dc50,dc83,List.range_succ,byteC]
  refine RunK.callDr (xsA:=[.ptr X 1 0 0,.list true ([(-1),0,8,9].map intC)]) (X:=X) (A:=[(n9+1,4),(n9,3)]) (B:=(ids0)) (M:=[]) (K0:=(oN v45 b.nodes::oI v46 b.sites::oS v47 b.outer::oW v48 b.inner::K0)) Ty_ok (amongZ_ok r38.1 [(-1),0,8,9] hb85) (.cons (Sub.refl _) (.cons (Sub.old _) .nil)) e42 (by simp[hh,mX0,m3_13,m4_14,x3_13,x4_14,hnn,hn1,hn2,neX,dc50,dc83,List.range_succ,byteC]) (by simp[hh,mX0,m3_13,m4_14,x3_13,x4_14,hnn,hn1,hn2,neX,hxi,List.range_succ,byteC]) sp (by decide) (by decide) rfl (by simp[hh,mX0,m3_13,m4_14,x3_13,x4_14,hnn,hn1,hn2,neX,dc50,dc83,List.range_succ,byteC]) ?_
  rintro v87 H88 n89 _ _ ⟨rfl,rfl⟩ hmx sp hle91 hfr90
  rw[← er86] at hmx sp
  have mX0:H88 X=some ⟨3,[[.list false (r86.1.code.map byteC),int r86.1.pos,.v (.int .u64 r86.1.seed)]]⟩:=hmx
  have hid:∀ i ∈ ids0,H88 i=H0 i:=fun i hi=>(hfr90 i (by simp[hi])).trans (hid i hi)
  have hnn:n0≤n89:=by omega
  have hq_n89:=hnn
  have m3_13:=(hfr90 _ (by simp)).trans m3_13
  have m4_14:=(hfr90 _ (by simp)).trans m4_14
  replace sp:=Sep.scalar sp
  obtain⟨hv,sp⟩:=sp
  subst hv
  replace sp:Sep H88 n89 (oN v45 b.nodes::oI v46 b.sites::oS v47 b.outer::oW v48 b.inner::K0) ((n9+1,4)::(n9,3)::X::ids0):=sp
  simp[hh,mX0,m3_13,m4_14,x3_13,x4_14,hnn,hn1,hn2,neX,dc50,dc83,List.range_succ,byteC]
  apply hk'
  refine Runs.cut (fun ρ H n=>∃ (v93 v94 v95 v96:AVal),(ρ 3=pA n9 3∧ρ 4=pA (n9+1) 4)∧H (n9,3)=some ⟨6,[[int b.roots,v93,v94,int r86.2,v95,v96]]⟩∧H (n9+1,4)=some ⟨6,[zB]⟩∧H X=some ⟨3,[[.list false (r86.1.code.map byteC),int r86.1.pos,.v (.int .u64 r86.1.seed)]]⟩∧(X=(n9,3))=False∧(X=(n9+1,4))=False∧n0≤n∧(∀ i ∈ ids0,H i=H0 i)∧Sep H n (oN v93 b.nodes::oI v94 b.sites::oS v95 b.outer::oW v96 b.inner::K0) ((n9+1,4)::(n9,3)::X::ids0)) (by refine⟨v45,v46,v47,v48,?_,?_,?_,?_,?_,?_,(by omega),(by intro i hi;have hlt:=h00 i (by simp[hi]);have hxx:i ≠ X:=fun e=>hxi (e ▸ hi);repeat (first | exact hid i hi | rw[Heap.get_set_ne _ _ hxx] | rw[Heap.get_set_ne _ _ (by rintro rfl;simp at hlt;omega)])),(Sep.setVar (w:=(n9,3)) sp (by simp))⟩<;>simp[hh,mX0,m3_13,m4_14,x3_13,x4_14,hnn,hn1,hn2,neX,dc50,dc83,List.range_succ,byteC]) ?_
  clear hh mX0 m3_13 m4_14 x3_13 x4_14
  rintro ρ H n97 ⟨v93,v94,v95,v96,hh,m3_13,m4_14,mX0,x3_13,x4_14,hnn,hid,sp⟩
  have hq_n97:=hnn
  have hn1:=Nat.le_succ_of_le hnn
  have hn2:=Nat.le_succ_of_le hn1
  refine Runs.inBlock ?_
  refine zE fun k' hk'=>?_
  have f98:=Sep.oc sp
  have f99:=Sep.oc sp.f1
  have f100:=Sep.oc sp.f2
  have f101:=Sep.oc sp.f3
  simp[hh,m3_13,m4_14,mX0,x3_13,x4_14,hnn,hn1,hn2,neX,f98,f99,f100,f101,List.range_succ,byteC,-cellsA,-one1,cAx,o1x]
  apply hk'
  refine Runs.cut (fun ρ H n=>∃ (v102 v103 v104 v105:AVal),ρ 4=pA (n9+1) 4∧H (n9+1,4)=some ⟨6,[[int b.roots,v102,v103,int r86.2,v104,v105]]⟩∧H X=some ⟨3,[[.list false (r86.1.code.map byteC),int r86.1.pos,.v (.int .u64 r86.1.seed)]]⟩∧(X=(n9+1,4))=False∧n0≤n∧(∀ i ∈ ids0,H i=H0 i)∧Sep H n (oN v102 b.nodes::oI v103 b.sites::oS v104 b.outer::oW v105 b.inner::K0) ((n9+1,4)::X::ids0)) (by refine⟨v93,v94,v95,v96,?_,?_,?_,?_,(by omega),(by intro i hi;have hlt:=h00 i (by simp[hi]);have hxx:i ≠ X:=fun e=>hxi (e ▸ hi);repeat (first | exact hid i hi | rw[Heap.get_set_ne _ _ hxx] | rw[Heap.get_set_ne _ _ (by rintro rfl;simp at hlt;omega)])),(Sep.sub (Sep.setVar (w:=(n9+1,4)) sp (by simp)) (by simp +contextual))⟩<;>simp[hh,m3_13,m4_14,mX0,x3_13,x4_14,hnn,hn1,hn2,neX,f98,f99,f100,f101,List.range_succ,byteC,-cellsA,-one1,cAx,o1x]) ?_
  clear hh m3_13 m4_14 mX0 x3_13 x4_14
  rintro ρ H n106 ⟨v102,v103,v104,v105,hh,m4_14,mX0,x4_14,hnn,hid,sp⟩
  have hq_n106:=hnn
  have hn1:=Nat.le_succ_of_le hnn
  have hn2:=Nat.le_succ_of_le hn1
  refine Runs.cut (fun ρ H n=>∃ (v107 v108 v109 v110:AVal),ρ 4=pA (n9+1) 4∧H (n9+1,4)=some ⟨6,[[int b.roots,v107,v108,int r86.2,v109,v110]]⟩∧H X=some ⟨3,[[.list false (r86.1.code.map byteC),int r86.1.pos,.v (.int .u64 r86.1.seed)]]⟩∧(X=(n9+1,4))=False∧n0≤n∧(∀ i ∈ ids0,H i=H0 i)∧Sep H n (oN v107 b.nodes::oI v108 b.sites::oS v109 b.outer::oW v110 b.inner::K0) ((n9+1,4)::X::ids0)) (by refine⟨v102,v103,v104,v105,?_,?_,?_,?_,(by omega),hid,sp⟩<;>simp[hh,m4_14,mX0,x4_14,hnn,hn1,hn2,neX,List.range_succ,byteC]) ?_
  clear hh m4_14 mX0 x4_14
  rintro ρ H n111 ⟨v107,v108,v109,v110,hh,m4_14,mX0,x4_14,hnn,hid,sp⟩
  have hq_n111:=hnn
  have hn1:=Nat.le_succ_of_le hnn
  have hn2:=Nat.le_succ_of_le hn1
  refine Runs.frzIn sp (by simp) ?_
  rintro H112 sp hfr113
  replace sp:Sep H112 n111 (oE [.c,.c,.c] (GNode.cells true) v107 b.nodes::oI v108 b.sites::oS v109 b.outer::oW v110 b.inner::K0) ((n9+1,4)::X::ids0):=sp
  have hid:∀ i ∈ ids0,H112 i=H0 i:=fun i hi=>(hfr113 i (by simp[hi])).trans (hid i hi)
  have m4_14:=(hfr113 _ (by simp)).trans m4_14
  have mX0:=(hfr113 _ (by simp)).trans mX0
  exact Runs.res1 Ty_ok (v:=.agg [int b.roots,v107,v108,int r86.2,v109,v110]) Tryd.func44 Tryd.results44 (by simp[hh,m4_14,mX0,x4_14,hnn,hn1,hn2,neX,resA,List.range_succ,byteC]) (hQ _ _ _ r86.1 _ (by simp[hh,m4_14,mX0,x4_14,hnn,hn1,hn2,neX,resA,List.range_succ,byteC]) (Sep.sub (Sep.pack (Fill.v _ (Fill.own (Fill.own (Fill.v _ (Fill.own (Fill.own Fill.nil)))))) sp) (by simp +contextual)) hid (by omega) ⟨(Big.mk b.roots b.nodes b.sites r86.2 b.outer b.inner),h,rfl⟩)
 replace h:=h.2 dc83
 refine zE fun k' hk'=>?_
 obtain⟨c116,ec116,h⟩:=atm h
 have f117:=ib_eql (k:=.i64) ec116
 simp[hh,mX0,m3_13,m4_14,x3_13,x4_14,hnn,hn1,hn2,neX,f117,dc50,dc83,List.range_succ,byteC,-intBin]
 apply hk'
 refine Runs.ite (b:=c116) (by simp[hh,mX0,m3_13,m4_14,x3_13,x4_14,hnn,hn1,hn2,neX,dc50,dc83,List.range_succ,byteC]) (fun dc116=>?_) (fun dc116=>?_)
 ·replace h:=h.1 dc116
  refine Runs.cut (fun ρ H n=>∃ (v118 v119 v120 v121:AVal),(ρ 0 = .ptr X 1 0 0∧ρ 3=pA n9 3∧ρ 4=pA (n9+1) 4)∧H X=some ⟨3,[[.list false (r38.1.code.map byteC),int r38.1.pos,.v (.int .u64 r38.1.seed)]]⟩∧H (n9,3)=some ⟨6,[[int b.roots,v118,v119,int b.edges,v120,v121]]⟩∧H (n9+1,4)=some ⟨6,[zB]⟩∧(X=(n9,3))=False∧(X=(n9+1,4))=False∧n0≤n∧(∀ i ∈ ids0,H i=H0 i)∧Sep H n (oN v118 b.nodes::oI v119 b.sites::oS v120 b.outer::oW v121 b.inner::K0) ((n9+1,4)::(n9,3)::X::ids0)) (by refine⟨v45,v46,v47,v48,?_,?_,?_,?_,?_,?_,(by omega),hid,sp⟩<;>simp[hh,mX0,m3_13,m4_14,x3_13,x4_14,hnn,hn1,hn2,neX,dc50,dc83,dc116,List.range_succ,byteC]) ?_
  clear hh mX0 m3_13 m4_14 x3_13 x4_14
  rintro ρ H n122 ⟨v118,v119,v120,v121,hh,mX0,m3_13,m4_14,x3_13,x4_14,hnn,hid,sp⟩
  have hq_n122:=hnn
  have hn1:=Nat.le_succ_of_le hnn
  have hn2:=Nat.le_succ_of_le hn1
  obtain⟨hb123,h⟩:=h
  obtain⟨r124,er124,h⟩:=atm h
  obtain⟨l125,el125,h⟩:=atm h
  refine Runs.drawL Ty_ok 6 (fun H n=>H (n9,3)=some ⟨6,[[int b.roots,v118,v119,int b.edges,v120,v121]]⟩∧H (n9+1,4)=some ⟨6,[zB]⟩∧Sep H n (oN v118 b.nodes::oI v119 b.sites::oS v120 b.outer::oW v121 b.inner::K0) ((n9+1,4)::(n9,3)::X::ids0)) [4,5] (.free 0 (.free 1 (.free 2 (.free 3 (.hard 4 (.hard 5 (.fin) (.stop)) (.stop)))))) (fun ρ H n=>∃ (v126 v127 v128 v129:AVal),(ρ 3=pA n9 3∧ρ 4=pA (n9+1) 4∧ρ 30=v128∧ρ 34 = .list true (l125.map strC))∧H (n9,3)=some ⟨6,[[int b.roots,v126,v127,int b.edges,v128,v129]]⟩∧H (n9+1,4)=some ⟨6,[zB]⟩∧H X=some ⟨3,[[.list false (r124.1.code.map byteC),int r124.1.pos,.v (.int .u64 r124.1.seed)]]⟩∧(X=(n9,3))=False∧(X=(n9+1,4))=False∧n0≤n∧(∀ i ∈ ids0,H i=H0 i)∧Sep H n (oN v126 b.nodes::oI v127 b.sites::oS v128 b.outer::oW v129 b.inner::K0) ((n9+1,4)::(n9,3)::X::ids0)) draws (by decide) (by kernel_rfl) (by kernel_rfl) ?_ ?_
  ·refine RunT.free (.ptr (n9,3) 1 0 4) rfl rfl ⟨m3_13,m4_14,sp⟩ (fun H n hS=>by obtain⟨m3_13,m4_14,sp⟩:=hS;exact (by exact stepF_ok Ty_ok (by rw[stepF_loc];simp[hh,mX0,m3_13,m4_14,x3_13,x4_14,hnn,hn1,hn2,neX,el125,List.range_succ,byteC]))) ?_
   refine RunT.free v120 rfl rfl ⟨m3_13,m4_14,sp⟩ (fun H n hS=>by obtain⟨m3_13,m4_14,sp⟩:=hS;exact (by exact stepF_ok Ty_ok (by rw[stepF_loc];simp[hh,mX0,m3_13,m4_14,x3_13,x4_14,hnn,hn1,hn2,neX,el125,List.range_succ,byteC]))) ?_
   refine RunT.free (.ptr X 1 0 0) rfl rfl ⟨m3_13,m4_14,sp⟩ (fun H n hS=>by obtain⟨m3_13,m4_14,sp⟩:=hS;exact (by exact stepF_ok Ty_ok (by rw[stepF_loc];simp[hh,mX0,m3_13,m4_14,x3_13,x4_14,hnn,hn1,hn2,neX,el125,List.range_succ,byteC]))) ?_
   refine RunT.free (.list true ([[97],[122],[],[97,98,99,100,101],[66]].map strC)) rfl rfl ⟨m3_13,m4_14,sp⟩ (fun H n hS=>by obtain⟨m3_13,m4_14,sp⟩:=hS;exact (by exact stepF_ok Ty_ok (by rw[stepF_loc];simp[hh,mX0,m3_13,m4_14,x3_13,x4_14,hnn,hn1,hn2,neX,el125,List.range_succ,byteC]))) ?_
   refine⟨?_,trivial⟩
   refine RunT.callDr (xsA:=[.ptr X 1 0 0,.list true ([[97],[122],[],[97,98,99,100,101],[66]].map strC)]) (X:=X) (A:=[(n9+1,4),(n9,3)]) (B:=(ids0)) (M:=[]) (K0:=(oN v118 b.nodes::oI v119 b.sites::oS v120 b.outer::oW v121 b.inner::K0)) rfl rfl (ofZ_ok r38.1 [[97],[122],[],[97,98,99,100,101],[66]] hb123) (.cons (Sub.refl _) (.cons (Sub.old _) .nil)) e41 (by simp[hh,mX0,m3_13,m4_14,x3_13,x4_14,hnn,hn1,hn2,neX,el125,List.range_succ,byteC]) (by simp[hh,mX0,m3_13,m4_14,x3_13,x4_14,hnn,hn1,hn2,neX,el125,hxi,List.range_succ,byteC]) sp (by simp[hh,mX0,m3_13,m4_14,x3_13,x4_14,hnn,hn1,hn2,neX,el125,List.range_succ,byteC]) (by simp[hh,mX0,m3_13,m4_14,x3_13,x4_14,hnn,hn1,hn2,neX,el125,List.range_succ,byteC]) ?_
   rintro v135 H131 n132 _ _ ⟨rfl,rfl⟩ hmx sp hle134 hfr133
   rw[← er124] at hmx sp
   have mX0:H131 X=some ⟨3,[[.list false (r124.1.code.map byteC),int r124.1.pos,.v (.int .u64 r124.1.seed)]]⟩:=hmx
   have hid:∀ i ∈ ids0,H131 i=H0 i:=fun i hi=>(hfr133 i (by simp[hi])).trans (hid i hi)
   have hnn:n0≤n132:=by omega
   have hq_n132:=hnn
   have m3_13:=(hfr133 _ (by simp)).trans m3_13
   have m4_14:=(hfr133 _ (by simp)).trans m4_14
   replace sp:=Sep.scalar sp
   obtain⟨hv,sp⟩:=sp
   subst hv
   replace sp:Sep H131 n132 (oN v118 b.nodes::oI v119 b.sites::oS v120 b.outer::oW v121 b.inner::K0) ((n9+1,4)::(n9,3)::X::ids0):=sp
   refine⟨(fun _=>⟨m3_13,m4_14,sp⟩),?_⟩
   refine⟨?_,trivial⟩
   refine RunT.same (v:=(.list true ([r124.2].map strC))) Ty_ok rfl rfl (by simp[hh,mX0,m3_13,m4_14,x3_13,x4_14,hnn,hn1,hn2,neX,el125,List.range_succ,byteC]) (fun _=>⟨m3_13,m4_14,sp⟩) ?_
   refine RunT.fin (by refine⟨v118,v119,v120,v121,?_,?_,?_,?_,?_,?_,(by omega),hid,sp⟩<;>simp[hh,mX0,m3_13,m4_14,x3_13,x4_14,hnn,hn1,hn2,neX,el125,List.range_succ,byteC])
  clear hh mX0 m3_13 m4_14 x3_13 x4_14
  rintro k' hk' ρ H n130 ⟨v126,v127,v128,v129,hh,m3_13,m4_14,mX0,x3_13,x4_14,hnn,hid,sp⟩
  have hq_n130:=hnn
  have hn1:=Nat.le_succ_of_le hnn
  have hn2:=Nat.le_succ_of_le hn1
  show evalK _ _ _ _ _ _ _ _ _ _ _
  simp only[List.drop_succ_cons,List.drop_zero]
  obtain⟨hb144,h⟩:=h
  obtain⟨l145,el145,h⟩:=atm h
  simp[hh,m3_13,m4_14,mX0,x3_13,x4_14,hnn,hn1,hn2,neX,List.range_succ,byteC,-appendF]
  refine bind_append0 (l125.map strC) sp.f2 (by simp) kd_27 (by simp) (by simp) (by simp[srcOf,List.range_succ,byteC]) (by simp[-one1,o1x,List.range_succ,byteC]) (by simpa using hb144) ?_
  rintro v146 H147 n148 sp hfr149 hle150
  replace sp:Sep H147 n148 (oS v146 l145::oN v126 b.nodes::oI v127 b.sites::oW v129 b.inner::K0) ((n9+1,4)::(n9,3)::X::ids0):=by refine Sep.ap el145 ?_;exact sp
  have hid:∀ i ∈ ids0,H147 i=H0 i:=fun i hi=>(hfr149 i (by simp[hi])).trans (hid i hi)
  have hnn:n0≤n148:=by omega
  have hq_n148:=hnn
  have m3_13:=(hfr149 _ (by simp)).trans m3_13
  have m4_14:=(hfr149 _ (by simp)).trans m4_14
  have mX0:=(hfr149 _ (by simp)).trans mX0
  have f152:=Sep.oc sp
  simp[hh,m3_13,m4_14,mX0,x3_13,x4_14,hnn,hn1,hn2,neX,f152,List.range_succ,byteC,-cellsA,-one1,cAx,o1x]
  apply hk'
  refine Runs.cut (fun ρ H n=>∃ (v153 v154 v155 v156:AVal),(ρ 3=pA n9 3∧ρ 4=pA (n9+1) 4)∧H (n9,3)=some ⟨6,[[int b.roots,v154,v155,int b.edges,v153,v156]]⟩∧H (n9+1,4)=some ⟨6,[zB]⟩∧H X=some ⟨3,[[.list false (r124.1.code.map byteC),int r124.1.pos,.v (.int .u64 r124.1.seed)]]⟩∧(X=(n9,3))=False∧(X=(n9+1,4))=False∧n0≤n∧(∀ i ∈ ids0,H i=H0 i)∧Sep H n (oS v153 l145::oN v154 b.nodes::oI v155 b.sites::oW v156 b.inner::K0) ((n9+1,4)::(n9,3)::X::ids0)) (by refine⟨v146,v126,v127,v129,?_,?_,?_,?_,?_,?_,(by omega),(by intro i hi;have hlt:=h00 i (by simp[hi]);have hxx:i ≠ X:=fun e=>hxi (e ▸ hi);repeat (first | exact hid i hi | rw[Heap.get_set_ne _ _ hxx] | rw[Heap.get_set_ne _ _ (by rintro rfl;simp at hlt;omega)])),(Sep.setVar (w:=(n9,3)) sp (by simp))⟩<;>simp[hh,m3_13,m4_14,mX0,x3_13,x4_14,hnn,hn1,hn2,neX,f152,List.range_succ,byteC,-cellsA,-one1,cAx,o1x]) ?_
  clear hh m3_13 m4_14 mX0 x3_13 x4_14
  rintro ρ H n157 ⟨v153,v154,v155,v156,hh,m3_13,m4_14,mX0,x3_13,x4_14,hnn,hid,sp⟩
  have hq_n157:=hnn
  have hn1:=Nat.le_succ_of_le hnn
  have hn2:=Nat.le_succ_of_le hn1
  refine Runs.inBlock ?_
  refine zE fun k' hk'=>?_
  have f158:=Sep.oc sp.f1
  have f159:=Sep.oc sp.f2
  have f160:=Sep.oc sp
  have f161:=Sep.oc sp.f3
  simp[hh,m3_13,m4_14,mX0,x3_13,x4_14,hnn,hn1,hn2,neX,f158,f159,f160,f161,List.range_succ,byteC,-cellsA,-one1,cAx,o1x]
  apply hk'
  refine Runs.cut (fun ρ H n=>∃ (v162 v163 v164 v165:AVal),ρ 4=pA (n9+1) 4∧H (n9+1,4)=some ⟨6,[[int b.roots,v163,v164,int b.edges,v162,v165]]⟩∧H X=some ⟨3,[[.list false (r124.1.code.map byteC),int r124.1.pos,.v (.int .u64 r124.1.seed)]]⟩∧(X=(n9+1,4))=False∧n0≤n∧(∀ i ∈ ids0,H i=H0 i)∧Sep H n (oS v162 l145::oN v163 b.nodes::oI v164 b.sites::oW v165 b.inner::K0) ((n9+1,4)::X::ids0)) (by refine⟨v153,v154,v155,v156,?_,?_,?_,?_,(by omega),(by intro i hi;have hlt:=h00 i (by simp[hi]);have hxx:i ≠ X:=fun e=>hxi (e ▸ hi);repeat (first | exact hid i hi | rw[Heap.get_set_ne _ _ hxx] | rw[Heap.get_set_ne _ _ (by rintro rfl;simp at hlt;omega)])),(Sep.sub (Sep.setVar (w:=(n9+1,4)) sp (by simp)) (by simp +contextual))⟩<;>simp[hh,m3_13,m4_14,mX0,x3_13,x4_14,hnn,hn1,hn2,neX,f158,f159,f160,f161,List.range_succ,byteC,-cellsA,-one1,cAx,o1x]) ?_
  clear hh m3_13 m4_14 mX0 x3_13 x4_14
  rintro ρ H n166 ⟨v162,v163,v164,v165,hh,m4_14,mX0,x4_14,hnn,hid,sp⟩
  have hq_n166:=hnn
  have hn1:=Nat.le_succ_of_le hnn
  have hn2:=Nat.le_succ_of_le hn1
  refine Runs.cut (fun ρ H n=>∃ (v167 v168 v169 v170:AVal),ρ 4=pA (n9+1) 4∧H (n9+1,4)=some ⟨6,[[int b.roots,v168,v169,int b.edges,v167,v170]]⟩∧H X=some ⟨3,[[.list false (r124.1.code.map byteC),int r124.1.pos,.v (.int .u64 r124.1.seed)]]⟩∧(X=(n9+1,4))=False∧n0≤n∧(∀ i ∈ ids0,H i=H0 i)∧Sep H n (oS v167 l145::oN v168 b.nodes::oI v169 b.sites::oW v170 b.inner::K0) ((n9+1,4)::X::ids0)) (by refine⟨v162,v163,v164,v165,?_,?_,?_,?_,(by omega),hid,sp⟩<;>simp[hh,m4_14,mX0,x4_14,hnn,hn1,hn2,neX,List.range_succ,byteC]) ?_
  clear hh m4_14 mX0 x4_14
  rintro ρ H n171 ⟨v167,v168,v169,v170,hh,m4_14,mX0,x4_14,hnn,hid,sp⟩
  have hq_n171:=hnn
  have hn1:=Nat.le_succ_of_le hnn
  have hn2:=Nat.le_succ_of_le hn1
  refine Runs.frzIn sp.f1 (by simp) ?_
  rintro H172 sp hfr173
  replace sp:Sep H172 n171 (oE [.c,.c,.c] (GNode.cells true) v168 b.nodes::oS v167 l145::oI v169 b.sites::oW v170 b.inner::K0) ((n9+1,4)::X::ids0):=sp
  have hid:∀ i ∈ ids0,H172 i=H0 i:=fun i hi=>(hfr173 i (by simp[hi])).trans (hid i hi)
  have m4_14:=(hfr173 _ (by simp)).trans m4_14
  have mX0:=(hfr173 _ (by simp)).trans mX0
  exact Runs.res1 Ty_ok (v:=.agg [int b.roots,v168,v169,int b.edges,v167,v170]) Tryd.func44 Tryd.results44 (by simp[hh,m4_14,mX0,x4_14,hnn,hn1,hn2,neX,resA,List.range_succ,byteC]) (hQ _ _ _ r124.1 _ (by simp[hh,m4_14,mX0,x4_14,hnn,hn1,hn2,neX,resA,List.range_succ,byteC]) (Sep.sub (Sep.pack (Fill.v _ (Fill.own (Fill.own (Fill.v _ (Fill.own (Fill.own Fill.nil)))))) sp.f2.f1) (by simp +contextual)) hid (by omega) ⟨(Big.mk b.roots b.nodes b.sites b.edges l145 b.inner),h,rfl⟩)
 replace h:=h.2 dc116
 refine zE fun k' hk'=>?_
 obtain⟨c176,ec176,h⟩:=atm h
 have f177:=ib_eql (k:=.i64) ec176
 simp[hh,mX0,m3_13,m4_14,x3_13,x4_14,hnn,hn1,hn2,neX,f177,dc50,dc83,dc116,List.range_succ,byteC,-intBin]
 apply hk'
 refine Runs.ite (b:=c176) (by simp[hh,mX0,m3_13,m4_14,x3_13,x4_14,hnn,hn1,hn2,neX,dc50,dc83,dc116,List.range_succ,byteC]) (fun dc176=>?_) (fun dc176=>?_)
 ·replace h:=h.1 dc176
  refine Runs.cut (fun ρ H n=>∃ (v178 v179 v180 v181:AVal),(ρ 0 = .ptr X 1 0 0∧ρ 3=pA n9 3∧ρ 4=pA (n9+1) 4)∧H X=some ⟨3,[[.list false (r38.1.code.map byteC),int r38.1.pos,.v (.int .u64 r38.1.seed)]]⟩∧H (n9,3)=some ⟨6,[[int b.roots,v178,v179,int b.edges,v180,v181]]⟩∧H (n9+1,4)=some ⟨6,[zB]⟩∧(X=(n9,3))=False∧(X=(n9+1,4))=False∧n0≤n∧(∀ i ∈ ids0,H i=H0 i)∧Sep H n (oN v178 b.nodes::oI v179 b.sites::oS v180 b.outer::oW v181 b.inner::K0) ((n9+1,4)::(n9,3)::X::ids0)) (by refine⟨v45,v46,v47,v48,?_,?_,?_,?_,?_,?_,(by omega),hid,sp⟩<;>simp[hh,mX0,m3_13,m4_14,x3_13,x4_14,hnn,hn1,hn2,neX,dc50,dc83,dc116,dc176,List.range_succ,byteC]) ?_
  clear hh mX0 m3_13 m4_14 x3_13 x4_14
  rintro ρ H n182 ⟨v178,v179,v180,v181,hh,mX0,m3_13,m4_14,x3_13,x4_14,hnn,hid,sp⟩
  have hq_n182:=hnn
  have hn1:=Nat.le_succ_of_le hnn
  have hn2:=Nat.le_succ_of_le hn1
  obtain⟨hb183,h⟩:=h
  obtain⟨r184,er184,h⟩:=atm h
  obtain⟨l185,el185,h⟩:=atm h
  refine Runs.drawL Ty_ok 6 (fun H n=>H (n9,3)=some ⟨6,[[int b.roots,v178,v179,int b.edges,v180,v181]]⟩∧H (n9+1,4)=some ⟨6,[zB]⟩∧Sep H n (oN v178 b.nodes::oI v179 b.sites::oS v180 b.outer::oW v181 b.inner::K0) ((n9+1,4)::(n9,3)::X::ids0)) [4,5] (.free 0 (.free 1 (.free 2 (.free 3 (.hard 4 (.hard 5 (.fin) (.stop)) (.stop)))))) (fun ρ H n=>∃ (v186 v187 v188 v189:AVal),(ρ 3=pA n9 3∧ρ 4=pA (n9+1) 4∧ρ 40=v187∧ρ 44 = .list true (l185.map intC))∧H (n9,3)=some ⟨6,[[int b.roots,v186,v187,int b.edges,v188,v189]]⟩∧H (n9+1,4)=some ⟨6,[zB]⟩∧H X=some ⟨3,[[.list false (r184.1.code.map byteC),int r184.1.pos,.v (.int .u64 r184.1.seed)]]⟩∧(X=(n9,3))=False∧(X=(n9+1,4))=False∧n0≤n∧(∀ i ∈ ids0,H i=H0 i)∧Sep H n (oN v186 b.nodes::oI v187 b.sites::oS v188 b.outer::oW v189 b.inner::K0) ((n9+1,4)::(n9,3)::X::ids0)) draws (by decide) (by kernel_rfl) (by kernel_rfl) ?_ ?_
  ·refine RunT.free (.ptr (n9,3) 1 0 2) rfl rfl ⟨m3_13,m4_14,sp⟩ (fun H n hS=>by obtain⟨m3_13,m4_14,sp⟩:=hS;exact (by exact stepF_ok Ty_ok (by rw[stepF_loc];simp[hh,mX0,m3_13,m4_14,x3_13,x4_14,hnn,hn1,hn2,neX,el185,List.range_succ,byteC]))) ?_
   refine RunT.free v179 rfl rfl ⟨m3_13,m4_14,sp⟩ (fun H n hS=>by obtain⟨m3_13,m4_14,sp⟩:=hS;exact (by exact stepF_ok Ty_ok (by rw[stepF_loc];simp[hh,mX0,m3_13,m4_14,x3_13,x4_14,hnn,hn1,hn2,neX,el185,List.range_succ,byteC]))) ?_
   refine RunT.free (.ptr X 1 0 0) rfl rfl ⟨m3_13,m4_14,sp⟩ (fun H n hS=>by obtain⟨m3_13,m4_14,sp⟩:=hS;exact (by exact stepF_ok Ty_ok (by rw[stepF_loc];simp[hh,mX0,m3_13,m4_14,x3_13,x4_14,hnn,hn1,hn2,neX,el185,List.range_succ,byteC]))) ?_
   refine RunT.free (.list true ([(-1),(-4),7,8,0].map intC)) rfl rfl ⟨m3_13,m4_14,sp⟩ (fun H n hS=>by obtain⟨m3_13,m4_14,sp⟩:=hS;exact (by exact stepF_ok Ty_ok (by rw[stepF_loc];simp[hh,mX0,m3_13,m4_14,x3_13,x4_14,hnn,hn1,hn2,neX,el185,List.range_succ,byteC]))) ?_
   refine⟨?_,trivial⟩
   refine RunT.callDr (xsA:=[.ptr X 1 0 0,.list true ([(-1),(-4),7,8,0].map intC)]) (X:=X) (A:=[(n9+1,4),(n9,3)]) (B:=(ids0)) (M:=[]) (K0:=(oN v178 b.nodes::oI v179 b.sites::oS v180 b.outer::oW v181 b.inner::K0)) rfl rfl (amongZ_ok r38.1 [(-1),(-4),7,8,0] hb183) (.cons (Sub.refl _) (.cons (Sub.old _) .nil)) e42 (by simp[hh,mX0,m3_13,m4_14,x3_13,x4_14,hnn,hn1,hn2,neX,el185,List.range_succ,byteC]) (by simp[hh,mX0,m3_13,m4_14,x3_13,x4_14,hnn,hn1,hn2,neX,el185,hxi,List.range_succ,byteC]) sp (by simp[hh,mX0,m3_13,m4_14,x3_13,x4_14,hnn,hn1,hn2,neX,el185,List.range_succ,byteC]) (by simp[hh,mX0,m3_13,m4_14,x3_13,x4_14,hnn,hn1,hn2,neX,el185,List.range_succ,byteC]) ?_
   rintro v195 H191 n192 _ _ ⟨rfl,rfl⟩ hmx sp hle194 hfr193
   rw[← er184] at hmx sp
   have mX0:H191 X=some ⟨3,[[.list false (r184.1.code.map byteC),int r184.1.pos,.v (.int .u64 r184.1.seed)]]⟩:=hmx
   have hid:∀ i ∈ ids0,H191 i=H0 i:=fun i hi=>(hfr193 i (by simp[hi])).trans (hid i hi)
   have hnn:n0≤n192:=by omega
   have hq_n192:=hnn
   have m3_13:=(hfr193 _ (by simp)).trans m3_13
   have m4_14:=(hfr193 _ (by simp)).trans m4_14
   replace sp:=Sep.scalar sp
   obtain⟨hv,sp⟩:=sp
   subst hv
   replace sp:Sep H191 n192 (oN v178 b.nodes::oI v179 b.sites::oS v180 b.outer::oW v181 b.inner::K0) ((n9+1,4)::(n9,3)::X::ids0):=sp
   refine⟨(fun _=>⟨m3_13,m4_14,sp⟩),?_⟩
   refine⟨?_,trivial⟩
   refine RunT.same (v:=(.list true ([r184.2].map intC))) Ty_ok rfl rfl (by simp[hh,mX0,m3_13,m4_14,x3_13,x4_14,hnn,hn1,hn2,neX,el185,List.range_succ,byteC]) (fun _=>⟨m3_13,m4_14,sp⟩) ?_
   refine RunT.fin (by refine⟨v178,v179,v180,v181,?_,?_,?_,?_,?_,?_,(by omega),hid,sp⟩<;>simp[hh,mX0,m3_13,m4_14,x3_13,x4_14,hnn,hn1,hn2,neX,el185,List.range_succ,byteC])
  clear hh mX0 m3_13 m4_14 x3_13 x4_14
  rintro k' hk' ρ H n190 ⟨v186,v187,v188,v189,hh,m3_13,m4_14,mX0,x3_13,x4_14,hnn,hid,sp⟩
  have hq_n190:=hnn
  have hn1:=Nat.le_succ_of_le hnn
  have hn2:=Nat.le_succ_of_le hn1
  show evalK _ _ _ _ _ _ _ _ _ _ _
  simp only[List.drop_succ_cons,List.drop_zero]
  obtain⟨hb204,h⟩:=h
  obtain⟨l205,el205,h⟩:=atm h
  simp[hh,m3_13,m4_14,mX0,x3_13,x4_14,hnn,hn1,hn2,neX,List.range_succ,byteC,-appendF]
  refine bind_append0 (l185.map intC) sp.f1 (by simp) kd_26 (by simp) (by simp) (by simp[srcOf,List.range_succ,byteC]) (by simp[-one1,o1x,List.range_succ,byteC]) (by simpa using hb204) ?_
  rintro v206 H207 n208 sp hfr209 hle210
  replace sp:Sep H207 n208 (oI v206 l205::oN v186 b.nodes::oS v188 b.outer::oW v189 b.inner::K0) ((n9+1,4)::(n9,3)::X::ids0):=by refine Sep.ap el205 ?_;exact sp
  have hid:∀ i ∈ ids0,H207 i=H0 i:=fun i hi=>(hfr209 i (by simp[hi])).trans (hid i hi)
  have hnn:n0≤n208:=by omega
  have hq_n208:=hnn
  have m3_13:=(hfr209 _ (by simp)).trans m3_13
  have m4_14:=(hfr209 _ (by simp)).trans m4_14
  have mX0:=(hfr209 _ (by simp)).trans mX0
  have f212:=Sep.oc sp
  simp[hh,m3_13,m4_14,mX0,x3_13,x4_14,hnn,hn1,hn2,neX,f212,List.range_succ,byteC,-cellsA,-one1,cAx,o1x]
  apply hk'
  refine Runs.cut (fun ρ H n=>∃ (v213 v214 v215 v216:AVal),(ρ 3=pA n9 3∧ρ 4=pA (n9+1) 4)∧H (n9,3)=some ⟨6,[[int b.roots,v214,v213,int b.edges,v215,v216]]⟩∧H (n9+1,4)=some ⟨6,[zB]⟩∧H X=some ⟨3,[[.list false (r184.1.code.map byteC),int r184.1.pos,.v (.int .u64 r184.1.seed)]]⟩∧(X=(n9,3))=False∧(X=(n9+1,4))=False∧n0≤n∧(∀ i ∈ ids0,H i=H0 i)∧Sep H n (oI v213 l205::oN v214 b.nodes::oS v215 b.outer::oW v216 b.inner::K0) ((n9+1,4)::(n9,3)::X::ids0)) (by refine⟨v206,v186,v188,v189,?_,?_,?_,?_,?_,?_,(by omega),(by intro i hi;have hlt:=h00 i (by simp[hi]);have hxx:i ≠ X:=fun e=>hxi (e ▸ hi);repeat (first | exact hid i hi | rw[Heap.get_set_ne _ _ hxx] | rw[Heap.get_set_ne _ _ (by rintro rfl;simp at hlt;omega)])),(Sep.setVar (w:=(n9,3)) sp (by simp))⟩<;>simp[hh,m3_13,m4_14,mX0,x3_13,x4_14,hnn,hn1,hn2,neX,f212,List.range_succ,byteC,-cellsA,-one1,cAx,o1x]) ?_
  clear hh m3_13 m4_14 mX0 x3_13 x4_14
  rintro ρ H n217 ⟨v213,v214,v215,v216,hh,m3_13,m4_14,mX0,x3_13,x4_14,hnn,hid,sp⟩
  have hq_n217:=hnn
  have hn1:=Nat.le_succ_of_le hnn
  have hn2:=Nat.le_succ_of_le hn1
  refine Runs.inBlock ?_
  refine zE fun k' hk'=>?_
  have f218:=Sep.oc sp.f1
  have f219:=Sep.oc sp
  have f220:=Sep.oc sp.f2
  have f221:=Sep.oc sp.f3
  simp[hh,m3_13,m4_14,mX0,x3_13,x4_14,hnn,hn1,hn2,neX,f218,f219,f220,f221,List.range_succ,byteC,-cellsA,-one1,cAx,o1x]
  apply hk'
  refine Runs.cut (fun ρ H n=>∃ (v222 v223 v224 v225:AVal),ρ 4=pA (n9+1) 4∧H (n9+1,4)=some ⟨6,[[int b.roots,v223,v222,int b.edges,v224,v225]]⟩∧H X=some ⟨3,[[.list false (r184.1.code.map byteC),int r184.1.pos,.v (.int .u64 r184.1.seed)]]⟩∧(X=(n9+1,4))=False∧n0≤n∧(∀ i ∈ ids0,H i=H0 i)∧Sep H n (oI v222 l205::oN v223 b.nodes::oS v224 b.outer::oW v225 b.inner::K0) ((n9+1,4)::X::ids0)) (by refine⟨v213,v214,v215,v216,?_,?_,?_,?_,(by omega),(by intro i hi;have hlt:=h00 i (by simp[hi]);have hxx:i ≠ X:=fun e=>hxi (e ▸ hi);repeat (first | exact hid i hi | rw[Heap.get_set_ne _ _ hxx] | rw[Heap.get_set_ne _ _ (by rintro rfl;simp at hlt;omega)])),(Sep.sub (Sep.setVar (w:=(n9+1,4)) sp (by simp)) (by simp +contextual))⟩<;>simp[hh,m3_13,m4_14,mX0,x3_13,x4_14,hnn,hn1,hn2,neX,f218,f219,f220,f221,List.range_succ,byteC,-cellsA,-one1,cAx,o1x]) ?_
  clear hh m3_13 m4_14 mX0 x3_13 x4_14
  rintro ρ H n226 ⟨v222,v223,v224,v225,hh,m4_14,mX0,x4_14,hnn,hid,sp⟩
  have hq_n226:=hnn
  have hn1:=Nat.le_succ_of_le hnn
  have hn2:=Nat.le_succ_of_le hn1
  refine Runs.cut (fun ρ H n=>∃ (v227 v228 v229 v230:AVal),ρ 4=pA (n9+1) 4∧H (n9+1,4)=some ⟨6,[[int b.roots,v228,v227,int b.edges,v229,v230]]⟩∧H X=some ⟨3,[[.list false (r184.1.code.map byteC),int r184.1.pos,.v (.int .u64 r184.1.seed)]]⟩∧(X=(n9+1,4))=False∧n0≤n∧(∀ i ∈ ids0,H i=H0 i)∧Sep H n (oI v227 l205::oN v228 b.nodes::oS v229 b.outer::oW v230 b.inner::K0) ((n9+1,4)::X::ids0)) (by refine⟨v222,v223,v224,v225,?_,?_,?_,?_,(by omega),hid,sp⟩<;>simp[hh,m4_14,mX0,x4_14,hnn,hn1,hn2,neX,List.range_succ,byteC]) ?_
  clear hh m4_14 mX0 x4_14
  rintro ρ H n231 ⟨v227,v228,v229,v230,hh,m4_14,mX0,x4_14,hnn,hid,sp⟩
  have hq_n231:=hnn
  have hn1:=Nat.le_succ_of_le hnn
  have hn2:=Nat.le_succ_of_le hn1
  refine Runs.frzIn sp.f1 (by simp) ?_
  rintro H232 sp hfr233
  replace sp:Sep H232 n231 (oE [.c,.c,.c] (GNode.cells true) v228 b.nodes::oI v227 l205::oS v229 b.outer::oW v230 b.inner::K0) ((n9+1,4)::X::ids0):=sp
  have hid:∀ i ∈ ids0,H232 i=H0 i:=fun i hi=>(hfr233 i (by simp[hi])).trans (hid i hi)
  have m4_14:=(hfr233 _ (by simp)).trans m4_14
  have mX0:=(hfr233 _ (by simp)).trans mX0
  exact Runs.res1 Ty_ok (v:=.agg [int b.roots,v228,v227,int b.edges,v229,v230]) Tryd.func44 Tryd.results44 (by simp[hh,m4_14,mX0,x4_14,hnn,hn1,hn2,neX,resA,List.range_succ,byteC]) (hQ _ _ _ r184.1 _ (by simp[hh,m4_14,mX0,x4_14,hnn,hn1,hn2,neX,resA,List.range_succ,byteC]) (Sep.sub (Sep.pack (Fill.v _ (Fill.own (Fill.own (Fill.v _ (Fill.own (Fill.own Fill.nil)))))) sp) (by simp +contextual)) hid (by omega) ⟨(Big.mk b.roots b.nodes l205 b.edges b.outer b.inner),h,rfl⟩)
 replace h:=h.2 dc176
 refine zE fun k' hk'=>?_
 obtain⟨c236,ec236,h⟩:=atm h
 have f237:=ib_eql (k:=.i64) ec236
 simp[hh,mX0,m3_13,m4_14,x3_13,x4_14,hnn,hn1,hn2,neX,f237,dc50,dc83,dc116,dc176,List.range_succ,byteC,-intBin]
 apply hk'
 refine Runs.ite (b:=c236) (by simp[hh,mX0,m3_13,m4_14,x3_13,x4_14,hnn,hn1,hn2,neX,dc50,dc83,dc116,dc176,List.range_succ,byteC]) (fun dc236=>?_) (fun dc236=>?_)
 ·replace h:=h.1 dc236
  refine Runs.cut (fun ρ H n=>∃ (v238 v239 v240 v241:AVal),(ρ 0 = .ptr X 1 0 0∧ρ 3=pA n9 3∧ρ 4=pA (n9+1) 4)∧H X=some ⟨3,[[.list false (r38.1.code.map byteC),int r38.1.pos,.v (.int .u64 r38.1.seed)]]⟩∧H (n9,3)=some ⟨6,[[int b.roots,v238,v239,int b.edges,v240,v241]]⟩∧H (n9+1,4)=some ⟨6,[zB]⟩∧(X=(n9,3))=False∧(X=(n9+1,4))=False∧n0≤n∧(∀ i ∈ ids0,H i=H0 i)∧Sep H n (oN v238 b.nodes::oI v239 b.sites::oS v240 b.outer::oW v241 b.inner::K0) ((n9+1,4)::(n9,3)::X::ids0)) (by refine⟨v45,v46,v47,v48,?_,?_,?_,?_,?_,?_,(by omega),hid,sp⟩<;>simp[hh,mX0,m3_13,m4_14,x3_13,x4_14,hnn,hn1,hn2,neX,dc50,dc83,dc116,dc176,dc236,List.range_succ,byteC]) ?_
  clear hh mX0 m3_13 m4_14 x3_13 x4_14
  rintro ρ H n242 ⟨v238,v239,v240,v241,hh,mX0,m3_13,m4_14,x3_13,x4_14,hnn,hid,sp⟩
  have hq_n242:=hnn
  have hn1:=Nat.le_succ_of_le hnn
  have hn2:=Nat.le_succ_of_le hn1
  obtain⟨hb243,h⟩:=h
  obtain⟨r244,er244,h⟩:=atm h
  obtain⟨hb245,h⟩:=h
  obtain⟨r246,er246,h⟩:=atm h
  obtain⟨l247,el247,h⟩:=atm h
  refine Runs.drawL Ty_ok 10 (fun H n=>H (n9,3)=some ⟨6,[[int b.roots,v238,v239,int b.edges,v240,v241]]⟩∧H (n9+1,4)=some ⟨6,[zB]⟩∧Sep H n (oN v238 b.nodes::oI v239 b.sites::oS v240 b.outer::oW v241 b.inner::K0) ((n9+1,4)::(n9,3)::X::ids0)) [4,7,9] (.free 0 (.free 1 (.free 2 (.free 3 (.free 5 (.free 6 (.hard 4 (.hard 7 (.free 8 (.hard 9 (.fin) (.stop))) (.stop)) (.stop)))))))) (fun ρ H n=>∃ (v248 v249 v250 v251:AVal),(ρ 3=pA n9 3∧ρ 4=pA (n9+1) 4∧ρ 50=v251∧ρ 58 = .list true (l247.map Wire.cells))∧H (n9,3)=some ⟨6,[[int b.roots,v248,v249,int b.edges,v250,v251]]⟩∧H (n9+1,4)=some ⟨6,[zB]⟩∧H X=some ⟨3,[[.list false (r246.1.code.map byteC),int r246.1.pos,.v (.int .u64 r246.1.seed)]]⟩∧(X=(n9,3))=False∧(X=(n9+1,4))=False∧n0≤n∧(∀ i ∈ ids0,H i=H0 i)∧Sep H n (oN v248 b.nodes::oI v249 b.sites::oS v250 b.outer::oW v251 b.inner::K0) ((n9+1,4)::(n9,3)::X::ids0)) draws (by decide) (by kernel_rfl) (by kernel_rfl) ?_ ?_
  ·refine RunT.free (.ptr (n9,3) 1 0 5) rfl rfl ⟨m3_13,m4_14,sp⟩ (fun H n hS=>by obtain⟨m3_13,m4_14,sp⟩:=hS;exact (by exact stepF_ok Ty_ok (by rw[stepF_loc];simp[hh,mX0,m3_13,m4_14,x3_13,x4_14,hnn,hn1,hn2,neX,el247,List.range_succ,byteC]))) ?_
   refine RunT.free v241 rfl rfl ⟨m3_13,m4_14,sp⟩ (fun H n hS=>by obtain⟨m3_13,m4_14,sp⟩:=hS;exact (by exact stepF_ok Ty_ok (by rw[stepF_loc];simp[hh,mX0,m3_13,m4_14,x3_13,x4_14,hnn,hn1,hn2,neX,el247,List.range_succ,byteC]))) ?_
   refine RunT.free (.ptr X 1 0 0) rfl rfl ⟨m3_13,m4_14,sp⟩ (fun H n hS=>by obtain⟨m3_13,m4_14,sp⟩:=hS;exact (by exact stepF_ok Ty_ok (by rw[stepF_loc];simp[hh,mX0,m3_13,m4_14,x3_13,x4_14,hnn,hn1,hn2,neX,el247,List.range_succ,byteC]))) ?_
   refine RunT.free (.list true ([[97],[122]].map strC)) rfl rfl ⟨m3_13,m4_14,sp⟩ (fun H n hS=>by obtain⟨m3_13,m4_14,sp⟩:=hS;exact (by exact stepF_ok Ty_ok (by rw[stepF_loc];simp[hh,mX0,m3_13,m4_14,x3_13,x4_14,hnn,hn1,hn2,neX,el247,List.range_succ,byteC]))) ?_
   refine RunT.free (.ptr X 1 0 0) rfl rfl ⟨m3_13,m4_14,sp⟩ (fun H n hS=>by obtain⟨m3_13,m4_14,sp⟩:=hS;exact (by exact stepF_ok Ty_ok (by rw[stepF_loc];simp[hh,mX0,m3_13,m4_14,x3_13,x4_14,hnn,hn1,hn2,neX,el247,List.range_succ,byteC]))) ?_
   refine RunT.free (.list true ([(-1),0,9].map intC)) rfl rfl ⟨m3_13,m4_14,sp⟩ (fun H n hS=>by obtain⟨m3_13,m4_14,sp⟩:=hS;exact (by exact stepF_ok Ty_ok (by rw[stepF_loc];simp[hh,mX0,m3_13,m4_14,x3_13,x4_14,hnn,hn1,hn2,neX,el247,List.range_succ,byteC]))) ?_
   refine⟨?_,trivial⟩
   refine RunT.callDr (xsA:=[.ptr X 1 0 0,.list true ([[97],[122]].map strC)]) (X:=X) (A:=[(n9+1,4),(n9,3)]) (B:=(ids0)) (M:=[]) (K0:=(oN v238 b.nodes::oI v239 b.sites::oS v240 b.outer::oW v241 b.inner::K0)) rfl rfl (ofZ_ok r38.1 [[97],[122]] hb243) (.cons (Sub.refl _) (.cons (Sub.old _) .nil)) e41 (by simp[hh,mX0,m3_13,m4_14,x3_13,x4_14,hnn,hn1,hn2,neX,el247,List.range_succ,byteC]) (by simp[hh,mX0,m3_13,m4_14,x3_13,x4_14,hnn,hn1,hn2,neX,el247,hxi,List.range_succ,byteC]) sp (by simp[hh,mX0,m3_13,m4_14,x3_13,x4_14,hnn,hn1,hn2,neX,el247,List.range_succ,byteC]) (by simp[hh,mX0,m3_13,m4_14,x3_13,x4_14,hnn,hn1,hn2,neX,el247,List.range_succ,byteC]) ?_
   rintro v257 H253 n254 _ _ ⟨rfl,rfl⟩ hmx sp hle256 hfr255
   rw[← er244] at hmx sp
   have mX0:H253 X=some ⟨3,[[.list false (r244.1.code.map byteC),int r244.1.pos,.v (.int .u64 r244.1.seed)]]⟩:=hmx
   have hid:∀ i ∈ ids0,H253 i=H0 i:=fun i hi=>(hfr255 i (by simp[hi])).trans (hid i hi)
   have hnn:n0≤n254:=by omega
   have hq_n254:=hnn
   have m3_13:=(hfr255 _ (by simp)).trans m3_13
   have m4_14:=(hfr255 _ (by simp)).trans m4_14
   replace sp:=Sep.scalar sp
   obtain⟨hv,sp⟩:=sp
   subst hv
   replace sp:Sep H253 n254 (oN v238 b.nodes::oI v239 b.sites::oS v240 b.outer::oW v241 b.inner::K0) ((n9+1,4)::(n9,3)::X::ids0):=sp
   refine⟨(fun _=>⟨m3_13,m4_14,sp⟩),?_⟩
   refine⟨?_,trivial⟩
   refine RunT.callDr (xsA:=[.ptr X 1 0 0,.list true ([(-1),0,9].map intC)]) (X:=X) (A:=[(n9+1,4),(n9,3)]) (B:=(ids0)) (M:=[]) (K0:=(oN v238 b.nodes::oI v239 b.sites::oS v240 b.outer::oW v241 b.inner::K0)) rfl rfl (amongZ_ok r244.1 [(-1),0,9] hb245) (.cons (Sub.refl _) (.cons (Sub.old _) .nil)) e42 (by simp[hh,mX0,m3_13,m4_14,x3_13,x4_14,hnn,hn1,hn2,neX,el247,List.range_succ,byteC]) (by simp[hh,mX0,m3_13,m4_14,x3_13,x4_14,hnn,hn1,hn2,neX,el247,hxi,List.range_succ,byteC]) sp (by simp[hh,mX0,m3_13,m4_14,x3_13,x4_14,hnn,hn1,hn2,neX,el247,List.range_succ,byteC]) (by simp[hh,mX0,m3_13,m4_14,x3_13,x4_14,hnn,hn1,hn2,neX,el247,List.range_succ,byteC]) ?_
   rintro v264 H260 n261 _ _ ⟨rfl,rfl⟩ hmx sp hle263 hfr262
   rw[← er246] at hmx sp
   have mX0:H260 X=some ⟨3,[[.list false (r246.1.code.map byteC),int r246.1.pos,.v (.int .u64 r246.1.seed)]]⟩:=hmx
   have hid:∀ i ∈ ids0,H260 i=H0 i:=fun i hi=>(hfr262 i (by simp[hi])).trans (hid i hi)
   have hnn:n0≤n261:=by omega
   have hq_n261:=hnn
   have m3_13:=(hfr262 _ (by simp)).trans m3_13
   have m4_14:=(hfr262 _ (by simp)).trans m4_14
   replace sp:=Sep.scalar sp
   obtain⟨hv,sp⟩:=sp
   subst hv
   replace sp:Sep H260 n261 (oN v238 b.nodes::oI v239 b.sites::oS v240 b.outer::oW v241 b.inner::K0) ((n9+1,4)::(n9,3)::X::ids0):=sp
   refine⟨(fun _=>⟨m3_13,m4_14,sp⟩),?_⟩
   refine RunT.free (.agg [str r244.2,int r246.2]) rfl rfl ⟨m3_13,m4_14,sp⟩ (fun H n hS=>by obtain⟨m3_13,m4_14,sp⟩:=hS;exact (by exact stepF_ok Ty_ok (by rw[stepF_loc];simp[hh,mX0,m3_13,m4_14,x3_13,x4_14,hnn,hn1,hn2,neX,el247,List.range_succ,byteC]))) ?_
   refine⟨?_,trivial⟩
   refine RunT.same (v:=(.list true ([(Wire.mk r244.2 r246.2)].map Wire.cells))) Ty_ok rfl rfl (by simp[hh,mX0,m3_13,m4_14,x3_13,x4_14,hnn,hn1,hn2,neX,el247,List.range_succ,byteC]) (fun _=>⟨m3_13,m4_14,sp⟩) ?_
   refine RunT.fin (by refine⟨v238,v239,v240,v241,?_,?_,?_,?_,?_,?_,(by omega),hid,sp⟩<;>simp[hh,mX0,m3_13,m4_14,x3_13,x4_14,hnn,hn1,hn2,neX,el247,List.range_succ,byteC])
  clear hh mX0 m3_13 m4_14 x3_13 x4_14
  rintro k' hk' ρ H n252 ⟨v248,v249,v250,v251,hh,m3_13,m4_14,mX0,x3_13,x4_14,hnn,hid,sp⟩
  have hq_n252:=hnn
  have hn1:=Nat.le_succ_of_le hnn
  have hn2:=Nat.le_succ_of_le hn1
  show evalK _ _ _ _ _ _ _ _ _ _ _
  simp only[List.drop_succ_cons,List.drop_zero]
  obtain⟨hb273,h⟩:=h
  obtain⟨l274,el274,h⟩:=atm h
  simp[hh,m3_13,m4_14,mX0,x3_13,x4_14,hnn,hn1,hn2,neX,List.range_succ,byteC,-appendF]
  refine bind_append0 (l247.map Wire.cells) sp.f3 (by simp) kd_28 (by simp) (by simp) (by simp[srcOf,List.range_succ,byteC]) (by simp[-one1,o1x,List.range_succ,byteC]) (by simpa using hb273) ?_
  rintro v275 H276 n277 sp hfr278 hle279
  replace sp:Sep H276 n277 (oW v275 l274::oN v248 b.nodes::oI v249 b.sites::oS v250 b.outer::K0) ((n9+1,4)::(n9,3)::X::ids0):=by refine Sep.ap el274 ?_;exact sp
  have hid:∀ i ∈ ids0,H276 i=H0 i:=fun i hi=>(hfr278 i (by simp[hi])).trans (hid i hi)
  have hnn:n0≤n277:=by omega
  have hq_n277:=hnn
  have m3_13:=(hfr278 _ (by simp)).trans m3_13
  have m4_14:=(hfr278 _ (by simp)).trans m4_14
  have mX0:=(hfr278 _ (by simp)).trans mX0
  have f281:=Sep.oc sp
  simp[hh,m3_13,m4_14,mX0,x3_13,x4_14,hnn,hn1,hn2,neX,f281,List.range_succ,byteC,-cellsA,-one1,cAx,o1x]
  apply hk'
  refine Runs.cut (fun ρ H n=>∃ (v282 v283 v284 v285:AVal),(ρ 3=pA n9 3∧ρ 4=pA (n9+1) 4)∧H (n9,3)=some ⟨6,[[int b.roots,v283,v284,int b.edges,v285,v282]]⟩∧H (n9+1,4)=some ⟨6,[zB]⟩∧H X=some ⟨3,[[.list false (r246.1.code.map byteC),int r246.1.pos,.v (.int .u64 r246.1.seed)]]⟩∧(X=(n9,3))=False∧(X=(n9+1,4))=False∧n0≤n∧(∀ i ∈ ids0,H i=H0 i)∧Sep H n (oW v282 l274::oN v283 b.nodes::oI v284 b.sites::oS v285 b.outer::K0) ((n9+1,4)::(n9,3)::X::ids0)) (by refine⟨v275,v248,v249,v250,?_,?_,?_,?_,?_,?_,(by omega),(by intro i hi;have hlt:=h00 i (by simp[hi]);have hxx:i ≠ X:=fun e=>hxi (e ▸ hi);repeat (first | exact hid i hi | rw[Heap.get_set_ne _ _ hxx] | rw[Heap.get_set_ne _ _ (by rintro rfl;simp at hlt;omega)])),(Sep.setVar (w:=(n9,3)) sp (by simp))⟩<;>simp[hh,m3_13,m4_14,mX0,x3_13,x4_14,hnn,hn1,hn2,neX,f281,List.range_succ,byteC,-cellsA,-one1,cAx,o1x]) ?_
  clear hh m3_13 m4_14 mX0 x3_13 x4_14
  rintro ρ H n286 ⟨v282,v283,v284,v285,hh,m3_13,m4_14,mX0,x3_13,x4_14,hnn,hid,sp⟩
  have hq_n286:=hnn
  have hn1:=Nat.le_succ_of_le hnn
  have hn2:=Nat.le_succ_of_le hn1
  refine Runs.inBlock ?_
  refine zE fun k' hk'=>?_
  have f287:=Sep.oc sp.f1
  have f288:=Sep.oc sp.f2
  have f289:=Sep.oc sp.f3
  have f290:=Sep.oc sp
  simp[hh,m3_13,m4_14,mX0,x3_13,x4_14,hnn,hn1,hn2,neX,f287,f288,f289,f290,List.range_succ,byteC,-cellsA,-one1,cAx,o1x]
  apply hk'
  refine Runs.cut (fun ρ H n=>∃ (v291 v292 v293 v294:AVal),ρ 4=pA (n9+1) 4∧H (n9+1,4)=some ⟨6,[[int b.roots,v292,v293,int b.edges,v294,v291]]⟩∧H X=some ⟨3,[[.list false (r246.1.code.map byteC),int r246.1.pos,.v (.int .u64 r246.1.seed)]]⟩∧(X=(n9+1,4))=False∧n0≤n∧(∀ i ∈ ids0,H i=H0 i)∧Sep H n (oW v291 l274::oN v292 b.nodes::oI v293 b.sites::oS v294 b.outer::K0) ((n9+1,4)::X::ids0)) (by refine⟨v282,v283,v284,v285,?_,?_,?_,?_,(by omega),(by intro i hi;have hlt:=h00 i (by simp[hi]);have hxx:i ≠ X:=fun e=>hxi (e ▸ hi);repeat (first | exact hid i hi | rw[Heap.get_set_ne _ _ hxx] | rw[Heap.get_set_ne _ _ (by rintro rfl;simp at hlt;omega)])),(Sep.sub (Sep.setVar (w:=(n9+1,4)) sp (by simp)) (by simp +contextual))⟩<;>simp[hh,m3_13,m4_14,mX0,x3_13,x4_14,hnn,hn1,hn2,neX,f287,f288,f289,f290,List.range_succ,byteC,-cellsA,-one1,cAx,o1x]) ?_
  clear hh m3_13 m4_14 mX0 x3_13 x4_14
  rintro ρ H n295 ⟨v291,v292,v293,v294,hh,m4_14,mX0,x4_14,hnn,hid,sp⟩
  have hq_n295:=hnn
  have hn1:=Nat.le_succ_of_le hnn
  have hn2:=Nat.le_succ_of_le hn1
  refine Runs.cut (fun ρ H n=>∃ (v296 v297 v298 v299:AVal),ρ 4=pA (n9+1) 4∧H (n9+1,4)=some ⟨6,[[int b.roots,v297,v298,int b.edges,v299,v296]]⟩∧H X=some ⟨3,[[.list false (r246.1.code.map byteC),int r246.1.pos,.v (.int .u64 r246.1.seed)]]⟩∧(X=(n9+1,4))=False∧n0≤n∧(∀ i ∈ ids0,H i=H0 i)∧Sep H n (oW v296 l274::oN v297 b.nodes::oI v298 b.sites::oS v299 b.outer::K0) ((n9+1,4)::X::ids0)) (by refine⟨v291,v292,v293,v294,?_,?_,?_,?_,(by omega),hid,sp⟩<;>simp[hh,m4_14,mX0,x4_14,hnn,hn1,hn2,neX,List.range_succ,byteC]) ?_
  clear hh m4_14 mX0 x4_14
  rintro ρ H n300 ⟨v296,v297,v298,v299,hh,m4_14,mX0,x4_14,hnn,hid,sp⟩
  have hq_n300:=hnn
  have hn1:=Nat.le_succ_of_le hnn
  have hn2:=Nat.le_succ_of_le hn1
  refine Runs.frzIn sp.f1 (by simp) ?_
  rintro H301 sp hfr302
  replace sp:Sep H301 n300 (oE [.c,.c,.c] (GNode.cells true) v297 b.nodes::oW v296 l274::oI v298 b.sites::oS v299 b.outer::K0) ((n9+1,4)::X::ids0):=sp
  have hid:∀ i ∈ ids0,H301 i=H0 i:=fun i hi=>(hfr302 i (by simp[hi])).trans (hid i hi)
  have m4_14:=(hfr302 _ (by simp)).trans m4_14
  have mX0:=(hfr302 _ (by simp)).trans mX0
  exact Runs.res1 Ty_ok (v:=.agg [int b.roots,v297,v298,int b.edges,v299,v296]) Tryd.func44 Tryd.results44 (by simp[hh,m4_14,mX0,x4_14,hnn,hn1,hn2,neX,resA,List.range_succ,byteC]) (hQ _ _ _ r246.1 _ (by simp[hh,m4_14,mX0,x4_14,hnn,hn1,hn2,neX,resA,List.range_succ,byteC]) (Sep.sub (Sep.pack (Fill.v _ (Fill.own (Fill.own (Fill.v _ (Fill.own (Fill.own Fill.nil)))))) sp.f3.f3.f2) (by simp +contextual)) hid (by omega) ⟨(Big.mk b.roots b.nodes b.sites b.edges b.outer l274),h,rfl⟩)
 replace h:=h.2 dc236
 refine zE fun k' hk'=>?_
 obtain⟨c305,ec305,h⟩:=atm h
 have f306:=ib_eql (k:=.i64) ec305
 simp[hh,mX0,m3_13,m4_14,x3_13,x4_14,hnn,hn1,hn2,neX,f306,dc50,dc83,dc116,dc176,dc236,List.range_succ,byteC,-intBin]
 apply hk'
 refine Runs.ite (b:=c305) (by simp[hh,mX0,m3_13,m4_14,x3_13,x4_14,hnn,hn1,hn2,neX,dc50,dc83,dc116,dc176,dc236,List.range_succ,byteC]) (fun dc305=>?_) (fun dc305=>?_)
 ·replace h:=h.1 dc305
  refine zE fun k' hk'=>?_
  obtain⟨len307,elen307,h⟩:=atm h
  have f308:=len_own (Sep.len (m:=len307) sp kd_25 (by rw[elen307,List.length_map]))
  obtain⟨c309,ec309,h⟩:=atm h
  have f310:=ib_gtr (k:=.i64) ec309
  simp[hh,mX0,m3_13,m4_14,x3_13,x4_14,hnn,hn1,hn2,neX,f308,f310,dc50,dc83,dc116,dc176,dc236,dc305,List.range_succ,byteC,-intBin,-lenF]
  apply hk'
  refine Runs.cut (fun ρ H n=>∃ (v311 v312 v313 v314:AVal),(ρ 0 = .ptr X 1 0 0∧ρ 3=pA n9 3∧ρ 4=pA (n9+1) 4∧ρ 5=int r25.2∧ρ 66=bool c309)∧H X=some ⟨3,[[.list false (r38.1.code.map byteC),int r38.1.pos,.v (.int .u64 r38.1.seed)]]⟩∧H (n9,3)=some ⟨6,[[int b.roots,v311,v312,int b.edges,v313,v314]]⟩∧H (n9+1,4)=some ⟨6,[zB]⟩∧(X=(n9,3))=False∧(X=(n9+1,4))=False∧n0≤n∧(∀ i ∈ ids0,H i=H0 i)∧Sep H n (oN v311 b.nodes::oI v312 b.sites::oS v313 b.outer::oW v314 b.inner::K0) ((n9+1,4)::(n9,3)::X::ids0)) (by refine⟨v45,v46,v47,v48,?_,?_,?_,?_,?_,?_,(by omega),hid,sp⟩<;>simp[hh,mX0,m3_13,m4_14,x3_13,x4_14,hnn,hn1,hn2,neX,f308,f310,dc50,dc83,dc116,dc176,dc236,dc305,List.range_succ,byteC,-intBin,-lenF]) ?_
  clear hh mX0 m3_13 m4_14 x3_13 x4_14
  rintro ρ H n315 ⟨v311,v312,v313,v314,hh,mX0,m3_13,m4_14,x3_13,x4_14,hnn,hid,sp⟩
  have hq_n315:=hnn
  have hn1:=Nat.le_succ_of_le hnn
  have hn2:=Nat.le_succ_of_le hn1
  refine Runs.ite (b:=c309) (by simp[hh,mX0,m3_13,m4_14,x3_13,x4_14,hnn,hn1,hn2,neX,List.range_succ,byteC]) (fun dc309=>?_) (fun dc309=>?_)
  ·replace h:=h.1 dc309
   refine Runs.cut (fun ρ H n=>∃ (v316 v317 v318 v319:AVal),(ρ 0 = .ptr X 1 0 0∧ρ 3=pA n9 3∧ρ 4=pA (n9+1) 4∧ρ 5=int r25.2)∧H X=some ⟨3,[[.list false (r38.1.code.map byteC),int r38.1.pos,.v (.int .u64 r38.1.seed)]]⟩∧H (n9,3)=some ⟨6,[[int b.roots,v316,v317,int b.edges,v318,v319]]⟩∧H (n9+1,4)=some ⟨6,[zB]⟩∧(X=(n9,3))=False∧(X=(n9+1,4))=False∧n0≤n∧(∀ i ∈ ids0,H i=H0 i)∧Sep H n (oN v316 b.nodes::oI v317 b.sites::oS v318 b.outer::oW v319 b.inner::K0) ((n9+1,4)::(n9,3)::X::ids0)) (by refine⟨v311,v312,v313,v314,?_,?_,?_,?_,?_,?_,(by omega),hid,sp⟩<;>simp[hh,mX0,m3_13,m4_14,x3_13,x4_14,hnn,hn1,hn2,neX,dc309,List.range_succ,byteC]) ?_
   clear hh mX0 m3_13 m4_14 x3_13 x4_14
   rintro ρ H n320 ⟨v316,v317,v318,v319,hh,mX0,m3_13,m4_14,x3_13,x4_14,hnn,hid,sp⟩
   have hq_n320:=hnn
   have hn1:=Nat.le_succ_of_le hnn
   have hn2:=Nat.le_succ_of_le hn1
   obtain⟨hb321,h⟩:=h
   obtain⟨v322,ev322,h⟩:=atm h
   have f323:=ib_add hb321 ev322
   obtain⟨hb324,h⟩:=h
   obtain⟨r325,er325,h⟩:=atm h
   refine Runs.drawL Ty_ok 9 (fun H n=>H (n9,3)=some ⟨6,[[int b.roots,v316,v317,int b.edges,v318,v319]]⟩∧H (n9+1,4)=some ⟨6,[zB]⟩∧Sep H n (oN v316 b.nodes::oI v317 b.sites::oS v318 b.outer::oW v319 b.inner::K0) ((n9+1,4)::(n9,3)::X::ids0)) [8] (.free 0 (.free 1 (.free 2 (.free 3 (.free 4 (.free 5 (.free 6 (.free 7 (.hard 8 (.fin) (.stop)))))))))) (fun ρ H n=>∃ (v326 v327 v328 v329:AVal),(ρ 3=pA n9 3∧ρ 4=pA (n9+1) 4∧ρ 68=v326∧ρ 69=int r25.2∧ρ 75=int r325.2)∧H (n9,3)=some ⟨6,[[int b.roots,v326,v327,int b.edges,v328,v329]]⟩∧H (n9+1,4)=some ⟨6,[zB]⟩∧H X=some ⟨3,[[.list false (r325.1.code.map byteC),int r325.1.pos,.v (.int .u64 r325.1.seed)]]⟩∧(X=(n9,3))=False∧(X=(n9+1,4))=False∧n0≤n∧(∀ i ∈ ids0,H i=H0 i)∧Sep H n (oN v326 b.nodes::oI v327 b.sites::oS v328 b.outer::oW v329 b.inner::K0) ((n9+1,4)::(n9,3)::X::ids0)) draws (by decide) (by kernel_rfl) (by kernel_rfl) ?_ ?_
   ·refine RunT.free (.ptr (n9,3) 1 0 1) rfl rfl ⟨m3_13,m4_14,sp⟩ (fun H n hS=>by obtain⟨m3_13,m4_14,sp⟩:=hS;exact (by exact stepF_ok Ty_ok (by rw[stepF_loc];simp[hh,mX0,m3_13,m4_14,x3_13,x4_14,hnn,hn1,hn2,neX,f323,List.range_succ,byteC,-intBin]))) ?_
    refine RunT.free v316 rfl rfl ⟨m3_13,m4_14,sp⟩ (fun H n hS=>by obtain⟨m3_13,m4_14,sp⟩:=hS;exact (by exact stepF_ok Ty_ok (by rw[stepF_loc];simp[hh,mX0,m3_13,m4_14,x3_13,x4_14,hnn,hn1,hn2,neX,f323,List.range_succ,byteC,-intBin]))) ?_
    refine RunT.free (int r25.2) rfl rfl ⟨m3_13,m4_14,sp⟩ (fun H n hS=>by obtain⟨m3_13,m4_14,sp⟩:=hS;exact (by exact stepF_ok Ty_ok (by rw[stepF_loc];simp[hh,mX0,m3_13,m4_14,x3_13,x4_14,hnn,hn1,hn2,neX,f323,List.range_succ,byteC,-intBin]))) ?_
    refine RunT.free (.ptr X 1 0 0) rfl rfl ⟨m3_13,m4_14,sp⟩ (fun H n hS=>by obtain⟨m3_13,m4_14,sp⟩:=hS;exact (by exact stepF_ok Ty_ok (by rw[stepF_loc];simp[hh,mX0,m3_13,m4_14,x3_13,x4_14,hnn,hn1,hn2,neX,f323,List.range_succ,byteC,-intBin]))) ?_
    refine RunT.free (int r25.2) rfl rfl ⟨m3_13,m4_14,sp⟩ (fun H n hS=>by obtain⟨m3_13,m4_14,sp⟩:=hS;exact (by exact stepF_ok Ty_ok (by rw[stepF_loc];simp[hh,mX0,m3_13,m4_14,x3_13,x4_14,hnn,hn1,hn2,neX,f323,List.range_succ,byteC,-intBin]))) ?_
    refine RunT.free (int r25.2) rfl rfl ⟨m3_13,m4_14,sp⟩ (fun H n hS=>by obtain⟨m3_13,m4_14,sp⟩:=hS;exact (by exact stepF_ok Ty_ok (by rw[stepF_loc];simp[hh,mX0,m3_13,m4_14,x3_13,x4_14,hnn,hn1,hn2,neX,f323,List.range_succ,byteC,-intBin]))) ?_
    refine RunT.free (int v322) rfl rfl ⟨m3_13,m4_14,sp⟩ (fun H n hS=>by obtain⟨m3_13,m4_14,sp⟩:=hS;exact (by have f323:=ib_add hb321 ev322;exact stepF_ok Ty_ok (by rw[stepF_loc];simp[hh,mX0,m3_13,m4_14,x3_13,x4_14,hnn,hn1,hn2,neX,f323,List.range_succ,byteC,-intBin]))) ?_
    refine RunT.free (.list true ([(-5),r25.2,v322,(-1),4611686018427387904,(-9223372036854775808)].map intC)) rfl rfl ⟨m3_13,m4_14,sp⟩ (fun H n hS=>by obtain⟨m3_13,m4_14,sp⟩:=hS;exact (by exact stepF_ok Ty_ok (by rw[stepF_loc];simp[hh,mX0,m3_13,m4_14,x3_13,x4_14,hnn,hn1,hn2,neX,f323,List.range_succ,byteC,-intBin]))) ?_
    refine⟨?_,trivial⟩
    refine RunT.callDr (xsA:=[.ptr X 1 0 0,.list true ([(-5),r25.2,v322,(-1),4611686018427387904,(-9223372036854775808)].map intC)]) (X:=X) (A:=[(n9+1,4),(n9,3)]) (B:=(ids0)) (M:=[]) (K0:=(oN v316 b.nodes::oI v317 b.sites::oS v318 b.outer::oW v319 b.inner::K0)) rfl rfl (amongZ_ok r38.1 [(-5),r25.2,v322,(-1),4611686018427387904,(-9223372036854775808)] hb324) (.cons (Sub.refl _) (.cons (Sub.old _) .nil)) e42 (by simp[hh,mX0,m3_13,m4_14,x3_13,x4_14,hnn,hn1,hn2,neX,f323,List.range_succ,byteC,-intBin]) (by simp[hh,mX0,m3_13,m4_14,x3_13,x4_14,hnn,hn1,hn2,neX,f323,hxi,List.range_succ,byteC,-intBin]) sp (by simp[hh,mX0,m3_13,m4_14,x3_13,x4_14,hnn,hn1,hn2,neX,f323,List.range_succ,byteC,-intBin]) (by simp[hh,mX0,m3_13,m4_14,x3_13,x4_14,hnn,hn1,hn2,neX,f323,List.range_succ,byteC,-intBin]) ?_
    rintro v335 H331 n332 _ _ ⟨rfl,rfl⟩ hmx sp hle334 hfr333
    rw[← er325] at hmx sp
    have mX0:H331 X=some ⟨3,[[.list false (r325.1.code.map byteC),int r325.1.pos,.v (.int .u64 r325.1.seed)]]⟩:=hmx
    have hid:∀ i ∈ ids0,H331 i=H0 i:=fun i hi=>(hfr333 i (by simp[hi])).trans (hid i hi)
    have hnn:n0≤n332:=by omega
    have hq_n332:=hnn
    have m3_13:=(hfr333 _ (by simp)).trans m3_13
    have m4_14:=(hfr333 _ (by simp)).trans m4_14
    replace sp:=Sep.scalar sp
    obtain⟨hv,sp⟩:=sp
    subst hv
    replace sp:Sep H331 n332 (oN v316 b.nodes::oI v317 b.sites::oS v318 b.outer::oW v319 b.inner::K0) ((n9+1,4)::(n9,3)::X::ids0):=sp
    refine⟨(fun _=>⟨m3_13,m4_14,sp⟩),?_⟩
    refine RunT.fin (by refine⟨v316,v317,v318,v319,?_,?_,?_,?_,?_,?_,(by omega),hid,sp⟩<;>simp[hh,mX0,m3_13,m4_14,x3_13,x4_14,hnn,hn1,hn2,neX,f323,List.range_succ,byteC,-intBin])
   clear hh mX0 m3_13 m4_14 x3_13 x4_14
   rintro k' hk' ρ H n330 ⟨v326,v327,v328,v329,hh,m3_13,m4_14,mX0,x3_13,x4_14,hnn,hid,sp⟩
   have hq_n330:=hnn
   have hn1:=Nat.le_succ_of_le hnn
   have hn2:=Nat.le_succ_of_le hn1
   show evalK _ _ _ _ _ _ _ _ _ _ _
   simp only[List.drop_succ_cons,List.drop_zero]
   obtain⟨hb338,h⟩:=h
   obtain⟨x339,ex339,h⟩:=atm h
   obtain⟨id340,els341,row342,W343,hq344,mo345,moL346,moR347,hrl348,hW349,hsub350,hni351,spr352,hcl353⟩:=Sep.rowF (q:=r25.2.toNat) (f:=(GNode.cells true)) sp hb338 ex339 rfl
   subst hq344
   obtain⟨c354,c355,c356,hq344⟩:=len3 (by simpa using hrl348)
   subst hq344
   replace spr352:Sep _ _ [(.c,c354,int x339.control),(.c,c355,int x339.parent),(.s [.c],c356,.list true (x339.links.map intC))] W343:=spr352
   obtain rfl:=Sep.cAt (K1:=[]) (K2:=[(.c,c355,int x339.parent),(.s [.c],c356,.list true (x339.links.map intC))]) spr352
   obtain rfl:=Sep.cAt (K1:=[(.c,int x339.control,int x339.control)]) (K2:=[(.s [.c],c356,.list true (x339.links.map intC))]) spr352
   have f357:=ix_arr (k:=.i64) (off:=0) (len:=b.nodes.length) kd_25 mo345 moL346 rfl hb338
   simp at hni351
   obtain⟨l358,el358,h⟩:=atm h
   simp[hh,m3_13,m4_14,mX0,x3_13,x4_14,hnn,hn1,hn2,neX,mo345,moL346,moR347,hni351,f357,List.range_succ,byteC,-indexAddrF,-storeF]
   refine bind_cell (i:=ty3) (q:=r25.2.toNat) (off:=1) (ix:=r25.2) (x:=x339) (y:=(GNode.mk x339.control r325.2 x339.links)) (f:=(GNode.cells true)) [.c] [.s [.c]] [int x339.control] [.list true (x339.links.map intC)] sp rfl rfl hb338 ex339 rfl rfl rfl rfl rfl rfl rfl ?_
   rintro H359 sp hfr360
   replace sp:Sep H359 n330 (oN (.arr id340 b.nodes.length 0 b.nodes.length) l358::oI v327 b.sites::oS v328 b.outer::oW v329 b.inner::K0) ((n9+1,4)::(n9,3)::X::ids0):=by rw[el358];exact sp
   have hid:∀ i ∈ ids0,H359 i=H0 i:=fun i hi=>(hfr360 i (by simp[hi])).trans (hid i hi)
   have m3_13:=(hfr360 _ (by simp)).trans m3_13
   have m4_14:=(hfr360 _ (by simp)).trans m4_14
   have mX0:=(hfr360 _ (by simp)).trans mX0
   simp[hh,m3_13,m4_14,mX0,x3_13,x4_14,hnn,hn1,hn2,neX,hni351,f357,List.range_succ,byteC,-indexAddrF]
   apply hk'
   refine Runs.cut (fun ρ H n=>∃ (v362 v363 v364 v365:AVal),(ρ 3=pA n9 3∧ρ 4=pA (n9+1) 4)∧H (n9,3)=some ⟨6,[[int b.roots,v362,v363,int b.edges,v364,v365]]⟩∧H (n9+1,4)=some ⟨6,[zB]⟩∧H X=some ⟨3,[[.list false (r325.1.code.map byteC),int r325.1.pos,.v (.int .u64 r325.1.seed)]]⟩∧(X=(n9,3))=False∧(X=(n9+1,4))=False∧n0≤n∧(∀ i ∈ ids0,H i=H0 i)∧Sep H n (oN v362 l358::oI v363 b.sites::oS v364 b.outer::oW v365 b.inner::K0) ((n9+1,4)::(n9,3)::X::ids0)) (by refine⟨.arr id340 b.nodes.length 0 b.nodes.length,v327,v328,v329,?_,?_,?_,?_,?_,?_,(by omega),hid,sp⟩<;>simp[hh,m3_13,m4_14,mX0,x3_13,x4_14,hnn,hn1,hn2,neX,hni351,f357,List.range_succ,byteC,-indexAddrF]) ?_
   clear hh m3_13 m4_14 mX0 x3_13 x4_14 hni351
   rintro ρ H n366 ⟨v362,v363,v364,v365,hh,m3_13,m4_14,mX0,x3_13,x4_14,hnn,hid,sp⟩
   have hq_n366:=hnn
   have hn1:=Nat.le_succ_of_le hnn
   have hn2:=Nat.le_succ_of_le hn1
   refine Runs.inBlock ?_
   refine zE fun k' hk'=>?_
   have f367:=Sep.oc sp
   have f368:=Sep.oc sp.f1
   have f369:=Sep.oc sp.f2
   have f370:=Sep.oc sp.f3
   simp[hh,m3_13,m4_14,mX0,x3_13,x4_14,hnn,hn1,hn2,neX,f367,f368,f369,f370,List.range_succ,byteC,-cellsA,-one1,cAx,o1x]
   apply hk'
   refine Runs.cut (fun ρ H n=>∃ (v371 v372 v373 v374:AVal),ρ 4=pA (n9+1) 4∧H (n9+1,4)=some ⟨6,[[int b.roots,v371,v372,int b.edges,v373,v374]]⟩∧H X=some ⟨3,[[.list false (r325.1.code.map byteC),int r325.1.pos,.v (.int .u64 r325.1.seed)]]⟩∧(X=(n9+1,4))=False∧n0≤n∧(∀ i ∈ ids0,H i=H0 i)∧Sep H n (oN v371 l358::oI v372 b.sites::oS v373 b.outer::oW v374 b.inner::K0) ((n9+1,4)::X::ids0)) (by refine⟨v362,v363,v364,v365,?_,?_,?_,?_,(by omega),(by intro i hi;have hlt:=h00 i (by simp[hi]);have hxx:i ≠ X:=fun e=>hxi (e ▸ hi);repeat (first | exact hid i hi | rw[Heap.get_set_ne _ _ hxx] | rw[Heap.get_set_ne _ _ (by rintro rfl;simp at hlt;omega)])),(Sep.sub (Sep.setVar (w:=(n9+1,4)) sp (by simp)) (by simp +contextual))⟩<;>simp[hh,m3_13,m4_14,mX0,x3_13,x4_14,hnn,hn1,hn2,neX,f367,f368,f369,f370,List.range_succ,byteC,-cellsA,-one1,cAx,o1x]) ?_
   clear hh m3_13 m4_14 mX0 x3_13 x4_14
   rintro ρ H n375 ⟨v371,v372,v373,v374,hh,m4_14,mX0,x4_14,hnn,hid,sp⟩
   have hq_n375:=hnn
   have hn1:=Nat.le_succ_of_le hnn
   have hn2:=Nat.le_succ_of_le hn1
   refine Runs.cut (fun ρ H n=>∃ (v376 v377 v378 v379:AVal),ρ 4=pA (n9+1) 4∧H (n9+1,4)=some ⟨6,[[int b.roots,v376,v377,int b.edges,v378,v379]]⟩∧H X=some ⟨3,[[.list false (r325.1.code.map byteC),int r325.1.pos,.v (.int .u64 r325.1.seed)]]⟩∧(X=(n9+1,4))=False∧n0≤n∧(∀ i ∈ ids0,H i=H0 i)∧Sep H n (oN v376 l358::oI v377 b.sites::oS v378 b.outer::oW v379 b.inner::K0) ((n9+1,4)::X::ids0)) (by refine⟨v371,v372,v373,v374,?_,?_,?_,?_,(by omega),hid,sp⟩<;>simp[hh,m4_14,mX0,x4_14,hnn,hn1,hn2,neX,List.range_succ,byteC]) ?_
   clear hh m4_14 mX0 x4_14
   rintro ρ H n380 ⟨v376,v377,v378,v379,hh,m4_14,mX0,x4_14,hnn,hid,sp⟩
   have hq_n380:=hnn
   have hn1:=Nat.le_succ_of_le hnn
   have hn2:=Nat.le_succ_of_le hn1
   refine Runs.frzIn sp (by simp) ?_
   rintro H381 sp hfr382
   replace sp:Sep H381 n380 (oE [.c,.c,.c] (GNode.cells true) v376 l358::oI v377 b.sites::oS v378 b.outer::oW v379 b.inner::K0) ((n9+1,4)::X::ids0):=sp
   have hid:∀ i ∈ ids0,H381 i=H0 i:=fun i hi=>(hfr382 i (by simp[hi])).trans (hid i hi)
   have m4_14:=(hfr382 _ (by simp)).trans m4_14
   have mX0:=(hfr382 _ (by simp)).trans mX0
   exact Runs.res1 Ty_ok (v:=.agg [int b.roots,v376,v377,int b.edges,v378,v379]) Tryd.func44 Tryd.results44 (by simp[hh,m4_14,mX0,x4_14,hnn,hn1,hn2,neX,resA,List.range_succ,byteC]) (hQ _ _ _ r325.1 _ (by simp[hh,m4_14,mX0,x4_14,hnn,hn1,hn2,neX,resA,List.range_succ,byteC]) (Sep.sub (Sep.pack (Fill.v _ (Fill.own (Fill.own (Fill.v _ (Fill.own (Fill.own Fill.nil)))))) sp) (by simp +contextual)) hid (by omega) ⟨(Big.mk b.roots l358 b.sites b.edges b.outer b.inner),h,rfl⟩)
  replace h:=h.2 dc309
  refine Runs.skip ?_
  refine Runs.inBlock ?_
  refine zE fun k' hk'=>?_
  have f385:=Sep.oc sp
  have f386:=Sep.oc sp.f1
  have f387:=Sep.oc sp.f2
  have f388:=Sep.oc sp.f3
  simp[hh,mX0,m3_13,m4_14,x3_13,x4_14,hnn,hn1,hn2,neX,f385,f386,f387,f388,dc309,List.range_succ,byteC,-cellsA,-one1,cAx,o1x]
  apply hk'
  refine Runs.cut (fun ρ H n=>∃ (v389 v390 v391 v392:AVal),ρ 4=pA (n9+1) 4∧H (n9+1,4)=some ⟨6,[[int b.roots,v389,v390,int b.edges,v391,v392]]⟩∧H X=some ⟨3,[[.list false (r38.1.code.map byteC),int r38.1.pos,.v (.int .u64 r38.1.seed)]]⟩∧(X=(n9+1,4))=False∧n0≤n∧(∀ i ∈ ids0,H i=H0 i)∧Sep H n (oN v389 b.nodes::oI v390 b.sites::oS v391 b.outer::oW v392 b.inner::K0) ((n9+1,4)::X::ids0)) (by refine⟨v311,v312,v313,v314,?_,?_,?_,?_,(by omega),(by intro i hi;have hlt:=h00 i (by simp[hi]);have hxx:i ≠ X:=fun e=>hxi (e ▸ hi);repeat (first | exact hid i hi | rw[Heap.get_set_ne _ _ hxx] | rw[Heap.get_set_ne _ _ (by rintro rfl;simp at hlt;omega)])),(Sep.sub (Sep.setVar (w:=(n9+1,4)) sp (by simp)) (by simp +contextual))⟩<;>simp[hh,mX0,m3_13,m4_14,x3_13,x4_14,hnn,hn1,hn2,neX,f385,f386,f387,f388,dc309,List.range_succ,byteC,-cellsA,-one1,cAx,o1x]) ?_
  clear hh mX0 m3_13 m4_14 x3_13 x4_14
  rintro ρ H n393 ⟨v389,v390,v391,v392,hh,m4_14,mX0,x4_14,hnn,hid,sp⟩
  have hq_n393:=hnn
  have hn1:=Nat.le_succ_of_le hnn
  have hn2:=Nat.le_succ_of_le hn1
  refine Runs.cut (fun ρ H n=>∃ (v394 v395 v396 v397:AVal),ρ 4=pA (n9+1) 4∧H (n9+1,4)=some ⟨6,[[int b.roots,v394,v395,int b.edges,v396,v397]]⟩∧H X=some ⟨3,[[.list false (r38.1.code.map byteC),int r38.1.pos,.v (.int .u64 r38.1.seed)]]⟩∧(X=(n9+1,4))=False∧n0≤n∧(∀ i ∈ ids0,H i=H0 i)∧Sep H n (oN v394 b.nodes::oI v395 b.sites::oS v396 b.outer::oW v397 b.inner::K0) ((n9+1,4)::X::ids0)) (by refine⟨v389,v390,v391,v392,?_,?_,?_,?_,(by omega),hid,sp⟩<;>simp[hh,m4_14,mX0,x4_14,hnn,hn1,hn2,neX,List.range_succ,byteC]) ?_
  clear hh m4_14 mX0 x4_14
  rintro ρ H n398 ⟨v394,v395,v396,v397,hh,m4_14,mX0,x4_14,hnn,hid,sp⟩
  have hq_n398:=hnn
  have hn1:=Nat.le_succ_of_le hnn
  have hn2:=Nat.le_succ_of_le hn1
  refine Runs.frzIn sp (by simp) ?_
  rintro H399 sp hfr400
  replace sp:Sep H399 n398 (oE [.c,.c,.c] (GNode.cells true) v394 b.nodes::oI v395 b.sites::oS v396 b.outer::oW v397 b.inner::K0) ((n9+1,4)::X::ids0):=sp
  have hid:∀ i ∈ ids0,H399 i=H0 i:=fun i hi=>(hfr400 i (by simp[hi])).trans (hid i hi)
  have m4_14:=(hfr400 _ (by simp)).trans m4_14
  have mX0:=(hfr400 _ (by simp)).trans mX0
  exact Runs.res1 Ty_ok (v:=.agg [int b.roots,v394,v395,int b.edges,v396,v397]) Tryd.func44 Tryd.results44 (by simp[hh,m4_14,mX0,x4_14,hnn,hn1,hn2,neX,resA,List.range_succ,byteC]) (hQ _ _ _ r38.1 _ (by simp[hh,m4_14,mX0,x4_14,hnn,hn1,hn2,neX,resA,List.range_succ,byteC]) (Sep.sub (Sep.pack (Fill.v _ (Fill.own (Fill.own (Fill.v _ (Fill.own (Fill.own Fill.nil)))))) sp) (by simp +contextual)) hid (by omega) ⟨b,h,rfl⟩)
 replace h:=h.2 dc305
 refine zE fun k' hk'=>?_
 obtain⟨c403,ec403,h⟩:=atm h
 have f404:=ib_eql (k:=.i64) ec403
 simp[hh,mX0,m3_13,m4_14,x3_13,x4_14,hnn,hn1,hn2,neX,f404,dc50,dc83,dc116,dc176,dc236,dc305,List.range_succ,byteC,-intBin]
 apply hk'
 refine Runs.ite (b:=c403) (by simp[hh,mX0,m3_13,m4_14,x3_13,x4_14,hnn,hn1,hn2,neX,dc50,dc83,dc116,dc176,dc236,dc305,List.range_succ,byteC]) (fun dc403=>?_) (fun dc403=>?_)
 ·replace h:=h.1 dc403
  refine zE fun k' hk'=>?_
  obtain⟨len405,elen405,h⟩:=atm h
  have f406:=len_own (Sep.len (m:=len405) sp kd_25 (by rw[elen405,List.length_map]))
  obtain⟨c407,ec407,h⟩:=atm h
  have f408:=ib_gtr (k:=.i64) ec407
  simp[hh,mX0,m3_13,m4_14,x3_13,x4_14,hnn,hn1,hn2,neX,f406,f408,dc50,dc83,dc116,dc176,dc236,dc305,dc403,List.range_succ,byteC,-intBin,-lenF]
  apply hk'
  refine Runs.cut (fun ρ H n=>∃ (v409 v410 v411 v412:AVal),(ρ 0 = .ptr X 1 0 0∧ρ 3=pA n9 3∧ρ 4=pA (n9+1) 4∧ρ 5=int r25.2∧ρ 83=bool c407)∧H X=some ⟨3,[[.list false (r38.1.code.map byteC),int r38.1.pos,.v (.int .u64 r38.1.seed)]]⟩∧H (n9,3)=some ⟨6,[[int b.roots,v409,v410,int b.edges,v411,v412]]⟩∧H (n9+1,4)=some ⟨6,[zB]⟩∧(X=(n9,3))=False∧(X=(n9+1,4))=False∧n0≤n∧(∀ i ∈ ids0,H i=H0 i)∧Sep H n (oN v409 b.nodes::oI v410 b.sites::oS v411 b.outer::oW v412 b.inner::K0) ((n9+1,4)::(n9,3)::X::ids0)) (by refine⟨v45,v46,v47,v48,?_,?_,?_,?_,?_,?_,(by omega),hid,sp⟩<;>simp[hh,mX0,m3_13,m4_14,x3_13,x4_14,hnn,hn1,hn2,neX,f406,f408,dc50,dc83,dc116,dc176,dc236,dc305,dc403,List.range_succ,byteC,-intBin,-lenF]) ?_
  clear hh mX0 m3_13 m4_14 x3_13 x4_14
  rintro ρ H n413 ⟨v409,v410,v411,v412,hh,mX0,m3_13,m4_14,x3_13,x4_14,hnn,hid,sp⟩
  have hq_n413:=hnn
  have hn1:=Nat.le_succ_of_le hnn
  have hn2:=Nat.le_succ_of_le hn1
  refine Runs.ite (b:=c407) (by simp[hh,mX0,m3_13,m4_14,x3_13,x4_14,hnn,hn1,hn2,neX,List.range_succ,byteC]) (fun dc407=>?_) (fun dc407=>?_)
  ·replace h:=h.1 dc407
   refine Runs.cut (fun ρ H n=>∃ (v414 v415 v416 v417:AVal),(ρ 0 = .ptr X 1 0 0∧ρ 3=pA n9 3∧ρ 4=pA (n9+1) 4∧ρ 5=int r25.2)∧H X=some ⟨3,[[.list false (r38.1.code.map byteC),int r38.1.pos,.v (.int .u64 r38.1.seed)]]⟩∧H (n9,3)=some ⟨6,[[int b.roots,v414,v415,int b.edges,v416,v417]]⟩∧H (n9+1,4)=some ⟨6,[zB]⟩∧(X=(n9,3))=False∧(X=(n9+1,4))=False∧n0≤n∧(∀ i ∈ ids0,H i=H0 i)∧Sep H n (oN v414 b.nodes::oI v415 b.sites::oS v416 b.outer::oW v417 b.inner::K0) ((n9+1,4)::(n9,3)::X::ids0)) (by refine⟨v409,v410,v411,v412,?_,?_,?_,?_,?_,?_,(by omega),hid,sp⟩<;>simp[hh,mX0,m3_13,m4_14,x3_13,x4_14,hnn,hn1,hn2,neX,dc407,List.range_succ,byteC]) ?_
   clear hh mX0 m3_13 m4_14 x3_13 x4_14
   rintro ρ H n418 ⟨v414,v415,v416,v417,hh,mX0,m3_13,m4_14,x3_13,x4_14,hnn,hid,sp⟩
   have hq_n418:=hnn
   have hn1:=Nat.le_succ_of_le hnn
   have hn2:=Nat.le_succ_of_le hn1
   obtain⟨hb419,h⟩:=h
   obtain⟨r420,er420,h⟩:=atm h
   refine Runs.drawL Ty_ok 6 (fun H n=>H (n9,3)=some ⟨6,[[int b.roots,v414,v415,int b.edges,v416,v417]]⟩∧H (n9+1,4)=some ⟨6,[zB]⟩∧Sep H n (oN v414 b.nodes::oI v415 b.sites::oS v416 b.outer::oW v417 b.inner::K0) ((n9+1,4)::(n9,3)::X::ids0)) [5] (.free 0 (.free 1 (.free 2 (.free 3 (.free 4 (.hard 5 (.fin) (.stop))))))) (fun ρ H n=>∃ (v421 v422 v423 v424:AVal),(ρ 3=pA n9 3∧ρ 4=pA (n9+1) 4∧ρ 85=v421∧ρ 86=int r25.2∧ρ 89=int r420.2)∧H (n9,3)=some ⟨6,[[int b.roots,v421,v422,int b.edges,v423,v424]]⟩∧H (n9+1,4)=some ⟨6,[zB]⟩∧H X=some ⟨3,[[.list false (r420.1.code.map byteC),int r420.1.pos,.v (.int .u64 r420.1.seed)]]⟩∧(X=(n9,3))=False∧(X=(n9+1,4))=False∧n0≤n∧(∀ i ∈ ids0,H i=H0 i)∧Sep H n (oN v421 b.nodes::oI v422 b.sites::oS v423 b.outer::oW v424 b.inner::K0) ((n9+1,4)::(n9,3)::X::ids0)) draws (by decide) (by kernel_rfl) (by kernel_rfl) ?_ ?_
   ·refine RunT.free (.ptr (n9,3) 1 0 1) rfl rfl ⟨m3_13,m4_14,sp⟩ (fun H n hS=>by obtain⟨m3_13,m4_14,sp⟩:=hS;exact (by exact stepF_ok Ty_ok (by rw[stepF_loc];simp[hh,mX0,m3_13,m4_14,x3_13,x4_14,hnn,hn1,hn2,neX,List.range_succ,byteC]))) ?_
    refine RunT.free v414 rfl rfl ⟨m3_13,m4_14,sp⟩ (fun H n hS=>by obtain⟨m3_13,m4_14,sp⟩:=hS;exact (by exact stepF_ok Ty_ok (by rw[stepF_loc];simp[hh,mX0,m3_13,m4_14,x3_13,x4_14,hnn,hn1,hn2,neX,List.range_succ,byteC]))) ?_
    refine RunT.free (int r25.2) rfl rfl ⟨m3_13,m4_14,sp⟩ (fun H n hS=>by obtain⟨m3_13,m4_14,sp⟩:=hS;exact (by exact stepF_ok Ty_ok (by rw[stepF_loc];simp[hh,mX0,m3_13,m4_14,x3_13,x4_14,hnn,hn1,hn2,neX,List.range_succ,byteC]))) ?_
    refine RunT.free (.ptr X 1 0 0) rfl rfl ⟨m3_13,m4_14,sp⟩ (fun H n hS=>by obtain⟨m3_13,m4_14,sp⟩:=hS;exact (by exact stepF_ok Ty_ok (by rw[stepF_loc];simp[hh,mX0,m3_13,m4_14,x3_13,x4_14,hnn,hn1,hn2,neX,List.range_succ,byteC]))) ?_
    refine RunT.free (.list true ([(-1),0,6].map intC)) rfl rfl ⟨m3_13,m4_14,sp⟩ (fun H n hS=>by obtain⟨m3_13,m4_14,sp⟩:=hS;exact (by exact stepF_ok Ty_ok (by rw[stepF_loc];simp[hh,mX0,m3_13,m4_14,x3_13,x4_14,hnn,hn1,hn2,neX,List.range_succ,byteC]))) ?_
    refine⟨?_,trivial⟩
    refine RunT.callDr (xsA:=[.ptr X 1 0 0,.list true ([(-1),0,6].map intC)]) (X:=X) (A:=[(n9+1,4),(n9,3)]) (B:=(ids0)) (M:=[]) (K0:=(oN v414 b.nodes::oI v415 b.sites::oS v416 b.outer::oW v417 b.inner::K0)) rfl rfl (amongZ_ok r38.1 [(-1),0,6] hb419) (.cons (Sub.refl _) (.cons (Sub.old _) .nil)) e42 (by simp[hh,mX0,m3_13,m4_14,x3_13,x4_14,hnn,hn1,hn2,neX,List.range_succ,byteC]) (by simp[hh,mX0,m3_13,m4_14,x3_13,x4_14,hnn,hn1,hn2,neX,hxi,List.range_succ,byteC]) sp (by simp[hh,mX0,m3_13,m4_14,x3_13,x4_14,hnn,hn1,hn2,neX,List.range_succ,byteC]) (by simp[hh,mX0,m3_13,m4_14,x3_13,x4_14,hnn,hn1,hn2,neX,List.range_succ,byteC]) ?_
    rintro v430 H426 n427 _ _ ⟨rfl,rfl⟩ hmx sp hle429 hfr428
    rw[← er420] at hmx sp
    have mX0:H426 X=some ⟨3,[[.list false (r420.1.code.map byteC),int r420.1.pos,.v (.int .u64 r420.1.seed)]]⟩:=hmx
    have hid:∀ i ∈ ids0,H426 i=H0 i:=fun i hi=>(hfr428 i (by simp[hi])).trans (hid i hi)
    have hnn:n0≤n427:=by omega
    have hq_n427:=hnn
    have m3_13:=(hfr428 _ (by simp)).trans m3_13
    have m4_14:=(hfr428 _ (by simp)).trans m4_14
    replace sp:=Sep.scalar sp
    obtain⟨hv,sp⟩:=sp
    subst hv
    replace sp:Sep H426 n427 (oN v414 b.nodes::oI v415 b.sites::oS v416 b.outer::oW v417 b.inner::K0) ((n9+1,4)::(n9,3)::X::ids0):=sp
    refine⟨(fun _=>⟨m3_13,m4_14,sp⟩),?_⟩
    refine RunT.fin (by refine⟨v414,v415,v416,v417,?_,?_,?_,?_,?_,?_,(by omega),hid,sp⟩<;>simp[hh,mX0,m3_13,m4_14,x3_13,x4_14,hnn,hn1,hn2,neX,List.range_succ,byteC])
   clear hh mX0 m3_13 m4_14 x3_13 x4_14
   rintro k' hk' ρ H n425 ⟨v421,v422,v423,v424,hh,m3_13,m4_14,mX0,x3_13,x4_14,hnn,hid,sp⟩
   have hq_n425:=hnn
   have hn1:=Nat.le_succ_of_le hnn
   have hn2:=Nat.le_succ_of_le hn1
   show evalK _ _ _ _ _ _ _ _ _ _ _
   simp only[List.drop_succ_cons,List.drop_zero]
   obtain⟨hb433,h⟩:=h
   obtain⟨x434,ex434,h⟩:=atm h
   obtain⟨id435,els436,row437,W438,hq439,mo440,moL441,moR442,hrl443,hW444,hsub445,hni446,spr447,hcl448⟩:=Sep.rowF (q:=r25.2.toNat) (f:=(GNode.cells true)) sp hb433 ex434 rfl
   subst hq439
   obtain⟨c449,c450,c451,hq439⟩:=len3 (by simpa using hrl443)
   subst hq439
   replace spr447:Sep _ _ [(.c,c449,int x434.control),(.c,c450,int x434.parent),(.s [.c],c451,.list true (x434.links.map intC))] W438:=spr447
   obtain rfl:=Sep.cAt (K1:=[]) (K2:=[(.c,c450,int x434.parent),(.s [.c],c451,.list true (x434.links.map intC))]) spr447
   obtain rfl:=Sep.cAt (K1:=[(.c,int x434.control,int x434.control)]) (K2:=[(.s [.c],c451,.list true (x434.links.map intC))]) spr447
   have f452:=ix_arr (k:=.i64) (off:=0) (len:=b.nodes.length) kd_25 mo440 moL441 rfl hb433
   simp at hni446
   obtain⟨l453,el453,h⟩:=atm h
   simp[hh,m3_13,m4_14,mX0,x3_13,x4_14,hnn,hn1,hn2,neX,mo440,moL441,moR442,hni446,f452,List.range_succ,byteC,-indexAddrF,-storeF]
   refine bind_cell (i:=ty3) (q:=r25.2.toNat) (off:=0) (ix:=r25.2) (x:=x434) (y:=(GNode.mk r420.2 x434.parent x434.links)) (f:=(GNode.cells true)) [] [.c,.s [.c]] [] [int x434.parent,.list true (x434.links.map intC)] sp rfl rfl hb433 ex434 rfl rfl rfl rfl rfl rfl rfl ?_
   rintro H454 sp hfr455
   replace sp:Sep H454 n425 (oN (.arr id435 b.nodes.length 0 b.nodes.length) l453::oI v422 b.sites::oS v423 b.outer::oW v424 b.inner::K0) ((n9+1,4)::(n9,3)::X::ids0):=by rw[el453];exact sp
   have hid:∀ i ∈ ids0,H454 i=H0 i:=fun i hi=>(hfr455 i (by simp[hi])).trans (hid i hi)
   have m3_13:=(hfr455 _ (by simp)).trans m3_13
   have m4_14:=(hfr455 _ (by simp)).trans m4_14
   have mX0:=(hfr455 _ (by simp)).trans mX0
   simp[hh,m3_13,m4_14,mX0,x3_13,x4_14,hnn,hn1,hn2,neX,hni446,f452,List.range_succ,byteC,-indexAddrF]
   apply hk'
   refine Runs.cut (fun ρ H n=>∃ (v457 v458 v459 v460:AVal),(ρ 3=pA n9 3∧ρ 4=pA (n9+1) 4)∧H (n9,3)=some ⟨6,[[int b.roots,v457,v458,int b.edges,v459,v460]]⟩∧H (n9+1,4)=some ⟨6,[zB]⟩∧H X=some ⟨3,[[.list false (r420.1.code.map byteC),int r420.1.pos,.v (.int .u64 r420.1.seed)]]⟩∧(X=(n9,3))=False∧(X=(n9+1,4))=False∧n0≤n∧(∀ i ∈ ids0,H i=H0 i)∧Sep H n (oN v457 l453::oI v458 b.sites::oS v459 b.outer::oW v460 b.inner::K0) ((n9+1,4)::(n9,3)::X::ids0)) (by refine⟨.arr id435 b.nodes.length 0 b.nodes.length,v422,v423,v424,?_,?_,?_,?_,?_,?_,(by omega),hid,sp⟩<;>simp[hh,m3_13,m4_14,mX0,x3_13,x4_14,hnn,hn1,hn2,neX,hni446,f452,List.range_succ,byteC,-indexAddrF]) ?_
   clear hh m3_13 m4_14 mX0 x3_13 x4_14 hni446
   rintro ρ H n461 ⟨v457,v458,v459,v460,hh,m3_13,m4_14,mX0,x3_13,x4_14,hnn,hid,sp⟩
   have hq_n461:=hnn
   have hn1:=Nat.le_succ_of_le hnn
   have hn2:=Nat.le_succ_of_le hn1
   refine Runs.inBlock ?_
   refine zE fun k' hk'=>?_
   have f462:=Sep.oc sp
   have f463:=Sep.oc sp.f1
   have f464:=Sep.oc sp.f2
   have f465:=Sep.oc sp.f3
   simp[hh,m3_13,m4_14,mX0,x3_13,x4_14,hnn,hn1,hn2,neX,f462,f463,f464,f465,List.range_succ,byteC,-cellsA,-one1,cAx,o1x]
   apply hk'
   refine Runs.cut (fun ρ H n=>∃ (v466 v467 v468 v469:AVal),ρ 4=pA (n9+1) 4∧H (n9+1,4)=some ⟨6,[[int b.roots,v466,v467,int b.edges,v468,v469]]⟩∧H X=some ⟨3,[[.list false (r420.1.code.map byteC),int r420.1.pos,.v (.int .u64 r420.1.seed)]]⟩∧(X=(n9+1,4))=False∧n0≤n∧(∀ i ∈ ids0,H i=H0 i)∧Sep H n (oN v466 l453::oI v467 b.sites::oS v468 b.outer::oW v469 b.inner::K0) ((n9+1,4)::X::ids0)) (by refine⟨v457,v458,v459,v460,?_,?_,?_,?_,(by omega),(by intro i hi;have hlt:=h00 i (by simp[hi]);have hxx:i ≠ X:=fun e=>hxi (e ▸ hi);repeat (first | exact hid i hi | rw[Heap.get_set_ne _ _ hxx] | rw[Heap.get_set_ne _ _ (by rintro rfl;simp at hlt;omega)])),(Sep.sub (Sep.setVar (w:=(n9+1,4)) sp (by simp)) (by simp +contextual))⟩<;>simp[hh,m3_13,m4_14,mX0,x3_13,x4_14,hnn,hn1,hn2,neX,f462,f463,f464,f465,List.range_succ,byteC,-cellsA,-one1,cAx,o1x]) ?_
   clear hh m3_13 m4_14 mX0 x3_13 x4_14
   rintro ρ H n470 ⟨v466,v467,v468,v469,hh,m4_14,mX0,x4_14,hnn,hid,sp⟩
   have hq_n470:=hnn
   have hn1:=Nat.le_succ_of_le hnn
   have hn2:=Nat.le_succ_of_le hn1
   refine Runs.cut (fun ρ H n=>∃ (v471 v472 v473 v474:AVal),ρ 4=pA (n9+1) 4∧H (n9+1,4)=some ⟨6,[[int b.roots,v471,v472,int b.edges,v473,v474]]⟩∧H X=some ⟨3,[[.list false (r420.1.code.map byteC),int r420.1.pos,.v (.int .u64 r420.1.seed)]]⟩∧(X=(n9+1,4))=False∧n0≤n∧(∀ i ∈ ids0,H i=H0 i)∧Sep H n (oN v471 l453::oI v472 b.sites::oS v473 b.outer::oW v474 b.inner::K0) ((n9+1,4)::X::ids0)) (by refine⟨v466,v467,v468,v469,?_,?_,?_,?_,(by omega),hid,sp⟩<;>simp[hh,m4_14,mX0,x4_14,hnn,hn1,hn2,neX,List.range_succ,byteC]) ?_
   clear hh m4_14 mX0 x4_14
   rintro ρ H n475 ⟨v471,v472,v473,v474,hh,m4_14,mX0,x4_14,hnn,hid,sp⟩
   have hq_n475:=hnn
   have hn1:=Nat.le_succ_of_le hnn
   have hn2:=Nat.le_succ_of_le hn1
   refine Runs.frzIn sp (by simp) ?_
   rintro H476 sp hfr477
   replace sp:Sep H476 n475 (oE [.c,.c,.c] (GNode.cells true) v471 l453::oI v472 b.sites::oS v473 b.outer::oW v474 b.inner::K0) ((n9+1,4)::X::ids0):=sp
   have hid:∀ i ∈ ids0,H476 i=H0 i:=fun i hi=>(hfr477 i (by simp[hi])).trans (hid i hi)
   have m4_14:=(hfr477 _ (by simp)).trans m4_14
   have mX0:=(hfr477 _ (by simp)).trans mX0
   exact Runs.res1 Ty_ok (v:=.agg [int b.roots,v471,v472,int b.edges,v473,v474]) Tryd.func44 Tryd.results44 (by simp[hh,m4_14,mX0,x4_14,hnn,hn1,hn2,neX,resA,List.range_succ,byteC]) (hQ _ _ _ r420.1 _ (by simp[hh,m4_14,mX0,x4_14,hnn,hn1,hn2,neX,resA,List.range_succ,byteC]) (Sep.sub (Sep.pack (Fill.v _ (Fill.own (Fill.own (Fill.v _ (Fill.own (Fill.own Fill.nil)))))) sp) (by simp +contextual)) hid (by omega) ⟨(Big.mk b.roots l453 b.sites b.edges b.outer b.inner),h,rfl⟩)
  replace h:=h.2 dc407
  refine Runs.skip ?_
  refine Runs.inBlock ?_
  refine zE fun k' hk'=>?_
  have f480:=Sep.oc sp
  have f481:=Sep.oc sp.f1
  have f482:=Sep.oc sp.f2
  have f483:=Sep.oc sp.f3
  simp[hh,mX0,m3_13,m4_14,x3_13,x4_14,hnn,hn1,hn2,neX,f480,f481,f482,f483,dc407,List.range_succ,byteC,-cellsA,-one1,cAx,o1x]
  apply hk'
  refine Runs.cut (fun ρ H n=>∃ (v484 v485 v486 v487:AVal),ρ 4=pA (n9+1) 4∧H (n9+1,4)=some ⟨6,[[int b.roots,v484,v485,int b.edges,v486,v487]]⟩∧H X=some ⟨3,[[.list false (r38.1.code.map byteC),int r38.1.pos,.v (.int .u64 r38.1.seed)]]⟩∧(X=(n9+1,4))=False∧n0≤n∧(∀ i ∈ ids0,H i=H0 i)∧Sep H n (oN v484 b.nodes::oI v485 b.sites::oS v486 b.outer::oW v487 b.inner::K0) ((n9+1,4)::X::ids0)) (by refine⟨v409,v410,v411,v412,?_,?_,?_,?_,(by omega),(by intro i hi;have hlt:=h00 i (by simp[hi]);have hxx:i ≠ X:=fun e=>hxi (e ▸ hi);repeat (first | exact hid i hi | rw[Heap.get_set_ne _ _ hxx] | rw[Heap.get_set_ne _ _ (by rintro rfl;simp at hlt;omega)])),(Sep.sub (Sep.setVar (w:=(n9+1,4)) sp (by simp)) (by simp +contextual))⟩<;>simp[hh,mX0,m3_13,m4_14,x3_13,x4_14,hnn,hn1,hn2,neX,f480,f481,f482,f483,dc407,List.range_succ,byteC,-cellsA,-one1,cAx,o1x]) ?_
  clear hh mX0 m3_13 m4_14 x3_13 x4_14
  rintro ρ H n488 ⟨v484,v485,v486,v487,hh,m4_14,mX0,x4_14,hnn,hid,sp⟩
  have hq_n488:=hnn
  have hn1:=Nat.le_succ_of_le hnn
  have hn2:=Nat.le_succ_of_le hn1
  refine Runs.cut (fun ρ H n=>∃ (v489 v490 v491 v492:AVal),ρ 4=pA (n9+1) 4∧H (n9+1,4)=some ⟨6,[[int b.roots,v489,v490,int b.edges,v491,v492]]⟩∧H X=some ⟨3,[[.list false (r38.1.code.map byteC),int r38.1.pos,.v (.int .u64 r38.1.seed)]]⟩∧(X=(n9+1,4))=False∧n0≤n∧(∀ i ∈ ids0,H i=H0 i)∧Sep H n (oN v489 b.nodes::oI v490 b.sites::oS v491 b.outer::oW v492 b.inner::K0) ((n9+1,4)::X::ids0)) (by refine⟨v484,v485,v486,v487,?_,?_,?_,?_,(by omega),hid,sp⟩<;>simp[hh,m4_14,mX0,x4_14,hnn,hn1,hn2,neX,List.range_succ,byteC]) ?_
  clear hh m4_14 mX0 x4_14
  rintro ρ H n493 ⟨v489,v490,v491,v492,hh,m4_14,mX0,x4_14,hnn,hid,sp⟩
  have hq_n493:=hnn
  have hn1:=Nat.le_succ_of_le hnn
  have hn2:=Nat.le_succ_of_le hn1
  refine Runs.frzIn sp (by simp) ?_
  rintro H494 sp hfr495
  replace sp:Sep H494 n493 (oE [.c,.c,.c] (GNode.cells true) v489 b.nodes::oI v490 b.sites::oS v491 b.outer::oW v492 b.inner::K0) ((n9+1,4)::X::ids0):=sp
  have hid:∀ i ∈ ids0,H494 i=H0 i:=fun i hi=>(hfr495 i (by simp[hi])).trans (hid i hi)
  have m4_14:=(hfr495 _ (by simp)).trans m4_14
  have mX0:=(hfr495 _ (by simp)).trans mX0
  exact Runs.res1 Ty_ok (v:=.agg [int b.roots,v489,v490,int b.edges,v491,v492]) Tryd.func44 Tryd.results44 (by simp[hh,m4_14,mX0,x4_14,hnn,hn1,hn2,neX,resA,List.range_succ,byteC]) (hQ _ _ _ r38.1 _ (by simp[hh,m4_14,mX0,x4_14,hnn,hn1,hn2,neX,resA,List.range_succ,byteC]) (Sep.sub (Sep.pack (Fill.v _ (Fill.own (Fill.own (Fill.v _ (Fill.own (Fill.own Fill.nil)))))) sp) (by simp +contextual)) hid (by omega) ⟨b,h,rfl⟩)
 replace h:=h.2 dc403
 refine zE fun k' hk'=>?_
 obtain⟨c498,ec498,h⟩:=atm h
 have f499:=ib_eql (k:=.i64) ec498
 simp[hh,mX0,m3_13,m4_14,x3_13,x4_14,hnn,hn1,hn2,neX,f499,dc50,dc83,dc116,dc176,dc236,dc305,dc403,List.range_succ,byteC,-intBin]
 apply hk'
 refine Runs.cut (fun ρ H n=>∃ (v500 v501 v502 v503:AVal),(ρ 0 = .ptr X 1 0 0∧ρ 3=pA n9 3∧ρ 4=pA (n9+1) 4∧ρ 5=int r25.2∧ρ 14=int r38.2∧ρ 92=bool c498)∧H X=some ⟨3,[[.list false (r38.1.code.map byteC),int r38.1.pos,.v (.int .u64 r38.1.seed)]]⟩∧H (n9,3)=some ⟨6,[[int b.roots,v500,v501,int b.edges,v502,v503]]⟩∧H (n9+1,4)=some ⟨6,[zB]⟩∧(X=(n9,3))=False∧(X=(n9+1,4))=False∧n0≤n∧(∀ i ∈ ids0,H i=H0 i)∧Sep H n (oN v500 b.nodes::oI v501 b.sites::oS v502 b.outer::oW v503 b.inner::K0) ((n9+1,4)::(n9,3)::X::ids0)) (by refine⟨v45,v46,v47,v48,?_,?_,?_,?_,?_,?_,(by omega),hid,sp⟩<;>simp[hh,mX0,m3_13,m4_14,x3_13,x4_14,hnn,hn1,hn2,neX,f499,dc50,dc83,dc116,dc176,dc236,dc305,dc403,List.range_succ,byteC,-intBin]) ?_
 clear hh mX0 m3_13 m4_14 x3_13 x4_14
 rintro ρ H n504 ⟨v500,v501,v502,v503,hh,mX0,m3_13,m4_14,x3_13,x4_14,hnn,hid,sp⟩
 have hq_n504:=hnn
 have hn1:=Nat.le_succ_of_le hnn
 have hn2:=Nat.le_succ_of_le hn1
 refine Runs.ite (b:=c498) (by simp[hh,mX0,m3_13,m4_14,x3_13,x4_14,hnn,hn1,hn2,neX,List.range_succ,byteC]) (fun dc498=>?_) (fun dc498=>?_)
 ·replace h:=h.1 dc498
  refine zE fun k' hk'=>?_
  obtain⟨len505,elen505,h⟩:=atm h
  have f506:=len_own (Sep.len (m:=len505) sp kd_25 (by rw[elen505,List.length_map]))
  obtain⟨c507,ec507,h⟩:=atm h
  have f508:=ib_gtr (k:=.i64) ec507
  simp[hh,mX0,m3_13,m4_14,x3_13,x4_14,hnn,hn1,hn2,neX,f506,f508,dc498,List.range_succ,byteC,-intBin,-lenF]
  apply hk'
  refine Runs.ite (b:=c507) (by simp[hh,mX0,m3_13,m4_14,x3_13,x4_14,hnn,hn1,hn2,neX,dc498,List.range_succ,byteC]) (fun dc507=>?_) (fun dc507=>?_)
  ·replace h:=h.1 dc507
   refine Runs.cut (fun ρ H n=>∃ (v509 v510 v511 v512:AVal),(ρ 3=pA n9 3∧ρ 4=pA (n9+1) 4∧ρ 5=int r25.2)∧H (n9,3)=some ⟨6,[[int b.roots,v509,v510,int b.edges,v511,v512]]⟩∧H (n9+1,4)=some ⟨6,[zB]⟩∧H X=some ⟨3,[[.list false (r38.1.code.map byteC),int r38.1.pos,.v (.int .u64 r38.1.seed)]]⟩∧(X=(n9,3))=False∧(X=(n9+1,4))=False∧n0≤n∧(∀ i ∈ ids0,H i=H0 i)∧Sep H n (oN v509 b.nodes::oI v510 b.sites::oS v511 b.outer::oW v512 b.inner::K0) ((n9+1,4)::(n9,3)::X::ids0)) (by refine⟨v500,v501,v502,v503,?_,?_,?_,?_,?_,?_,(by omega),hid,sp⟩<;>simp[hh,mX0,m3_13,m4_14,x3_13,x4_14,hnn,hn1,hn2,neX,dc498,dc507,List.range_succ,byteC]) ?_
   clear hh mX0 m3_13 m4_14 x3_13 x4_14
   rintro ρ H n513 ⟨v509,v510,v511,v512,hh,m3_13,m4_14,mX0,x3_13,x4_14,hnn,hid,sp⟩
   have hq_n513:=hnn
   have hn1:=Nat.le_succ_of_le hnn
   have hn2:=Nat.le_succ_of_le hn1
   obtain⟨hb514,h⟩:=h
   obtain⟨x515,ex515,h⟩:=atm h
   obtain⟨id516,els517,row518,W519,hq520,mo521,moL522,moR523,hrl524,hW525,hsub526,hni527,spr528,hcl529⟩:=Sep.rowF (q:=r25.2.toNat) (f:=(GNode.cells true)) sp hb514 ex515 rfl
   subst hq520
   obtain⟨c530,c531,c532,hq520⟩:=len3 (by simpa using hrl524)
   subst hq520
   replace spr528:Sep _ _ [(.c,c530,int x515.control),(.c,c531,int x515.parent),(.s [.c],c532,.list true (x515.links.map intC))] W519:=spr528
   obtain rfl:=Sep.cAt (K1:=[]) (K2:=[(.c,c531,int x515.parent),(.s [.c],c532,.list true (x515.links.map intC))]) spr528
   obtain rfl:=Sep.cAt (K1:=[(.c,int x515.control,int x515.control)]) (K2:=[(.s [.c],c532,.list true (x515.links.map intC))]) spr528
   have f533:=ix_arr (k:=.i64) (off:=0) (len:=b.nodes.length) kd_25 mo521 moL522 rfl hb514
   simp at hni527
   obtain⟨hb534,h⟩:=h
   obtain⟨v535,H536,n537,H538,hap539,hcv540,hidd541,hfr542,hst543,spN544,hfr545,hle546⟩:=Sep.rowAppF (d:=108) (xv:=(.list true ([0].map intC))) (x:=x515) (y:=(GNode.mk x515.control x515.parent (x515.links++[0]))) (ix:=r25.2) (q:=r25.2.toNat) (f:=(GNode.cells true)) (lp:=[.c,.c]) (lq:=[]) (li:=[.c]) (pre:=[int x515.control,int x515.parent]) (post:=[]) (es:=x515.links.map intC) (add:=[0].map intC) (i:=ty26) (id:=id516) (g:=b.nodes.length) sp rfl hb514 ex515 rfl rfl (by simp) rfl mo521 moR523 rfl kd_26 (by simp) (by simp) (by simp[srcOf]) (by simp[-one1,o1x]) (rowsP.flats (by simp) (by simp)) (by simp) (by simpa using hb534) rfl
   refine Runs.drawL Ty_ok 11 (fun H n=>H (n9,3)=some ⟨6,[[int b.roots,.arr id516 b.nodes.length 0 b.nodes.length,v510,int b.edges,v511,v512]]⟩∧H (n9+1,4)=some ⟨6,[zB]⟩∧H X=some ⟨3,[[.list false (r38.1.code.map byteC),int r38.1.pos,.v (.int .u64 r38.1.seed)]]⟩∧H id516=some ⟨3,els517⟩) [10] (.free 0 (.free 1 (.free 2 (.free 3 (.free 4 (.free 5 (.free 6 (.free 7 (.free 8 (.free 9 (.hard 10 (.fin) .stop))))))))))) (fun ρ H n=>ρ 3=pA n9 3∧ρ 4=pA (n9+1) 4∧ρ 99 = .arr id516 b.nodes.length 0 b.nodes.length∧ρ 100=int r25.2∧ρ 108=v535∧H536=H∧n537=n) draws (by decide) (by kernel_rfl) (by kernel_rfl) ?_ ?_
   ·refine RunT.free (.ptr (n9,3) 1 0 1) rfl rfl ⟨m3_13,m4_14,mX0,mo521⟩ (fun H n hS=>by obtain⟨m3_13,m4_14,mX0,mo521⟩:=hS;exact (by exact stepF_ok Ty_ok (by rw[stepF_loc];simp[hh,m3_13,m4_14,mX0,x3_13,x4_14,hnn,hn1,hn2,neX,mo521,moL522,moR523,hni527,f533,List.range_succ,byteC,-indexAddrF]))) ?_
    refine RunT.free (.arr id516 b.nodes.length 0 b.nodes.length) rfl rfl ⟨m3_13,m4_14,mX0,mo521⟩ (fun H n hS=>by obtain⟨m3_13,m4_14,mX0,mo521⟩:=hS;exact (by exact stepF_ok Ty_ok (by rw[stepF_loc];simp[hh,m3_13,m4_14,mX0,x3_13,x4_14,hnn,hn1,hn2,neX,mo521,moL522,moR523,hni527,f533,List.range_succ,byteC,-indexAddrF]))) ?_
    refine RunT.free (int r25.2) rfl rfl ⟨m3_13,m4_14,mX0,mo521⟩ (fun H n hS=>by obtain⟨m3_13,m4_14,mX0,mo521⟩:=hS;exact (by exact stepF_ok Ty_ok (by rw[stepF_loc];simp[hh,m3_13,m4_14,mX0,x3_13,x4_14,hnn,hn1,hn2,neX,mo521,moL522,moR523,hni527,f533,List.range_succ,byteC,-indexAddrF]))) ?_
    refine RunT.free (.ptr (n9,3) 1 0 1) rfl rfl ⟨m3_13,m4_14,mX0,mo521⟩ (fun H n hS=>by obtain⟨m3_13,m4_14,mX0,mo521⟩:=hS;exact (by exact stepF_ok Ty_ok (by rw[stepF_loc];simp[hh,m3_13,m4_14,mX0,x3_13,x4_14,hnn,hn1,hn2,neX,mo521,moL522,moR523,hni527,f533,List.range_succ,byteC,-indexAddrF]))) ?_
    refine RunT.free (.arr id516 b.nodes.length 0 b.nodes.length) rfl rfl ⟨m3_13,m4_14,mX0,mo521⟩ (fun H n hS=>by obtain⟨m3_13,m4_14,mX0,mo521⟩:=hS;exact (by exact stepF_ok Ty_ok (by rw[stepF_loc];simp[hh,m3_13,m4_14,mX0,x3_13,x4_14,hnn,hn1,hn2,neX,mo521,moL522,moR523,hni527,f533,List.range_succ,byteC,-indexAddrF]))) ?_
    refine RunT.free (int r25.2) rfl rfl ⟨m3_13,m4_14,mX0,mo521⟩ (fun H n hS=>by obtain⟨m3_13,m4_14,mX0,mo521⟩:=hS;exact (by exact stepF_ok Ty_ok (by rw[stepF_loc];simp[hh,m3_13,m4_14,mX0,x3_13,x4_14,hnn,hn1,hn2,neX,mo521,moL522,moR523,hni527,f533,List.range_succ,byteC,-indexAddrF]))) ?_
    refine RunT.free (.ptr id516 b.nodes.length r25.2.toNat 0) rfl rfl ⟨m3_13,m4_14,mX0,mo521⟩ (fun H n hS=>by obtain⟨m3_13,m4_14,mX0,mo521⟩:=hS;exact (by have f533:=ix_arr (k:=.i64) (off:=0) (len:=b.nodes.length) kd_25 mo521 moL522 rfl hb514;exact stepF_ok Ty_ok (by rw[stepF_loc];simp[hh,m3_13,m4_14,mX0,x3_13,x4_14,hnn,hn1,hn2,neX,mo521,moL522,moR523,hni527,f533,List.range_succ,byteC,-indexAddrF]))) ?_
    refine RunT.free (.ptr id516 b.nodes.length r25.2.toNat 2) rfl rfl ⟨m3_13,m4_14,mX0,mo521⟩ (fun H n hS=>by obtain⟨m3_13,m4_14,mX0,mo521⟩:=hS;exact (by exact stepF_ok Ty_ok (by rw[stepF_loc];simp[hh,m3_13,m4_14,mX0,x3_13,x4_14,hnn,hn1,hn2,neX,mo521,moL522,moR523,hni527,f533,List.range_succ,byteC,-indexAddrF]))) ?_
    refine RunT.free c532 rfl rfl ⟨m3_13,m4_14,mX0,mo521⟩ (fun H n hS=>by obtain⟨m3_13,m4_14,mX0,mo521⟩:=hS;exact (by exact stepF_ok Ty_ok (by rw[stepF_loc];simp[hh,m3_13,m4_14,mX0,x3_13,x4_14,hnn,hn1,hn2,neX,mo521,moL522,moR523,hni527,f533,List.range_succ,byteC,-indexAddrF]))) ?_
    refine RunT.free (.list true ([0].map intC)) rfl rfl ⟨m3_13,m4_14,mX0,mo521⟩ (fun H n hS=>by obtain⟨m3_13,m4_14,mX0,mo521⟩:=hS;exact (by exact stepF_ok Ty_ok (by rw[stepF_loc];simp[hh,m3_13,m4_14,mX0,x3_13,x4_14,hnn,hn1,hn2,neX,mo521,moL522,moR523,hni527,f533,List.range_succ,byteC,-indexAddrF]))) ?_
    refine⟨RunT.appIs (v:=c532) (xv:=(.list true ([0].map intC))) Ty_ok rfl rfl (by simp[hh,m3_13,m4_14,mX0,x3_13,x4_14,hnn,hn1,hn2,neX,mo521,moL522,moR523,hni527,f533,List.range_succ,byteC,-indexAddrF]) (by simp[hh,m3_13,m4_14,mX0,x3_13,x4_14,hnn,hn1,hn2,neX,mo521,moL522,moR523,hni527,f533,List.range_succ,byteC,-indexAddrF]) hap539 (fun _=>⟨(hfr542 _ (by simp)).trans m3_13,(hfr542 _ (by simp)).trans m4_14,(hfr542 _ (by simp)).trans mX0,hidd541.trans mo521⟩) ?_,trivial⟩
    exact RunT.fin (by refine⟨?_,?_,?_,?_,?_,rfl,rfl⟩<;>simp[hh,m3_13,m4_14,mX0,x3_13,x4_14,hnn,hn1,hn2,neX,mo521,moL522,moR523,hni527,f533,List.range_succ,byteC,-indexAddrF])
   rintro k' hk' ρ H n_ ⟨hq3_,hq4_,hq99_,hq100_,hq108_,rfl,rfl⟩
   have hh:=And.intro hq3_ (And.intro hq4_ (And.intro hq99_ (And.intro hq100_ hq108_)))
   have hid:∀ i ∈ ids0,H536 i=H0 i:=fun i hi=>(hfr542 i (by simp[hi])).trans (hid i hi)
   have hnn:n0≤n537:=by omega
   have hq_n537:=hnn
   have m3_13:=(hfr542 _ (by simp)).trans m3_13
   have m4_14:=(hfr542 _ (by simp)).trans m4_14
   have mX0:=(hfr542 _ (by simp)).trans mX0
   have mo548:=hidd541.trans mo521
   show evalK _ _ _ _ _ _ _ _ _ _ _
   simp only[List.drop_succ_cons,List.drop_zero]
   obtain⟨hb549,h⟩:=h
   have f550:=ix_arr (k:=.i64) (off:=0) (len:=b.nodes.length) kd_25 mo548 moL522 rfl hb514
   obtain⟨l551,el551,h⟩:=atm h
   simp[hh,m3_13,m4_14,mX0,x3_13,x4_14,hnn,hn1,hn2,neX,hni527,mo548,moL522,moR523,hcv540,f550,List.range_succ,byteC,-indexAddrF,-storeF,-cellsA]
   refine bindE_st hst543 ?_
   have hfr552:=fun i hi=>(hfr545 i hi).trans (hfr542 i hi).symm
   replace sp:Sep H538 n537 (oN (.arr id516 b.nodes.length 0 b.nodes.length) l551::oI v510 b.sites::oS v511 b.outer::oW v512 b.inner::K0) ((n9+1,4)::(n9,3)::X::ids0):=by rw[el551];exact spN544
   have hid:∀ i ∈ ids0,H538 i=H0 i:=fun i hi=>(hfr552 i (by simp[hi])).trans (hid i hi)
   have m3_13:=(hfr552 _ (by simp)).trans m3_13
   have m4_14:=(hfr552 _ (by simp)).trans m4_14
   have mX0:=(hfr552 _ (by simp)).trans mX0
   simp[hh,m3_13,m4_14,mX0,x3_13,x4_14,hnn,hn1,hn2,neX,hni527,hcv540,f550,List.range_succ,byteC,-indexAddrF]
   apply hk'
   refine Runs.cut (fun ρ H n=>∃ (v554 v555 v556 v557:AVal),(ρ 3=pA n9 3∧ρ 4=pA (n9+1) 4)∧H (n9,3)=some ⟨6,[[int b.roots,v554,v555,int b.edges,v556,v557]]⟩∧H (n9+1,4)=some ⟨6,[zB]⟩∧H X=some ⟨3,[[.list false (r38.1.code.map byteC),int r38.1.pos,.v (.int .u64 r38.1.seed)]]⟩∧(X=(n9,3))=False∧(X=(n9+1,4))=False∧n0≤n∧(∀ i ∈ ids0,H i=H0 i)∧Sep H n (oN v554 l551::oI v555 b.sites::oS v556 b.outer::oW v557 b.inner::K0) ((n9+1,4)::(n9,3)::X::ids0)) (by refine⟨.arr id516 b.nodes.length 0 b.nodes.length,v510,v511,v512,?_,?_,?_,?_,?_,?_,(by omega),hid,sp⟩<;>simp[hh,m3_13,m4_14,mX0,x3_13,x4_14,hnn,hn1,hn2,neX,hni527,hcv540,f550,List.range_succ,byteC,-indexAddrF]) ?_
   clear hh m3_13 m4_14 mX0 x3_13 x4_14 hni527 hcv540
   rintro ρ H n558 ⟨v554,v555,v556,v557,hh,m3_13,m4_14,mX0,x3_13,x4_14,hnn,hid,sp⟩
   have hq_n558:=hnn
   have hn1:=Nat.le_succ_of_le hnn
   have hn2:=Nat.le_succ_of_le hn1
   refine Runs.inBlock ?_
   refine zE fun k' hk'=>?_
   have f559:=Sep.oc sp
   have f560:=Sep.oc sp.f1
   have f561:=Sep.oc sp.f2
   have f562:=Sep.oc sp.f3
   simp[hh,m3_13,m4_14,mX0,x3_13,x4_14,hnn,hn1,hn2,neX,f559,f560,f561,f562,List.range_succ,byteC,-cellsA,-one1,cAx,o1x]
   apply hk'
   refine Runs.cut (fun ρ H n=>∃ (v563 v564 v565 v566:AVal),ρ 4=pA (n9+1) 4∧H (n9+1,4)=some ⟨6,[[int b.roots,v563,v564,int b.edges,v565,v566]]⟩∧H X=some ⟨3,[[.list false (r38.1.code.map byteC),int r38.1.pos,.v (.int .u64 r38.1.seed)]]⟩∧(X=(n9+1,4))=False∧n0≤n∧(∀ i ∈ ids0,H i=H0 i)∧Sep H n (oN v563 l551::oI v564 b.sites::oS v565 b.outer::oW v566 b.inner::K0) ((n9+1,4)::X::ids0)) (by refine⟨v554,v555,v556,v557,?_,?_,?_,?_,(by omega),(by intro i hi;have hlt:=h00 i (by simp[hi]);have hxx:i ≠ X:=fun e=>hxi (e ▸ hi);repeat (first | exact hid i hi | rw[Heap.get_set_ne _ _ hxx] | rw[Heap.get_set_ne _ _ (by rintro rfl;simp at hlt;omega)])),(Sep.sub (Sep.setVar (w:=(n9+1,4)) sp (by simp)) (by simp +contextual))⟩<;>simp[hh,m3_13,m4_14,mX0,x3_13,x4_14,hnn,hn1,hn2,neX,f559,f560,f561,f562,List.range_succ,byteC,-cellsA,-one1,cAx,o1x]) ?_
   clear hh m3_13 m4_14 mX0 x3_13 x4_14
   rintro ρ H n567 ⟨v563,v564,v565,v566,hh,m4_14,mX0,x4_14,hnn,hid,sp⟩
   have hq_n567:=hnn
   have hn1:=Nat.le_succ_of_le hnn
   have hn2:=Nat.le_succ_of_le hn1
   refine Runs.cut (fun ρ H n=>∃ (v568 v569 v570 v571:AVal),ρ 4=pA (n9+1) 4∧H (n9+1,4)=some ⟨6,[[int b.roots,v568,v569,int b.edges,v570,v571]]⟩∧H X=some ⟨3,[[.list false (r38.1.code.map byteC),int r38.1.pos,.v (.int .u64 r38.1.seed)]]⟩∧(X=(n9+1,4))=False∧n0≤n∧(∀ i ∈ ids0,H i=H0 i)∧Sep H n (oN v568 l551::oI v569 b.sites::oS v570 b.outer::oW v571 b.inner::K0) ((n9+1,4)::X::ids0)) (by refine⟨v563,v564,v565,v566,?_,?_,?_,?_,(by omega),hid,sp⟩<;>simp[hh,m4_14,mX0,x4_14,hnn,hn1,hn2,neX,List.range_succ,byteC]) ?_
   clear hh m4_14 mX0 x4_14
   rintro ρ H n572 ⟨v568,v569,v570,v571,hh,m4_14,mX0,x4_14,hnn,hid,sp⟩
   have hq_n572:=hnn
   have hn1:=Nat.le_succ_of_le hnn
   have hn2:=Nat.le_succ_of_le hn1
   refine Runs.frzIn sp (by simp) ?_
   rintro H573 sp hfr574
   replace sp:Sep H573 n572 (oE [.c,.c,.c] (GNode.cells true) v568 l551::oI v569 b.sites::oS v570 b.outer::oW v571 b.inner::K0) ((n9+1,4)::X::ids0):=sp
   have hid:∀ i ∈ ids0,H573 i=H0 i:=fun i hi=>(hfr574 i (by simp[hi])).trans (hid i hi)
   have m4_14:=(hfr574 _ (by simp)).trans m4_14
   have mX0:=(hfr574 _ (by simp)).trans mX0
   exact Runs.res1 Ty_ok (v:=.agg [int b.roots,v568,v569,int b.edges,v570,v571]) Tryd.func44 Tryd.results44 (by simp[hh,m4_14,mX0,x4_14,hnn,hn1,hn2,neX,resA,List.range_succ,byteC]) (hQ _ _ _ r38.1 _ (by simp[hh,m4_14,mX0,x4_14,hnn,hn1,hn2,neX,resA,List.range_succ,byteC]) (Sep.sub (Sep.pack (Fill.v _ (Fill.own (Fill.own (Fill.v _ (Fill.own (Fill.own Fill.nil)))))) sp) (by simp +contextual)) hid (by omega) ⟨(Big.mk b.roots l551 b.sites b.edges b.outer b.inner),h,rfl⟩)
  replace h:=h.2 dc507
  refine Runs.skip ?_
  refine Runs.inBlock ?_
  refine zE fun k' hk'=>?_
  have f577:=Sep.oc sp
  have f578:=Sep.oc sp.f1
  have f579:=Sep.oc sp.f2
  have f580:=Sep.oc sp.f3
  simp[hh,mX0,m3_13,m4_14,x3_13,x4_14,hnn,hn1,hn2,neX,f577,f578,f579,f580,dc498,dc507,List.range_succ,byteC,-cellsA,-one1,cAx,o1x]
  apply hk'
  refine Runs.cut (fun ρ H n=>∃ (v581 v582 v583 v584:AVal),ρ 4=pA (n9+1) 4∧H (n9+1,4)=some ⟨6,[[int b.roots,v581,v582,int b.edges,v583,v584]]⟩∧H X=some ⟨3,[[.list false (r38.1.code.map byteC),int r38.1.pos,.v (.int .u64 r38.1.seed)]]⟩∧(X=(n9+1,4))=False∧n0≤n∧(∀ i ∈ ids0,H i=H0 i)∧Sep H n (oN v581 b.nodes::oI v582 b.sites::oS v583 b.outer::oW v584 b.inner::K0) ((n9+1,4)::X::ids0)) (by refine⟨v500,v501,v502,v503,?_,?_,?_,?_,(by omega),(by intro i hi;have hlt:=h00 i (by simp[hi]);have hxx:i ≠ X:=fun e=>hxi (e ▸ hi);repeat (first | exact hid i hi | rw[Heap.get_set_ne _ _ hxx] | rw[Heap.get_set_ne _ _ (by rintro rfl;simp at hlt;omega)])),(Sep.sub (Sep.setVar (w:=(n9+1,4)) sp (by simp)) (by simp +contextual))⟩<;>simp[hh,mX0,m3_13,m4_14,x3_13,x4_14,hnn,hn1,hn2,neX,f577,f578,f579,f580,dc498,dc507,List.range_succ,byteC,-cellsA,-one1,cAx,o1x]) ?_
  clear hh mX0 m3_13 m4_14 x3_13 x4_14
  rintro ρ H n585 ⟨v581,v582,v583,v584,hh,m4_14,mX0,x4_14,hnn,hid,sp⟩
  have hq_n585:=hnn
  have hn1:=Nat.le_succ_of_le hnn
  have hn2:=Nat.le_succ_of_le hn1
  refine Runs.cut (fun ρ H n=>∃ (v586 v587 v588 v589:AVal),ρ 4=pA (n9+1) 4∧H (n9+1,4)=some ⟨6,[[int b.roots,v586,v587,int b.edges,v588,v589]]⟩∧H X=some ⟨3,[[.list false (r38.1.code.map byteC),int r38.1.pos,.v (.int .u64 r38.1.seed)]]⟩∧(X=(n9+1,4))=False∧n0≤n∧(∀ i ∈ ids0,H i=H0 i)∧Sep H n (oN v586 b.nodes::oI v587 b.sites::oS v588 b.outer::oW v589 b.inner::K0) ((n9+1,4)::X::ids0)) (by refine⟨v581,v582,v583,v584,?_,?_,?_,?_,(by omega),hid,sp⟩<;>simp[hh,m4_14,mX0,x4_14,hnn,hn1,hn2,neX,List.range_succ,byteC]) ?_
  clear hh m4_14 mX0 x4_14
  rintro ρ H n590 ⟨v586,v587,v588,v589,hh,m4_14,mX0,x4_14,hnn,hid,sp⟩
  have hq_n590:=hnn
  have hn1:=Nat.le_succ_of_le hnn
  have hn2:=Nat.le_succ_of_le hn1
  refine Runs.frzIn sp (by simp) ?_
  rintro H591 sp hfr592
  replace sp:Sep H591 n590 (oE [.c,.c,.c] (GNode.cells true) v586 b.nodes::oI v587 b.sites::oS v588 b.outer::oW v589 b.inner::K0) ((n9+1,4)::X::ids0):=sp
  have hid:∀ i ∈ ids0,H591 i=H0 i:=fun i hi=>(hfr592 i (by simp[hi])).trans (hid i hi)
  have m4_14:=(hfr592 _ (by simp)).trans m4_14
  have mX0:=(hfr592 _ (by simp)).trans mX0
  exact Runs.res1 Ty_ok (v:=.agg [int b.roots,v586,v587,int b.edges,v588,v589]) Tryd.func44 Tryd.results44 (by simp[hh,m4_14,mX0,x4_14,hnn,hn1,hn2,neX,resA,List.range_succ,byteC]) (hQ _ _ _ r38.1 _ (by simp[hh,m4_14,mX0,x4_14,hnn,hn1,hn2,neX,resA,List.range_succ,byteC]) (Sep.sub (Sep.pack (Fill.v _ (Fill.own (Fill.own (Fill.v _ (Fill.own (Fill.own Fill.nil)))))) sp) (by simp +contextual)) hid (by omega) ⟨b,h,rfl⟩)
 replace h:=h.2 dc498
 refine zE fun k' hk'=>?_
 obtain⟨c595,ec595,h⟩:=atm h
 have f596:=ib_eql (k:=.i64) ec595
 simp[hh,mX0,m3_13,m4_14,x3_13,x4_14,hnn,hn1,hn2,neX,f596,dc498,List.range_succ,byteC,-intBin]
 apply hk'
 refine Runs.ite (b:=c595) (by simp[hh,mX0,m3_13,m4_14,x3_13,x4_14,hnn,hn1,hn2,neX,dc498,List.range_succ,byteC]) (fun dc595=>?_) (fun dc595=>?_)
 ·replace h:=h.1 dc595
  refine zE fun k' hk'=>?_
  simp[hh,mX0,m3_13,m4_14,x3_13,x4_14,hnn,hn1,hn2,neX,dc498,dc595,List.range_succ,byteC]
  apply hk'
  refine Runs.cut (fun ρ H n=>∃ (v598 v599 v600 v601:AVal),(ρ 0 = .ptr X 1 0 0∧ρ 3=pA n9 3∧ρ 4=pA (n9+1) 4)∧H X=some ⟨3,[[.list false (r38.1.code.map byteC),int r38.1.pos,.v (.int .u64 r38.1.seed)]]⟩∧H (n9,3)=some ⟨6,[[int b.roots,v599,v600,int b.edges,v598,v601]]⟩∧H (n9+1,4)=some ⟨6,[zB]⟩∧(X=(n9,3))=False∧(X=(n9+1,4))=False∧n0≤n∧(∀ i ∈ ids0,H i=H0 i)∧Sep H n (oS v598 ([]:List Str)::oN v599 b.nodes::oI v600 b.sites::oW v601 b.inner::K0) ((n9+1,4)::(n9,3)::X::ids0)) (by refine⟨.arr (n504,113) 0 0 0,v500,v501,v503,?_,?_,?_,?_,?_,?_,(by omega),(by intro i hi;have hlt:=h00 i (by simp[hi]);have hxx:i ≠ X:=fun e=>hxi (e ▸ hi);repeat (first | exact hid i hi | rw[Heap.get_set_ne _ _ hxx] | rw[Heap.get_set_ne _ _ (by rintro rfl;simp at hlt;omega)])),(Sep.dr (Sep.f3 (Sep.setVar (w:=(n9,3)) (Sep.addEmpty (l:=[.c]) sp) (by simp))))⟩<;>simp[hh,mX0,m3_13,m4_14,x3_13,x4_14,hnn,hn1,hn2,neX,dc498,dc595,List.range_succ,byteC]) ?_
  clear hh mX0 m3_13 m4_14 x3_13 x4_14
  rintro ρ H n602 ⟨v598,v599,v600,v601,hh,mX0,m3_13,m4_14,x3_13,x4_14,hnn,hid,sp⟩
  have hq_n602:=hnn
  have hn1:=Nat.le_succ_of_le hnn
  have hn2:=Nat.le_succ_of_le hn1
  refine zE fun k' hk'=>?_
  simp[hh,mX0,m3_13,m4_14,x3_13,x4_14,hnn,hn1,hn2,neX,List.range_succ,byteC]
  apply hk'
  refine Runs.block ?_
  refine Runs.cut (fun ρ H n=>∃ (v603 v604 v605 v606:AVal),(ρ 0 = .ptr X 1 0 0∧ρ 3=pA n9 3∧ρ 4=pA (n9+1) 4∧ρ 6=int 0)∧H X=some ⟨3,[[.list false (r38.1.code.map byteC),int r38.1.pos,.v (.int .u64 r38.1.seed)]]⟩∧H (n9,3)=some ⟨6,[[int b.roots,v604,v605,int b.edges,v603,v606]]⟩∧H (n9+1,4)=some ⟨6,[zB]⟩∧(X=(n9,3))=False∧(X=(n9+1,4))=False∧n0≤n∧(∀ i ∈ ids0,H i=H0 i)∧Sep H n (oS v603 ([]:List Str)::oN v604 b.nodes::oI v605 b.sites::oW v606 b.inner::K0) ((n9+1,4)::(n9,3)::X::ids0)) (by refine⟨v598,v599,v600,v601,?_,?_,?_,?_,?_,?_,(by omega),hid,sp⟩<;>simp[hh,mX0,m3_13,m4_14,x3_13,x4_14,hnn,hn1,hn2,neX,List.range_succ,byteC]) ?_
  clear hh mX0 m3_13 m4_14 x3_13 x4_14
  rintro ρ H n607 ⟨v603,v604,v605,v606,hh,mX0,m3_13,m4_14,x3_13,x4_14,hnn,hid,sp⟩
  have hq_n607:=hnn
  have hn1:=Nat.le_succ_of_le hnn
  have hn2:=Nat.le_succ_of_le hn1
  refine Runs.frzIn sp.f1 (by simp) ?_
  rintro H608 sp hfr609
  replace sp:Sep H608 n607 (oE [.c,.c,.c] (GNode.cells true) v604 b.nodes::oS v603 ([]:List Str)::oI v605 b.sites::oW v606 b.inner::K0) ((n9+1,4)::(n9,3)::X::ids0):=sp
  have hid:∀ i ∈ ids0,H608 i=H0 i:=fun i hi=>(hfr609 i (by simp[hi])).trans (hid i hi)
  have mX0:=(hfr609 _ (by simp)).trans mX0
  have m3_13:=(hfr609 _ (by simp)).trans m3_13
  have m4_14:=(hfr609 _ (by simp)).trans m4_14
  refine Runs.loopW h (fun (sJ:Int × (List Int) × Int × Int × (List Str)) ρ H n=>match sJ with | (i627,w628,w629,w630,l631)=>∃ (v632 v633 v634 v635:AVal),(ρ 0 = .ptr X 1 0 0∧ρ 3=pA n9 3∧ρ 4=pA (n9+1) 4∧ρ 6=int i627)∧H X=some ⟨3,[[.list false (w628.map byteC),int w629,.v (.int .u64 w630)]]⟩∧H (n9,3)=some ⟨6,[[int b.roots,v632,v634,int b.edges,v633,v635]]⟩∧H (n9+1,4)=some ⟨6,[zB]⟩∧(X=(n9,3))=False∧(X=(n9+1,4))=False∧n0≤n∧(∀ i ∈ ids0,H i=H0 i)∧Sep H n (oE [.c,.c,.c] (GNode.cells true) v632 b.nodes::oS v633 l631::oI v634 b.sites::oW v635 b.inner::K0) ((n9+1,4)::(n9,3)::X::ids0)) (by refine⟨v604,v603,v605,v606,?_,?_,?_,?_,?_,?_,(by omega),hid,sp⟩<;>simp[hh,mX0,m3_13,m4_14,x3_13,x4_14,hnn,hn1,hn2,neX,List.range_succ,byteC]) ?_
  clear hh mX0 m3_13 m4_14 x3_13 x4_14
  rintro⟨i627,w628,w629,w630,l631⟩ ρ H n636 K h ⟨v632,v633,v634,v635,hh,mX0,m3_13,m4_14,x3_13,x4_14,hnn,hid,sp⟩ IH637
  have hq_n636:=hnn
  have hn1:=Nat.le_succ_of_le hnn
  have hn2:=Nat.le_succ_of_le hn1
  refine Runs.seq ?_
  refine zE fun k' hk'=>?_
  obtain⟨hb639,h⟩:=h
  obtain⟨r640,er640,h⟩:=atm h
  simp[hh,mX0,m3_13,m4_14,x3_13,x4_14,hnn,hn1,hn2,neX,List.range_succ,byteC]
  refine RunK.callDr (xsA:=[.ptr X 1 0 0,int 3]) (X:=X) (A:=[(n9+1,4),(n9,3)]) (B:=(ids0)) (M:=[]) (K0:=(oE [.c,.c,.c] (GNode.cells true) v632 b.nodes::oS v633 l631::oI v634 b.sites::oW v635 b.inner::K0)) Ty_ok (pickZ_ok (Cur.mk w628 w629 w630) 3 hb639) (.cons (Sub.refl _) (.cons (Sub.refl _) .nil)) e17 (by simp[hh,mX0,m3_13,m4_14,x3_13,x4_14,hnn,hn1,hn2,neX,List.range_succ,byteC]) (by simp[hh,mX0,m3_13,m4_14,x3_13,x4_14,hnn,hn1,hn2,neX,hxi,List.range_succ,byteC]) sp (by decide) (by decide) rfl (by simp[hh,mX0,m3_13,m4_14,x3_13,x4_14,hnn,hn1,hn2,neX,List.range_succ,byteC]) ?_
  rintro v641 H642 n643 _ _ ⟨rfl,rfl⟩ hmx sp hle645 hfr644
  rw[← er640] at hmx sp
  have mX0:H642 X=some ⟨3,[[.list false (r640.1.code.map byteC),int r640.1.pos,.v (.int .u64 r640.1.seed)]]⟩:=hmx
  have hid:∀ i ∈ ids0,H642 i=H0 i:=fun i hi=>(hfr644 i (by simp[hi])).trans (hid i hi)
  have hnn:n0≤n643:=by omega
  have hq_n643:=hnn
  have m3_13:=(hfr644 _ (by simp)).trans m3_13
  have m4_14:=(hfr644 _ (by simp)).trans m4_14
  replace sp:=Sep.scalar sp
  obtain⟨hv,sp⟩:=sp
  subst hv
  replace sp:Sep H642 n643 (oE [.c,.c,.c] (GNode.cells true) v632 b.nodes::oS v633 l631::oI v634 b.sites::oW v635 b.inner::K0) ((n9+1,4)::(n9,3)::X::ids0):=sp
  obtain⟨hb647,h⟩:=h
  obtain⟨v648,ev648,h⟩:=atm h
  have f649:=ib_add hb647 ev648
  obtain⟨c650,ec650,h⟩:=atm h
  have f651:=ib_lss (k:=.i64) ec650
  simp[hh,mX0,m3_13,m4_14,x3_13,x4_14,hnn,hn1,hn2,neX,f649,f651,List.range_succ,byteC,-intBin]
  apply hk'
  refine Runs.cut (fun ρ H n=>∃ (v652 v653 v654 v655:AVal),(ρ 0 = .ptr X 1 0 0∧ρ 3=pA n9 3∧ρ 4=pA (n9+1) 4∧ρ 6=int i627∧ρ 119=bool c650)∧H X=some ⟨3,[[.list false (r640.1.code.map byteC),int r640.1.pos,.v (.int .u64 r640.1.seed)]]⟩∧H (n9,3)=some ⟨6,[[int b.roots,v652,v654,int b.edges,v653,v655]]⟩∧H (n9+1,4)=some ⟨6,[zB]⟩∧(X=(n9,3))=False∧(X=(n9+1,4))=False∧n0≤n∧(∀ i ∈ ids0,H i=H0 i)∧Sep H n (oE [.c,.c,.c] (GNode.cells true) v652 b.nodes::oS v653 l631::oI v654 b.sites::oW v655 b.inner::K0) ((n9+1,4)::(n9,3)::X::ids0)) (by refine⟨v632,v633,v634,v635,?_,?_,?_,?_,?_,?_,(by omega),hid,sp⟩<;>simp[hh,mX0,m3_13,m4_14,x3_13,x4_14,hnn,hn1,hn2,neX,f649,f651,List.range_succ,byteC,-intBin]) ?_
  clear hh mX0 m3_13 m4_14 x3_13 x4_14
  rintro ρ H n656 ⟨v652,v653,v654,v655,hh,mX0,m3_13,m4_14,x3_13,x4_14,hnn,hid,sp⟩
  have hq_n656:=hnn
  have hn1:=Nat.le_succ_of_le hnn
  have hn2:=Nat.le_succ_of_le hn1
  refine Runs.ite (b:=c650) (by simp[hh,mX0,m3_13,m4_14,x3_13,x4_14,hnn,hn1,hn2,neX,List.range_succ,byteC]) (fun dc650=>?_) (fun dc650=>?_)
  ·replace h:=h.1 dc650
   refine Runs.skip ?_
   refine Runs.seq ?_
   refine Runs.block ?_
   refine Runs.evalDE Ty_ok kindOp_ok draws (by decide) (by kernel_rfl) fun k' hk'=>?_
   obtain⟨hb657,h⟩:=h
   obtain⟨v658,ev658,h⟩:=atm h
   have f659:=ib_add hb657 ev658
   obtain⟨hb660,h⟩:=h
   obtain⟨s661,es661,h⟩:=atm h
   have f662:=fun H=>sl_str (H:=H) (lo:=some (int i627)) (hi:=some (int v658)) (a:=i627) (b:=v658) (by simp[boundOf]) (by simp[boundOf]) kd_9 hb660 es661
   obtain⟨hb663,h⟩:=h
   obtain⟨v664,ev664,h⟩:=atm h
   have f665:=sb_add hb663 ev664
   obtain⟨hb666,h⟩:=h
   obtain⟨l667,el667,h⟩:=atm h
   simp[hh,mX0,m3_13,m4_14,x3_13,x4_14,hnn,hn1,hn2,neX,f659,f662,f665,dc650,List.range_succ,byteC,-intBin,-sliceF,-strBin,-appendF]
   refine bindD_append [] (oE [.c,.c,.c] (GNode.cells true) v652 b.nodes::oI v654 b.sites::oW v655 b.inner::K0) [[str v664]] [strC v664] sp.f1 kd_27 (by simp) (by simp) (by simp[List.range_succ,byteC]) (by simp[-one1,o1x]) (rows_one (Fill.v _ Fill.nil)) (by simp) (by simpa using hb666) ?_
   rintro v668 H669 n670 sp hfr671 hle672
   replace sp:Sep H669 n670 (oS v668 l667::oE [.c,.c,.c] (GNode.cells true) v652 b.nodes::oI v654 b.sites::oW v655 b.inner::K0) ((n9+1,4)::(n9,3)::X::ids0):=Sep.ap el667 sp
   have hid:∀ i ∈ ids0,H669 i=H0 i:=fun i hi=>(hfr671 i (by simp[hi])).trans (hid i hi)
   have hnn:n0≤n670:=by omega
   have hq_n670:=hnn
   have mX0:=(hfr671 _ (by simp)).trans mX0
   have m3_13:=(hfr671 _ (by simp)).trans m3_13
   have m4_14:=(hfr671 _ (by simp)).trans m4_14
   have f674:=Sep.oc sp
   simp[hh,mX0,m3_13,m4_14,x3_13,x4_14,hnn,hn1,hn2,neX,f659,f662,f665,f674,dc650,List.range_succ,byteC,-cellsA,-intBin,-sliceF,-strBin,-one1,cAx,o1x]
   apply hk'
   refine Runs.cut (fun ρ H n=>∃ (v675 v676 v677 v678:AVal),(ρ 0 = .ptr X 1 0 0∧ρ 3=pA n9 3∧ρ 4=pA (n9+1) 4∧ρ 6=int i627)∧H X=some ⟨3,[[.list false (r640.1.code.map byteC),int r640.1.pos,.v (.int .u64 r640.1.seed)]]⟩∧H (n9,3)=some ⟨6,[[int b.roots,v676,v677,int b.edges,v675,v678]]⟩∧H (n9+1,4)=some ⟨6,[zB]⟩∧(X=(n9,3))=False∧(X=(n9+1,4))=False∧n0≤n∧(∀ i ∈ ids0,H i=H0 i)∧Sep H n (oS v675 l667::oE [.c,.c,.c] (GNode.cells true) v676 b.nodes::oI v677 b.sites::oW v678 b.inner::K0) ((n9+1,4)::(n9,3)::X::ids0)) (by refine⟨v668,v652,v654,v655,?_,?_,?_,?_,?_,?_,(by omega),(by intro i hi;have hlt:=h00 i (by simp[hi]);have hxx:i ≠ X:=fun e=>hxi (e ▸ hi);repeat (first | exact hid i hi | rw[Heap.get_set_ne _ _ hxx] | rw[Heap.get_set_ne _ _ (by rintro rfl;simp at hlt;omega)])),(Sep.setVar (w:=(n9,3)) sp (by simp))⟩<;>simp[hh,mX0,m3_13,m4_14,x3_13,x4_14,hnn,hn1,hn2,neX,f659,f662,f665,f674,dc650,List.range_succ,byteC,-cellsA,-intBin,-sliceF,-strBin,-one1,cAx,o1x]) ?_
   clear hh mX0 m3_13 m4_14 x3_13 x4_14
   rintro ρ H n679 ⟨v675,v676,v677,v678,hh,mX0,m3_13,m4_14,x3_13,x4_14,hnn,hid,sp⟩
   have hq_n679:=hnn
   have hn1:=Nat.le_succ_of_le hnn
   have hn2:=Nat.le_succ_of_le hn1
   refine Runs.inBlock ?_
   refine zF fun k' hk'=>?_
   obtain⟨hb680,h⟩:=h
   obtain⟨v681,ev681,h⟩:=atm h
   have f682:=ib_add hb680 ev681
   simp[hh,mX0,m3_13,m4_14,x3_13,x4_14,hnn,hn1,hn2,neX,f682,List.range_succ,byteC,-intBin]
   apply hk'
   refine IH637 (v681,r640.1.code,r640.1.pos,r640.1.seed,l667) _ _ _ h (by refine⟨v676,v675,v677,v678,?_,?_,?_,?_,?_,?_,(by omega),hid,sp.f1⟩<;>simp[hh,mX0,m3_13,m4_14,x3_13,x4_14,hnn,hn1,hn2,neX,List.range_succ,byteC])
  replace h:=h.2 dc650
  refine Runs.exit rfl ?_
  refine Runs.inBlock ?_
  refine zE fun k' hk'=>?_
  have f683:=Sep.oc sp
  have f684:=Sep.oc sp.f2
  have f685:=Sep.oc sp.f1
  have f686:=Sep.oc sp.f3
  simp[hh,mX0,m3_13,m4_14,x3_13,x4_14,hnn,hn1,hn2,neX,f683,f684,f685,f686,dc650,List.range_succ,byteC,-cellsA,-one1,cAx,o1x]
  apply hk'
  refine Runs.cut (fun ρ H n=>∃ (v687 v688 v689 v690:AVal),ρ 4=pA (n9+1) 4∧H (n9+1,4)=some ⟨6,[[int b.roots,v687,v689,int b.edges,v688,v690]]⟩∧H X=some ⟨3,[[.list false (r640.1.code.map byteC),int r640.1.pos,.v (.int .u64 r640.1.seed)]]⟩∧(X=(n9+1,4))=False∧n0≤n∧(∀ i ∈ ids0,H i=H0 i)∧Sep H n (oE [.c,.c,.c] (GNode.cells true) v687 b.nodes::oS v688 l631::oI v689 b.sites::oW v690 b.inner::K0) ((n9+1,4)::X::ids0)) (by refine⟨v652,v653,v654,v655,?_,?_,?_,?_,(by omega),(by intro i hi;have hlt:=h00 i (by simp[hi]);have hxx:i ≠ X:=fun e=>hxi (e ▸ hi);repeat (first | exact hid i hi | rw[Heap.get_set_ne _ _ hxx] | rw[Heap.get_set_ne _ _ (by rintro rfl;simp at hlt;omega)])),(Sep.sub (Sep.setVar (w:=(n9+1,4)) sp (by simp)) (by simp +contextual))⟩<;>simp[hh,mX0,m3_13,m4_14,x3_13,x4_14,hnn,hn1,hn2,neX,f683,f684,f685,f686,dc650,List.range_succ,byteC,-cellsA,-one1,cAx,o1x]) ?_
  clear hh mX0 m3_13 m4_14 x3_13 x4_14
  rintro ρ H n691 ⟨v687,v688,v689,v690,hh,m4_14,mX0,x4_14,hnn,hid,sp⟩
  have hq_n691:=hnn
  have hn1:=Nat.le_succ_of_le hnn
  have hn2:=Nat.le_succ_of_le hn1
  exact Runs.res1 Ty_ok (v:=.agg [int b.roots,v687,v689,int b.edges,v688,v690]) Tryd.func44 Tryd.results44 (by simp[hh,m4_14,mX0,x4_14,hnn,hn1,hn2,neX,resA,List.range_succ,byteC]) (hQ _ _ _ r640.1 _ (by simp[hh,m4_14,mX0,x4_14,hnn,hn1,hn2,neX,resA,List.range_succ,byteC]) (Sep.sub (Sep.pack (Fill.v _ (Fill.own (Fill.own (Fill.v _ (Fill.own (Fill.own Fill.nil)))))) sp.f2.f1) (by simp +contextual)) hid (by omega) ⟨(Big.mk b.roots b.nodes b.sites b.edges l631 b.inner),h,rfl⟩)
 replace h:=h.2 dc595
 refine zE fun k' hk'=>?_
 obtain⟨c693,ec693,h⟩:=atm h
 have f694:=ib_eql (k:=.i64) ec693
 simp[hh,mX0,m3_13,m4_14,x3_13,x4_14,hnn,hn1,hn2,neX,f694,dc498,dc595,List.range_succ,byteC,-intBin]
 apply hk'
 refine Runs.ite (b:=c693) (by simp[hh,mX0,m3_13,m4_14,x3_13,x4_14,hnn,hn1,hn2,neX,dc498,dc595,List.range_succ,byteC]) (fun dc693=>?_) (fun dc693=>?_)
 ·replace h:=h.1 dc693
  refine Runs.block ?_
  refine Runs.cut (fun ρ H n=>∃ (v695 v696 v697 v698:AVal),(ρ 3=pA n9 3∧ρ 4=pA (n9+1) 4)∧H (n9,3)=some ⟨6,[[int b.roots,v695,v696,int b.edges,v697,v698]]⟩∧H (n9+1,4)=some ⟨6,[zB]⟩∧H X=some ⟨3,[[.list false (r38.1.code.map byteC),int r38.1.pos,.v (.int .u64 r38.1.seed)]]⟩∧(X=(n9,3))=False∧(X=(n9+1,4))=False∧n0≤n∧(∀ i ∈ ids0,H i=H0 i)∧Sep H n (oN v695 b.nodes::oI v696 b.sites::oS v697 b.outer::oW v698 b.inner::K0) ((n9+1,4)::(n9,3)::X::ids0)) (by refine⟨v500,v501,v502,v503,?_,?_,?_,?_,?_,?_,(by omega),hid,sp⟩<;>simp[hh,mX0,m3_13,m4_14,x3_13,x4_14,hnn,hn1,hn2,neX,dc498,dc595,dc693,List.range_succ,byteC]) ?_
  clear hh mX0 m3_13 m4_14 x3_13 x4_14
  rintro ρ H n699 ⟨v695,v696,v697,v698,hh,m3_13,m4_14,mX0,x3_13,x4_14,hnn,hid,sp⟩
  have hq_n699:=hnn
  have hn1:=Nat.le_succ_of_le hnn
  have hn2:=Nat.le_succ_of_le hn1
  refine Runs.frzIn sp (by simp) ?_
  rintro H700 sp hfr701
  replace sp:Sep H700 n699 (oE [.c,.c,.c] (GNode.cells true) v695 b.nodes::oI v696 b.sites::oS v697 b.outer::oW v698 b.inner::K0) ((n9+1,4)::(n9,3)::X::ids0):=sp
  have hid:∀ i ∈ ids0,H700 i=H0 i:=fun i hi=>(hfr701 i (by simp[hi])).trans (hid i hi)
  have m3_13:=(hfr701 _ (by simp)).trans m3_13
  have m4_14:=(hfr701 _ (by simp)).trans m4_14
  have mX0:=(hfr701 _ (by simp)).trans mX0
  refine Runs.loopW h (fun (sJ:(List GNode)) ρ H n=>match sJ with | l714=>∃ (v715 v716 v717 v718:AVal),(ρ 3=pA n9 3∧ρ 4=pA (n9+1) 4)∧H (n9,3)=some ⟨6,[[int b.roots,v715,v716,int b.edges,v717,v718]]⟩∧H (n9+1,4)=some ⟨6,[zB]⟩∧H X=some ⟨3,[[.list false (r38.1.code.map byteC),int r38.1.pos,.v (.int .u64 r38.1.seed)]]⟩∧(X=(n9,3))=False∧(X=(n9+1,4))=False∧n0≤n∧(∀ i ∈ ids0,H i=H0 i)∧Sep H n (oE [.c,.c,.c] (GNode.cells true) v715 l714::oI v716 b.sites::oS v717 b.outer::oW v718 b.inner::K0) ((n9+1,4)::(n9,3)::X::ids0)) (by refine⟨v695,v696,v697,v698,?_,?_,?_,?_,?_,?_,(by omega),hid,sp⟩<;>simp[hh,m3_13,m4_14,mX0,x3_13,x4_14,hnn,hn1,hn2,neX,List.range_succ,byteC]) ?_
  clear hh m3_13 m4_14 mX0 x3_13 x4_14
  rintro l714 ρ H n719 K h ⟨v715,v716,v717,v718,hh,m3_13,m4_14,mX0,x3_13,x4_14,hnn,hid,sp⟩ IH720
  have hq_n719:=hnn
  have hn1:=Nat.le_succ_of_le hnn
  have hn2:=Nat.le_succ_of_le hn1
  refine Runs.seq ?_
  refine zE fun k' hk'=>?_
  obtain⟨J722,hJ723,hr724⟩:=h
  have fin730:∀ (sJ:Bool) (ρ:Env) (H:Heap) (n:Nat),J722 sJ→(match sJ with | b725=>∃ (v726 v727 v728 v729:AVal),(ρ 3=pA n9 3∧ρ 4=pA (n9+1) 4∧ρ 143=bool b725)∧H (n9,3)=some ⟨6,[[int b.roots,v726,v727,int b.edges,v728,v729]]⟩∧H (n9+1,4)=some ⟨6,[zB]⟩∧H X=some ⟨3,[[.list false (r38.1.code.map byteC),int r38.1.pos,.v (.int .u64 r38.1.seed)]]⟩∧(X=(n9,3))=False∧(X=(n9+1,4))=False∧n0≤n∧(∀ i ∈ ids0,H i=H0 i)∧Sep H n (oE [.c,.c,.c] (GNode.cells true) v726 l714::oI v727 b.sites::oS v728 b.outer::oW v729 b.inner::K0) ((n9+1,4)::(n9,3)::X::ids0))→Runs Tryd.prog 44 161 k' ρ H n Q:=by
   rintro b725 ρ H n731 h ⟨v726,v727,v728,v729,hh,m3_13,m4_14,mX0,x3_13,x4_14,hnn,hid,sp⟩
   have hq_n731:=hnn
   have hn1:=Nat.le_succ_of_le hnn
   have hn2:=Nat.le_succ_of_le hn1
   replace h:=hr724 _ h
   apply hk'
   refine Runs.ite (b:=b725) (by simp[hh,m3_13,m4_14,mX0,x3_13,x4_14,hnn,hn1,hn2,neX,List.range_succ,byteC]) (fun db725=>?_) (fun db725=>?_)
   ·replace h:=h.1 db725
    refine Runs.skip ?_
    refine Runs.block ?_
    refine Runs.evalDE Ty_ok kindOp_ok draws (by decide) (by kernel_rfl) fun k' hk'=>?_
    obtain⟨hb732,h⟩:=h
    obtain⟨id733,hv,mo734,ln735,ni736⟩:=Sep.openF sp (by simp) hb732
    subst hv
    simp at ni736
    obtain⟨x737,ex737,h⟩:=atm h
    have f738:=fun H (hm:H id733=some ⟨3,l714.map (GNode.cells true)⟩)=>ix_arr (H:=H) (k:=.i64) (off:=0) (len:=l714.length) (g:=l714.length) kd_25 hm (by simp) rfl hb732
    have f739:=at_some (q:=0) hb732 ex737 rfl
    obtain⟨hb740,h⟩:=h
    obtain⟨x741,ex741,h⟩:=atm h
    have hq742:=ex737.trans ex741.symm
    subst hq742
    have f743:=fun H (hm:H id733=some ⟨3,l714.map (GNode.cells true)⟩)=>ix_arr (H:=H) (k:=.i64) (off:=0) (len:=l714.length) (g:=l714.length) kd_25 hm (by simp) rfl hb740
    have f744:=at_some (q:=0) hb740 ex737 rfl
    obtain⟨hb745,h⟩:=h
    obtain⟨l746,el746,h⟩:=atm h
    simp[hh,m3_13,m4_14,mX0,x3_13,x4_14,hnn,hn1,hn2,neX,mo734,ni736,f738,f739,f743,f744,db725,List.range_succ,byteC,-indexAddrF,-appendF]
    refine bindD_append [] (oI v727 b.sites::oS v728 b.outer::oW v729 b.inner::K0) [[int x737.control,int (-1),.list true (x737.links.map intC)]] [(GNode.cells true) (GNode.mk x737.control (-1) x737.links)] sp kd_25 (by simp) (by simp) (by simp[List.range_succ,byteC]) (by simp[-one1,o1x]) (rows_one (Fill.v _ (Fill.v _ (Fill.i (by simp) Fill.nil)))) (by simp) (by simpa using hb745) ?_
    rintro v747 H748 n749 sp hfr750 hle751
    replace sp:Sep H748 n749 (oE [.c,.c,.c] (GNode.cells true) v747 l746::oI v727 b.sites::oS v728 b.outer::oW v729 b.inner::K0) ((n9+1,4)::(n9,3)::X::ids0):=Sep.ap el746 sp
    have hid:∀ i ∈ ids0,H748 i=H0 i:=fun i hi=>(hfr750 i (by simp[hi])).trans (hid i hi)
    have hnn:n0≤n749:=by omega
    have hq_n749:=hnn
    have m3_13:=(hfr750 _ (by simp)).trans m3_13
    have m4_14:=(hfr750 _ (by simp)).trans m4_14
    have mX0:=(hfr750 _ (by simp)).trans mX0
    have f753:=Sep.oc sp
    simp[hh,m3_13,m4_14,mX0,x3_13,x4_14,hnn,hn1,hn2,neX,ni736,f738,f739,f743,f744,f753,db725,List.range_succ,byteC,-cellsA,-indexAddrF,-one1,cAx,o1x]
    apply hk'
    refine Runs.cut (fun ρ H n=>∃ (v754 v755 v756 v757:AVal),(ρ 3=pA n9 3∧ρ 4=pA (n9+1) 4)∧H (n9,3)=some ⟨6,[[int b.roots,v754,v755,int b.edges,v756,v757]]⟩∧H (n9+1,4)=some ⟨6,[zB]⟩∧H X=some ⟨3,[[.list false (r38.1.code.map byteC),int r38.1.pos,.v (.int .u64 r38.1.seed)]]⟩∧(X=(n9,3))=False∧(X=(n9+1,4))=False∧n0≤n∧(∀ i ∈ ids0,H i=H0 i)∧Sep H n (oE [.c,.c,.c] (GNode.cells true) v754 l746::oI v755 b.sites::oS v756 b.outer::oW v757 b.inner::K0) ((n9+1,4)::(n9,3)::X::ids0)) (by refine⟨v747,v727,v728,v729,?_,?_,?_,?_,?_,?_,(by omega),(by intro i hi;have hlt:=h00 i (by simp[hi]);have hxx:i ≠ X:=fun e=>hxi (e ▸ hi);repeat (first | exact hid i hi | rw[Heap.get_set_ne _ _ hxx] | rw[Heap.get_set_ne _ _ (by rintro rfl;simp at hlt;omega)])),(Sep.setVar (w:=(n9,3)) sp (by simp))⟩<;>simp[hh,m3_13,m4_14,mX0,x3_13,x4_14,hnn,hn1,hn2,neX,ni736,f738,f739,f743,f744,f753,db725,List.range_succ,byteC,-cellsA,-indexAddrF,-one1,cAx,o1x]) ?_
    clear hh m3_13 m4_14 mX0 x3_13 x4_14 ni736
    rintro ρ H n758 ⟨v754,v755,v756,v757,hh,m3_13,m4_14,mX0,x3_13,x4_14,hnn,hid,sp⟩
    have hq_n758:=hnn
    have hn1:=Nat.le_succ_of_le hnn
    have hn2:=Nat.le_succ_of_le hn1
    refine Runs.inBlock ?_
    refine IH720 (l746) _ _ _ h (by refine⟨v754,v755,v756,v757,?_,?_,?_,?_,?_,?_,(by omega),hid,sp⟩<;>simp[hh,m3_13,m4_14,mX0,x3_13,x4_14,hnn,hn1,hn2,neX,List.range_succ,byteC])
   replace h:=h.2 db725
   refine Runs.exit rfl ?_
   refine Runs.inBlock ?_
   refine zE fun k' hk'=>?_
   have f759:=Sep.oc sp
   have f760:=Sep.oc sp.f1
   have f761:=Sep.oc sp.f2
   have f762:=Sep.oc sp.f3
   simp[hh,m3_13,m4_14,mX0,x3_13,x4_14,hnn,hn1,hn2,neX,f759,f760,f761,f762,db725,List.range_succ,byteC,-cellsA,-one1,cAx,o1x]
   apply hk'
   refine Runs.cut (fun ρ H n=>∃ (v763 v764 v765 v766:AVal),ρ 4=pA (n9+1) 4∧H (n9+1,4)=some ⟨6,[[int b.roots,v763,v764,int b.edges,v765,v766]]⟩∧H X=some ⟨3,[[.list false (r38.1.code.map byteC),int r38.1.pos,.v (.int .u64 r38.1.seed)]]⟩∧(X=(n9+1,4))=False∧n0≤n∧(∀ i ∈ ids0,H i=H0 i)∧Sep H n (oE [.c,.c,.c] (GNode.cells true) v763 l714::oI v764 b.sites::oS v765 b.outer::oW v766 b.inner::K0) ((n9+1,4)::X::ids0)) (by refine⟨v726,v727,v728,v729,?_,?_,?_,?_,(by omega),(by intro i hi;have hlt:=h00 i (by simp[hi]);have hxx:i ≠ X:=fun e=>hxi (e ▸ hi);repeat (first | exact hid i hi | rw[Heap.get_set_ne _ _ hxx] | rw[Heap.get_set_ne _ _ (by rintro rfl;simp at hlt;omega)])),(Sep.sub (Sep.setVar (w:=(n9+1,4)) sp (by simp)) (by simp +contextual))⟩<;>simp[hh,m3_13,m4_14,mX0,x3_13,x4_14,hnn,hn1,hn2,neX,f759,f760,f761,f762,db725,List.range_succ,byteC,-cellsA,-one1,cAx,o1x]) ?_
   clear hh m3_13 m4_14 mX0 x3_13 x4_14
   rintro ρ H n767 ⟨v763,v764,v765,v766,hh,m4_14,mX0,x4_14,hnn,hid,sp⟩
   have hq_n767:=hnn
   have hn1:=Nat.le_succ_of_le hnn
   have hn2:=Nat.le_succ_of_le hn1
   exact Runs.res1 Ty_ok (v:=.agg [int b.roots,v763,v764,int b.edges,v765,v766]) Tryd.func44 Tryd.results44 (by simp[hh,m4_14,mX0,x4_14,hnn,hn1,hn2,neX,resA,List.range_succ,byteC]) (hQ _ _ _ r38.1 _ (by simp[hh,m4_14,mX0,x4_14,hnn,hn1,hn2,neX,resA,List.range_succ,byteC]) (Sep.sub (Sep.pack (Fill.v _ (Fill.own (Fill.own (Fill.v _ (Fill.own (Fill.own Fill.nil)))))) sp) (by simp +contextual)) hid (by omega) ⟨(Big.mk b.roots l714 b.sites b.edges b.outer b.inner),h,rfl⟩)
  replace h:=hJ723
  obtain⟨len769,elen769,h⟩:=atm h
  have f770:=len_own (Sep.len (m:=len769) sp kd_25 (by rw[elen769,List.length_map]))
  obtain⟨c771,ec771,h⟩:=atm h
  have f772:=ib_gtr (k:=.i64) ec771
  rcases Bool.eq_false_or_eq_true c771 with dc771 | dc771
  ·replace h:=h.1 dc771
   obtain⟨len773,elen773,h⟩:=atm h
   have hq774:=elen769.trans elen773.symm
   subst hq774
   have f775:=len_own (Sep.len (m:=len769) sp kd_25 (by rw[elen769,List.length_map]))
   obtain⟨c776,ec776,h⟩:=atm h
   have f777:=ib_lss (k:=.i64) ec776
   simp[hh,m3_13,m4_14,mX0,x3_13,x4_14,hnn,hn1,hn2,neX,f770,f772,f775,f777,dc771,List.range_succ,byteC,-intBin,-lenF]
   exact fin730 (c776) _ _ _ h (by refine⟨v715,v716,v717,v718,?_,?_,?_,?_,?_,?_,(by omega),hid,sp⟩<;>simp[hh,m3_13,m4_14,mX0,x3_13,x4_14,hnn,hn1,hn2,neX,f770,f772,f775,f777,dc771,List.range_succ,byteC,-intBin,-lenF])
  replace h:=h.2 dc771
  simp[hh,m3_13,m4_14,mX0,x3_13,x4_14,hnn,hn1,hn2,neX,f770,f772,dc771,List.range_succ,byteC,-intBin,-lenF]
  exact fin730 (false) _ _ _ h (by refine⟨v715,v716,v717,v718,?_,?_,?_,?_,?_,?_,(by omega),hid,sp⟩<;>simp[hh,m3_13,m4_14,mX0,x3_13,x4_14,hnn,hn1,hn2,neX,f770,f772,dc771,List.range_succ,byteC,-intBin,-lenF])
 replace h:=h.2 dc693
 refine Runs.skip ?_
 refine Runs.inBlock ?_
 refine zE fun k' hk'=>?_
 have f778:=Sep.oc sp
 have f779:=Sep.oc sp.f1
 have f780:=Sep.oc sp.f2
 have f781:=Sep.oc sp.f3
 simp[hh,mX0,m3_13,m4_14,x3_13,x4_14,hnn,hn1,hn2,neX,f778,f779,f780,f781,dc498,dc595,dc693,List.range_succ,byteC,-cellsA,-one1,cAx,o1x]
 apply hk'
 refine Runs.cut (fun ρ H n=>∃ (v782 v783 v784 v785:AVal),ρ 4=pA (n9+1) 4∧H (n9+1,4)=some ⟨6,[[int b.roots,v782,v783,int b.edges,v784,v785]]⟩∧H X=some ⟨3,[[.list false (r38.1.code.map byteC),int r38.1.pos,.v (.int .u64 r38.1.seed)]]⟩∧(X=(n9+1,4))=False∧n0≤n∧(∀ i ∈ ids0,H i=H0 i)∧Sep H n (oN v782 b.nodes::oI v783 b.sites::oS v784 b.outer::oW v785 b.inner::K0) ((n9+1,4)::X::ids0)) (by refine⟨v500,v501,v502,v503,?_,?_,?_,?_,(by omega),(by intro i hi;have hlt:=h00 i (by simp[hi]);have hxx:i ≠ X:=fun e=>hxi (e ▸ hi);repeat (first | exact hid i hi | rw[Heap.get_set_ne _ _ hxx] | rw[Heap.get_set_ne _ _ (by rintro rfl;simp at hlt;omega)])),(Sep.sub (Sep.setVar (w:=(n9+1,4)) sp (by simp)) (by simp +contextual))⟩<;>simp[hh,mX0,m3_13,m4_14,x3_13,x4_14,hnn,hn1,hn2,neX,f778,f779,f780,f781,dc498,dc595,dc693,List.range_succ,byteC,-cellsA,-one1,cAx,o1x]) ?_
 clear hh mX0 m3_13 m4_14 x3_13 x4_14
 rintro ρ H n786 ⟨v782,v783,v784,v785,hh,m4_14,mX0,x4_14,hnn,hid,sp⟩
 have hq_n786:=hnn
 have hn1:=Nat.le_succ_of_le hnn
 have hn2:=Nat.le_succ_of_le hn1
 refine Runs.cut (fun ρ H n=>∃ (v787 v788 v789 v790:AVal),ρ 4=pA (n9+1) 4∧H (n9+1,4)=some ⟨6,[[int b.roots,v787,v788,int b.edges,v789,v790]]⟩∧H X=some ⟨3,[[.list false (r38.1.code.map byteC),int r38.1.pos,.v (.int .u64 r38.1.seed)]]⟩∧(X=(n9+1,4))=False∧n0≤n∧(∀ i ∈ ids0,H i=H0 i)∧Sep H n (oN v787 b.nodes::oI v788 b.sites::oS v789 b.outer::oW v790 b.inner::K0) ((n9+1,4)::X::ids0)) (by refine⟨v782,v783,v784,v785,?_,?_,?_,?_,(by omega),hid,sp⟩<;>simp[hh,m4_14,mX0,x4_14,hnn,hn1,hn2,neX,List.range_succ,byteC]) ?_
 clear hh m4_14 mX0 x4_14
 rintro ρ H n791 ⟨v787,v788,v789,v790,hh,m4_14,mX0,x4_14,hnn,hid,sp⟩
 have hq_n791:=hnn
 have hn1:=Nat.le_succ_of_le hnn
 have hn2:=Nat.le_succ_of_le hn1
 refine Runs.frzIn sp (by simp) ?_
 rintro H792 sp hfr793
 replace sp:Sep H792 n791 (oE [.c,.c,.c] (GNode.cells true) v787 b.nodes::oI v788 b.sites::oS v789 b.outer::oW v790 b.inner::K0) ((n9+1,4)::X::ids0):=sp
 have hid:∀ i ∈ ids0,H792 i=H0 i:=fun i hi=>(hfr793 i (by simp[hi])).trans (hid i hi)
 have m4_14:=(hfr793 _ (by simp)).trans m4_14
 have mX0:=(hfr793 _ (by simp)).trans mX0
 exact Runs.res1 Ty_ok (v:=.agg [int b.roots,v787,v788,int b.edges,v789,v790]) Tryd.func44 Tryd.results44 (by simp[hh,m4_14,mX0,x4_14,hnn,hn1,hn2,neX,resA,List.range_succ,byteC]) (hQ _ _ _ r38.1 _ (by simp[hh,m4_14,mX0,x4_14,hnn,hn1,hn2,neX,resA,List.range_succ,byteC]) (Sep.sub (Sep.pack (Fill.v _ (Fill.own (Fill.own (Fill.v _ (Fill.own (Fill.own Fill.nil)))))) sp) (by simp +contextual)) hid (by omega) ⟨b,h,rfl⟩)
theorem harmedR_ok (c:Cur) (b:Big) (hp:harmedR_pre c b)  (v0:AVal):DrawS Tryd.prog 44 (fun p=>[p,v0]) 3 (fun s=>[.list false (s.code.map byteC),int s.pos,.v (.int .u64 s.seed)]) c [(.a [.c,.s [.c,.c,.s [.c]],.s [.c],.c,.s [.c],.s [.c,.c]],v0,.agg (bC true b))] (.a [.c,.s [.c,.c,.c],.s [.c],.c,.s [.c],.s [.c,.c]]) (fun s' r=>∃ y:Cur × Big,harmedR c b y∧s'=y.1∧r = .agg (bC true y.2)):=(harmedR_walk c b v0 _ (harmedR_vc c b hp)).mono (by rintro s' _ ⟨y,hz,rfl⟩;exact⟨(s',y),hz,rfl,rfl⟩)
theorem e16:Ent Tryd.prog 16:=Ent.of Tryd.func16 (by kernel_rfl) rfl
set_option maxHeartbeats 2000000 in
theorem bigraphR_walk (c:Cur) (sig:List Control) (most:Int) (Z:(Cur × Big)→Prop) (h:bigraphR_wp c sig most Z):DrawS Tryd.prog 16 (fun p=>[p,.list false (sig.map Control.cells),int most]) 3 (fun s=>[.list false (s.code.map byteC),int s.pos,.v (.int .u64 s.seed)]) c [] (.a [.c,.s [.c,.c,.c],.s [.c],.c,.s [.c],.s [.c,.c]]) (fun s' r=>∃ y:Big,Z (s',y)∧r = .agg (bC true y)):=by
 unfold bigraphR_wp at h
 refine DrawS.of Tryd.func16 rfl Tryd.ntmps16 (fun _=>by simp) fun X H0 n0 K0 ids0 hX hxi sp Q hQ=>?_
 have h00:=sp.1
 have lX:X.1<n0:=h00 X (by simp)
 have neX:∀ m d,n0≤m→(X=(m,d))=False:=fun m d hm=>by simp only[eq_iff_iff,iff_false];rintro rfl;simp at lX;omega
 have hid:∀ i ∈ ids0,H0 i=H0 i:=fun _ _=>rfl
 have hnn:n0≤n0:=Nat.le_refl _
 have hn1:=Nat.le_succ_of_le hnn
 have hn2:=Nat.le_succ_of_le hn1
 replace sp:Sep H0 n0 (K0) (X::ids0):=sp
 refine Runs.cut (fun ρ H n=>(ρ 0 = .ptr X 1 0 0∧ρ 1 = .list false (sig.map Control.cells)∧ρ 2=int most)∧H X=some ⟨3,[[.list false (c.code.map byteC),int c.pos,.v (.int .u64 c.seed)]]⟩∧n0≤n∧(∀ i ∈ ids0,H i=H0 i)∧Sep H n (K0) (X::ids0)) (by refine⟨?_,?_,(by omega),hid,sp⟩<;>simp[hX,hnn,hn1,hn2,neX,byteC]) ?_
 rintro ρ H n1 ⟨hh,mX0,hnn,hid,sp⟩
 have hq_n1:=hnn
 have hn1:=Nat.le_succ_of_le hnn
 have hn2:=Nat.le_succ_of_le hn1
 refine zE fun k' hk'=>?_
 simp[hh,mX0,hnn,hn1,hn2,neX,byteC]
 apply hk'
 refine Runs.cut (fun ρ H n=>(ρ 0 = .ptr X 1 0 0∧ρ 1 = .list false (sig.map Control.cells)∧ρ 2=int most∧ρ 6=pA n1 6)∧H X=some ⟨3,[[.list false (c.code.map byteC),int c.pos,.v (.int .u64 c.seed)]]⟩∧H (n1,6)=some ⟨6,[zB]⟩∧(X=(n1,6))=False∧n0≤n∧(∀ i ∈ ids0,H i=H0 i)∧Sep H n (K0) ((n1,6)::X::ids0)) (by refine⟨?_,?_,?_,?_,(by omega),(by intro i hi;have hlt:=h00 i (by simp[hi]);have hxx:i ≠ X:=fun e=>hxi (e ▸ hi);repeat (first | exact hid i hi | rw[Heap.get_set_ne _ _ hxx] | rw[Heap.get_set_ne _ _ (by rintro rfl;simp at hlt;omega)])),sp.var⟩<;>simp[hh,mX0,hnn,hn1,hn2,neX,byteC]) ?_
 clear hh mX0
 rintro ρ H n3 ⟨hh,mX0,m6_1,x6_1,hnn,hid,sp⟩
 have hq_n3:=hnn
 have hn1:=Nat.le_succ_of_le hnn
 have hn2:=Nat.le_succ_of_le hn1
 refine zE fun k' hk'=>?_
 obtain⟨hb4,h⟩:=h
 obtain⟨r5,er5,h⟩:=atm h
 simp[hh,mX0,m6_1,x6_1,hnn,hn1,hn2,neX,List.range_succ,byteC]
 refine RunK.callDr (xsA:=[.ptr X 1 0 0,.list true ([1,1,2,0,3].map intC)]) (X:=X) (A:=[(n1,6)]) (B:=(ids0)) (M:=[]) (K0:=(K0)) Ty_ok (amongZ_ok c [1,1,2,0,3] hb4) (.cons (Sub.refl _) (.cons (Sub.old _) .nil)) e42 (by simp[hh,mX0,m6_1,x6_1,hnn,hn1,hn2,neX,List.range_succ,byteC]) (by simp[hh,mX0,m6_1,x6_1,hnn,hn1,hn2,neX,hxi,List.range_succ,byteC]) sp (by decide) (by decide) rfl (by simp[hh,mX0,m6_1,x6_1,hnn,hn1,hn2,neX,List.range_succ,byteC]) ?_
 rintro v6 H7 n8 _ _ ⟨rfl,rfl⟩ hmx sp hle10 hfr9
 rw[← er5] at hmx sp
 have mX0:H7 X=some ⟨3,[[.list false (r5.1.code.map byteC),int r5.1.pos,.v (.int .u64 r5.1.seed)]]⟩:=hmx
 have hid:∀ i ∈ ids0,H7 i=H0 i:=fun i hi=>(hfr9 i (by simp[hi])).trans (hid i hi)
 have hnn:n0≤n8:=by omega
 have hq_n8:=hnn
 have m6_1:=(hfr9 _ (by simp)).trans m6_1
 replace sp:=Sep.scalar sp
 obtain⟨hv,sp⟩:=sp
 subst hv
 replace sp:Sep H7 n8 (K0) ((n1,6)::X::ids0):=sp
 obtain⟨hb12,h⟩:=h
 obtain⟨r13,er13,h⟩:=atm h
 simp[hh,mX0,m6_1,x6_1,hnn,hn1,hn2,neX,List.range_succ,byteC]
 refine RunK.callDr (xsA:=[.ptr X 1 0 0,int 3]) (X:=X) (A:=[(n1,6)]) (B:=(ids0)) (M:=[]) (K0:=(K0)) Ty_ok (pickZ_ok r5.1 3 hb12) (.cons (Sub.refl _) (.cons (Sub.refl _) .nil)) e17 (by simp[hh,mX0,m6_1,x6_1,hnn,hn1,hn2,neX,List.range_succ,byteC]) (by simp[hh,mX0,m6_1,x6_1,hnn,hn1,hn2,neX,hxi,List.range_succ,byteC]) sp (by decide) (by decide) rfl (by simp[hh,mX0,m6_1,x6_1,hnn,hn1,hn2,neX,List.range_succ,byteC]) ?_
 rintro v14 H15 n16 _ _ ⟨rfl,rfl⟩ hmx sp hle18 hfr17
 rw[← er13] at hmx sp
 have mX0:H15 X=some ⟨3,[[.list false (r13.1.code.map byteC),int r13.1.pos,.v (.int .u64 r13.1.seed)]]⟩:=hmx
 have hid:∀ i ∈ ids0,H15 i=H0 i:=fun i hi=>(hfr17 i (by simp[hi])).trans (hid i hi)
 have hnn:n0≤n16:=by omega
 have hq_n16:=hnn
 have m6_1:=(hfr17 _ (by simp)).trans m6_1
 replace sp:=Sep.scalar sp
 obtain⟨hv,sp⟩:=sp
 subst hv
 replace sp:Sep H15 n16 (K0) ((n1,6)::X::ids0):=sp
 simp[hh,mX0,m6_1,x6_1,hnn,hn1,hn2,neX,List.range_succ,byteC]
 apply hk'
 refine Runs.cut (fun ρ H n=>(ρ 0 = .ptr X 1 0 0∧ρ 1 = .list false (sig.map Control.cells)∧ρ 2=int most∧ρ 6=pA n1 6∧ρ 7=pA n16 7)∧H X=some ⟨3,[[.list false (r13.1.code.map byteC),int r13.1.pos,.v (.int .u64 r13.1.seed)]]⟩∧H (n1,6)=some ⟨6,[zB]⟩∧H (n16,7)=some ⟨6,[[int r5.2,.v (.slice none 0 0),.v (.slice none 0 0),int r13.2,.v (.slice none 0 0),.v (.slice none 0 0)]]⟩∧(X=(n1,6))=False∧(X=(n16,7))=False∧n0≤n∧(∀ i ∈ ids0,H i=H0 i)∧Sep H n (K0) ((n16,7)::(n1,6)::X::ids0)) (by refine⟨?_,?_,?_,?_,?_,?_,(by omega),(by intro i hi;have hlt:=h00 i (by simp[hi]);have hxx:i ≠ X:=fun e=>hxi (e ▸ hi);repeat (first | exact hid i hi | rw[Heap.get_set_ne _ _ hxx] | rw[Heap.get_set_ne _ _ (by rintro rfl;simp at hlt;omega)])),sp.var⟩<;>simp[hh,mX0,m6_1,x6_1,hnn,hn1,hn2,neX,List.range_succ,byteC]) ?_
 clear hh mX0 m6_1 x6_1
 rintro ρ H n21 ⟨hh,mX0,m6_1,m7_19,x6_1,x7_19,hnn,hid,sp⟩
 have hq_n21:=hnn
 have hn1:=Nat.le_succ_of_le hnn
 have hn2:=Nat.le_succ_of_le hn1
 refine zE fun k' hk'=>?_
 simp[hh,mX0,m6_1,m7_19,x6_1,x7_19,hnn,hn1,hn2,neX,List.range_succ,byteC]
 apply hk'
 refine Runs.seq ?_
 refine zE fun k' hk'=>?_
 simp[hh,mX0,m6_1,m7_19,x6_1,x7_19,hnn,hn1,hn2,neX,List.range_succ,byteC]
 apply hk'
 refine Runs.block ?_
 obtain⟨l22,el22,h⟩:=atm h
 refine Runs.loopW h (fun (sJ:Int × (List Int) × Int × Int × (List Str)) ρ H n=>match sJ with | (i45,w46,w47,w48,l49)=>∃ (v50 v51 v52 v53:AVal),(ρ 0 = .ptr X 1 0 0∧ρ 1 = .list false (sig.map Control.cells)∧ρ 2=int most∧ρ 6=pA n1 6∧ρ 7=pA n16 7∧ρ 8 = .list true (l22.map strC)∧ρ 9=int i45)∧H X=some ⟨3,[[.list false (w46.map byteC),int w47,.v (.int .u64 w48)]]⟩∧H (n1,6)=some ⟨6,[zB]⟩∧H (n16,7)=some ⟨6,[[int r5.2,v53,v52,int r13.2,v51,v50]]⟩∧(X=(n1,6))=False∧(X=(n16,7))=False∧n0≤n∧(∀ i ∈ ids0,H i=H0 i)∧Sep H n (oW v50 ([]:List Wire)::oS v51 l49::oI v52 ([]:List Int)::oN v53 ([]:List GNode)::K0) ((n16,7)::(n1,6)::X::ids0)) (by refine⟨.v (.slice none 0 0),.v (.slice none 0 0),.v (.slice none 0 0),.v (.slice none 0 0),?_,?_,?_,?_,?_,?_,(by omega),(by intro i hi;have hlt:=h00 i (by simp[hi]);have hxx:i ≠ X:=fun e=>hxi (e ▸ hi);repeat (first | exact hid i hi | rw[Heap.get_set_ne _ _ hxx] | rw[Heap.get_set_ne _ _ (by rintro rfl;simp at hlt;omega)])),(Sep.addNil (Sep.addNil (Sep.addNil (Sep.addNil sp))))⟩<;>simp[hh,mX0,m6_1,m7_19,x6_1,x7_19,hnn,hn1,hn2,neX,el22,List.range_succ,byteC]) ?_
 clear hh mX0 m6_1 m7_19 x6_1 x7_19
 rintro⟨i45,w46,w47,w48,l49⟩ ρ H n54 K h ⟨v50,v51,v52,v53,hh,mX0,m6_1,m7_19,x6_1,x7_19,hnn,hid,sp⟩ IH55
 have hq_n54:=hnn
 have hn1:=Nat.le_succ_of_le hnn
 have hn2:=Nat.le_succ_of_le hn1
 refine Runs.seq ?_
 refine zE fun k' hk'=>?_
 obtain⟨len57,elen57,h⟩:=atm h
 have f58:=fun H=>len_list (H:=H) (fr:=true) (f:=strC) kd_27 elen57
 obtain⟨c59,ec59,h⟩:=atm h
 have f60:=ib_lss (k:=.i64) ec59
 simp[hh,mX0,m6_1,m7_19,x6_1,x7_19,hnn,hn1,hn2,neX,f58,f60,List.range_succ,byteC,-intBin,-lenF]
 apply hk'
 refine Runs.ite (b:=c59) (by simp[hh,mX0,m6_1,m7_19,x6_1,x7_19,hnn,hn1,hn2,neX,List.range_succ,byteC]) (fun dc59=>?_) (fun dc59=>?_)
 ·replace h:=h.1 dc59
  refine Runs.skip ?_
  refine Runs.seq ?_
  refine Runs.block ?_
  refine zE fun k' hk'=>?_
  obtain⟨hb61,h⟩:=h
  obtain⟨r62,er62,h⟩:=atm h
  simp[hh,mX0,m6_1,m7_19,x6_1,x7_19,hnn,hn1,hn2,neX,dc59,List.range_succ,byteC]
  refine RunK.callDr (xsA:=[.ptr X 1 0 0,int 3]) (X:=X) (A:=[(n16,7),(n1,6)]) (B:=(ids0)) (M:=[]) (K0:=(oW v50 ([]:List Wire)::oS v51 l49::oI v52 ([]:List Int)::oN v53 ([]:List GNode)::K0)) Ty_ok (oneZ_ok (Cur.mk w46 w47 w48) 3 hb61) (.cons (Sub.refl _) (.cons (Sub.refl _) .nil)) e18 (by simp[hh,mX0,m6_1,m7_19,x6_1,x7_19,hnn,hn1,hn2,neX,dc59,List.range_succ,byteC]) (by simp[hh,mX0,m6_1,m7_19,x6_1,x7_19,hnn,hn1,hn2,neX,hxi,List.range_succ,byteC]) sp (by decide) (by decide) rfl (by simp[hh,mX0,m6_1,m7_19,x6_1,x7_19,hnn,hn1,hn2,neX,dc59,List.range_succ,byteC]) ?_
  rintro v63 H64 n65 _ _ ⟨rfl,rfl⟩ hmx sp hle67 hfr66
  rw[← er62] at hmx sp
  have mX0:H64 X=some ⟨3,[[.list false (r62.1.code.map byteC),int r62.1.pos,.v (.int .u64 r62.1.seed)]]⟩:=hmx
  have hid:∀ i ∈ ids0,H64 i=H0 i:=fun i hi=>(hfr66 i (by simp[hi])).trans (hid i hi)
  have hnn:n0≤n65:=by omega
  have hq_n65:=hnn
  have m6_1:=(hfr66 _ (by simp)).trans m6_1
  have m7_19:=(hfr66 _ (by simp)).trans m7_19
  replace sp:=Sep.scalar sp
  obtain⟨hv,sp⟩:=sp
  subst hv
  replace sp:Sep H64 n65 (oW v50 ([]:List Wire)::oS v51 l49::oI v52 ([]:List Int)::oN v53 ([]:List GNode)::K0) ((n16,7)::(n1,6)::X::ids0):=sp
  simp[hh,mX0,m6_1,m7_19,x6_1,x7_19,hnn,hn1,hn2,neX,dc59,List.range_succ,byteC]
  apply hk'
  refine Runs.cut (fun ρ H n=>∃ (v69 v70 v71 v72:AVal),(ρ 0 = .ptr X 1 0 0∧ρ 1 = .list false (sig.map Control.cells)∧ρ 2=int most∧ρ 6=pA n1 6∧ρ 7=pA n16 7∧ρ 8 = .list true (l22.map strC)∧ρ 9=int i45∧ρ 33=bool r62.2)∧H X=some ⟨3,[[.list false (r62.1.code.map byteC),int r62.1.pos,.v (.int .u64 r62.1.seed)]]⟩∧H (n1,6)=some ⟨6,[zB]⟩∧H (n16,7)=some ⟨6,[[int r5.2,v72,v71,int r13.2,v70,v69]]⟩∧(X=(n1,6))=False∧(X=(n16,7))=False∧n0≤n∧(∀ i ∈ ids0,H i=H0 i)∧Sep H n (oW v69 ([]:List Wire)::oS v70 l49::oI v71 ([]:List Int)::oN v72 ([]:List GNode)::K0) ((n16,7)::(n1,6)::X::ids0)) (by refine⟨v50,v51,v52,v53,?_,?_,?_,?_,?_,?_,(by omega),hid,sp⟩<;>simp[hh,mX0,m6_1,m7_19,x6_1,x7_19,hnn,hn1,hn2,neX,dc59,List.range_succ,byteC]) ?_
  clear hh mX0 m6_1 m7_19 x6_1 x7_19
  rintro ρ H n73 ⟨v69,v70,v71,v72,hh,mX0,m6_1,m7_19,x6_1,x7_19,hnn,hid,sp⟩
  have hq_n73:=hnn
  have hn1:=Nat.le_succ_of_le hnn
  have hn2:=Nat.le_succ_of_le hn1
  refine Runs.ite (b:=r62.2) (by simp[hh,mX0,m6_1,m7_19,x6_1,x7_19,hnn,hn1,hn2,neX,List.range_succ,byteC]) (fun dr62_2=>?_) (fun dr62_2=>?_)
  ·replace h:=h.1 dr62_2
   refine Runs.evalDE Ty_ok kindOp_ok draws (by decide) (by kernel_rfl) fun k' hk'=>?_
   obtain⟨hb74,h⟩:=h
   obtain⟨x75,ex75,h⟩:=atm h
   have f76:=fun H=>ix_list (H:=H) (fr:=true) (f:=strC) (k:=.i64) kd_27 (fun _=>rfl) hb74 ex75
   obtain⟨hb77,h⟩:=h
   obtain⟨l78,el78,h⟩:=atm h
   simp[hh,mX0,m6_1,m7_19,x6_1,x7_19,hnn,hn1,hn2,neX,f76,dr62_2,List.range_succ,byteC,-indexAddrF,-appendF]
   refine bindD_append [] (oW v69 ([]:List Wire)::oI v71 ([]:List Int)::oN v72 ([]:List GNode)::K0) [[str x75]] [strC x75] sp.f1 kd_27 (by simp) (by simp) (by simp[List.range_succ,byteC]) (by simp[-one1,o1x]) (rows_one (Fill.v _ Fill.nil)) (by simp) (by simpa using hb77) ?_
   rintro v79 H80 n81 sp hfr82 hle83
   replace sp:Sep H80 n81 (oS v79 l78::oW v69 ([]:List Wire)::oI v71 ([]:List Int)::oN v72 ([]:List GNode)::K0) ((n16,7)::(n1,6)::X::ids0):=Sep.ap el78 sp
   have hid:∀ i ∈ ids0,H80 i=H0 i:=fun i hi=>(hfr82 i (by simp[hi])).trans (hid i hi)
   have hnn:n0≤n81:=by omega
   have hq_n81:=hnn
   have mX0:=(hfr82 _ (by simp)).trans mX0
   have m6_1:=(hfr82 _ (by simp)).trans m6_1
   have m7_19:=(hfr82 _ (by simp)).trans m7_19
   have f85:=Sep.oc sp
   simp[hh,mX0,m6_1,m7_19,x6_1,x7_19,hnn,hn1,hn2,neX,f76,f85,dr62_2,List.range_succ,byteC,-cellsA,-indexAddrF,-one1,cAx,o1x]
   apply hk'
   refine Runs.cut (fun ρ H n=>∃ (v86 v87 v88 v89:AVal),(ρ 0 = .ptr X 1 0 0∧ρ 1 = .list false (sig.map Control.cells)∧ρ 2=int most∧ρ 6=pA n1 6∧ρ 7=pA n16 7∧ρ 8 = .list true (l22.map strC)∧ρ 9=int i45)∧H X=some ⟨3,[[.list false (r62.1.code.map byteC),int r62.1.pos,.v (.int .u64 r62.1.seed)]]⟩∧H (n1,6)=some ⟨6,[zB]⟩∧H (n16,7)=some ⟨6,[[int r5.2,v89,v88,int r13.2,v86,v87]]⟩∧(X=(n1,6))=False∧(X=(n16,7))=False∧n0≤n∧(∀ i ∈ ids0,H i=H0 i)∧Sep H n (oS v86 l78::oW v87 ([]:List Wire)::oI v88 ([]:List Int)::oN v89 ([]:List GNode)::K0) ((n16,7)::(n1,6)::X::ids0)) (by refine⟨v79,v69,v71,v72,?_,?_,?_,?_,?_,?_,(by omega),(by intro i hi;have hlt:=h00 i (by simp[hi]);have hxx:i ≠ X:=fun e=>hxi (e ▸ hi);repeat (first | exact hid i hi | rw[Heap.get_set_ne _ _ hxx] | rw[Heap.get_set_ne _ _ (by rintro rfl;simp at hlt;omega)])),(Sep.setVar (w:=(n16,7)) sp (by simp))⟩<;>simp[hh,mX0,m6_1,m7_19,x6_1,x7_19,hnn,hn1,hn2,neX,f76,f85,dr62_2,List.range_succ,byteC,-cellsA,-indexAddrF,-one1,cAx,o1x]) ?_
   clear hh mX0 m6_1 m7_19 x6_1 x7_19
   rintro ρ H n90 ⟨v86,v87,v88,v89,hh,mX0,m6_1,m7_19,x6_1,x7_19,hnn,hid,sp⟩
   have hq_n90:=hnn
   have hn1:=Nat.le_succ_of_le hnn
   have hn2:=Nat.le_succ_of_le hn1
   refine Runs.inBlock ?_
   refine zF fun k' hk'=>?_
   obtain⟨hb91,h⟩:=h
   obtain⟨v92,ev92,h⟩:=atm h
   have f93:=ib_add hb91 ev92
   simp[hh,mX0,m6_1,m7_19,x6_1,x7_19,hnn,hn1,hn2,neX,f93,List.range_succ,byteC,-intBin]
   apply hk'
   refine IH55 (v92,r62.1.code,r62.1.pos,r62.1.seed,l78) _ _ _ h (by refine⟨v87,v86,v88,v89,?_,?_,?_,?_,?_,?_,(by omega),hid,sp.f1⟩<;>simp[hh,mX0,m6_1,m7_19,x6_1,x7_19,hnn,hn1,hn2,neX,List.range_succ,byteC])
  replace h:=h.2 dr62_2
  refine Runs.skip ?_
  refine Runs.inBlock ?_
  refine zF fun k' hk'=>?_
  obtain⟨hb94,h⟩:=h
  obtain⟨v95,ev95,h⟩:=atm h
  have f96:=ib_add hb94 ev95
  simp[hh,mX0,m6_1,m7_19,x6_1,x7_19,hnn,hn1,hn2,neX,f96,dr62_2,List.range_succ,byteC,-intBin]
  apply hk'
  refine IH55 (v95,r62.1.code,r62.1.pos,r62.1.seed,l49) _ _ _ h (by refine⟨v69,v70,v71,v72,?_,?_,?_,?_,?_,?_,(by omega),hid,sp⟩<;>simp[hh,mX0,m6_1,m7_19,x6_1,x7_19,hnn,hn1,hn2,neX,dr62_2,List.range_succ,byteC])
 replace h:=h.2 dc59
 refine Runs.exit rfl ?_
 refine zE fun k' hk'=>?_
 obtain⟨len97,elen97,h⟩:=atm h
 have f98:=len_own (Sep.len (m:=len97) sp.f1 kd_27 (by rw[elen97,List.length_map]))
 obtain⟨hb99,h⟩:=h
 obtain⟨v100,ev100,h⟩:=atm h
 have f101:=ib_add hb99 ev100
 simp[hh,mX0,m6_1,m7_19,x6_1,x7_19,hnn,hn1,hn2,neX,f98,f101,dc59,List.range_succ,byteC,-intBin,-lenF]
 apply hk'
 refine zE fun k' hk'=>?_
 obtain⟨hb102,h⟩:=h
 obtain⟨v103,ev103,h⟩:=atm h
 have f104:=ib_add hb102 ev103
 obtain⟨hb105,h⟩:=h
 obtain⟨r106,er106,h⟩:=atm h
 simp[hh,mX0,m6_1,m7_19,x6_1,x7_19,hnn,hn1,hn2,neX,f104,dc59,List.range_succ,byteC,-intBin]
 refine RunK.callDr (xsA:=[.ptr X 1 0 0,int v103]) (X:=X) (A:=[(n16,7),(n1,6)]) (B:=(ids0)) (M:=[]) (K0:=(oW v50 ([]:List Wire)::oS v51 l49::oI v52 ([]:List Int)::oN v53 ([]:List GNode)::K0)) Ty_ok (pickZ_ok (Cur.mk w46 w47 w48) v103 hb105) (.cons (Sub.refl _) (.cons (Sub.refl _) .nil)) e17 (by simp[hh,mX0,m6_1,m7_19,x6_1,x7_19,hnn,hn1,hn2,neX,f104,dc59,List.range_succ,byteC,-intBin]) (by simp[hh,mX0,m6_1,m7_19,x6_1,x7_19,hnn,hn1,hn2,neX,f104,hxi,List.range_succ,byteC,-intBin]) sp (by decide) (by decide) rfl (by simp[hh,mX0,m6_1,m7_19,x6_1,x7_19,hnn,hn1,hn2,neX,f104,dc59,List.range_succ,byteC,-intBin]) ?_
 rintro v107 H108 n109 _ _ ⟨rfl,rfl⟩ hmx sp hle111 hfr110
 rw[← er106] at hmx sp
 have mX0:H108 X=some ⟨3,[[.list false (r106.1.code.map byteC),int r106.1.pos,.v (.int .u64 r106.1.seed)]]⟩:=hmx
 have hid:∀ i ∈ ids0,H108 i=H0 i:=fun i hi=>(hfr110 i (by simp[hi])).trans (hid i hi)
 have hnn:n0≤n109:=by omega
 have hq_n109:=hnn
 have m6_1:=(hfr110 _ (by simp)).trans m6_1
 have m7_19:=(hfr110 _ (by simp)).trans m7_19
 replace sp:=Sep.scalar sp
 obtain⟨hv,sp⟩:=sp
 subst hv
 replace sp:Sep H108 n109 (oW v50 ([]:List Wire)::oS v51 l49::oI v52 ([]:List Int)::oN v53 ([]:List GNode)::K0) ((n16,7)::(n1,6)::X::ids0):=sp
 simp[hh,mX0,m6_1,m7_19,x6_1,x7_19,hnn,hn1,hn2,neX,f104,dc59,List.range_succ,byteC,-intBin]
 apply hk'
 refine Runs.cut (fun ρ H n=>∃ (v113 v114 v115 v116:AVal),(ρ 0 = .ptr X 1 0 0∧ρ 1 = .list false (sig.map Control.cells)∧ρ 6=pA n1 6∧ρ 7=pA n16 7∧ρ 8 = .list true (l22.map strC)∧ρ 10=int v100∧ρ 11=int r106.2)∧H X=some ⟨3,[[.list false (r106.1.code.map byteC),int r106.1.pos,.v (.int .u64 r106.1.seed)]]⟩∧H (n1,6)=some ⟨6,[zB]⟩∧H (n16,7)=some ⟨6,[[int r5.2,v116,v115,int r13.2,v114,v113]]⟩∧(X=(n1,6))=False∧(X=(n16,7))=False∧n0≤n∧(∀ i ∈ ids0,H i=H0 i)∧Sep H n (oW v113 ([]:List Wire)::oS v114 l49::oI v115 ([]:List Int)::oN v116 ([]:List GNode)::K0) ((n16,7)::(n1,6)::X::ids0)) (by refine⟨v50,v51,v52,v53,?_,?_,?_,?_,?_,?_,(by omega),hid,sp⟩<;>simp[hh,mX0,m6_1,m7_19,x6_1,x7_19,hnn,hn1,hn2,neX,f104,dc59,List.range_succ,byteC,-intBin]) ?_
 clear hh mX0 m6_1 m7_19 x6_1 x7_19
 rintro ρ H n117 ⟨v113,v114,v115,v116,hh,mX0,m6_1,m7_19,x6_1,x7_19,hnn,hid,sp⟩
 have hq_n117:=hnn
 have hn1:=Nat.le_succ_of_le hnn
 have hn2:=Nat.le_succ_of_le hn1
 refine Runs.seq ?_
 refine zE fun k' hk'=>?_
 obtain⟨J118,hJ119,hr120⟩:=h
 have fin126:∀ (sJ:Bool) (ρ:Env) (H:Heap) (n:Nat),J118 sJ→(match sJ with | b121=>∃ (v122 v123 v124 v125:AVal),(ρ 0 = .ptr X 1 0 0∧ρ 1 = .list false (sig.map Control.cells)∧ρ 6=pA n1 6∧ρ 7=pA n16 7∧ρ 8 = .list true (l22.map strC)∧ρ 10=int v100∧ρ 11=int r106.2∧ρ 60=bool b121)∧H X=some ⟨3,[[.list false (r106.1.code.map byteC),int r106.1.pos,.v (.int .u64 r106.1.seed)]]⟩∧H (n1,6)=some ⟨6,[zB]⟩∧H (n16,7)=some ⟨6,[[int r5.2,v125,v124,int r13.2,v123,v122]]⟩∧(X=(n1,6))=False∧(X=(n16,7))=False∧n0≤n∧(∀ i ∈ ids0,H i=H0 i)∧Sep H n (oW v122 ([]:List Wire)::oS v123 l49::oI v124 ([]:List Int)::oN v125 ([]:List GNode)::K0) ((n16,7)::(n1,6)::X::ids0))→Runs Tryd.prog 16 208 k' ρ H n Q:=by
  rintro b121 ρ H n127 h ⟨v122,v123,v124,v125,hh,mX0,m6_1,m7_19,x6_1,x7_19,hnn,hid,sp⟩
  have hq_n127:=hnn
  have hn1:=Nat.le_succ_of_le hnn
  have hn2:=Nat.le_succ_of_le hn1
  replace h:=hr120 _ h
  apply hk'
  refine Runs.cut (fun ρ H n=>∃ (v128 v129 v130 v131:AVal),(ρ 0 = .ptr X 1 0 0∧ρ 1 = .list false (sig.map Control.cells)∧ρ 6=pA n1 6∧ρ 7=pA n16 7∧ρ 8 = .list true (l22.map strC)∧ρ 10=int v100∧ρ 11=int r106.2∧ρ 60=bool b121)∧H X=some ⟨3,[[.list false (r106.1.code.map byteC),int r106.1.pos,.v (.int .u64 r106.1.seed)]]⟩∧H (n1,6)=some ⟨6,[zB]⟩∧H (n16,7)=some ⟨6,[[int r5.2,v131,v130,int r13.2,v129,v128]]⟩∧(X=(n1,6))=False∧(X=(n16,7))=False∧n0≤n∧(∀ i ∈ ids0,H i=H0 i)∧Sep H n (oW v128 ([]:List Wire)::oS v129 l49::oI v130 ([]:List Int)::oN v131 ([]:List GNode)::K0) ((n16,7)::(n1,6)::X::ids0)) (by refine⟨v122,v123,v124,v125,?_,?_,?_,?_,?_,?_,(by omega),hid,sp⟩<;>simp[hh,mX0,m6_1,m7_19,x6_1,x7_19,hnn,hn1,hn2,neX,List.range_succ,byteC]) ?_
  clear hh mX0 m6_1 m7_19 x6_1 x7_19
  rintro ρ H n132 ⟨v128,v129,v130,v131,hh,mX0,m6_1,m7_19,x6_1,x7_19,hnn,hid,sp⟩
  have hq_n132:=hnn
  have hn1:=Nat.le_succ_of_le hnn
  have hn2:=Nat.le_succ_of_le hn1
  refine Runs.joinC h (fun (sJ:Int) ρ H n=>match sJ with | n139=>∃ (v140 v141 v142 v143:AVal),(ρ 0 = .ptr X 1 0 0∧ρ 1 = .list false (sig.map Control.cells)∧ρ 6=pA n1 6∧ρ 7=pA n16 7∧ρ 8 = .list true (l22.map strC)∧ρ 10=int v100∧ρ 11=int n139)∧H X=some ⟨3,[[.list false (r106.1.code.map byteC),int r106.1.pos,.v (.int .u64 r106.1.seed)]]⟩∧H (n1,6)=some ⟨6,[zB]⟩∧H (n16,7)=some ⟨6,[[int r5.2,v143,v142,int r13.2,v141,v140]]⟩∧(X=(n1,6))=False∧(X=(n16,7))=False∧n0≤n∧(∀ i ∈ ids0,H i=H0 i)∧Sep H n (oW v140 ([]:List Wire)::oS v141 l49::oI v142 ([]:List Int)::oN v143 ([]:List GNode)::K0) ((n16,7)::(n1,6)::X::ids0)) ?_ ?_
  ·intro J145 h IH146
   refine Runs.ite (b:=b121) (by simp[hh,mX0,m6_1,m7_19,x6_1,x7_19,hnn,hn1,hn2,neX,List.range_succ,byteC]) (fun db121=>?_) (fun db121=>?_)
   ·replace h:=h.1 db121
    refine zF fun k' hk'=>?_
    simp[hh,mX0,m6_1,m7_19,x6_1,x7_19,hnn,hn1,hn2,neX,db121,List.range_succ,byteC]
    apply hk'
    refine IH146 (0) _ _ _ h (by refine⟨v128,v129,v130,v131,?_,?_,?_,?_,?_,?_,(by omega),hid,sp⟩<;>simp[hh,mX0,m6_1,m7_19,x6_1,x7_19,hnn,hn1,hn2,neX,db121,List.range_succ,byteC])
   replace h:=h.2 db121
   refine Runs.skip ?_
   refine IH146 (r106.2) _ _ _ h (by refine⟨v128,v129,v130,v131,?_,?_,?_,?_,?_,?_,(by omega),hid,sp⟩<;>simp[hh,mX0,m6_1,m7_19,x6_1,x7_19,hnn,hn1,hn2,neX,db121,List.range_succ,byteC])
  clear hh mX0 m6_1 m7_19 x6_1 x7_19
  rintro n139 ρ H n144 h ⟨v140,v141,v142,v143,hh,mX0,m6_1,m7_19,x6_1,x7_19,hnn,hid,sp⟩
  have hq_n144:=hnn
  have hn1:=Nat.le_succ_of_le hnn
  have hn2:=Nat.le_succ_of_le hn1
  refine Runs.seq ?_
  refine zE fun k' hk'=>?_
  simp[hh,mX0,m6_1,m7_19,x6_1,x7_19,hnn,hn1,hn2,neX,List.range_succ,byteC]
  apply hk'
  refine Runs.block ?_
  refine Runs.loopW h (fun (sJ:Int × (List Int) × Int × Int × (List GNode)) ρ H n=>match sJ with | (i163,w164,w165,w166,l167)=>∃ (v168 v169 v170 v171:AVal),(ρ 0 = .ptr X 1 0 0∧ρ 1 = .list false (sig.map Control.cells)∧ρ 6=pA n1 6∧ρ 7=pA n16 7∧ρ 8 = .list true (l22.map strC)∧ρ 10=int v100∧ρ 11=int n139∧ρ 12=int i163)∧H X=some ⟨3,[[.list false (w164.map byteC),int w165,.v (.int .u64 w166)]]⟩∧H (n1,6)=some ⟨6,[zB]⟩∧H (n16,7)=some ⟨6,[[int r5.2,v171,v170,int r13.2,v169,v168]]⟩∧(X=(n1,6))=False∧(X=(n16,7))=False∧n0≤n∧(∀ i ∈ ids0,H i=H0 i)∧Sep H n (oW v168 ([]:List Wire)::oS v169 l49::oI v170 ([]:List Int)::oN v171 l167::K0) ((n16,7)::(n1,6)::X::ids0)) (by refine⟨v140,v141,v142,v143,?_,?_,?_,?_,?_,?_,(by omega),hid,sp⟩<;>simp[hh,mX0,m6_1,m7_19,x6_1,x7_19,hnn,hn1,hn2,neX,List.range_succ,byteC]) ?_
  clear hh mX0 m6_1 m7_19 x6_1 x7_19
  rintro⟨i163,w164,w165,w166,l167⟩ ρ H n172 K h ⟨v168,v169,v170,v171,hh,mX0,m6_1,m7_19,x6_1,x7_19,hnn,hid,sp⟩ IH173
  have hq_n172:=hnn
  have hn1:=Nat.le_succ_of_le hnn
  have hn2:=Nat.le_succ_of_le hn1
  refine Runs.seq ?_
  refine zE fun k' hk'=>?_
  obtain⟨c175,ec175,h⟩:=atm h
  have f176:=ib_lss (k:=.i64) ec175
  simp[hh,mX0,m6_1,m7_19,x6_1,x7_19,hnn,hn1,hn2,neX,f176,List.range_succ,byteC,-intBin]
  apply hk'
  refine Runs.ite (b:=c175) (by simp[hh,mX0,m6_1,m7_19,x6_1,x7_19,hnn,hn1,hn2,neX,List.range_succ,byteC]) (fun dc175=>?_) (fun dc175=>?_)
  ·replace h:=h.1 dc175
   refine Runs.skip ?_
   refine Runs.seq ?_
   refine Runs.block ?_
   refine Runs.cut (fun ρ H n=>∃ (v177 v178 v179 v180:AVal),(ρ 0 = .ptr X 1 0 0∧ρ 1 = .list false (sig.map Control.cells)∧ρ 6=pA n1 6∧ρ 7=pA n16 7∧ρ 8 = .list true (l22.map strC)∧ρ 10=int v100∧ρ 11=int n139∧ρ 12=int i163)∧H X=some ⟨3,[[.list false (w164.map byteC),int w165,.v (.int .u64 w166)]]⟩∧H (n1,6)=some ⟨6,[zB]⟩∧H (n16,7)=some ⟨6,[[int r5.2,v180,v179,int r13.2,v178,v177]]⟩∧(X=(n1,6))=False∧(X=(n16,7))=False∧n0≤n∧(∀ i ∈ ids0,H i=H0 i)∧Sep H n (oW v177 ([]:List Wire)::oS v178 l49::oI v179 ([]:List Int)::oN v180 l167::K0) ((n16,7)::(n1,6)::X::ids0)) (by refine⟨v168,v169,v170,v171,?_,?_,?_,?_,?_,?_,(by omega),hid,sp⟩<;>simp[hh,mX0,m6_1,m7_19,x6_1,x7_19,hnn,hn1,hn2,neX,dc175,List.range_succ,byteC]) ?_
   clear hh mX0 m6_1 m7_19 x6_1 x7_19
   rintro ρ H n181 ⟨v177,v178,v179,v180,hh,mX0,m6_1,m7_19,x6_1,x7_19,hnn,hid,sp⟩
   have hq_n181:=hnn
   have hn1:=Nat.le_succ_of_le hnn
   have hn2:=Nat.le_succ_of_le hn1
   obtain⟨len182,elen182,h⟩:=atm h
   have f183:=fun H=>len_list (H:=H) (fr:=false) (f:=Control.cells) kd_24 elen182
   obtain⟨hb184,h⟩:=h
   obtain⟨r185,er185,h⟩:=atm h
   obtain⟨hb186,h⟩:=h
   obtain⟨r187,er187,h⟩:=atm h
   obtain⟨hb188,h⟩:=h
   obtain⟨v189,ev189,h⟩:=atm h
   have f190:=ib_sub hb188 ev189
   refine Runs.seqL Ty_ok 11 (fun H n=>H (n1,6)=some ⟨6,[zB]⟩∧H (n16,7)=some ⟨6,[[int r5.2,v180,v179,int r13.2,v178,v177]]⟩∧Sep H n (oW v177 ([]:List Wire)::oS v178 l49::oI v179 ([]:List Int)::oN v180 l167::K0) ((n16,7)::(n1,6)::X::ids0)) [3,7,8,10] (.free 0 (.free 1 (.free 2 (.free 4 (.free 5 (.free 6 (.hard 3 (.hard 7 (.hard 8 (.free 9 (.hard 10 (.fin) (.stop))) (.hard 10 (.hard 8 (.free 9 (.fin)) (.stop)) (.stop))) (.hard 10 (.hard 7 (.hard 8 (.free 9 (.fin)) (.stop)) (.stop)) (.stop))) (.hard 10 (.hard 3 (.hard 7 (.hard 8 (.free 9 (.fin)) (.stop)) (.stop)) (.stop)) (.stop))))))))) (fun ρ H n=>∃ (v192:AVal) (v193:AVal) (v194:AVal) (v195:AVal) (a196:Nat),(ρ 0 = .ptr X 1 0 0∧ρ 1 = .list false (sig.map Control.cells)∧ρ 6=pA n1 6∧ρ 7=pA n16 7∧ρ 8 = .list true (l22.map strC)∧ρ 10=int v100∧ρ 11=int n139∧ρ 12=int i163∧ρ 13 = .ptr (a196,13) 1 0 0∧ρ 75 = .agg [int r185.2,int v189,.v (.slice none 0 0)])∧H X=some ⟨3,[[.list false (r187.1.code.map byteC),int r187.1.pos,.v (.int .u64 r187.1.seed)]]⟩∧H (n1,6)=some ⟨6,[zB]⟩∧H (n16,7)=some ⟨6,[[int r5.2,v195,v194,int r13.2,v193,v192]]⟩∧H (a196,13)=some ⟨3,[[int 0,int 0,.v (.slice none 0 0)]]⟩∧(X=(n1,6))=False∧(X=(n16,7))=False∧(X=(a196,13))=False∧n0≤a196∧n0≤n∧(∀ i ∈ ids0,H i=H0 i)∧Sep H n (oW v192 ([]:List Wire)::oS v193 l49::oI v194 ([]:List Int)::oN v195 l167::K0) ((a196,13)::(n16,7)::(n1,6)::X::ids0)) draws (by decide) (by kernel_rfl) (by kernel_rfl) ?_ ?_
   ·refine RunT.free (.ptr X 1 0 0) rfl rfl ⟨m6_1,m7_19,sp⟩ (fun H n hS=>by obtain⟨m6_1,m7_19,sp⟩:=hS;exact (by exact stepF_ok Ty_ok (by rw[stepF_loc];simp[hh,mX0,m6_1,m7_19,x6_1,x7_19,hnn,hn1,hn2,neX,f183,f190,List.range_succ,byteC,-intBin,-lenF]))) ?_
    refine RunT.free (.list false (sig.map Control.cells)) rfl rfl ⟨m6_1,m7_19,sp⟩ (fun H n hS=>by obtain⟨m6_1,m7_19,sp⟩:=hS;exact (by exact stepF_ok Ty_ok (by rw[stepF_loc];simp[hh,mX0,m6_1,m7_19,x6_1,x7_19,hnn,hn1,hn2,neX,f183,f190,List.range_succ,byteC,-intBin,-lenF]))) ?_
    refine RunT.free (int len182) rfl rfl ⟨m6_1,m7_19,sp⟩ (fun H n hS=>by obtain⟨m6_1,m7_19,sp⟩:=hS;exact (by have f183:=fun H=>len_list (H:=H) (fr:=false) (f:=Control.cells) kd_24 elen182;exact stepF_ok Ty_ok (by rw[stepF_loc];simp[hh,mX0,m6_1,m7_19,x6_1,x7_19,hnn,hn1,hn2,neX,f183,f190,List.range_succ,byteC,-intBin,-lenF]))) ?_
    refine RunT.free (.ptr X 1 0 0) rfl rfl ⟨m6_1,m7_19,sp⟩ (fun H n hS=>by obtain⟨m6_1,m7_19,sp⟩:=hS;exact (by exact stepF_ok Ty_ok (by rw[stepF_loc];simp[hh,mX0,m6_1,m7_19,x6_1,x7_19,hnn,hn1,hn2,neX,f183,f190,List.range_succ,byteC,-intBin,-lenF]))) ?_
    refine RunT.free (pA n16 7) rfl rfl ⟨m6_1,m7_19,sp⟩ (fun H n hS=>by obtain⟨m6_1,m7_19,sp⟩:=hS;exact (by exact stepF_ok Ty_ok (by rw[stepF_loc];simp[hh,mX0,m6_1,m7_19,x6_1,x7_19,hnn,hn1,hn2,neX,f183,f190,List.range_succ,byteC,-intBin,-lenF]))) ?_
    refine RunT.free (int r5.2) rfl rfl ⟨m6_1,m7_19,sp⟩ (fun H n hS=>by obtain⟨m6_1,m7_19,sp⟩:=hS;exact (by exact stepF_ok Ty_ok (by rw[stepF_loc];simp[hh,mX0,m6_1,m7_19,x6_1,x7_19,hnn,hn1,hn2,neX,f183,f190,List.range_succ,byteC,-intBin,-lenF]))) ?_
    refine⟨?_,?_,trivial⟩
    ·refine RunT.callDr (xsA:=[.ptr X 1 0 0,int len182]) (X:=X) (A:=[(n16,7),(n1,6)]) (B:=(ids0)) (M:=[]) (K0:=(oW v177 ([]:List Wire)::oS v178 l49::oI v179 ([]:List Int)::oN v180 l167::K0)) rfl rfl (pickZ_ok (Cur.mk w164 w165 w166) len182 hb184) (.cons (Sub.refl _) (.cons (Sub.refl _) .nil)) e17 (by simp[hh,mX0,m6_1,m7_19,x6_1,x7_19,hnn,hn1,hn2,neX,f183,f190,List.range_succ,byteC,-intBin,-lenF]) (by simp[hh,mX0,m6_1,m7_19,x6_1,x7_19,hnn,hn1,hn2,neX,f183,f190,hxi,List.range_succ,byteC,-intBin,-lenF]) sp (by simp[hh,mX0,m6_1,m7_19,x6_1,x7_19,hnn,hn1,hn2,neX,f183,f190,List.range_succ,byteC,-intBin,-lenF]) (by simp[hh,mX0,m6_1,m7_19,x6_1,x7_19,hnn,hn1,hn2,neX,f183,f190,List.range_succ,byteC,-intBin,-lenF]) ?_
     rintro v202 H198 n199 _ _ ⟨rfl,rfl⟩ hmx sp hle201 hfr200
     rw[← er185] at hmx sp
     have mX0:H198 X=some ⟨3,[[.list false (r185.1.code.map byteC),int r185.1.pos,.v (.int .u64 r185.1.seed)]]⟩:=hmx
     have hid:∀ i ∈ ids0,H198 i=H0 i:=fun i hi=>(hfr200 i (by simp[hi])).trans (hid i hi)
     have hnn:n0≤n199:=by omega
     have hq_n199:=hnn
     have m6_1:=(hfr200 _ (by simp)).trans m6_1
     have m7_19:=(hfr200 _ (by simp)).trans m7_19
     replace sp:=Sep.scalar sp
     obtain⟨hv,sp⟩:=sp
     subst hv
     replace sp:Sep H198 n199 (oW v177 ([]:List Wire)::oS v178 l49::oI v179 ([]:List Int)::oN v180 l167::K0) ((n16,7)::(n1,6)::X::ids0):=sp
     refine⟨(fun _=>⟨m6_1,m7_19,sp⟩),?_⟩
     refine⟨?_,?_,trivial⟩
     ·refine RunT.callDr (xsA:=[.ptr X 1 0 0,int r5.2]) (X:=X) (A:=[(n16,7),(n1,6)]) (B:=(ids0)) (M:=[]) (K0:=(oW v177 ([]:List Wire)::oS v178 l49::oI v179 ([]:List Int)::oN v180 l167::K0)) rfl rfl (pickZ_ok r185.1 r5.2 hb186) (.cons (Sub.refl _) (.cons (Sub.refl _) .nil)) e17 (by simp[hh,mX0,m6_1,m7_19,x6_1,x7_19,hnn,hn1,hn2,neX,f183,f190,List.range_succ,byteC,-intBin,-lenF]) (by simp[hh,mX0,m6_1,m7_19,x6_1,x7_19,hnn,hn1,hn2,neX,f183,f190,hxi,List.range_succ,byteC,-intBin,-lenF]) sp (by simp[hh,mX0,m6_1,m7_19,x6_1,x7_19,hnn,hn1,hn2,neX,f183,f190,List.range_succ,byteC,-intBin,-lenF]) (by simp[hh,mX0,m6_1,m7_19,x6_1,x7_19,hnn,hn1,hn2,neX,f183,f190,List.range_succ,byteC,-intBin,-lenF]) ?_
      rintro v209 H205 n206 _ _ ⟨rfl,rfl⟩ hmx sp hle208 hfr207
      rw[← er187] at hmx sp
      have mX0:H205 X=some ⟨3,[[.list false (r187.1.code.map byteC),int r187.1.pos,.v (.int .u64 r187.1.seed)]]⟩:=hmx
      have hid:∀ i ∈ ids0,H205 i=H0 i:=fun i hi=>(hfr207 i (by simp[hi])).trans (hid i hi)
      have hnn:n0≤n206:=by omega
      have hq_n206:=hnn
      have m6_1:=(hfr207 _ (by simp)).trans m6_1
      have m7_19:=(hfr207 _ (by simp)).trans m7_19
      replace sp:=Sep.scalar sp
      obtain⟨hv,sp⟩:=sp
      subst hv
      replace sp:Sep H205 n206 (oW v177 ([]:List Wire)::oS v178 l49::oI v179 ([]:List Int)::oN v180 l167::K0) ((n16,7)::(n1,6)::X::ids0):=sp
      refine⟨(fun _=>⟨m6_1,m7_19,sp⟩),?_⟩
      refine⟨?_,?_,trivial⟩
      ·refine RunT.same (v:=(int v189)) Ty_ok rfl rfl (by have f190:=ib_sub hb188 ev189;simp[hh,mX0,m6_1,m7_19,x6_1,x7_19,hnn,hn1,hn2,neX,f183,f190,List.range_succ,byteC,-intBin,-lenF]) (fun _=>⟨m6_1,m7_19,sp⟩) ?_
       refine RunT.free (.agg [int r185.2,int v189,.v (.slice none 0 0)]) rfl rfl ⟨m6_1,m7_19,sp⟩ (fun H n hS=>by obtain⟨m6_1,m7_19,sp⟩:=hS;exact (by exact stepF_ok Ty_ok (by rw[stepF_loc];simp[hh,mX0,m6_1,m7_19,x6_1,x7_19,hnn,hn1,hn2,neX,f183,f190,List.range_succ,byteC,-intBin,-lenF]))) ?_
       refine⟨?_,trivial⟩
       have x13_190:(X=(n206,13))=False:=neX _ _ (by omega)
       refine RunT.step (v:=pA n206 13) Ty_ok rfl rfl (by simp[hh,mX0,m6_1,m7_19,x6_1,x7_19,hnn,hn1,hn2,neX,f183,f190,List.range_succ,byteC,-intBin,-lenF]<;>first | exact⟨rfl,rfl⟩ | exact rfl) (fun _=>by refine⟨?_,?_,(Sep.sub sp.var (by simp +contextual))⟩<;>simp[hh,mX0,m6_1,m7_19,x6_1,x7_19,hnn,hn1,hn2,neX,f183,f190,Heap.get_set,List.range_succ,byteC,-intBin,-lenF]) ?_
       refine RunT.fin (by refine⟨v177,v178,v179,v180,n206,?_,?_,?_,?_,?_,?_,?_,?_,(by omega),(by omega),(by intro i hi;have hlt:=h00 i (by simp[hi]);have hxx:i ≠ X:=fun e=>hxi (e ▸ hi);repeat (first | exact hid i hi | rw[Heap.get_set_ne _ _ hxx] | rw[Heap.get_set_ne _ _ (by rintro rfl;simp at hlt;omega)])),sp.var⟩<;>simp[hh,mX0,m6_1,m7_19,x6_1,x7_19,hnn,hn1,hn2,neX,x13_190,f183,f190,List.range_succ,byteC,-intBin,-lenF])
      have x13_190:(X=(n206,13))=False:=neX _ _ (by omega)
      refine RunT.step (v:=pA n206 13) Ty_ok rfl rfl (by simp[hh,mX0,m6_1,m7_19,x6_1,x7_19,hnn,hn1,hn2,neX,f183,f190,List.range_succ,byteC,-intBin,-lenF]<;>first | exact⟨rfl,rfl⟩ | exact rfl) (fun _=>by refine⟨?_,?_,(Sep.sub sp.var (by simp +contextual))⟩<;>simp[hh,mX0,m6_1,m7_19,x6_1,x7_19,hnn,hn1,hn2,neX,f183,f190,Heap.get_set,List.range_succ,byteC,-intBin,-lenF]) ?_
      refine⟨?_,trivial⟩
      refine RunT.same (v:=(int v189)) Ty_ok rfl rfl (by have f190:=ib_sub hb188 ev189;simp[hh,mX0,m6_1,m7_19,x6_1,x7_19,hnn,hn1,hn2,neX,x13_190,f183,f190,List.range_succ,byteC,-intBin,-lenF]) (fun _=>by refine⟨?_,?_,(Sep.sub sp.var (by simp +contextual))⟩<;>simp[hh,mX0,m6_1,m7_19,x6_1,x7_19,hnn,hn1,hn2,neX,x13_190,f183,f190,Heap.get_set,List.range_succ,byteC,-intBin,-lenF]) ?_
      refine RunT.free (.agg [int r185.2,int v189,.v (.slice none 0 0)]) rfl rfl (by refine⟨?_,?_,(Sep.sub (show Sep _ _ (oW v177 ([]:List Wire)::oS v178 l49::oI v179 ([]:List Int)::oN v180 l167::K0) ((n206,13)::(n16,7)::(n1,6)::X::ids0) from sp.var) (by simp +contextual))⟩<;>simp[hh,mX0,m6_1,m7_19,x6_1,x7_19,hnn,hn1,hn2,neX,x13_190,f183,f190,Heap.get_set,List.range_succ,byteC,-intBin,-lenF]) (fun H n hS=>by obtain⟨m6_1,m7_19,sp⟩:=hS;exact (by exact stepF_ok Ty_ok (by rw[stepF_loc];simp[hh,mX0,m6_1,m7_19,x6_1,x7_19,hnn,hn1,hn2,neX,x13_190,f183,f190,List.range_succ,byteC,-intBin,-lenF]))) ?_
      refine RunT.fin (by refine⟨v177,v178,v179,v180,n206,?_,?_,?_,?_,?_,?_,?_,?_,(by omega),(by omega),(by intro i hi;have hlt:=h00 i (by simp[hi]);have hxx:i ≠ X:=fun e=>hxi (e ▸ hi);repeat (first | exact hid i hi | rw[Heap.get_set_ne _ _ hxx] | rw[Heap.get_set_ne _ _ (by rintro rfl;simp at hlt;omega)])),sp.var⟩<;>simp[hh,mX0,m6_1,m7_19,x6_1,x7_19,hnn,hn1,hn2,neX,x13_190,f183,f190,List.range_succ,byteC,-intBin,-lenF])
     have x13_190:(X=(n199,13))=False:=neX _ _ (by omega)
     refine RunT.step (v:=pA n199 13) Ty_ok rfl rfl (by simp[hh,mX0,m6_1,m7_19,x6_1,x7_19,hnn,hn1,hn2,neX,f183,f190,List.range_succ,byteC,-intBin,-lenF]<;>first | exact⟨rfl,rfl⟩ | exact rfl) (fun _=>by refine⟨?_,?_,(Sep.sub sp.var (by simp +contextual))⟩<;>simp[hh,mX0,m6_1,m7_19,x6_1,x7_19,hnn,hn1,hn2,neX,f183,f190,Heap.get_set,List.range_succ,byteC,-intBin,-lenF]) ?_
     refine⟨?_,trivial⟩
     refine RunT.callDr (xsA:=[.ptr X 1 0 0,int r5.2]) (X:=X) (A:=[(n199,13),(n16,7),(n1,6)]) (B:=(ids0)) (M:=[]) (K0:=(oW v177 ([]:List Wire)::oS v178 l49::oI v179 ([]:List Int)::oN v180 l167::K0)) rfl rfl (pickZ_ok r185.1 r5.2 hb186) (.cons (Sub.refl _) (.cons (Sub.refl _) .nil)) e17 (by simp[hh,mX0,m6_1,m7_19,x6_1,x7_19,hnn,hn1,hn2,neX,x13_190,f183,f190,List.range_succ,byteC,-intBin,-lenF]) (by simp[hh,mX0,m6_1,m7_19,x6_1,x7_19,hnn,hn1,hn2,neX,x13_190,f183,f190,hxi,List.range_succ,byteC,-intBin,-lenF]) sp.var (by simp[hh,mX0,m6_1,m7_19,x6_1,x7_19,hnn,hn1,hn2,neX,x13_190,f183,f190,List.range_succ,byteC,-intBin,-lenF]) (by simp[hh,mX0,m6_1,m7_19,x6_1,x7_19,hnn,hn1,hn2,neX,x13_190,f183,f190,List.range_succ,byteC,-intBin,-lenF]) ?_
     rintro v246 H242 n243 _ _ ⟨rfl,rfl⟩ hmx sp hle245 hfr244
     rw[← er187] at hmx sp
     have mX0:H242 X=some ⟨3,[[.list false (r187.1.code.map byteC),int r187.1.pos,.v (.int .u64 r187.1.seed)]]⟩:=hmx
     have hid:∀ i ∈ ids0,H242 i=H0 i:=fun i hi=>(hfr244 i (by simp[hi])).trans (by have hlt:=h00 i (by simp[hi]);have hxx:i ≠ X:=fun e=>hxi (e ▸ hi);repeat (first | exact hid i hi | rw[Heap.get_set_ne _ _ hxx] | rw[Heap.get_set_ne _ _ (by rintro rfl;simp at hlt;omega)]))
     have hnn:n0≤n243:=by omega
     have hq_n243:=hnn
     have m6_1:H242 (n1,6)=some ⟨6,[zB]⟩:=(hfr244 _ (by simp)).trans (by simp[hh,mX0,m6_1,m7_19,x6_1,x7_19,hnn,hn1,hn2,neX,x13_190,Heap.get_set])
     have m7_19:H242 (n16,7)=some ⟨6,[[int r5.2,v180,v179,int r13.2,v178,v177]]⟩:=(hfr244 _ (by simp)).trans (by simp[hh,mX0,m6_1,m7_19,x6_1,x7_19,hnn,hn1,hn2,neX,x13_190,Heap.get_set])
     have m13_190:H242 (n199,13)=some ⟨3,[[int 0,int 0,.v (.slice none 0 0)]]⟩:=(hfr244 _ (by simp)).trans (by simp[hh,mX0,m6_1,m7_19,x6_1,x7_19,hnn,hn1,hn2,neX,x13_190,Heap.get_set])
     replace sp:=Sep.scalar sp
     obtain⟨hv,sp⟩:=sp
     subst hv
     replace sp:Sep H242 n243 (oW v177 ([]:List Wire)::oS v178 l49::oI v179 ([]:List Int)::oN v180 l167::K0) ((n199,13)::(n16,7)::(n1,6)::X::ids0):=sp
     refine⟨(fun _=>⟨m6_1,m7_19,(Sep.sub sp (by simp +contextual))⟩),?_⟩
     refine⟨?_,trivial⟩
     refine RunT.same (v:=(int v189)) Ty_ok rfl rfl (by have f190:=ib_sub hb188 ev189;simp[hh,mX0,m6_1,m7_19,x6_1,x7_19,hnn,hn1,hn2,neX,x13_190,m13_190,f183,f190,List.range_succ,byteC,-intBin,-lenF]) (fun _=>⟨m6_1,m7_19,(Sep.sub sp (by simp +contextual))⟩) ?_
     refine RunT.free (.agg [int r185.2,int v189,.v (.slice none 0 0)]) rfl rfl ⟨m6_1,m7_19,(Sep.sub sp (by simp +contextual))⟩ (fun H n hS=>by obtain⟨m6_1,m7_19,sp⟩:=hS;exact (by exact stepF_ok Ty_ok (by rw[stepF_loc];simp[hh,mX0,m6_1,m7_19,x6_1,x7_19,hnn,hn1,hn2,neX,x13_190,m13_190,f183,f190,List.range_succ,byteC,-intBin,-lenF]))) ?_
     refine RunT.fin (by refine⟨v177,v178,v179,v180,n199,?_,?_,?_,?_,?_,?_,?_,?_,(by omega),(by omega),hid,sp⟩<;>simp[hh,mX0,m6_1,m7_19,x6_1,x7_19,hnn,hn1,hn2,neX,x13_190,m13_190,f183,f190,List.range_succ,byteC,-intBin,-lenF])
    have x13_190:(X=(n181,13))=False:=neX _ _ (by omega)
    refine RunT.step (v:=pA n181 13) Ty_ok rfl rfl (by simp[hh,mX0,m6_1,m7_19,x6_1,x7_19,hnn,hn1,hn2,neX,f183,f190,List.range_succ,byteC,-intBin,-lenF]<;>first | exact⟨rfl,rfl⟩ | exact rfl) (fun _=>by refine⟨?_,?_,(Sep.sub sp.var (by simp +contextual))⟩<;>simp[hh,mX0,m6_1,m7_19,x6_1,x7_19,hnn,hn1,hn2,neX,f183,f190,Heap.get_set,List.range_succ,byteC,-intBin,-lenF]) ?_
    refine⟨?_,trivial⟩
    refine RunT.callDr (xsA:=[.ptr X 1 0 0,int len182]) (X:=X) (A:=[(n181,13),(n16,7),(n1,6)]) (B:=(ids0)) (M:=[]) (K0:=(oW v177 ([]:List Wire)::oS v178 l49::oI v179 ([]:List Int)::oN v180 l167::K0)) rfl rfl (pickZ_ok (Cur.mk w164 w165 w166) len182 hb184) (.cons (Sub.refl _) (.cons (Sub.refl _) .nil)) e17 (by simp[hh,mX0,m6_1,m7_19,x6_1,x7_19,hnn,hn1,hn2,neX,x13_190,f183,f190,List.range_succ,byteC,-intBin,-lenF]) (by simp[hh,mX0,m6_1,m7_19,x6_1,x7_19,hnn,hn1,hn2,neX,x13_190,f183,f190,hxi,List.range_succ,byteC,-intBin,-lenF]) sp.var (by simp[hh,mX0,m6_1,m7_19,x6_1,x7_19,hnn,hn1,hn2,neX,x13_190,f183,f190,List.range_succ,byteC,-intBin,-lenF]) (by simp[hh,mX0,m6_1,m7_19,x6_1,x7_19,hnn,hn1,hn2,neX,x13_190,f183,f190,List.range_succ,byteC,-intBin,-lenF]) ?_
    rintro v265 H261 n262 _ _ ⟨rfl,rfl⟩ hmx sp hle264 hfr263
    rw[← er185] at hmx sp
    have mX0:H261 X=some ⟨3,[[.list false (r185.1.code.map byteC),int r185.1.pos,.v (.int .u64 r185.1.seed)]]⟩:=hmx
    have hid:∀ i ∈ ids0,H261 i=H0 i:=fun i hi=>(hfr263 i (by simp[hi])).trans (by have hlt:=h00 i (by simp[hi]);have hxx:i ≠ X:=fun e=>hxi (e ▸ hi);repeat (first | exact hid i hi | rw[Heap.get_set_ne _ _ hxx] | rw[Heap.get_set_ne _ _ (by rintro rfl;simp at hlt;omega)]))
    have hnn:n0≤n262:=by omega
    have hq_n262:=hnn
    have m6_1:H261 (n1,6)=some ⟨6,[zB]⟩:=(hfr263 _ (by simp)).trans (by simp[hh,mX0,m6_1,m7_19,x6_1,x7_19,hnn,hn1,hn2,neX,x13_190,Heap.get_set])
    have m7_19:H261 (n16,7)=some ⟨6,[[int r5.2,v180,v179,int r13.2,v178,v177]]⟩:=(hfr263 _ (by simp)).trans (by simp[hh,mX0,m6_1,m7_19,x6_1,x7_19,hnn,hn1,hn2,neX,x13_190,Heap.get_set])
    have m13_190:H261 (n181,13)=some ⟨3,[[int 0,int 0,.v (.slice none 0 0)]]⟩:=(hfr263 _ (by simp)).trans (by simp[hh,mX0,m6_1,m7_19,x6_1,x7_19,hnn,hn1,hn2,neX,x13_190,Heap.get_set])
    replace sp:=Sep.scalar sp
    obtain⟨hv,sp⟩:=sp
    subst hv
    replace sp:Sep H261 n262 (oW v177 ([]:List Wire)::oS v178 l49::oI v179 ([]:List Int)::oN v180 l167::K0) ((n181,13)::(n16,7)::(n1,6)::X::ids0):=sp
    refine⟨(fun _=>⟨m6_1,m7_19,(Sep.sub sp (by simp +contextual))⟩),?_⟩
    refine⟨?_,trivial⟩
    refine RunT.callDr (xsA:=[.ptr X 1 0 0,int r5.2]) (X:=X) (A:=[(n181,13),(n16,7),(n1,6)]) (B:=(ids0)) (M:=[]) (K0:=(oW v177 ([]:List Wire)::oS v178 l49::oI v179 ([]:List Int)::oN v180 l167::K0)) rfl rfl (pickZ_ok r185.1 r5.2 hb186) (.cons (Sub.refl _) (.cons (Sub.refl _) .nil)) e17 (by simp[hh,mX0,m6_1,m7_19,x6_1,x7_19,hnn,hn1,hn2,neX,x13_190,m13_190,f183,f190,List.range_succ,byteC,-intBin,-lenF]) (by simp[hh,mX0,m6_1,m7_19,x6_1,x7_19,hnn,hn1,hn2,neX,x13_190,m13_190,f183,f190,hxi,List.range_succ,byteC,-intBin,-lenF]) sp (by simp[hh,mX0,m6_1,m7_19,x6_1,x7_19,hnn,hn1,hn2,neX,x13_190,m13_190,f183,f190,List.range_succ,byteC,-intBin,-lenF]) (by simp[hh,mX0,m6_1,m7_19,x6_1,x7_19,hnn,hn1,hn2,neX,x13_190,m13_190,f183,f190,List.range_succ,byteC,-intBin,-lenF]) ?_
    rintro v272 H268 n269 _ _ ⟨rfl,rfl⟩ hmx sp hle271 hfr270
    rw[← er187] at hmx sp
    have mX0:H268 X=some ⟨3,[[.list false (r187.1.code.map byteC),int r187.1.pos,.v (.int .u64 r187.1.seed)]]⟩:=hmx
    have hid:∀ i ∈ ids0,H268 i=H0 i:=fun i hi=>(hfr270 i (by simp[hi])).trans (hid i hi)
    have hnn:n0≤n269:=by omega
    have hq_n269:=hnn
    have m6_1:=(hfr270 _ (by simp)).trans m6_1
    have m7_19:=(hfr270 _ (by simp)).trans m7_19
    have m13_190:=(hfr270 _ (by simp)).trans m13_190
    replace sp:=Sep.scalar sp
    obtain⟨hv,sp⟩:=sp
    subst hv
    replace sp:Sep H268 n269 (oW v177 ([]:List Wire)::oS v178 l49::oI v179 ([]:List Int)::oN v180 l167::K0) ((n181,13)::(n16,7)::(n1,6)::X::ids0):=sp
    refine⟨(fun _=>⟨m6_1,m7_19,(Sep.sub sp (by simp +contextual))⟩),?_⟩
    refine⟨?_,trivial⟩
    refine RunT.same (v:=(int v189)) Ty_ok rfl rfl (by have f190:=ib_sub hb188 ev189;simp[hh,mX0,m6_1,m7_19,x6_1,x7_19,hnn,hn1,hn2,neX,x13_190,m13_190,f183,f190,List.range_succ,byteC,-intBin,-lenF]) (fun _=>⟨m6_1,m7_19,(Sep.sub sp (by simp +contextual))⟩) ?_
    refine RunT.free (.agg [int r185.2,int v189,.v (.slice none 0 0)]) rfl rfl ⟨m6_1,m7_19,(Sep.sub sp (by simp +contextual))⟩ (fun H n hS=>by obtain⟨m6_1,m7_19,sp⟩:=hS;exact (by exact stepF_ok Ty_ok (by rw[stepF_loc];simp[hh,mX0,m6_1,m7_19,x6_1,x7_19,hnn,hn1,hn2,neX,x13_190,m13_190,f183,f190,List.range_succ,byteC,-intBin,-lenF]))) ?_
    refine RunT.fin (by refine⟨v177,v178,v179,v180,n181,?_,?_,?_,?_,?_,?_,?_,?_,(by omega),(by omega),hid,sp⟩<;>simp[hh,mX0,m6_1,m7_19,x6_1,x7_19,hnn,hn1,hn2,neX,x13_190,m13_190,f183,f190,List.range_succ,byteC,-intBin,-lenF])
   clear hh mX0 m6_1 m7_19 x6_1 x7_19
   rintro k' hk' ρ H n197 ⟨v192,v193,v194,v195,a196,hh,mX0,m6_1,m7_19,m13_190,x6_1,x7_19,x13_190,hq_a196,hnn,hid,sp⟩
   have hq_n197:=hnn
   have hn1:=Nat.le_succ_of_le hnn
   have hn2:=Nat.le_succ_of_le hn1
   show evalK _ _ _ _ _ _ _ _ _ _ _
   simp only[List.drop_succ_cons,List.drop_zero]
   simp[hh,mX0,m6_1,m7_19,m13_190,x6_1,x7_19,x13_190,hnn,hn1,hn2,neX,List.range_succ,byteC]
   apply hk'
   refine Runs.cut (fun ρ H n=>∃ (v281 v282 v283 v284:AVal),(ρ 0 = .ptr X 1 0 0∧ρ 1 = .list false (sig.map Control.cells)∧ρ 6=pA n1 6∧ρ 7=pA n16 7∧ρ 8 = .list true (l22.map strC)∧ρ 10=int v100∧ρ 11=int n139∧ρ 12=int i163∧ρ 13 = .ptr (a196,13) 1 0 0)∧H X=some ⟨3,[[.list false (r187.1.code.map byteC),int r187.1.pos,.v (.int .u64 r187.1.seed)]]⟩∧H (n1,6)=some ⟨6,[zB]⟩∧H (n16,7)=some ⟨6,[[int r5.2,v284,v283,int r13.2,v282,v281]]⟩∧H (a196,13)=some ⟨3,[[int r185.2,int v189,.v (.slice none 0 0)]]⟩∧(X=(n1,6))=False∧(X=(n16,7))=False∧(X=(a196,13))=False∧n0≤n∧(∀ i ∈ ids0,H i=H0 i)∧Sep H n (oW v281 ([]:List Wire)::oS v282 l49::oI v283 ([]:List Int)::oN v284 l167::K0) ((a196,13)::(n16,7)::(n1,6)::X::ids0)) (by refine⟨v192,v193,v194,v195,?_,?_,?_,?_,?_,?_,?_,?_,(by omega),(by intro i hi;have hlt:=h00 i (by simp[hi]);have hxx:i ≠ X:=fun e=>hxi (e ▸ hi);repeat (first | exact hid i hi | rw[Heap.get_set_ne _ _ hxx] | rw[Heap.get_set_ne _ _ (by rintro rfl;simp at hlt;omega)])),(Sep.setVar (w:=(a196,13)) sp (by simp))⟩<;>simp[hh,mX0,m6_1,m7_19,m13_190,x6_1,x7_19,x13_190,hnn,hn1,hn2,neX,List.range_succ,byteC]) ?_
   clear hh mX0 m6_1 m7_19 m13_190 x6_1 x7_19 x13_190
   rintro ρ H n285 ⟨v281,v282,v283,v284,hh,mX0,m6_1,m7_19,m13_190,x6_1,x7_19,x13_190,hnn,hid,sp⟩
   have hq_n285:=hnn
   have hn1:=Nat.le_succ_of_le hnn
   have hn2:=Nat.le_succ_of_le hn1
   refine Runs.seq ?_
   refine zE fun k' hk'=>?_
   obtain⟨hb286,h⟩:=h
   obtain⟨v287,ev287,h⟩:=atm h
   have f288:=ib_add hb286 ev287
   obtain⟨hb289,h⟩:=h
   obtain⟨r290,er290,h⟩:=atm h
   simp[hh,mX0,m6_1,m7_19,m13_190,x6_1,x7_19,x13_190,hnn,hn1,hn2,neX,f288,List.range_succ,byteC,-intBin]
   refine RunK.callDr (xsA:=[.ptr X 1 0 0,int v287]) (X:=X) (A:=[(a196,13),(n16,7),(n1,6)]) (B:=(ids0)) (M:=[]) (K0:=(oW v281 ([]:List Wire)::oS v282 l49::oI v283 ([]:List Int)::oN v284 l167::K0)) Ty_ok (pickZ_ok r187.1 v287 hb289) (.cons (Sub.refl _) (.cons (Sub.refl _) .nil)) e17 (by simp[hh,mX0,m6_1,m7_19,m13_190,x6_1,x7_19,x13_190,hnn,hn1,hn2,neX,f288,List.range_succ,byteC,-intBin]) (by simp[hh,mX0,m6_1,m7_19,m13_190,x6_1,x7_19,x13_190,hnn,hn1,hn2,neX,f288,hxi,List.range_succ,byteC,-intBin]) sp (by decide) (by decide) rfl (by simp[hh,mX0,m6_1,m7_19,m13_190,x6_1,x7_19,x13_190,hnn,hn1,hn2,neX,f288,List.range_succ,byteC,-intBin]) ?_
   rintro v291 H292 n293 _ _ ⟨rfl,rfl⟩ hmx sp hle295 hfr294
   rw[← er290] at hmx sp
   have mX0:H292 X=some ⟨3,[[.list false (r290.1.code.map byteC),int r290.1.pos,.v (.int .u64 r290.1.seed)]]⟩:=hmx
   have hid:∀ i ∈ ids0,H292 i=H0 i:=fun i hi=>(hfr294 i (by simp[hi])).trans (hid i hi)
   have hnn:n0≤n293:=by omega
   have hq_n293:=hnn
   have m6_1:=(hfr294 _ (by simp)).trans m6_1
   have m7_19:=(hfr294 _ (by simp)).trans m7_19
   have m13_190:=(hfr294 _ (by simp)).trans m13_190
   replace sp:=Sep.scalar sp
   obtain⟨hv,sp⟩:=sp
   subst hv
   replace sp:Sep H292 n293 (oW v281 ([]:List Wire)::oS v282 l49::oI v283 ([]:List Int)::oN v284 l167::K0) ((a196,13)::(n16,7)::(n1,6)::X::ids0):=sp
   simp[hh,mX0,m6_1,m7_19,m13_190,x6_1,x7_19,x13_190,hnn,hn1,hn2,neX,f288,List.range_succ,byteC,-intBin]
   apply hk'
   refine Runs.cut (fun ρ H n=>∃ (v297 v298 v299 v300:AVal),(ρ 0 = .ptr X 1 0 0∧ρ 1 = .list false (sig.map Control.cells)∧ρ 6=pA n1 6∧ρ 7=pA n16 7∧ρ 8 = .list true (l22.map strC)∧ρ 10=int v100∧ρ 11=int n139∧ρ 12=int i163∧ρ 13 = .ptr (a196,13) 1 0 0∧ρ 14=int r290.2)∧H X=some ⟨3,[[.list false (r290.1.code.map byteC),int r290.1.pos,.v (.int .u64 r290.1.seed)]]⟩∧H (n1,6)=some ⟨6,[zB]⟩∧H (n16,7)=some ⟨6,[[int r5.2,v300,v299,int r13.2,v298,v297]]⟩∧H (a196,13)=some ⟨3,[[int r185.2,int v189,.v (.slice none 0 0)]]⟩∧(X=(n1,6))=False∧(X=(n16,7))=False∧(X=(a196,13))=False∧n0≤n∧(∀ i ∈ ids0,H i=H0 i)∧Sep H n (oW v297 ([]:List Wire)::oS v298 l49::oI v299 ([]:List Int)::oN v300 l167::K0) ((a196,13)::(n16,7)::(n1,6)::X::ids0)) (by refine⟨v281,v282,v283,v284,?_,?_,?_,?_,?_,?_,?_,?_,(by omega),hid,sp⟩<;>simp[hh,mX0,m6_1,m7_19,m13_190,x6_1,x7_19,x13_190,hnn,hn1,hn2,neX,f288,List.range_succ,byteC,-intBin]) ?_
   clear hh mX0 m6_1 m7_19 m13_190 x6_1 x7_19 x13_190
   rintro ρ H n301 ⟨v297,v298,v299,v300,hh,mX0,m6_1,m7_19,m13_190,x6_1,x7_19,x13_190,hnn,hid,sp⟩
   have hq_n301:=hnn
   have hn1:=Nat.le_succ_of_le hnn
   have hn2:=Nat.le_succ_of_le hn1
   refine Runs.seq ?_
   refine Runs.cut (fun ρ H n=>∃ (v302 v303 v304 v305:AVal),(ρ 0 = .ptr X 1 0 0∧ρ 1 = .list false (sig.map Control.cells)∧ρ 6=pA n1 6∧ρ 7=pA n16 7∧ρ 8 = .list true (l22.map strC)∧ρ 10=int v100∧ρ 11=int n139∧ρ 12=int i163∧ρ 13 = .ptr (a196,13) 1 0 0∧ρ 14=int r290.2)∧H X=some ⟨3,[[.list false (r290.1.code.map byteC),int r290.1.pos,.v (.int .u64 r290.1.seed)]]⟩∧H (n1,6)=some ⟨6,[zB]⟩∧H (n16,7)=some ⟨6,[[int r5.2,v305,v304,int r13.2,v303,v302]]⟩∧H (a196,13)=some ⟨3,[[int r185.2,int v189,.v (.slice none 0 0)]]⟩∧(X=(n1,6))=False∧(X=(n16,7))=False∧(X=(a196,13))=False∧n0≤n∧(∀ i ∈ ids0,H i=H0 i)∧Sep H n (oW v302 ([]:List Wire)::oS v303 l49::oI v304 ([]:List Int)::oN v305 l167::K0) ((a196,13)::(n16,7)::(n1,6)::X::ids0)) (by refine⟨v297,v298,v299,v300,?_,?_,?_,?_,?_,?_,?_,?_,(by omega),hid,sp⟩<;>simp[hh,mX0,m6_1,m7_19,m13_190,x6_1,x7_19,x13_190,hnn,hn1,hn2,neX,List.range_succ,byteC]) ?_
   clear hh mX0 m6_1 m7_19 m13_190 x6_1 x7_19 x13_190
   rintro ρ H n306 ⟨v302,v303,v304,v305,hh,mX0,m6_1,m7_19,m13_190,x6_1,x7_19,x13_190,hnn,hid,sp⟩
   have hq_n306:=hnn
   have hn1:=Nat.le_succ_of_le hnn
   have hn2:=Nat.le_succ_of_le hn1
   refine Runs.joinC h (fun (sJ:Bool × (List Int) × Int × Int) ρ H n=>match sJ with | (v327,w328,w329,w330)=>∃ (v331 v332 v333 v334:AVal),(ρ 0 = .ptr X 1 0 0∧ρ 1 = .list false (sig.map Control.cells)∧ρ 6=pA n1 6∧ρ 7=pA n16 7∧ρ 8 = .list true (l22.map strC)∧ρ 10=int v100∧ρ 11=int n139∧ρ 12=int i163∧ρ 13 = .ptr (a196,13) 1 0 0∧ρ 14=int r290.2∧ρ 99=bool v327)∧H X=some ⟨3,[[.list false (w328.map byteC),int w329,.v (.int .u64 w330)]]⟩∧H (n1,6)=some ⟨6,[zB]⟩∧H (n16,7)=some ⟨6,[[int r5.2,v334,v333,int r13.2,v332,v331]]⟩∧H (a196,13)=some ⟨3,[[int r185.2,int v189,.v (.slice none 0 0)]]⟩∧(X=(n1,6))=False∧(X=(n16,7))=False∧(X=(a196,13))=False∧n0≤n∧(∀ i ∈ ids0,H i=H0 i)∧Sep H n (oW v331 ([]:List Wire)::oS v332 l49::oI v333 ([]:List Int)::oN v334 l167::K0) ((a196,13)::(n16,7)::(n1,6)::X::ids0)) ?_ ?_
   ·intro J336 h IH337
    refine zF fun k' hk'=>?_
    obtain⟨c338,ec338,h⟩:=atm h
    have f339:=ib_lss (k:=.i64) ec338
    rcases Bool.eq_false_or_eq_true c338 with dc338 | dc338
    ·replace h:=h.1 dc338
     obtain⟨hb340,h⟩:=h
     obtain⟨x341,ex341,h⟩:=atm h
     obtain⟨id342,els343,row344,W345,hq346,mo347,moL348,moR349,hrl350,hW351,hsub352,hni353,spr354,hcl355⟩:=Sep.rowF (q:=r290.2.toNat) (f:=(GNode.cells true)) sp.f3 hb340 ex341 rfl
     subst hq346
     obtain⟨c356,c357,c358,hq346⟩:=len3 (by simpa using hrl350)
     subst hq346
     replace spr354:Sep _ _ [(.c,c356,int x341.control),(.c,c357,int x341.parent),(.s [.c],c358,.list true (x341.links.map intC))] W345:=spr354
     obtain rfl:=Sep.cAt (K1:=[]) (K2:=[(.c,c357,int x341.parent),(.s [.c],c358,.list true (x341.links.map intC))]) spr354
     obtain rfl:=Sep.cAt (K1:=[(.c,int x341.control,int x341.control)]) (K2:=[(.s [.c],c358,.list true (x341.links.map intC))]) spr354
     have f359:=ix_arr (k:=.i64) (off:=0) (len:=l167.length) kd_25 mo347 moL348 rfl hb340
     simp at hni353
     obtain⟨hb360,h⟩:=h
     obtain⟨x361,ex361,h⟩:=atm h
     have f362:=fun H=>ix_list (H:=H) (fr:=false) (f:=Control.cells) (k:=.i64) kd_24 (fun _=>rfl) hb360 ex361
     obtain⟨c363,ec363,h⟩:=atm h
     have f364:=ib_neq (k:=.i64) ec363
     rcases Bool.eq_false_or_eq_true c363 with dc363 | dc363
     ·replace h:=h.1 dc363
      obtain⟨hb365,h⟩:=h
      obtain⟨r366,er366,h⟩:=atm h
      simp[hh,mX0,m6_1,m7_19,m13_190,x6_1,x7_19,x13_190,hnn,hn1,hn2,neX,mo347,moL348,moR349,hni353,f339,f359,f362,f364,dc338,dc363,List.range_succ,byteC,-indexAddrF,-intBin]
      refine RunK.callDr (xsA:=[.ptr X 1 0 0,int 2]) (X:=X) (A:=[(a196,13),(n16,7),(n1,6)]) (B:=(ids0)) (M:=[]) (K0:=(oW v302 ([]:List Wire)::oS v303 l49::oI v304 ([]:List Int)::oN (.arr id342 l167.length 0 l167.length) l167::K0)) Ty_ok (oneZ_ok r290.1 2 hb365) (.cons (Sub.refl _) (.cons (Sub.refl _) .nil)) e18 (by simp[hh,mX0,m6_1,m7_19,m13_190,x6_1,x7_19,x13_190,hnn,hn1,hn2,neX,mo347,moL348,moR349,hni353,f339,f359,f362,f364,dc338,dc363,List.range_succ,byteC,-indexAddrF,-intBin]) (by simp[hh,mX0,m6_1,m7_19,m13_190,x6_1,x7_19,x13_190,hnn,hn1,hn2,neX,mo347,moL348,moR349,hni353,f339,f359,f362,f364,hxi,List.range_succ,byteC,-indexAddrF,-intBin]) sp (by decide) (by decide) rfl (by simp[hh,mX0,m6_1,m7_19,m13_190,x6_1,x7_19,x13_190,hnn,hn1,hn2,neX,mo347,moL348,moR349,hni353,f339,f359,f362,f364,dc338,dc363,List.range_succ,byteC,-indexAddrF,-intBin]) ?_
      rintro v367 H368 n369 _ _ ⟨rfl,rfl⟩ hmx sp hle371 hfr370
      rw[← er366] at hmx sp
      have mX0:H368 X=some ⟨3,[[.list false (r366.1.code.map byteC),int r366.1.pos,.v (.int .u64 r366.1.seed)]]⟩:=hmx
      have hid:∀ i ∈ ids0,H368 i=H0 i:=fun i hi=>(hfr370 i (by simp[hi])).trans (hid i hi)
      have hnn:n0≤n369:=by omega
      have hq_n369:=hnn
      have m6_1:=(hfr370 _ (by simp)).trans m6_1
      have m7_19:=(hfr370 _ (by simp)).trans m7_19
      have m13_190:=(hfr370 _ (by simp)).trans m13_190
      replace sp:=Sep.scalar sp
      obtain⟨hv,sp⟩:=sp
      subst hv
      replace sp:Sep H368 n369 (oW v302 ([]:List Wire)::oS v303 l49::oI v304 ([]:List Int)::oN (.arr id342 l167.length 0 l167.length) l167::K0) ((a196,13)::(n16,7)::(n1,6)::X::ids0):=sp
      simp[hh,mX0,m6_1,m7_19,m13_190,x6_1,x7_19,x13_190,hnn,hn1,hn2,neX,hni353,f339,f359,f362,f364,dc338,dc363,List.range_succ,byteC,-indexAddrF,-intBin]
      apply hk'
      refine Runs.cut (fun ρ H n=>∃ (v373 v374 v375 v376:AVal),(ρ 0 = .ptr X 1 0 0∧ρ 1 = .list false (sig.map Control.cells)∧ρ 6=pA n1 6∧ρ 7=pA n16 7∧ρ 8 = .list true (l22.map strC)∧ρ 10=int v100∧ρ 11=int n139∧ρ 12=int i163∧ρ 13 = .ptr (a196,13) 1 0 0∧ρ 14=int r290.2∧ρ 99=bool r366.2)∧H X=some ⟨3,[[.list false (r366.1.code.map byteC),int r366.1.pos,.v (.int .u64 r366.1.seed)]]⟩∧H (n1,6)=some ⟨6,[zB]⟩∧H (n16,7)=some ⟨6,[[int r5.2,v376,v375,int r13.2,v374,v373]]⟩∧H (a196,13)=some ⟨3,[[int r185.2,int v189,.v (.slice none 0 0)]]⟩∧(X=(n1,6))=False∧(X=(n16,7))=False∧(X=(a196,13))=False∧n0≤n∧(∀ i ∈ ids0,H i=H0 i)∧Sep H n (oW v373 ([]:List Wire)::oS v374 l49::oI v375 ([]:List Int)::oN v376 l167::K0) ((a196,13)::(n16,7)::(n1,6)::X::ids0)) (by refine⟨v302,v303,v304,.arr id342 l167.length 0 l167.length,?_,?_,?_,?_,?_,?_,?_,?_,(by omega),hid,sp⟩<;>simp[hh,mX0,m6_1,m7_19,m13_190,x6_1,x7_19,x13_190,hnn,hn1,hn2,neX,hni353,f339,f359,f362,f364,dc338,dc363,List.range_succ,byteC,-indexAddrF,-intBin]) ?_
      clear hh mX0 m6_1 m7_19 m13_190 x6_1 x7_19 x13_190 hni353
      rintro ρ H n377 ⟨v373,v374,v375,v376,hh,mX0,m6_1,m7_19,m13_190,x6_1,x7_19,x13_190,hnn,hid,sp⟩
      have hq_n377:=hnn
      have hn1:=Nat.le_succ_of_le hnn
      have hn2:=Nat.le_succ_of_le hn1
      refine IH337 (r366.2,r366.1.code,r366.1.pos,r366.1.seed) _ _ _ h (by refine⟨v373,v374,v375,v376,?_,?_,?_,?_,?_,?_,?_,?_,(by omega),hid,sp⟩<;>simp[hh,mX0,m6_1,m7_19,m13_190,x6_1,x7_19,x13_190,hnn,hn1,hn2,neX,List.range_succ,byteC])
     replace h:=h.2 dc363
     simp[hh,mX0,m6_1,m7_19,m13_190,x6_1,x7_19,x13_190,hnn,hn1,hn2,neX,mo347,moL348,moR349,hni353,f339,f359,f362,f364,dc338,dc363,List.range_succ,byteC,-indexAddrF,-intBin]
     apply hk'
     refine Runs.cut (fun ρ H n=>∃ (v378 v379 v380 v381:AVal),(ρ 0 = .ptr X 1 0 0∧ρ 1 = .list false (sig.map Control.cells)∧ρ 6=pA n1 6∧ρ 7=pA n16 7∧ρ 8 = .list true (l22.map strC)∧ρ 10=int v100∧ρ 11=int n139∧ρ 12=int i163∧ρ 13 = .ptr (a196,13) 1 0 0∧ρ 14=int r290.2∧ρ 99=bool false)∧H X=some ⟨3,[[.list false (r290.1.code.map byteC),int r290.1.pos,.v (.int .u64 r290.1.seed)]]⟩∧H (n1,6)=some ⟨6,[zB]⟩∧H (n16,7)=some ⟨6,[[int r5.2,v381,v380,int r13.2,v379,v378]]⟩∧H (a196,13)=some ⟨3,[[int r185.2,int v189,.v (.slice none 0 0)]]⟩∧(X=(n1,6))=False∧(X=(n16,7))=False∧(X=(a196,13))=False∧n0≤n∧(∀ i ∈ ids0,H i=H0 i)∧Sep H n (oW v378 ([]:List Wire)::oS v379 l49::oI v380 ([]:List Int)::oN v381 l167::K0) ((a196,13)::(n16,7)::(n1,6)::X::ids0)) (by refine⟨v302,v303,v304,.arr id342 l167.length 0 l167.length,?_,?_,?_,?_,?_,?_,?_,?_,(by omega),hid,sp⟩<;>simp[hh,mX0,m6_1,m7_19,m13_190,x6_1,x7_19,x13_190,hnn,hn1,hn2,neX,mo347,moL348,moR349,hni353,f339,f359,f362,f364,dc338,dc363,List.range_succ,byteC,-indexAddrF,-intBin]) ?_
     clear hh mX0 m6_1 m7_19 m13_190 x6_1 x7_19 x13_190 mo347 moL348 moR349 hni353
     rintro ρ H n382 ⟨v378,v379,v380,v381,hh,mX0,m6_1,m7_19,m13_190,x6_1,x7_19,x13_190,hnn,hid,sp⟩
     have hq_n382:=hnn
     have hn1:=Nat.le_succ_of_le hnn
     have hn2:=Nat.le_succ_of_le hn1
     refine IH337 (false,r290.1.code,r290.1.pos,r290.1.seed) _ _ _ h (by refine⟨v378,v379,v380,v381,?_,?_,?_,?_,?_,?_,?_,?_,(by omega),hid,sp⟩<;>simp[hh,mX0,m6_1,m7_19,m13_190,x6_1,x7_19,x13_190,hnn,hn1,hn2,neX,List.range_succ,byteC])
    replace h:=h.2 dc338
    simp[hh,mX0,m6_1,m7_19,m13_190,x6_1,x7_19,x13_190,hnn,hn1,hn2,neX,f339,dc338,List.range_succ,byteC,-intBin]
    apply hk'
    refine Runs.cut (fun ρ H n=>∃ (v383 v384 v385 v386:AVal),(ρ 0 = .ptr X 1 0 0∧ρ 1 = .list false (sig.map Control.cells)∧ρ 6=pA n1 6∧ρ 7=pA n16 7∧ρ 8 = .list true (l22.map strC)∧ρ 10=int v100∧ρ 11=int n139∧ρ 12=int i163∧ρ 13 = .ptr (a196,13) 1 0 0∧ρ 14=int r290.2∧ρ 99=bool false)∧H X=some ⟨3,[[.list false (r290.1.code.map byteC),int r290.1.pos,.v (.int .u64 r290.1.seed)]]⟩∧H (n1,6)=some ⟨6,[zB]⟩∧H (n16,7)=some ⟨6,[[int r5.2,v386,v385,int r13.2,v384,v383]]⟩∧H (a196,13)=some ⟨3,[[int r185.2,int v189,.v (.slice none 0 0)]]⟩∧(X=(n1,6))=False∧(X=(n16,7))=False∧(X=(a196,13))=False∧n0≤n∧(∀ i ∈ ids0,H i=H0 i)∧Sep H n (oW v383 ([]:List Wire)::oS v384 l49::oI v385 ([]:List Int)::oN v386 l167::K0) ((a196,13)::(n16,7)::(n1,6)::X::ids0)) (by refine⟨v302,v303,v304,v305,?_,?_,?_,?_,?_,?_,?_,?_,(by omega),hid,sp⟩<;>simp[hh,mX0,m6_1,m7_19,m13_190,x6_1,x7_19,x13_190,hnn,hn1,hn2,neX,f339,dc338,List.range_succ,byteC,-intBin]) ?_
    clear hh mX0 m6_1 m7_19 m13_190 x6_1 x7_19 x13_190
    rintro ρ H n387 ⟨v383,v384,v385,v386,hh,mX0,m6_1,m7_19,m13_190,x6_1,x7_19,x13_190,hnn,hid,sp⟩
    have hq_n387:=hnn
    have hn1:=Nat.le_succ_of_le hnn
    have hn2:=Nat.le_succ_of_le hn1
    refine IH337 (false,r290.1.code,r290.1.pos,r290.1.seed) _ _ _ h (by refine⟨v383,v384,v385,v386,?_,?_,?_,?_,?_,?_,?_,?_,(by omega),hid,sp⟩<;>simp[hh,mX0,m6_1,m7_19,m13_190,x6_1,x7_19,x13_190,hnn,hn1,hn2,neX,List.range_succ,byteC])
   clear hh mX0 m6_1 m7_19 m13_190 x6_1 x7_19 x13_190
   rintro⟨v327,w328,w329,w330⟩ ρ H n335 h ⟨v331,v332,v333,v334,hh,mX0,m6_1,m7_19,m13_190,x6_1,x7_19,x13_190,hnn,hid,sp⟩
   have hq_n335:=hnn
   have hn1:=Nat.le_succ_of_le hnn
   have hn2:=Nat.le_succ_of_le hn1
   refine Runs.cut (fun ρ H n=>∃ (v388 v389 v390 v391:AVal),(ρ 0 = .ptr X 1 0 0∧ρ 1 = .list false (sig.map Control.cells)∧ρ 6=pA n1 6∧ρ 7=pA n16 7∧ρ 8 = .list true (l22.map strC)∧ρ 10=int v100∧ρ 11=int n139∧ρ 12=int i163∧ρ 13 = .ptr (a196,13) 1 0 0∧ρ 14=int r290.2∧ρ 99=bool v327)∧H X=some ⟨3,[[.list false (w328.map byteC),int w329,.v (.int .u64 w330)]]⟩∧H (n1,6)=some ⟨6,[zB]⟩∧H (n16,7)=some ⟨6,[[int r5.2,v391,v390,int r13.2,v389,v388]]⟩∧H (a196,13)=some ⟨3,[[int r185.2,int v189,.v (.slice none 0 0)]]⟩∧(X=(n1,6))=False∧(X=(n16,7))=False∧(X=(a196,13))=False∧n0≤n∧(∀ i ∈ ids0,H i=H0 i)∧Sep H n (oW v388 ([]:List Wire)::oS v389 l49::oI v390 ([]:List Int)::oN v391 l167::K0) ((a196,13)::(n16,7)::(n1,6)::X::ids0)) (by refine⟨v331,v332,v333,v334,?_,?_,?_,?_,?_,?_,?_,?_,(by omega),hid,sp⟩<;>simp[hh,mX0,m6_1,m7_19,m13_190,x6_1,x7_19,x13_190,hnn,hn1,hn2,neX,List.range_succ,byteC]) ?_
   clear hh mX0 m6_1 m7_19 m13_190 x6_1 x7_19 x13_190
   rintro ρ H n392 ⟨v388,v389,v390,v391,hh,mX0,m6_1,m7_19,m13_190,x6_1,x7_19,x13_190,hnn,hid,sp⟩
   have hq_n392:=hnn
   have hn1:=Nat.le_succ_of_le hnn
   have hn2:=Nat.le_succ_of_le hn1
   refine Runs.joinC h (fun (sJ:Int) ρ H n=>match sJ with | w404=>∃ (v405 v406 v407 v408:AVal),(ρ 0 = .ptr X 1 0 0∧ρ 1 = .list false (sig.map Control.cells)∧ρ 6=pA n1 6∧ρ 7=pA n16 7∧ρ 8 = .list true (l22.map strC)∧ρ 10=int v100∧ρ 11=int n139∧ρ 12=int i163∧ρ 13 = .ptr (a196,13) 1 0 0)∧H X=some ⟨3,[[.list false (w328.map byteC),int w329,.v (.int .u64 w330)]]⟩∧H (n1,6)=some ⟨6,[zB]⟩∧H (n16,7)=some ⟨6,[[int r5.2,v408,v407,int r13.2,v406,v405]]⟩∧H (a196,13)=some ⟨3,[[int r185.2,int w404,.v (.slice none 0 0)]]⟩∧(X=(n1,6))=False∧(X=(n16,7))=False∧(X=(a196,13))=False∧n0≤n∧(∀ i ∈ ids0,H i=H0 i)∧Sep H n (oW v405 ([]:List Wire)::oS v406 l49::oI v407 ([]:List Int)::oN v408 l167::K0) ((a196,13)::(n16,7)::(n1,6)::X::ids0)) ?_ ?_
   ·intro J410 h IH411
    refine Runs.ite (b:=v327) (by simp[hh,mX0,m6_1,m7_19,m13_190,x6_1,x7_19,x13_190,hnn,hn1,hn2,neX,List.range_succ,byteC]) (fun dv327=>?_) (fun dv327=>?_)
    ·replace h:=h.1 dv327
     refine zF fun k' hk'=>?_
     simp[hh,mX0,m6_1,m7_19,m13_190,x6_1,x7_19,x13_190,hnn,hn1,hn2,neX,dv327,List.range_succ,byteC]
     apply hk'
     refine Runs.cut (fun ρ H n=>∃ (v412 v413 v414 v415:AVal),(ρ 0 = .ptr X 1 0 0∧ρ 1 = .list false (sig.map Control.cells)∧ρ 6=pA n1 6∧ρ 7=pA n16 7∧ρ 8 = .list true (l22.map strC)∧ρ 10=int v100∧ρ 11=int n139∧ρ 12=int i163∧ρ 13 = .ptr (a196,13) 1 0 0)∧H X=some ⟨3,[[.list false (w328.map byteC),int w329,.v (.int .u64 w330)]]⟩∧H (n1,6)=some ⟨6,[zB]⟩∧H (n16,7)=some ⟨6,[[int r5.2,v415,v414,int r13.2,v413,v412]]⟩∧H (a196,13)=some ⟨3,[[int r185.2,int r290.2,.v (.slice none 0 0)]]⟩∧(X=(n1,6))=False∧(X=(n16,7))=False∧(X=(a196,13))=False∧n0≤n∧(∀ i ∈ ids0,H i=H0 i)∧Sep H n (oW v412 ([]:List Wire)::oS v413 l49::oI v414 ([]:List Int)::oN v415 l167::K0) ((a196,13)::(n16,7)::(n1,6)::X::ids0)) (by refine⟨v388,v389,v390,v391,?_,?_,?_,?_,?_,?_,?_,?_,(by omega),(by intro i hi;have hlt:=h00 i (by simp[hi]);have hxx:i ≠ X:=fun e=>hxi (e ▸ hi);repeat (first | exact hid i hi | rw[Heap.get_set_ne _ _ hxx] | rw[Heap.get_set_ne _ _ (by rintro rfl;simp at hlt;omega)])),(Sep.setVar (w:=(a196,13)) sp (by simp))⟩<;>simp[hh,mX0,m6_1,m7_19,m13_190,x6_1,x7_19,x13_190,hnn,hn1,hn2,neX,dv327,List.range_succ,byteC]) ?_
     clear hh mX0 m6_1 m7_19 m13_190 x6_1 x7_19 x13_190
     rintro ρ H n416 ⟨v412,v413,v414,v415,hh,mX0,m6_1,m7_19,m13_190,x6_1,x7_19,x13_190,hnn,hid,sp⟩
     have hq_n416:=hnn
     have hn1:=Nat.le_succ_of_le hnn
     have hn2:=Nat.le_succ_of_le hn1
     refine IH411 (r290.2) _ _ _ h (by refine⟨v412,v413,v414,v415,?_,?_,?_,?_,?_,?_,?_,?_,(by omega),hid,sp⟩<;>simp[hh,mX0,m6_1,m7_19,m13_190,x6_1,x7_19,x13_190,hnn,hn1,hn2,neX,List.range_succ,byteC])
    replace h:=h.2 dv327
    refine Runs.skip ?_
    refine IH411 (v189) _ _ _ h (by refine⟨v388,v389,v390,v391,?_,?_,?_,?_,?_,?_,?_,?_,(by omega),hid,sp⟩<;>simp[hh,mX0,m6_1,m7_19,m13_190,x6_1,x7_19,x13_190,hnn,hn1,hn2,neX,dv327,List.range_succ,byteC])
   clear hh mX0 m6_1 m7_19 m13_190 x6_1 x7_19 x13_190
   rintro w404 ρ H n409 h ⟨v405,v406,v407,v408,hh,mX0,m6_1,m7_19,m13_190,x6_1,x7_19,x13_190,hnn,hid,sp⟩
   have hq_n409:=hnn
   have hn1:=Nat.le_succ_of_le hnn
   have hn2:=Nat.le_succ_of_le hn1
   refine Runs.seq ?_
   refine zE fun k' hk'=>?_
   obtain⟨J417,hJ418,hr419⟩:=h
   have fin425:∀ (sJ:Bool) (ρ:Env) (H:Heap) (n:Nat),J417 sJ→(match sJ with | b420=>∃ (v421 v422 v423 v424:AVal),(ρ 0 = .ptr X 1 0 0∧ρ 1 = .list false (sig.map Control.cells)∧ρ 6=pA n1 6∧ρ 7=pA n16 7∧ρ 8 = .list true (l22.map strC)∧ρ 10=int v100∧ρ 11=int n139∧ρ 12=int i163∧ρ 13 = .ptr (a196,13) 1 0 0∧ρ 112=bool b420)∧H X=some ⟨3,[[.list false (w328.map byteC),int w329,.v (.int .u64 w330)]]⟩∧H (n1,6)=some ⟨6,[zB]⟩∧H (n16,7)=some ⟨6,[[int r5.2,v424,v423,int r13.2,v422,v421]]⟩∧H (a196,13)=some ⟨3,[[int r185.2,int w404,.v (.slice none 0 0)]]⟩∧(X=(n1,6))=False∧(X=(n16,7))=False∧(X=(a196,13))=False∧n0≤n∧(∀ i ∈ ids0,H i=H0 i)∧Sep H n (oW v421 ([]:List Wire)::oS v422 l49::oI v423 ([]:List Int)::oN v424 l167::K0) ((a196,13)::(n16,7)::(n1,6)::X::ids0))→Runs Tryd.prog 16 208 k' ρ H n Q:=by
    rintro b420 ρ H n426 h ⟨v421,v422,v423,v424,hh,mX0,m6_1,m7_19,m13_190,x6_1,x7_19,x13_190,hnn,hid,sp⟩
    have hq_n426:=hnn
    have hn1:=Nat.le_succ_of_le hnn
    have hn2:=Nat.le_succ_of_le hn1
    replace h:=hr419 _ h
    apply hk'
    refine Runs.cut (fun ρ H n=>∃ (v427 v428 v429 v430:AVal),(ρ 0 = .ptr X 1 0 0∧ρ 1 = .list false (sig.map Control.cells)∧ρ 6=pA n1 6∧ρ 7=pA n16 7∧ρ 8 = .list true (l22.map strC)∧ρ 10=int v100∧ρ 11=int n139∧ρ 12=int i163∧ρ 13 = .ptr (a196,13) 1 0 0∧ρ 112=bool b420)∧H X=some ⟨3,[[.list false (w328.map byteC),int w329,.v (.int .u64 w330)]]⟩∧H (n1,6)=some ⟨6,[zB]⟩∧H (n16,7)=some ⟨6,[[int r5.2,v430,v429,int r13.2,v428,v427]]⟩∧H (a196,13)=some ⟨3,[[int r185.2,int w404,.v (.slice none 0 0)]]⟩∧(X=(n1,6))=False∧(X=(n16,7))=False∧(X=(a196,13))=False∧n0≤n∧(∀ i ∈ ids0,H i=H0 i)∧Sep H n (oW v427 ([]:List Wire)::oS v428 l49::oI v429 ([]:List Int)::oN v430 l167::K0) ((a196,13)::(n16,7)::(n1,6)::X::ids0)) (by refine⟨v421,v422,v423,v424,?_,?_,?_,?_,?_,?_,?_,?_,(by omega),hid,sp⟩<;>simp[hh,mX0,m6_1,m7_19,m13_190,x6_1,x7_19,x13_190,hnn,hn1,hn2,neX,List.range_succ,byteC]) ?_
    clear hh mX0 m6_1 m7_19 m13_190 x6_1 x7_19 x13_190
    rintro ρ H n431 ⟨v427,v428,v429,v430,hh,mX0,m6_1,m7_19,m13_190,x6_1,x7_19,x13_190,hnn,hid,sp⟩
    have hq_n431:=hnn
    have hn1:=Nat.le_succ_of_le hnn
    have hn2:=Nat.le_succ_of_le hn1
    refine Runs.joinC h (fun (sJ:Int) ρ H n=>match sJ with | w443=>∃ (v444 v445 v446 v447:AVal),(ρ 0 = .ptr X 1 0 0∧ρ 1 = .list false (sig.map Control.cells)∧ρ 6=pA n1 6∧ρ 7=pA n16 7∧ρ 8 = .list true (l22.map strC)∧ρ 10=int v100∧ρ 11=int n139∧ρ 12=int i163∧ρ 13 = .ptr (a196,13) 1 0 0)∧H X=some ⟨3,[[.list false (w328.map byteC),int w329,.v (.int .u64 w330)]]⟩∧H (n1,6)=some ⟨6,[zB]⟩∧H (n16,7)=some ⟨6,[[int r5.2,v447,v446,int r13.2,v445,v444]]⟩∧H (a196,13)=some ⟨3,[[int w443,int w404,.v (.slice none 0 0)]]⟩∧(X=(n1,6))=False∧(X=(n16,7))=False∧(X=(a196,13))=False∧n0≤n∧(∀ i ∈ ids0,H i=H0 i)∧Sep H n (oW v444 ([]:List Wire)::oS v445 l49::oI v446 ([]:List Int)::oN v447 l167::K0) ((a196,13)::(n16,7)::(n1,6)::X::ids0)) ?_ ?_
    ·intro J449 h IH450
     refine Runs.ite (b:=b420) (by simp[hh,mX0,m6_1,m7_19,m13_190,x6_1,x7_19,x13_190,hnn,hn1,hn2,neX,List.range_succ,byteC]) (fun db420=>?_) (fun db420=>?_)
     ·replace h:=h.1 db420
      refine zF fun k' hk'=>?_
      simp[hh,mX0,m6_1,m7_19,m13_190,x6_1,x7_19,x13_190,hnn,hn1,hn2,neX,db420,List.range_succ,byteC]
      apply hk'
      refine Runs.cut (fun ρ H n=>∃ (v451 v452 v453 v454:AVal),(ρ 0 = .ptr X 1 0 0∧ρ 1 = .list false (sig.map Control.cells)∧ρ 6=pA n1 6∧ρ 7=pA n16 7∧ρ 8 = .list true (l22.map strC)∧ρ 10=int v100∧ρ 11=int n139∧ρ 12=int i163∧ρ 13 = .ptr (a196,13) 1 0 0)∧H X=some ⟨3,[[.list false (w328.map byteC),int w329,.v (.int .u64 w330)]]⟩∧H (n1,6)=some ⟨6,[zB]⟩∧H (n16,7)=some ⟨6,[[int r5.2,v454,v453,int r13.2,v452,v451]]⟩∧H (a196,13)=some ⟨3,[[int 0,int w404,.v (.slice none 0 0)]]⟩∧(X=(n1,6))=False∧(X=(n16,7))=False∧(X=(a196,13))=False∧n0≤n∧(∀ i ∈ ids0,H i=H0 i)∧Sep H n (oW v451 ([]:List Wire)::oS v452 l49::oI v453 ([]:List Int)::oN v454 l167::K0) ((a196,13)::(n16,7)::(n1,6)::X::ids0)) (by refine⟨v427,v428,v429,v430,?_,?_,?_,?_,?_,?_,?_,?_,(by omega),(by intro i hi;have hlt:=h00 i (by simp[hi]);have hxx:i ≠ X:=fun e=>hxi (e ▸ hi);repeat (first | exact hid i hi | rw[Heap.get_set_ne _ _ hxx] | rw[Heap.get_set_ne _ _ (by rintro rfl;simp at hlt;omega)])),(Sep.setVar (w:=(a196,13)) sp (by simp))⟩<;>simp[hh,mX0,m6_1,m7_19,m13_190,x6_1,x7_19,x13_190,hnn,hn1,hn2,neX,db420,List.range_succ,byteC]) ?_
      clear hh mX0 m6_1 m7_19 m13_190 x6_1 x7_19 x13_190
      rintro ρ H n455 ⟨v451,v452,v453,v454,hh,mX0,m6_1,m7_19,m13_190,x6_1,x7_19,x13_190,hnn,hid,sp⟩
      have hq_n455:=hnn
      have hn1:=Nat.le_succ_of_le hnn
      have hn2:=Nat.le_succ_of_le hn1
      refine IH450 (0) _ _ _ h (by refine⟨v451,v452,v453,v454,?_,?_,?_,?_,?_,?_,?_,?_,(by omega),hid,sp⟩<;>simp[hh,mX0,m6_1,m7_19,m13_190,x6_1,x7_19,x13_190,hnn,hn1,hn2,neX,List.range_succ,byteC])
     replace h:=h.2 db420
     refine Runs.skip ?_
     refine IH450 (r185.2) _ _ _ h (by refine⟨v427,v428,v429,v430,?_,?_,?_,?_,?_,?_,?_,?_,(by omega),hid,sp⟩<;>simp[hh,mX0,m6_1,m7_19,m13_190,x6_1,x7_19,x13_190,hnn,hn1,hn2,neX,db420,List.range_succ,byteC])
    clear hh mX0 m6_1 m7_19 m13_190 x6_1 x7_19 x13_190
    rintro w443 ρ H n448 h ⟨v444,v445,v446,v447,hh,mX0,m6_1,m7_19,m13_190,x6_1,x7_19,x13_190,hnn,hid,sp⟩
    have hq_n448:=hnn
    have hn1:=Nat.le_succ_of_le hnn
    have hn2:=Nat.le_succ_of_le hn1
    refine Runs.seq ?_
    refine zE fun k' hk'=>?_
    simp[hh,mX0,m6_1,m7_19,m13_190,x6_1,x7_19,x13_190,hnn,hn1,hn2,neX,List.range_succ,byteC]
    apply hk'
    refine Runs.block ?_
    refine Runs.loopW h (fun (sJ:Int × (List Int) × Int × Int × (List Int)) ρ H n=>match sJ with | (k481,w482,w483,w484,l485)=>∃ (v486 v487 v488 v489 v490:AVal),(ρ 0 = .ptr X 1 0 0∧ρ 1 = .list false (sig.map Control.cells)∧ρ 6=pA n1 6∧ρ 7=pA n16 7∧ρ 8 = .list true (l22.map strC)∧ρ 10=int v100∧ρ 11=int n139∧ρ 12=int i163∧ρ 13 = .ptr (a196,13) 1 0 0∧ρ 15=int k481)∧H X=some ⟨3,[[.list false (w482.map byteC),int w483,.v (.int .u64 w484)]]⟩∧H (n1,6)=some ⟨6,[zB]⟩∧H (n16,7)=some ⟨6,[[int r5.2,v490,v489,int r13.2,v488,v487]]⟩∧H (a196,13)=some ⟨3,[[int w443,int w404,v486]]⟩∧(X=(n1,6))=False∧(X=(n16,7))=False∧(X=(a196,13))=False∧n0≤n∧(∀ i ∈ ids0,H i=H0 i)∧Sep H n (oI v486 l485::oW v487 ([]:List Wire)::oS v488 l49::oI v489 ([]:List Int)::oN v490 l167::K0) ((a196,13)::(n16,7)::(n1,6)::X::ids0)) (by refine⟨.v (.slice none 0 0),v444,v445,v446,v447,?_,?_,?_,?_,?_,?_,?_,?_,(by omega),(by intro i hi;have hlt:=h00 i (by simp[hi]);have hxx:i ≠ X:=fun e=>hxi (e ▸ hi);repeat (first | exact hid i hi | rw[Heap.get_set_ne _ _ hxx] | rw[Heap.get_set_ne _ _ (by rintro rfl;simp at hlt;omega)])),(Sep.addNil sp)⟩<;>simp[hh,mX0,m6_1,m7_19,m13_190,x6_1,x7_19,x13_190,hnn,hn1,hn2,neX,List.range_succ,byteC]) ?_
    clear hh mX0 m6_1 m7_19 m13_190 x6_1 x7_19 x13_190
    rintro⟨k481,w482,w483,w484,l485⟩ ρ H n491 K h ⟨v486,v487,v488,v489,v490,hh,mX0,m6_1,m7_19,m13_190,x6_1,x7_19,x13_190,hnn,hid,sp⟩ IH492
    have hq_n491:=hnn
    have hn1:=Nat.le_succ_of_le hnn
    have hn2:=Nat.le_succ_of_le hn1
    refine Runs.seq ?_
    refine zE fun k' hk'=>?_
    obtain⟨hb494,h⟩:=h
    obtain⟨x495,ex495,h⟩:=atm h
    have f496:=fun H=>ix_list (H:=H) (fr:=false) (f:=Control.cells) (k:=.i64) kd_24 (fun _=>rfl) hb494 ex495
    obtain⟨c497,ec497,h⟩:=atm h
    have f498:=ib_lss (k:=.i64) ec497
    simp[hh,mX0,m6_1,m7_19,m13_190,x6_1,x7_19,x13_190,hnn,hn1,hn2,neX,f496,f498,List.range_succ,byteC,-indexAddrF,-intBin]
    apply hk'
    refine Runs.ite (b:=c497) (by simp[hh,mX0,m6_1,m7_19,m13_190,x6_1,x7_19,x13_190,hnn,hn1,hn2,neX,List.range_succ,byteC]) (fun dc497=>?_) (fun dc497=>?_)
    ·replace h:=h.1 dc497
     refine Runs.skip ?_
     refine Runs.seq ?_
     refine Runs.block ?_
     refine Runs.cut (fun ρ H n=>∃ (v499 v500 v501 v502 v503:AVal),(ρ 0 = .ptr X 1 0 0∧ρ 1 = .list false (sig.map Control.cells)∧ρ 6=pA n1 6∧ρ 7=pA n16 7∧ρ 8 = .list true (l22.map strC)∧ρ 10=int v100∧ρ 11=int n139∧ρ 12=int i163∧ρ 13 = .ptr (a196,13) 1 0 0∧ρ 15=int k481)∧H X=some ⟨3,[[.list false (w482.map byteC),int w483,.v (.int .u64 w484)]]⟩∧H (n1,6)=some ⟨6,[zB]⟩∧H (n16,7)=some ⟨6,[[int r5.2,v503,v502,int r13.2,v501,v500]]⟩∧H (a196,13)=some ⟨3,[[int w443,int w404,v499]]⟩∧(X=(n1,6))=False∧(X=(n16,7))=False∧(X=(a196,13))=False∧n0≤n∧(∀ i ∈ ids0,H i=H0 i)∧Sep H n (oI v499 l485::oW v500 ([]:List Wire)::oS v501 l49::oI v502 ([]:List Int)::oN v503 l167::K0) ((a196,13)::(n16,7)::(n1,6)::X::ids0)) (by refine⟨v486,v487,v488,v489,v490,?_,?_,?_,?_,?_,?_,?_,?_,(by omega),hid,sp⟩<;>simp[hh,mX0,m6_1,m7_19,m13_190,x6_1,x7_19,x13_190,hnn,hn1,hn2,neX,dc497,List.range_succ,byteC]) ?_
     clear hh mX0 m6_1 m7_19 m13_190 x6_1 x7_19 x13_190
     rintro ρ H n504 ⟨v499,v500,v501,v502,v503,hh,mX0,m6_1,m7_19,m13_190,x6_1,x7_19,x13_190,hnn,hid,sp⟩
     have hq_n504:=hnn
     have hn1:=Nat.le_succ_of_le hnn
     have hn2:=Nat.le_succ_of_le hn1
     obtain⟨r505,er505,h⟩:=atm h
     obtain⟨hb506,h⟩:=h
     obtain⟨r507,er507,h⟩:=atm h
     obtain⟨l508,el508,h⟩:=atm h
     refine Runs.drawL Ty_ok 7 (fun H n=>H (n1,6)=some ⟨6,[zB]⟩∧H (n16,7)=some ⟨6,[[int r5.2,v503,v502,int r13.2,v501,v500]]⟩∧H (a196,13)=some ⟨3,[[int w443,int w404,v499]]⟩∧Sep H n (oI v499 l485::oW v500 ([]:List Wire)::oS v501 l49::oI v502 ([]:List Int)::oN v503 l167::K0) ((a196,13)::(n16,7)::(n1,6)::X::ids0)) [5,6] (.free 0 (.free 1 (.free 2 (.free 3 (.free 4 (.hard 5 (.hard 6 (.fin) (.stop)) (.stop))))))) (fun ρ H n=>∃ (v509 v510 v511 v512 v513:AVal),(ρ 0 = .ptr X 1 0 0∧ρ 1 = .list false (sig.map Control.cells)∧ρ 6=pA n1 6∧ρ 7=pA n16 7∧ρ 8 = .list true (l22.map strC)∧ρ 10=int v100∧ρ 11=int n139∧ρ 12=int i163∧ρ 13 = .ptr (a196,13) 1 0 0∧ρ 15=int k481∧ρ 125=v509∧ρ 130 = .list true (l508.map intC))∧H X=some ⟨3,[[.list false (r507.1.code.map byteC),int r507.1.pos,.v (.int .u64 r507.1.seed)]]⟩∧H (n1,6)=some ⟨6,[zB]⟩∧H (n16,7)=some ⟨6,[[int r5.2,v513,v512,int r13.2,v511,v510]]⟩∧H (a196,13)=some ⟨3,[[int w443,int w404,v509]]⟩∧(X=(n1,6))=False∧(X=(n16,7))=False∧(X=(a196,13))=False∧n0≤n∧(∀ i ∈ ids0,H i=H0 i)∧Sep H n (oI v509 l485::oW v510 ([]:List Wire)::oS v511 l49::oI v512 ([]:List Int)::oN v513 l167::K0) ((a196,13)::(n16,7)::(n1,6)::X::ids0)) draws (by decide) (by kernel_rfl) (by kernel_rfl) ?_ ?_
     ·refine RunT.free (.ptr (a196,13) 1 0 2) rfl rfl ⟨m6_1,m7_19,m13_190,sp⟩ (fun H n hS=>by obtain⟨m6_1,m7_19,m13_190,sp⟩:=hS;exact (by exact stepF_ok Ty_ok (by rw[stepF_loc];simp[hh,mX0,m6_1,m7_19,m13_190,x6_1,x7_19,x13_190,hnn,hn1,hn2,neX,el508,List.range_succ,byteC]))) ?_
      refine RunT.free v499 rfl rfl ⟨m6_1,m7_19,m13_190,sp⟩ (fun H n hS=>by obtain⟨m6_1,m7_19,m13_190,sp⟩:=hS;exact (by exact stepF_ok Ty_ok (by rw[stepF_loc];simp[hh,mX0,m6_1,m7_19,m13_190,x6_1,x7_19,x13_190,hnn,hn1,hn2,neX,el508,List.range_succ,byteC]))) ?_
      refine RunT.free (.ptr X 1 0 0) rfl rfl ⟨m6_1,m7_19,m13_190,sp⟩ (fun H n hS=>by obtain⟨m6_1,m7_19,m13_190,sp⟩:=hS;exact (by exact stepF_ok Ty_ok (by rw[stepF_loc];simp[hh,mX0,m6_1,m7_19,m13_190,x6_1,x7_19,x13_190,hnn,hn1,hn2,neX,el508,List.range_succ,byteC]))) ?_
      refine RunT.free (int v100) rfl rfl ⟨m6_1,m7_19,m13_190,sp⟩ (fun H n hS=>by obtain⟨m6_1,m7_19,m13_190,sp⟩:=hS;exact (by exact stepF_ok Ty_ok (by rw[stepF_loc];simp[hh,mX0,m6_1,m7_19,m13_190,x6_1,x7_19,x13_190,hnn,hn1,hn2,neX,el508,List.range_succ,byteC]))) ?_
      refine RunT.free (int r505) rfl rfl ⟨m6_1,m7_19,m13_190,sp⟩ (fun H n hS=>by obtain⟨m6_1,m7_19,m13_190,sp⟩:=hS;exact (by rw[er505];exact OpSem.callD2 (xs:=[int v100,int 1]) (l1MostZ_ok v100 1 ) e43 (.cons (.v _ _ _) (.cons (.v _ _ _) .nil)) (by simp[hh,mX0,m6_1,m7_19,m13_190,x6_1,x7_19,x13_190,hnn,hn1,hn2,neX,el508,List.range_succ,byteC]) (by simp[hh,mX0,m6_1,m7_19,m13_190,x6_1,x7_19,x13_190,hnn,hn1,hn2,neX,el508,List.range_succ,byteC]))) ?_
      refine⟨?_,trivial⟩
      refine RunT.callDr (xsA:=[.ptr X 1 0 0,int r505]) (X:=X) (A:=[(a196,13),(n16,7),(n1,6)]) (B:=(ids0)) (M:=[]) (K0:=(oI v499 l485::oW v500 ([]:List Wire)::oS v501 l49::oI v502 ([]:List Int)::oN v503 l167::K0)) rfl rfl (pickZ_ok (Cur.mk w482 w483 w484) r505 hb506) (.cons (Sub.refl _) (.cons (Sub.refl _) .nil)) e17 (by simp[hh,mX0,m6_1,m7_19,m13_190,x6_1,x7_19,x13_190,hnn,hn1,hn2,neX,el508,List.range_succ,byteC]) (by simp[hh,mX0,m6_1,m7_19,m13_190,x6_1,x7_19,x13_190,hnn,hn1,hn2,neX,el508,hxi,List.range_succ,byteC]) sp (by simp[hh,mX0,m6_1,m7_19,m13_190,x6_1,x7_19,x13_190,hnn,hn1,hn2,neX,el508,List.range_succ,byteC]) (by simp[hh,mX0,m6_1,m7_19,m13_190,x6_1,x7_19,x13_190,hnn,hn1,hn2,neX,el508,List.range_succ,byteC]) ?_
      rintro v519 H515 n516 _ _ ⟨rfl,rfl⟩ hmx sp hle518 hfr517
      rw[← er507] at hmx sp
      have mX0:H515 X=some ⟨3,[[.list false (r507.1.code.map byteC),int r507.1.pos,.v (.int .u64 r507.1.seed)]]⟩:=hmx
      have hid:∀ i ∈ ids0,H515 i=H0 i:=fun i hi=>(hfr517 i (by simp[hi])).trans (hid i hi)
      have hnn:n0≤n516:=by omega
      have hq_n516:=hnn
      have m6_1:=(hfr517 _ (by simp)).trans m6_1
      have m7_19:=(hfr517 _ (by simp)).trans m7_19
      have m13_190:=(hfr517 _ (by simp)).trans m13_190
      replace sp:=Sep.scalar sp
      obtain⟨hv,sp⟩:=sp
      subst hv
      replace sp:Sep H515 n516 (oI v499 l485::oW v500 ([]:List Wire)::oS v501 l49::oI v502 ([]:List Int)::oN v503 l167::K0) ((a196,13)::(n16,7)::(n1,6)::X::ids0):=sp
      refine⟨(fun _=>⟨m6_1,m7_19,m13_190,sp⟩),?_⟩
      refine⟨?_,trivial⟩
      refine RunT.same (v:=(.list true ([r507.2].map intC))) Ty_ok rfl rfl (by simp[hh,mX0,m6_1,m7_19,m13_190,x6_1,x7_19,x13_190,hnn,hn1,hn2,neX,el508,List.range_succ,byteC]) (fun _=>⟨m6_1,m7_19,m13_190,sp⟩) ?_
      refine RunT.fin (by refine⟨v499,v500,v501,v502,v503,?_,?_,?_,?_,?_,?_,?_,?_,(by omega),hid,sp⟩<;>simp[hh,mX0,m6_1,m7_19,m13_190,x6_1,x7_19,x13_190,hnn,hn1,hn2,neX,el508,List.range_succ,byteC])
     clear hh mX0 m6_1 m7_19 m13_190 x6_1 x7_19 x13_190
     rintro k' hk' ρ H n514 ⟨v509,v510,v511,v512,v513,hh,mX0,m6_1,m7_19,m13_190,x6_1,x7_19,x13_190,hnn,hid,sp⟩
     have hq_n514:=hnn
     have hn1:=Nat.le_succ_of_le hnn
     have hn2:=Nat.le_succ_of_le hn1
     show evalK _ _ _ _ _ _ _ _ _ _ _
     simp only[List.drop_succ_cons,List.drop_zero]
     obtain⟨hb528,h⟩:=h
     obtain⟨l529,el529,h⟩:=atm h
     simp[hh,mX0,m6_1,m7_19,m13_190,x6_1,x7_19,x13_190,hnn,hn1,hn2,neX,List.range_succ,byteC,-appendF]
     refine bind_append0 (l508.map intC) sp (by simp) kd_26 (by simp) (by simp) (by simp[srcOf,List.range_succ,byteC]) (by simp[-one1,o1x,List.range_succ,byteC]) (by simpa using hb528) ?_
     rintro v530 H531 n532 sp hfr533 hle534
     replace sp:Sep H531 n532 (oI v530 l529::oW v510 ([]:List Wire)::oS v511 l49::oI v512 ([]:List Int)::oN v513 l167::K0) ((a196,13)::(n16,7)::(n1,6)::X::ids0):=by refine Sep.ap el529 ?_;exact sp
     have hid:∀ i ∈ ids0,H531 i=H0 i:=fun i hi=>(hfr533 i (by simp[hi])).trans (hid i hi)
     have hnn:n0≤n532:=by omega
     have hq_n532:=hnn
     have mX0:=(hfr533 _ (by simp)).trans mX0
     have m6_1:=(hfr533 _ (by simp)).trans m6_1
     have m7_19:=(hfr533 _ (by simp)).trans m7_19
     have m13_190:=(hfr533 _ (by simp)).trans m13_190
     have f536:=Sep.oc sp
     simp[hh,mX0,m6_1,m7_19,m13_190,x6_1,x7_19,x13_190,hnn,hn1,hn2,neX,f536,List.range_succ,byteC,-cellsA,-one1,cAx,o1x]
     apply hk'
     refine Runs.cut (fun ρ H n=>∃ (v537 v538 v539 v540 v541:AVal),(ρ 0 = .ptr X 1 0 0∧ρ 1 = .list false (sig.map Control.cells)∧ρ 6=pA n1 6∧ρ 7=pA n16 7∧ρ 8 = .list true (l22.map strC)∧ρ 10=int v100∧ρ 11=int n139∧ρ 12=int i163∧ρ 13 = .ptr (a196,13) 1 0 0∧ρ 15=int k481)∧H X=some ⟨3,[[.list false (r507.1.code.map byteC),int r507.1.pos,.v (.int .u64 r507.1.seed)]]⟩∧H (n1,6)=some ⟨6,[zB]⟩∧H (n16,7)=some ⟨6,[[int r5.2,v541,v540,int r13.2,v539,v538]]⟩∧H (a196,13)=some ⟨3,[[int w443,int w404,v537]]⟩∧(X=(n1,6))=False∧(X=(n16,7))=False∧(X=(a196,13))=False∧n0≤n∧(∀ i ∈ ids0,H i=H0 i)∧Sep H n (oI v537 l529::oW v538 ([]:List Wire)::oS v539 l49::oI v540 ([]:List Int)::oN v541 l167::K0) ((a196,13)::(n16,7)::(n1,6)::X::ids0)) (by refine⟨v530,v510,v511,v512,v513,?_,?_,?_,?_,?_,?_,?_,?_,(by omega),(by intro i hi;have hlt:=h00 i (by simp[hi]);have hxx:i ≠ X:=fun e=>hxi (e ▸ hi);repeat (first | exact hid i hi | rw[Heap.get_set_ne _ _ hxx] | rw[Heap.get_set_ne _ _ (by rintro rfl;simp at hlt;omega)])),(Sep.setVar (w:=(a196,13)) sp (by simp))⟩<;>simp[hh,mX0,m6_1,m7_19,m13_190,x6_1,x7_19,x13_190,hnn,hn1,hn2,neX,f536,List.range_succ,byteC,-cellsA,-one1,cAx,o1x]) ?_
     clear hh mX0 m6_1 m7_19 m13_190 x6_1 x7_19 x13_190
     rintro ρ H n542 ⟨v537,v538,v539,v540,v541,hh,mX0,m6_1,m7_19,m13_190,x6_1,x7_19,x13_190,hnn,hid,sp⟩
     have hq_n542:=hnn
     have hn1:=Nat.le_succ_of_le hnn
     have hn2:=Nat.le_succ_of_le hn1
     refine Runs.inBlock ?_
     refine zF fun k' hk'=>?_
     obtain⟨hb543,h⟩:=h
     obtain⟨v544,ev544,h⟩:=atm h
     have f545:=ib_add hb543 ev544
     simp[hh,mX0,m6_1,m7_19,m13_190,x6_1,x7_19,x13_190,hnn,hn1,hn2,neX,f545,List.range_succ,byteC,-intBin]
     apply hk'
     refine IH492 (v544,r507.1.code,r507.1.pos,r507.1.seed,l529) _ _ _ h (by refine⟨v537,v538,v539,v540,v541,?_,?_,?_,?_,?_,?_,?_,?_,(by omega),hid,sp⟩<;>simp[hh,mX0,m6_1,m7_19,m13_190,x6_1,x7_19,x13_190,hnn,hn1,hn2,neX,List.range_succ,byteC])
    replace h:=h.2 dc497
    refine Runs.exit rfl ?_
    refine zF fun k' hk'=>?_
    obtain⟨hb546,h⟩:=h
    obtain⟨l547,el547,h⟩:=atm h
    simp[hh,mX0,m6_1,m7_19,m13_190,x6_1,x7_19,x13_190,hnn,hn1,hn2,neX,dc497,List.range_succ,byteC,-appendF]
    refine bind_append [oI v486 l485] (oW v487 ([]:List Wire)::oS v488 l49::oI v489 ([]:List Int)::K0) [[int w443,int w404,v486]] [(GNode.cells true) (GNode.mk w443 w404 l485)] sp.f4 kd_25 (by simp) (by simp) (by simp[List.range_succ,byteC]) (by simp[-one1,o1x,Sep.one1 sp.f4.dr]) (rows_one (Fill.v _ (Fill.v _ (Fill.own Fill.nil)))) (by simp) (by simpa using hb546) ?_
    rintro v548 H549 n550 sp hfr551 hle552
    replace sp:Sep H549 n550 (oN v548 l547::oW v487 ([]:List Wire)::oS v488 l49::oI v489 ([]:List Int)::K0) ((a196,13)::(n16,7)::(n1,6)::X::ids0):=Sep.ap el547 sp
    have hid:∀ i ∈ ids0,H549 i=H0 i:=fun i hi=>(hfr551 i (by simp[hi])).trans (hid i hi)
    have hnn:n0≤n550:=by omega
    have hq_n550:=hnn
    have mX0:=(hfr551 _ (by simp)).trans mX0
    have m6_1:=(hfr551 _ (by simp)).trans m6_1
    have m7_19:=(hfr551 _ (by simp)).trans m7_19
    have m13_190:=(hfr551 _ (by simp)).trans m13_190
    have f554:=Sep.oc sp
    simp[hh,mX0,m6_1,m7_19,m13_190,x6_1,x7_19,x13_190,hnn,hn1,hn2,neX,f554,dc497,List.range_succ,byteC,-cellsA,-one1,cAx,o1x]
    apply hk'
    refine Runs.cut (fun ρ H n=>∃ (v555 v556 v557 v558:AVal),(ρ 0 = .ptr X 1 0 0∧ρ 1 = .list false (sig.map Control.cells)∧ρ 6=pA n1 6∧ρ 7=pA n16 7∧ρ 8 = .list true (l22.map strC)∧ρ 10=int v100∧ρ 11=int n139∧ρ 12=int i163)∧H X=some ⟨3,[[.list false (w482.map byteC),int w483,.v (.int .u64 w484)]]⟩∧H (n1,6)=some ⟨6,[zB]⟩∧H (n16,7)=some ⟨6,[[int r5.2,v555,v558,int r13.2,v557,v556]]⟩∧(X=(n1,6))=False∧(X=(n16,7))=False∧n0≤n∧(∀ i ∈ ids0,H i=H0 i)∧Sep H n (oN v555 l547::oW v556 ([]:List Wire)::oS v557 l49::oI v558 ([]:List Int)::K0) ((n16,7)::(n1,6)::X::ids0)) (by refine⟨v548,v487,v488,v489,?_,?_,?_,?_,?_,?_,(by omega),(by intro i hi;have hlt:=h00 i (by simp[hi]);have hxx:i ≠ X:=fun e=>hxi (e ▸ hi);repeat (first | exact hid i hi | rw[Heap.get_set_ne _ _ hxx] | rw[Heap.get_set_ne _ _ (by rintro rfl;simp at hlt;omega)])),(Sep.sub (Sep.setVar (w:=(n16,7)) sp (by simp)) (by simp +contextual))⟩<;>simp[hh,mX0,m6_1,m7_19,m13_190,x6_1,x7_19,x13_190,hnn,hn1,hn2,neX,f554,dc497,List.range_succ,byteC,-cellsA,-one1,cAx,o1x]) ?_
    clear hh mX0 m6_1 m7_19 m13_190 x6_1 x7_19 x13_190
    rintro ρ H n559 ⟨v555,v556,v557,v558,hh,mX0,m6_1,m7_19,x6_1,x7_19,hnn,hid,sp⟩
    have hq_n559:=hnn
    have hn1:=Nat.le_succ_of_le hnn
    have hn2:=Nat.le_succ_of_le hn1
    refine Runs.inBlock ?_
    refine zF fun k' hk'=>?_
    obtain⟨hb560,h⟩:=h
    obtain⟨v561,ev561,h⟩:=atm h
    have f562:=ib_add hb560 ev561
    simp[hh,mX0,m6_1,m7_19,x6_1,x7_19,hnn,hn1,hn2,neX,f562,List.range_succ,byteC,-intBin]
    apply hk'
    refine IH173 (v561,w482,w483,w484,l547) _ _ _ h (by refine⟨v556,v557,v558,v555,?_,?_,?_,?_,?_,?_,(by omega),hid,sp.f3.f3.f3⟩<;>simp[hh,mX0,m6_1,m7_19,x6_1,x7_19,hnn,hn1,hn2,neX,List.range_succ,byteC])
   replace h:=hJ418
   obtain⟨hb563,h⟩:=h
   obtain⟨x564,ex564,h⟩:=atm h
   have f565:=fun H=>ix_list (H:=H) (fr:=false) (f:=Control.cells) (k:=.i64) kd_24 (fun _=>rfl) hb563 ex564
   obtain⟨c566,ec566,h⟩:=atm h
   have f567:=ib_gtr (k:=.i64) ec566
   rcases Bool.eq_false_or_eq_true c566 with dc566 | dc566
   ·replace h:=h.1 dc566
    obtain⟨c568,ec568,h⟩:=atm h
    have f569:=ib_eql (k:=.i64) ec568
    simp[hh,mX0,m6_1,m7_19,m13_190,x6_1,x7_19,x13_190,hnn,hn1,hn2,neX,f565,f567,f569,dc566,List.range_succ,byteC,-indexAddrF,-intBin]
    exact fin425 (c568) _ _ _ h (by refine⟨v405,v406,v407,v408,?_,?_,?_,?_,?_,?_,?_,?_,(by omega),hid,sp⟩<;>simp[hh,mX0,m6_1,m7_19,m13_190,x6_1,x7_19,x13_190,hnn,hn1,hn2,neX,f565,f567,f569,dc566,List.range_succ,byteC,-indexAddrF,-intBin])
   replace h:=h.2 dc566
   simp[hh,mX0,m6_1,m7_19,m13_190,x6_1,x7_19,x13_190,hnn,hn1,hn2,neX,f565,f567,dc566,List.range_succ,byteC,-indexAddrF,-intBin]
   exact fin425 (false) _ _ _ h (by refine⟨v405,v406,v407,v408,?_,?_,?_,?_,?_,?_,?_,?_,(by omega),hid,sp⟩<;>simp[hh,mX0,m6_1,m7_19,m13_190,x6_1,x7_19,x13_190,hnn,hn1,hn2,neX,f565,f567,dc566,List.range_succ,byteC,-indexAddrF,-intBin])
  replace h:=h.2 dc175
  refine Runs.exit rfl ?_
  refine Runs.seq ?_
  refine zE fun k' hk'=>?_
  simp[hh,mX0,m6_1,m7_19,x6_1,x7_19,hnn,hn1,hn2,neX,dc175,List.range_succ,byteC]
  apply hk'
  refine Runs.block ?_
  refine Runs.loopW h (fun (sJ:Int × (List Int) × Int × Int × (List Wire) × (List Int)) ρ H n=>match sJ with | (i587,w588,w589,w590,l591,l592)=>∃ (v593 v594 v595 v596:AVal),(ρ 0 = .ptr X 1 0 0∧ρ 1 = .list false (sig.map Control.cells)∧ρ 6=pA n1 6∧ρ 7=pA n16 7∧ρ 8 = .list true (l22.map strC)∧ρ 10=int v100∧ρ 16=int i587)∧H X=some ⟨3,[[.list false (w588.map byteC),int w589,.v (.int .u64 w590)]]⟩∧H (n1,6)=some ⟨6,[zB]⟩∧H (n16,7)=some ⟨6,[[int r5.2,v596,v595,int r13.2,v594,v593]]⟩∧(X=(n1,6))=False∧(X=(n16,7))=False∧n0≤n∧(∀ i ∈ ids0,H i=H0 i)∧Sep H n (oW v593 l591::oS v594 l49::oI v595 l592::oN v596 l167::K0) ((n16,7)::(n1,6)::X::ids0)) (by refine⟨v168,v169,v170,v171,?_,?_,?_,?_,?_,?_,(by omega),hid,sp⟩<;>simp[hh,mX0,m6_1,m7_19,x6_1,x7_19,hnn,hn1,hn2,neX,dc175,List.range_succ,byteC]) ?_
  clear hh mX0 m6_1 m7_19 x6_1 x7_19
  rintro⟨i587,w588,w589,w590,l591,l592⟩ ρ H n597 K h ⟨v593,v594,v595,v596,hh,mX0,m6_1,m7_19,x6_1,x7_19,hnn,hid,sp⟩ IH598
  have hq_n597:=hnn
  have hn1:=Nat.le_succ_of_le hnn
  have hn2:=Nat.le_succ_of_le hn1
  refine Runs.seq ?_
  refine zE fun k' hk'=>?_
  obtain⟨c600,ec600,h⟩:=atm h
  have f601:=ib_lss (k:=.i64) ec600
  simp[hh,mX0,m6_1,m7_19,x6_1,x7_19,hnn,hn1,hn2,neX,f601,List.range_succ,byteC,-intBin]
  apply hk'
  refine Runs.ite (b:=c600) (by simp[hh,mX0,m6_1,m7_19,x6_1,x7_19,hnn,hn1,hn2,neX,List.range_succ,byteC]) (fun dc600=>?_) (fun dc600=>?_)
  ·replace h:=h.1 dc600
   refine Runs.skip ?_
   refine Runs.seq ?_
   refine Runs.block ?_
   refine Runs.seq ?_
   refine Runs.seq ?_
   refine Runs.cut (fun ρ H n=>∃ (v602 v603 v604 v605:AVal),(ρ 0 = .ptr X 1 0 0∧ρ 1 = .list false (sig.map Control.cells)∧ρ 6=pA n1 6∧ρ 7=pA n16 7∧ρ 8 = .list true (l22.map strC)∧ρ 10=int v100∧ρ 16=int i587)∧H X=some ⟨3,[[.list false (w588.map byteC),int w589,.v (.int .u64 w590)]]⟩∧H (n1,6)=some ⟨6,[zB]⟩∧H (n16,7)=some ⟨6,[[int r5.2,v605,v604,int r13.2,v603,v602]]⟩∧(X=(n1,6))=False∧(X=(n16,7))=False∧n0≤n∧(∀ i ∈ ids0,H i=H0 i)∧Sep H n (oW v602 l591::oS v603 l49::oI v604 l592::oN v605 l167::K0) ((n16,7)::(n1,6)::X::ids0)) (by refine⟨v593,v594,v595,v596,?_,?_,?_,?_,?_,?_,(by omega),hid,sp⟩<;>simp[hh,mX0,m6_1,m7_19,x6_1,x7_19,hnn,hn1,hn2,neX,dc600,List.range_succ,byteC]) ?_
   clear hh mX0 m6_1 m7_19 x6_1 x7_19
   rintro ρ H n606 ⟨v602,v603,v604,v605,hh,mX0,m6_1,m7_19,x6_1,x7_19,hnn,hid,sp⟩
   have hq_n606:=hnn
   have hn1:=Nat.le_succ_of_le hnn
   have hn2:=Nat.le_succ_of_le hn1
   refine Runs.joinC h (fun (sJ:Bool × (List Int) × Int × Int) ρ H n=>match sJ with | (v627,w628,w629,w630)=>∃ (v631 v632 v633 v634:AVal),(ρ 0 = .ptr X 1 0 0∧ρ 1 = .list false (sig.map Control.cells)∧ρ 6=pA n1 6∧ρ 7=pA n16 7∧ρ 8 = .list true (l22.map strC)∧ρ 10=int v100∧ρ 16=int i587∧ρ 149=bool v627)∧H X=some ⟨3,[[.list false (w628.map byteC),int w629,.v (.int .u64 w630)]]⟩∧H (n1,6)=some ⟨6,[zB]⟩∧H (n16,7)=some ⟨6,[[int r5.2,v634,v633,int r13.2,v632,v631]]⟩∧(X=(n1,6))=False∧(X=(n16,7))=False∧n0≤n∧(∀ i ∈ ids0,H i=H0 i)∧Sep H n (oW v631 l591::oS v632 l49::oI v633 l592::oN v634 l167::K0) ((n16,7)::(n1,6)::X::ids0)) ?_ ?_
   ·intro J636 h IH637
    refine zF fun k' hk'=>?_
    obtain⟨c638,ec638,h⟩:=atm h
    have f639:=ib_gtr (k:=.i64) ec638
    rcases Bool.eq_false_or_eq_true c638 with dc638 | dc638
    ·replace h:=h.1 dc638
     obtain⟨hb640,h⟩:=h
     obtain⟨r641,er641,h⟩:=atm h
     simp[hh,mX0,m6_1,m7_19,x6_1,x7_19,hnn,hn1,hn2,neX,f639,dc638,List.range_succ,byteC,-intBin]
     refine RunK.callDr (xsA:=[.ptr X 1 0 0,int 3]) (X:=X) (A:=[(n16,7),(n1,6)]) (B:=(ids0)) (M:=[]) (K0:=(oW v602 l591::oS v603 l49::oI v604 l592::oN v605 l167::K0)) Ty_ok (oneZ_ok (Cur.mk w588 w589 w590) 3 hb640) (.cons (Sub.refl _) (.cons (Sub.refl _) .nil)) e18 (by simp[hh,mX0,m6_1,m7_19,x6_1,x7_19,hnn,hn1,hn2,neX,f639,dc638,List.range_succ,byteC,-intBin]) (by simp[hh,mX0,m6_1,m7_19,x6_1,x7_19,hnn,hn1,hn2,neX,f639,hxi,List.range_succ,byteC,-intBin]) sp (by decide) (by decide) rfl (by simp[hh,mX0,m6_1,m7_19,x6_1,x7_19,hnn,hn1,hn2,neX,f639,dc638,List.range_succ,byteC,-intBin]) ?_
     rintro v642 H643 n644 _ _ ⟨rfl,rfl⟩ hmx sp hle646 hfr645
     rw[← er641] at hmx sp
     have mX0:H643 X=some ⟨3,[[.list false (r641.1.code.map byteC),int r641.1.pos,.v (.int .u64 r641.1.seed)]]⟩:=hmx
     have hid:∀ i ∈ ids0,H643 i=H0 i:=fun i hi=>(hfr645 i (by simp[hi])).trans (hid i hi)
     have hnn:n0≤n644:=by omega
     have hq_n644:=hnn
     have m6_1:=(hfr645 _ (by simp)).trans m6_1
     have m7_19:=(hfr645 _ (by simp)).trans m7_19
     replace sp:=Sep.scalar sp
     obtain⟨hv,sp⟩:=sp
     subst hv
     replace sp:Sep H643 n644 (oW v602 l591::oS v603 l49::oI v604 l592::oN v605 l167::K0) ((n16,7)::(n1,6)::X::ids0):=sp
     simp[hh,mX0,m6_1,m7_19,x6_1,x7_19,hnn,hn1,hn2,neX,f639,dc638,List.range_succ,byteC,-intBin]
     apply hk'
     refine Runs.cut (fun ρ H n=>∃ (v648 v649 v650 v651:AVal),(ρ 0 = .ptr X 1 0 0∧ρ 1 = .list false (sig.map Control.cells)∧ρ 6=pA n1 6∧ρ 7=pA n16 7∧ρ 8 = .list true (l22.map strC)∧ρ 10=int v100∧ρ 16=int i587∧ρ 149=bool r641.2)∧H X=some ⟨3,[[.list false (r641.1.code.map byteC),int r641.1.pos,.v (.int .u64 r641.1.seed)]]⟩∧H (n1,6)=some ⟨6,[zB]⟩∧H (n16,7)=some ⟨6,[[int r5.2,v651,v650,int r13.2,v649,v648]]⟩∧(X=(n1,6))=False∧(X=(n16,7))=False∧n0≤n∧(∀ i ∈ ids0,H i=H0 i)∧Sep H n (oW v648 l591::oS v649 l49::oI v650 l592::oN v651 l167::K0) ((n16,7)::(n1,6)::X::ids0)) (by refine⟨v602,v603,v604,v605,?_,?_,?_,?_,?_,?_,(by omega),hid,sp⟩<;>simp[hh,mX0,m6_1,m7_19,x6_1,x7_19,hnn,hn1,hn2,neX,f639,dc638,List.range_succ,byteC,-intBin]) ?_
     clear hh mX0 m6_1 m7_19 x6_1 x7_19
     rintro ρ H n652 ⟨v648,v649,v650,v651,hh,mX0,m6_1,m7_19,x6_1,x7_19,hnn,hid,sp⟩
     have hq_n652:=hnn
     have hn1:=Nat.le_succ_of_le hnn
     have hn2:=Nat.le_succ_of_le hn1
     refine IH637 (r641.2,r641.1.code,r641.1.pos,r641.1.seed) _ _ _ h (by refine⟨v648,v649,v650,v651,?_,?_,?_,?_,?_,?_,(by omega),hid,sp⟩<;>simp[hh,mX0,m6_1,m7_19,x6_1,x7_19,hnn,hn1,hn2,neX,List.range_succ,byteC])
    replace h:=h.2 dc638
    simp[hh,mX0,m6_1,m7_19,x6_1,x7_19,hnn,hn1,hn2,neX,f639,dc638,List.range_succ,byteC,-intBin]
    apply hk'
    refine Runs.cut (fun ρ H n=>∃ (v653 v654 v655 v656:AVal),(ρ 0 = .ptr X 1 0 0∧ρ 1 = .list false (sig.map Control.cells)∧ρ 6=pA n1 6∧ρ 7=pA n16 7∧ρ 8 = .list true (l22.map strC)∧ρ 10=int v100∧ρ 16=int i587∧ρ 149=bool false)∧H X=some ⟨3,[[.list false (w588.map byteC),int w589,.v (.int .u64 w590)]]⟩∧H (n1,6)=some ⟨6,[zB]⟩∧H (n16,7)=some ⟨6,[[int r5.2,v656,v655,int r13.2,v654,v653]]⟩∧(X=(n1,6))=False∧(X=(n16,7))=False∧n0≤n∧(∀ i ∈ ids0,H i=H0 i)∧Sep H n (oW v653 l591::oS v654 l49::oI v655 l592::oN v656 l167::K0) ((n16,7)::(n1,6)::X::ids0)) (by refine⟨v602,v603,v604,v605,?_,?_,?_,?_,?_,?_,(by omega),hid,sp⟩<;>simp[hh,mX0,m6_1,m7_19,x6_1,x7_19,hnn,hn1,hn2,neX,f639,dc638,List.range_succ,byteC,-intBin]) ?_
    clear hh mX0 m6_1 m7_19 x6_1 x7_19
    rintro ρ H n657 ⟨v653,v654,v655,v656,hh,mX0,m6_1,m7_19,x6_1,x7_19,hnn,hid,sp⟩
    have hq_n657:=hnn
    have hn1:=Nat.le_succ_of_le hnn
    have hn2:=Nat.le_succ_of_le hn1
    refine IH637 (false,w588,w589,w590) _ _ _ h (by refine⟨v653,v654,v655,v656,?_,?_,?_,?_,?_,?_,(by omega),hid,sp⟩<;>simp[hh,mX0,m6_1,m7_19,x6_1,x7_19,hnn,hn1,hn2,neX,List.range_succ,byteC])
   clear hh mX0 m6_1 m7_19 x6_1 x7_19
   rintro⟨v627,w628,w629,w630⟩ ρ H n635 h ⟨v631,v632,v633,v634,hh,mX0,m6_1,m7_19,x6_1,x7_19,hnn,hid,sp⟩
   have hq_n635:=hnn
   have hn1:=Nat.le_succ_of_le hnn
   have hn2:=Nat.le_succ_of_le hn1
   refine Runs.cut (fun ρ H n=>∃ (v658 v659 v660 v661:AVal),(ρ 0 = .ptr X 1 0 0∧ρ 1 = .list false (sig.map Control.cells)∧ρ 6=pA n1 6∧ρ 7=pA n16 7∧ρ 8 = .list true (l22.map strC)∧ρ 10=int v100∧ρ 16=int i587∧ρ 149=bool v627)∧H X=some ⟨3,[[.list false (w628.map byteC),int w629,.v (.int .u64 w630)]]⟩∧H (n1,6)=some ⟨6,[zB]⟩∧H (n16,7)=some ⟨6,[[int r5.2,v661,v660,int r13.2,v659,v658]]⟩∧(X=(n1,6))=False∧(X=(n16,7))=False∧n0≤n∧(∀ i ∈ ids0,H i=H0 i)∧Sep H n (oW v658 l591::oS v659 l49::oI v660 l592::oN v661 l167::K0) ((n16,7)::(n1,6)::X::ids0)) (by refine⟨v631,v632,v633,v634,?_,?_,?_,?_,?_,?_,(by omega),hid,sp⟩<;>simp[hh,mX0,m6_1,m7_19,x6_1,x7_19,hnn,hn1,hn2,neX,List.range_succ,byteC]) ?_
   clear hh mX0 m6_1 m7_19 x6_1 x7_19
   rintro ρ H n662 ⟨v658,v659,v660,v661,hh,mX0,m6_1,m7_19,x6_1,x7_19,hnn,hid,sp⟩
   have hq_n662:=hnn
   have hn1:=Nat.le_succ_of_le hnn
   have hn2:=Nat.le_succ_of_le hn1
   refine Runs.joinC h (fun (sJ:(List Int) × Int × Int × (List Int)) ρ H n=>match sJ with | (w677,w678,w679,l680)=>∃ (v681 v682 v683 v684:AVal),(ρ 0 = .ptr X 1 0 0∧ρ 1 = .list false (sig.map Control.cells)∧ρ 6=pA n1 6∧ρ 7=pA n16 7∧ρ 8 = .list true (l22.map strC)∧ρ 10=int v100∧ρ 16=int i587)∧H X=some ⟨3,[[.list false (w677.map byteC),int w678,.v (.int .u64 w679)]]⟩∧H (n1,6)=some ⟨6,[zB]⟩∧H (n16,7)=some ⟨6,[[int r5.2,v684,v683,int r13.2,v682,v681]]⟩∧(X=(n1,6))=False∧(X=(n16,7))=False∧n0≤n∧(∀ i ∈ ids0,H i=H0 i)∧Sep H n (oW v681 l591::oS v682 l49::oI v683 l680::oN v684 l167::K0) ((n16,7)::(n1,6)::X::ids0)) ?_ ?_
   ·intro J686 h IH687
    refine Runs.ite (b:=v627) (by simp[hh,mX0,m6_1,m7_19,x6_1,x7_19,hnn,hn1,hn2,neX,List.range_succ,byteC]) (fun dv627=>?_) (fun dv627=>?_)
    ·replace h:=h.1 dv627
     refine zE fun k' hk'=>?_
     obtain⟨hb688,h⟩:=h
     obtain⟨r689,er689,h⟩:=atm h
     simp[hh,mX0,m6_1,m7_19,x6_1,x7_19,hnn,hn1,hn2,neX,dv627,List.range_succ,byteC]
     refine RunK.callDr (xsA:=[.ptr X 1 0 0,int r5.2]) (X:=X) (A:=[(n16,7),(n1,6)]) (B:=(ids0)) (M:=[]) (K0:=(oW v658 l591::oS v659 l49::oI v660 l592::oN v661 l167::K0)) Ty_ok (pickZ_ok (Cur.mk w628 w629 w630) r5.2 hb688) (.cons (Sub.refl _) (.cons (Sub.refl _) .nil)) e17 (by simp[hh,mX0,m6_1,m7_19,x6_1,x7_19,hnn,hn1,hn2,neX,dv627,List.range_succ,byteC]) (by simp[hh,mX0,m6_1,m7_19,x6_1,x7_19,hnn,hn1,hn2,neX,hxi,List.range_succ,byteC]) sp (by decide) (by decide) rfl (by simp[hh,mX0,m6_1,m7_19,x6_1,x7_19,hnn,hn1,hn2,neX,dv627,List.range_succ,byteC]) ?_
     rintro v690 H691 n692 _ _ ⟨rfl,rfl⟩ hmx sp hle694 hfr693
     rw[← er689] at hmx sp
     have mX0:H691 X=some ⟨3,[[.list false (r689.1.code.map byteC),int r689.1.pos,.v (.int .u64 r689.1.seed)]]⟩:=hmx
     have hid:∀ i ∈ ids0,H691 i=H0 i:=fun i hi=>(hfr693 i (by simp[hi])).trans (hid i hi)
     have hnn:n0≤n692:=by omega
     have hq_n692:=hnn
     have m6_1:=(hfr693 _ (by simp)).trans m6_1
     have m7_19:=(hfr693 _ (by simp)).trans m7_19
     replace sp:=Sep.scalar sp
     obtain⟨hv,sp⟩:=sp
     subst hv
     replace sp:Sep H691 n692 (oW v658 l591::oS v659 l49::oI v660 l592::oN v661 l167::K0) ((n16,7)::(n1,6)::X::ids0):=sp
     obtain⟨hb696,h⟩:=h
     obtain⟨v697,ev697,h⟩:=atm h
     have f698:=ib_sub hb696 ev697
     simp[hh,mX0,m6_1,m7_19,x6_1,x7_19,hnn,hn1,hn2,neX,f698,dv627,List.range_succ,byteC,-intBin]
     apply hk'
     refine Runs.cut (fun ρ H n=>∃ (v699 v700 v701 v702:AVal),(ρ 0 = .ptr X 1 0 0∧ρ 1 = .list false (sig.map Control.cells)∧ρ 6=pA n1 6∧ρ 7=pA n16 7∧ρ 8 = .list true (l22.map strC)∧ρ 10=int v100∧ρ 16=int i587∧ρ 17=int v697)∧H X=some ⟨3,[[.list false (r689.1.code.map byteC),int r689.1.pos,.v (.int .u64 r689.1.seed)]]⟩∧H (n1,6)=some ⟨6,[zB]⟩∧H (n16,7)=some ⟨6,[[int r5.2,v702,v701,int r13.2,v700,v699]]⟩∧(X=(n1,6))=False∧(X=(n16,7))=False∧n0≤n∧(∀ i ∈ ids0,H i=H0 i)∧Sep H n (oW v699 l591::oS v700 l49::oI v701 l592::oN v702 l167::K0) ((n16,7)::(n1,6)::X::ids0)) (by refine⟨v658,v659,v660,v661,?_,?_,?_,?_,?_,?_,(by omega),hid,sp⟩<;>simp[hh,mX0,m6_1,m7_19,x6_1,x7_19,hnn,hn1,hn2,neX,f698,dv627,List.range_succ,byteC,-intBin]) ?_
     clear hh mX0 m6_1 m7_19 x6_1 x7_19
     rintro ρ H n703 ⟨v699,v700,v701,v702,hh,mX0,m6_1,m7_19,x6_1,x7_19,hnn,hid,sp⟩
     have hq_n703:=hnn
     have hn1:=Nat.le_succ_of_le hnn
     have hn2:=Nat.le_succ_of_le hn1
     refine Runs.seq ?_
     refine zE fun k' hk'=>?_
     obtain⟨len704,elen704,h⟩:=atm h
     have f705:=len_own (Sep.len (m:=len704) sp.f3 kd_25 (by rw[elen704,List.length_map]))
     obtain⟨hb706,h⟩:=h
     obtain⟨v707,ev707,h⟩:=atm h
     have f708:=ib_add hb706 ev707
     obtain⟨hb709,h⟩:=h
     obtain⟨r710,er710,h⟩:=atm h
     simp[hh,mX0,m6_1,m7_19,x6_1,x7_19,hnn,hn1,hn2,neX,f705,f708,List.range_succ,byteC,-intBin,-lenF]
     refine RunK.callDr (xsA:=[.ptr X 1 0 0,int v707]) (X:=X) (A:=[(n16,7),(n1,6)]) (B:=(ids0)) (M:=[]) (K0:=(oW v699 l591::oS v700 l49::oI v701 l592::oN v702 l167::K0)) Ty_ok (pickZ_ok r689.1 v707 hb709) (.cons (Sub.refl _) (.cons (Sub.refl _) .nil)) e17 (by simp[hh,mX0,m6_1,m7_19,x6_1,x7_19,hnn,hn1,hn2,neX,f705,f708,List.range_succ,byteC,-intBin,-lenF]) (by simp[hh,mX0,m6_1,m7_19,x6_1,x7_19,hnn,hn1,hn2,neX,f705,f708,hxi,List.range_succ,byteC,-intBin,-lenF]) sp (by decide) (by decide) rfl (by simp[hh,mX0,m6_1,m7_19,x6_1,x7_19,hnn,hn1,hn2,neX,f705,f708,List.range_succ,byteC,-intBin,-lenF]) ?_
     rintro v711 H712 n713 _ _ ⟨rfl,rfl⟩ hmx sp hle715 hfr714
     rw[← er710] at hmx sp
     have mX0:H712 X=some ⟨3,[[.list false (r710.1.code.map byteC),int r710.1.pos,.v (.int .u64 r710.1.seed)]]⟩:=hmx
     have hid:∀ i ∈ ids0,H712 i=H0 i:=fun i hi=>(hfr714 i (by simp[hi])).trans (hid i hi)
     have hnn:n0≤n713:=by omega
     have hq_n713:=hnn
     have m6_1:=(hfr714 _ (by simp)).trans m6_1
     have m7_19:=(hfr714 _ (by simp)).trans m7_19
     replace sp:=Sep.scalar sp
     obtain⟨hv,sp⟩:=sp
     subst hv
     replace sp:Sep H712 n713 (oW v699 l591::oS v700 l49::oI v701 l592::oN v702 l167::K0) ((n16,7)::(n1,6)::X::ids0):=sp
     simp[hh,mX0,m6_1,m7_19,x6_1,x7_19,hnn,hn1,hn2,neX,f705,f708,List.range_succ,byteC,-intBin,-lenF]
     apply hk'
     refine Runs.cut (fun ρ H n=>∃ (v717 v718 v719 v720:AVal),(ρ 0 = .ptr X 1 0 0∧ρ 1 = .list false (sig.map Control.cells)∧ρ 6=pA n1 6∧ρ 7=pA n16 7∧ρ 8 = .list true (l22.map strC)∧ρ 10=int v100∧ρ 16=int i587∧ρ 17=int v697∧ρ 18=int r710.2)∧H X=some ⟨3,[[.list false (r710.1.code.map byteC),int r710.1.pos,.v (.int .u64 r710.1.seed)]]⟩∧H (n1,6)=some ⟨6,[zB]⟩∧H (n16,7)=some ⟨6,[[int r5.2,v720,v719,int r13.2,v718,v717]]⟩∧(X=(n1,6))=False∧(X=(n16,7))=False∧n0≤n∧(∀ i ∈ ids0,H i=H0 i)∧Sep H n (oW v717 l591::oS v718 l49::oI v719 l592::oN v720 l167::K0) ((n16,7)::(n1,6)::X::ids0)) (by refine⟨v699,v700,v701,v702,?_,?_,?_,?_,?_,?_,(by omega),hid,sp⟩<;>simp[hh,mX0,m6_1,m7_19,x6_1,x7_19,hnn,hn1,hn2,neX,f705,f708,List.range_succ,byteC,-intBin,-lenF]) ?_
     clear hh mX0 m6_1 m7_19 x6_1 x7_19
     rintro ρ H n721 ⟨v717,v718,v719,v720,hh,mX0,m6_1,m7_19,x6_1,x7_19,hnn,hid,sp⟩
     have hq_n721:=hnn
     have hn1:=Nat.le_succ_of_le hnn
     have hn2:=Nat.le_succ_of_le hn1
     refine zE fun k' hk'=>?_
     obtain⟨J722,hJ723,hr724⟩:=h
     have fin730:∀ (sJ:Bool) (ρ:Env) (H:Heap) (n:Nat),J722 sJ→(match sJ with | b725=>∃ (v726 v727 v728 v729:AVal),(ρ 0 = .ptr X 1 0 0∧ρ 1 = .list false (sig.map Control.cells)∧ρ 6=pA n1 6∧ρ 7=pA n16 7∧ρ 8 = .list true (l22.map strC)∧ρ 10=int v100∧ρ 16=int i587∧ρ 17=int v697∧ρ 18=int r710.2∧ρ 178=bool b725)∧H X=some ⟨3,[[.list false (r710.1.code.map byteC),int r710.1.pos,.v (.int .u64 r710.1.seed)]]⟩∧H (n1,6)=some ⟨6,[zB]⟩∧H (n16,7)=some ⟨6,[[int r5.2,v729,v728,int r13.2,v727,v726]]⟩∧(X=(n1,6))=False∧(X=(n16,7))=False∧n0≤n∧(∀ i ∈ ids0,H i=H0 i)∧Sep H n (oW v726 l591::oS v727 l49::oI v728 l592::oN v729 l167::K0) ((n16,7)::(n1,6)::X::ids0))→Runs Tryd.prog 16 208 k' ρ H n Q:=by
      rintro b725 ρ H n731 h ⟨v726,v727,v728,v729,hh,mX0,m6_1,m7_19,x6_1,x7_19,hnn,hid,sp⟩
      have hq_n731:=hnn
      have hn1:=Nat.le_succ_of_le hnn
      have hn2:=Nat.le_succ_of_le hn1
      replace h:=hr724 _ h
      apply hk'
      refine Runs.ite (b:=b725) (by simp[hh,mX0,m6_1,m7_19,x6_1,x7_19,hnn,hn1,hn2,neX,List.range_succ,byteC]) (fun db725=>?_) (fun db725=>?_)
      ·replace h:=h.1 db725
       refine zF fun k' hk'=>?_
       simp[hh,mX0,m6_1,m7_19,x6_1,x7_19,hnn,hn1,hn2,neX,db725,List.range_succ,byteC]
       apply hk'
       refine zF fun k' hk'=>?_
       obtain⟨hb732,h⟩:=h
       obtain⟨l733,el733,h⟩:=atm h
       simp[hh,mX0,m6_1,m7_19,x6_1,x7_19,hnn,hn1,hn2,neX,db725,List.range_succ,byteC,-appendF]
       refine bind_append [] (oW v726 l591::oS v727 l49::oN v729 l167::K0) [[int r710.2]] [intC r710.2] sp.f2 kd_26 (by simp) (by simp) (by simp[List.range_succ,byteC]) (by simp[-one1,o1x]) (rows_one (Fill.v _ Fill.nil)) (by simp) (by simpa using hb732) ?_
       rintro v734 H735 n736 sp hfr737 hle738
       replace sp:Sep H735 n736 (oI v734 l733::oW v726 l591::oS v727 l49::oN v729 l167::K0) ((n16,7)::(n1,6)::X::ids0):=Sep.ap el733 sp
       have hid:∀ i ∈ ids0,H735 i=H0 i:=fun i hi=>(hfr737 i (by simp[hi])).trans (hid i hi)
       have hnn:n0≤n736:=by omega
       have hq_n736:=hnn
       have mX0:=(hfr737 _ (by simp)).trans mX0
       have m6_1:=(hfr737 _ (by simp)).trans m6_1
       have m7_19:=(hfr737 _ (by simp)).trans m7_19
       have f740:=Sep.oc sp
       simp[hh,mX0,m6_1,m7_19,x6_1,x7_19,hnn,hn1,hn2,neX,f740,db725,List.range_succ,byteC,-cellsA,-one1,cAx,o1x]
       apply hk'
       refine Runs.cut (fun ρ H n=>∃ (v741 v742 v743 v744:AVal),(ρ 0 = .ptr X 1 0 0∧ρ 1 = .list false (sig.map Control.cells)∧ρ 6=pA n1 6∧ρ 7=pA n16 7∧ρ 8 = .list true (l22.map strC)∧ρ 10=int v100∧ρ 16=int i587)∧H X=some ⟨3,[[.list false (r710.1.code.map byteC),int r710.1.pos,.v (.int .u64 r710.1.seed)]]⟩∧H (n1,6)=some ⟨6,[zB]⟩∧H (n16,7)=some ⟨6,[[int r5.2,v744,v741,int r13.2,v743,v742]]⟩∧(X=(n1,6))=False∧(X=(n16,7))=False∧n0≤n∧(∀ i ∈ ids0,H i=H0 i)∧Sep H n (oI v741 l733::oW v742 l591::oS v743 l49::oN v744 l167::K0) ((n16,7)::(n1,6)::X::ids0)) (by refine⟨v734,v726,v727,v729,?_,?_,?_,?_,?_,?_,(by omega),(by intro i hi;have hlt:=h00 i (by simp[hi]);have hxx:i ≠ X:=fun e=>hxi (e ▸ hi);repeat (first | exact hid i hi | rw[Heap.get_set_ne _ _ hxx] | rw[Heap.get_set_ne _ _ (by rintro rfl;simp at hlt;omega)])),(Sep.setVar (w:=(n16,7)) sp (by simp))⟩<;>simp[hh,mX0,m6_1,m7_19,x6_1,x7_19,hnn,hn1,hn2,neX,f740,db725,List.range_succ,byteC,-cellsA,-one1,cAx,o1x]) ?_
       clear hh mX0 m6_1 m7_19 x6_1 x7_19
       rintro ρ H n745 ⟨v741,v742,v743,v744,hh,mX0,m6_1,m7_19,x6_1,x7_19,hnn,hid,sp⟩
       have hq_n745:=hnn
       have hn1:=Nat.le_succ_of_le hnn
       have hn2:=Nat.le_succ_of_le hn1
       refine IH687 (r710.1.code,r710.1.pos,r710.1.seed,l733) _ _ _ h (by refine⟨v742,v743,v741,v744,?_,?_,?_,?_,?_,?_,(by omega),hid,sp.f2.f2⟩<;>simp[hh,mX0,m6_1,m7_19,x6_1,x7_19,hnn,hn1,hn2,neX,List.range_succ,byteC])
      replace h:=h.2 db725
      refine Runs.skip ?_
      refine zF fun k' hk'=>?_
      obtain⟨hb746,h⟩:=h
      obtain⟨l747,el747,h⟩:=atm h
      simp[hh,mX0,m6_1,m7_19,x6_1,x7_19,hnn,hn1,hn2,neX,db725,List.range_succ,byteC,-appendF]
      refine bind_append [] (oW v726 l591::oS v727 l49::oN v729 l167::K0) [[int v697]] [intC v697] sp.f2 kd_26 (by simp) (by simp) (by simp[List.range_succ,byteC]) (by simp[-one1,o1x]) (rows_one (Fill.v _ Fill.nil)) (by simp) (by simpa using hb746) ?_
      rintro v748 H749 n750 sp hfr751 hle752
      replace sp:Sep H749 n750 (oI v748 l747::oW v726 l591::oS v727 l49::oN v729 l167::K0) ((n16,7)::(n1,6)::X::ids0):=Sep.ap el747 sp
      have hid:∀ i ∈ ids0,H749 i=H0 i:=fun i hi=>(hfr751 i (by simp[hi])).trans (hid i hi)
      have hnn:n0≤n750:=by omega
      have hq_n750:=hnn
      have mX0:=(hfr751 _ (by simp)).trans mX0
      have m6_1:=(hfr751 _ (by simp)).trans m6_1
      have m7_19:=(hfr751 _ (by simp)).trans m7_19
      have f754:=Sep.oc sp
      simp[hh,mX0,m6_1,m7_19,x6_1,x7_19,hnn,hn1,hn2,neX,f754,db725,List.range_succ,byteC,-cellsA,-one1,cAx,o1x]
      apply hk'
      refine Runs.cut (fun ρ H n=>∃ (v755 v756 v757 v758:AVal),(ρ 0 = .ptr X 1 0 0∧ρ 1 = .list false (sig.map Control.cells)∧ρ 6=pA n1 6∧ρ 7=pA n16 7∧ρ 8 = .list true (l22.map strC)∧ρ 10=int v100∧ρ 16=int i587)∧H X=some ⟨3,[[.list false (r710.1.code.map byteC),int r710.1.pos,.v (.int .u64 r710.1.seed)]]⟩∧H (n1,6)=some ⟨6,[zB]⟩∧H (n16,7)=some ⟨6,[[int r5.2,v758,v755,int r13.2,v757,v756]]⟩∧(X=(n1,6))=False∧(X=(n16,7))=False∧n0≤n∧(∀ i ∈ ids0,H i=H0 i)∧Sep H n (oI v755 l747::oW v756 l591::oS v757 l49::oN v758 l167::K0) ((n16,7)::(n1,6)::X::ids0)) (by refine⟨v748,v726,v727,v729,?_,?_,?_,?_,?_,?_,(by omega),(by intro i hi;have hlt:=h00 i (by simp[hi]);have hxx:i ≠ X:=fun e=>hxi (e ▸ hi);repeat (first | exact hid i hi | rw[Heap.get_set_ne _ _ hxx] | rw[Heap.get_set_ne _ _ (by rintro rfl;simp at hlt;omega)])),(Sep.setVar (w:=(n16,7)) sp (by simp))⟩<;>simp[hh,mX0,m6_1,m7_19,x6_1,x7_19,hnn,hn1,hn2,neX,f754,db725,List.range_succ,byteC,-cellsA,-one1,cAx,o1x]) ?_
      clear hh mX0 m6_1 m7_19 x6_1 x7_19
      rintro ρ H n759 ⟨v755,v756,v757,v758,hh,mX0,m6_1,m7_19,x6_1,x7_19,hnn,hid,sp⟩
      have hq_n759:=hnn
      have hn1:=Nat.le_succ_of_le hnn
      have hn2:=Nat.le_succ_of_le hn1
      refine IH687 (r710.1.code,r710.1.pos,r710.1.seed,l747) _ _ _ h (by refine⟨v756,v757,v755,v758,?_,?_,?_,?_,?_,?_,(by omega),hid,sp.f2.f2⟩<;>simp[hh,mX0,m6_1,m7_19,x6_1,x7_19,hnn,hn1,hn2,neX,List.range_succ,byteC])
     replace h:=hJ723
     obtain⟨len760,elen760,h⟩:=atm h
     have f761:=len_own (Sep.len (m:=len760) sp.f3 kd_25 (by rw[elen760,List.length_map]))
     obtain⟨c762,ec762,h⟩:=atm h
     have f763:=ib_lss (k:=.i64) ec762
     rcases Bool.eq_false_or_eq_true c762 with dc762 | dc762
     ·replace h:=h.1 dc762
      obtain⟨hb764,h⟩:=h
      obtain⟨x765,ex765,h⟩:=atm h
      obtain⟨id766,els767,row768,W769,hq770,mo771,moL772,moR773,hrl774,hW775,hsub776,hni777,spr778,hcl779⟩:=Sep.rowF (q:=r710.2.toNat) (f:=(GNode.cells true)) sp.f3 hb764 ex765 rfl
      subst hq770
      obtain⟨c780,c781,c782,hq770⟩:=len3 (by simpa using hrl774)
      subst hq770
      replace spr778:Sep _ _ [(.c,c780,int x765.control),(.c,c781,int x765.parent),(.s [.c],c782,.list true (x765.links.map intC))] W769:=spr778
      obtain rfl:=Sep.cAt (K1:=[]) (K2:=[(.c,c781,int x765.parent),(.s [.c],c782,.list true (x765.links.map intC))]) spr778
      obtain rfl:=Sep.cAt (K1:=[(.c,int x765.control,int x765.control)]) (K2:=[(.s [.c],c782,.list true (x765.links.map intC))]) spr778
      have f783:=ix_arr (k:=.i64) (off:=0) (len:=l167.length) kd_25 mo771 moL772 rfl hb764
      simp at hni777
      obtain⟨hb784,h⟩:=h
      obtain⟨x785,ex785,h⟩:=atm h
      have f786:=fun H=>ix_list (H:=H) (fr:=false) (f:=Control.cells) (k:=.i64) kd_24 (fun _=>rfl) hb784 ex785
      obtain⟨c787,ec787,h⟩:=atm h
      have f788:=ib_neq (k:=.i64) ec787
      simp[hh,mX0,m6_1,m7_19,x6_1,x7_19,hnn,hn1,hn2,neX,mo771,moL772,moR773,hni777,f761,f763,f783,f786,f788,dc762,List.range_succ,byteC,-indexAddrF,-intBin,-lenF]
      exact fin730 (c787) _ _ _ h (by refine⟨v717,v718,v719,.arr id766 l167.length 0 l167.length,?_,?_,?_,?_,?_,?_,(by omega),hid,sp⟩<;>simp[hh,mX0,m6_1,m7_19,x6_1,x7_19,hnn,hn1,hn2,neX,mo771,moL772,moR773,hni777,f761,f763,f783,f786,f788,dc762,List.range_succ,byteC,-indexAddrF,-intBin,-lenF])
     replace h:=h.2 dc762
     simp[hh,mX0,m6_1,m7_19,x6_1,x7_19,hnn,hn1,hn2,neX,f761,f763,dc762,List.range_succ,byteC,-intBin,-lenF]
     exact fin730 (false) _ _ _ h (by refine⟨v717,v718,v719,v720,?_,?_,?_,?_,?_,?_,(by omega),hid,sp⟩<;>simp[hh,mX0,m6_1,m7_19,x6_1,x7_19,hnn,hn1,hn2,neX,f761,f763,dc762,List.range_succ,byteC,-intBin,-lenF])
    replace h:=h.2 dv627
    refine Runs.skip ?_
    refine IH687 (w628,w629,w630,l592) _ _ _ h (by refine⟨v658,v659,v660,v661,?_,?_,?_,?_,?_,?_,(by omega),hid,sp⟩<;>simp[hh,mX0,m6_1,m7_19,x6_1,x7_19,hnn,hn1,hn2,neX,dv627,List.range_succ,byteC])
   clear hh mX0 m6_1 m7_19 x6_1 x7_19
   rintro⟨w677,w678,w679,l680⟩ ρ H n685 h ⟨v681,v682,v683,v684,hh,mX0,m6_1,m7_19,x6_1,x7_19,hnn,hid,sp⟩
   have hq_n685:=hnn
   have hn1:=Nat.le_succ_of_le hnn
   have hn2:=Nat.le_succ_of_le hn1
   refine Runs.seq ?_
   refine Runs.cut (fun ρ H n=>∃ (v789 v790 v791 v792:AVal),(ρ 0 = .ptr X 1 0 0∧ρ 1 = .list false (sig.map Control.cells)∧ρ 6=pA n1 6∧ρ 7=pA n16 7∧ρ 8 = .list true (l22.map strC)∧ρ 10=int v100∧ρ 16=int i587)∧H X=some ⟨3,[[.list false (w677.map byteC),int w678,.v (.int .u64 w679)]]⟩∧H (n1,6)=some ⟨6,[zB]⟩∧H (n16,7)=some ⟨6,[[int r5.2,v792,v791,int r13.2,v790,v789]]⟩∧(X=(n1,6))=False∧(X=(n16,7))=False∧n0≤n∧(∀ i ∈ ids0,H i=H0 i)∧Sep H n (oW v789 l591::oS v790 l49::oI v791 l680::oN v792 l167::K0) ((n16,7)::(n1,6)::X::ids0)) (by refine⟨v681,v682,v683,v684,?_,?_,?_,?_,?_,?_,(by omega),hid,sp⟩<;>simp[hh,mX0,m6_1,m7_19,x6_1,x7_19,hnn,hn1,hn2,neX,List.range_succ,byteC]) ?_
   clear hh mX0 m6_1 m7_19 x6_1 x7_19
   rintro ρ H n793 ⟨v789,v790,v791,v792,hh,mX0,m6_1,m7_19,x6_1,x7_19,hnn,hid,sp⟩
   have hq_n793:=hnn
   have hn1:=Nat.le_succ_of_le hnn
   have hn2:=Nat.le_succ_of_le hn1
   refine Runs.joinC h (fun (sJ:Bool × (List Int) × Int × Int) ρ H n=>match sJ with | (v814,w815,w816,w817)=>∃ (v818 v819 v820 v821:AVal),(ρ 0 = .ptr X 1 0 0∧ρ 1 = .list false (sig.map Control.cells)∧ρ 6=pA n1 6∧ρ 7=pA n16 7∧ρ 8 = .list true (l22.map strC)∧ρ 10=int v100∧ρ 16=int i587∧ρ 191=bool v814)∧H X=some ⟨3,[[.list false (w815.map byteC),int w816,.v (.int .u64 w817)]]⟩∧H (n1,6)=some ⟨6,[zB]⟩∧H (n16,7)=some ⟨6,[[int r5.2,v821,v820,int r13.2,v819,v818]]⟩∧(X=(n1,6))=False∧(X=(n16,7))=False∧n0≤n∧(∀ i ∈ ids0,H i=H0 i)∧Sep H n (oW v818 l591::oS v819 l49::oI v820 l680::oN v821 l167::K0) ((n16,7)::(n1,6)::X::ids0)) ?_ ?_
   ·intro J823 h IH824
    refine zF fun k' hk'=>?_
    obtain⟨c825,ec825,h⟩:=atm h
    have f826:=ib_gtr (k:=.i64) ec825
    rcases Bool.eq_false_or_eq_true c825 with dc825 | dc825
    ·replace h:=h.1 dc825
     obtain⟨hb827,h⟩:=h
     obtain⟨r828,er828,h⟩:=atm h
     simp[hh,mX0,m6_1,m7_19,x6_1,x7_19,hnn,hn1,hn2,neX,f826,dc825,List.range_succ,byteC,-intBin]
     refine RunK.callDr (xsA:=[.ptr X 1 0 0,int 4]) (X:=X) (A:=[(n16,7),(n1,6)]) (B:=(ids0)) (M:=[]) (K0:=(oW v789 l591::oS v790 l49::oI v791 l680::oN v792 l167::K0)) Ty_ok (oneZ_ok (Cur.mk w677 w678 w679) 4 hb827) (.cons (Sub.refl _) (.cons (Sub.refl _) .nil)) e18 (by simp[hh,mX0,m6_1,m7_19,x6_1,x7_19,hnn,hn1,hn2,neX,f826,dc825,List.range_succ,byteC,-intBin]) (by simp[hh,mX0,m6_1,m7_19,x6_1,x7_19,hnn,hn1,hn2,neX,f826,hxi,List.range_succ,byteC,-intBin]) sp (by decide) (by decide) rfl (by simp[hh,mX0,m6_1,m7_19,x6_1,x7_19,hnn,hn1,hn2,neX,f826,dc825,List.range_succ,byteC,-intBin]) ?_
     rintro v829 H830 n831 _ _ ⟨rfl,rfl⟩ hmx sp hle833 hfr832
     rw[← er828] at hmx sp
     have mX0:H830 X=some ⟨3,[[.list false (r828.1.code.map byteC),int r828.1.pos,.v (.int .u64 r828.1.seed)]]⟩:=hmx
     have hid:∀ i ∈ ids0,H830 i=H0 i:=fun i hi=>(hfr832 i (by simp[hi])).trans (hid i hi)
     have hnn:n0≤n831:=by omega
     have hq_n831:=hnn
     have m6_1:=(hfr832 _ (by simp)).trans m6_1
     have m7_19:=(hfr832 _ (by simp)).trans m7_19
     replace sp:=Sep.scalar sp
     obtain⟨hv,sp⟩:=sp
     subst hv
     replace sp:Sep H830 n831 (oW v789 l591::oS v790 l49::oI v791 l680::oN v792 l167::K0) ((n16,7)::(n1,6)::X::ids0):=sp
     simp[hh,mX0,m6_1,m7_19,x6_1,x7_19,hnn,hn1,hn2,neX,f826,dc825,List.range_succ,byteC,-intBin]
     apply hk'
     refine Runs.cut (fun ρ H n=>∃ (v835 v836 v837 v838:AVal),(ρ 0 = .ptr X 1 0 0∧ρ 1 = .list false (sig.map Control.cells)∧ρ 6=pA n1 6∧ρ 7=pA n16 7∧ρ 8 = .list true (l22.map strC)∧ρ 10=int v100∧ρ 16=int i587∧ρ 191=bool r828.2)∧H X=some ⟨3,[[.list false (r828.1.code.map byteC),int r828.1.pos,.v (.int .u64 r828.1.seed)]]⟩∧H (n1,6)=some ⟨6,[zB]⟩∧H (n16,7)=some ⟨6,[[int r5.2,v838,v837,int r13.2,v836,v835]]⟩∧(X=(n1,6))=False∧(X=(n16,7))=False∧n0≤n∧(∀ i ∈ ids0,H i=H0 i)∧Sep H n (oW v835 l591::oS v836 l49::oI v837 l680::oN v838 l167::K0) ((n16,7)::(n1,6)::X::ids0)) (by refine⟨v789,v790,v791,v792,?_,?_,?_,?_,?_,?_,(by omega),hid,sp⟩<;>simp[hh,mX0,m6_1,m7_19,x6_1,x7_19,hnn,hn1,hn2,neX,f826,dc825,List.range_succ,byteC,-intBin]) ?_
     clear hh mX0 m6_1 m7_19 x6_1 x7_19
     rintro ρ H n839 ⟨v835,v836,v837,v838,hh,mX0,m6_1,m7_19,x6_1,x7_19,hnn,hid,sp⟩
     have hq_n839:=hnn
     have hn1:=Nat.le_succ_of_le hnn
     have hn2:=Nat.le_succ_of_le hn1
     refine IH824 (r828.2,r828.1.code,r828.1.pos,r828.1.seed) _ _ _ h (by refine⟨v835,v836,v837,v838,?_,?_,?_,?_,?_,?_,(by omega),hid,sp⟩<;>simp[hh,mX0,m6_1,m7_19,x6_1,x7_19,hnn,hn1,hn2,neX,List.range_succ,byteC])
    replace h:=h.2 dc825
    simp[hh,mX0,m6_1,m7_19,x6_1,x7_19,hnn,hn1,hn2,neX,f826,dc825,List.range_succ,byteC,-intBin]
    apply hk'
    refine Runs.cut (fun ρ H n=>∃ (v840 v841 v842 v843:AVal),(ρ 0 = .ptr X 1 0 0∧ρ 1 = .list false (sig.map Control.cells)∧ρ 6=pA n1 6∧ρ 7=pA n16 7∧ρ 8 = .list true (l22.map strC)∧ρ 10=int v100∧ρ 16=int i587∧ρ 191=bool false)∧H X=some ⟨3,[[.list false (w677.map byteC),int w678,.v (.int .u64 w679)]]⟩∧H (n1,6)=some ⟨6,[zB]⟩∧H (n16,7)=some ⟨6,[[int r5.2,v843,v842,int r13.2,v841,v840]]⟩∧(X=(n1,6))=False∧(X=(n16,7))=False∧n0≤n∧(∀ i ∈ ids0,H i=H0 i)∧Sep H n (oW v840 l591::oS v841 l49::oI v842 l680::oN v843 l167::K0) ((n16,7)::(n1,6)::X::ids0)) (by refine⟨v789,v790,v791,v792,?_,?_,?_,?_,?_,?_,(by omega),hid,sp⟩<;>simp[hh,mX0,m6_1,m7_19,x6_1,x7_19,hnn,hn1,hn2,neX,f826,dc825,List.range_succ,byteC,-intBin]) ?_
    clear hh mX0 m6_1 m7_19 x6_1 x7_19
    rintro ρ H n844 ⟨v840,v841,v842,v843,hh,mX0,m6_1,m7_19,x6_1,x7_19,hnn,hid,sp⟩
    have hq_n844:=hnn
    have hn1:=Nat.le_succ_of_le hnn
    have hn2:=Nat.le_succ_of_le hn1
    refine IH824 (false,w677,w678,w679) _ _ _ h (by refine⟨v840,v841,v842,v843,?_,?_,?_,?_,?_,?_,(by omega),hid,sp⟩<;>simp[hh,mX0,m6_1,m7_19,x6_1,x7_19,hnn,hn1,hn2,neX,List.range_succ,byteC])
   clear hh mX0 m6_1 m7_19 x6_1 x7_19
   rintro⟨v814,w815,w816,w817⟩ ρ H n822 h ⟨v818,v819,v820,v821,hh,mX0,m6_1,m7_19,x6_1,x7_19,hnn,hid,sp⟩
   have hq_n822:=hnn
   have hn1:=Nat.le_succ_of_le hnn
   have hn2:=Nat.le_succ_of_le hn1
   refine Runs.ite (b:=v814) (by simp[hh,mX0,m6_1,m7_19,x6_1,x7_19,hnn,hn1,hn2,neX,List.range_succ,byteC]) (fun dv814=>?_) (fun dv814=>?_)
   ·replace h:=h.1 dv814
    refine Runs.cut (fun ρ H n=>∃ (v845 v846 v847 v848:AVal),(ρ 0 = .ptr X 1 0 0∧ρ 1 = .list false (sig.map Control.cells)∧ρ 6=pA n1 6∧ρ 7=pA n16 7∧ρ 8 = .list true (l22.map strC)∧ρ 10=int v100∧ρ 16=int i587)∧H X=some ⟨3,[[.list false (w815.map byteC),int w816,.v (.int .u64 w817)]]⟩∧H (n1,6)=some ⟨6,[zB]⟩∧H (n16,7)=some ⟨6,[[int r5.2,v848,v847,int r13.2,v846,v845]]⟩∧(X=(n1,6))=False∧(X=(n16,7))=False∧n0≤n∧(∀ i ∈ ids0,H i=H0 i)∧Sep H n (oW v845 l591::oS v846 l49::oI v847 l680::oN v848 l167::K0) ((n16,7)::(n1,6)::X::ids0)) (by refine⟨v818,v819,v820,v821,?_,?_,?_,?_,?_,?_,(by omega),hid,sp⟩<;>simp[hh,mX0,m6_1,m7_19,x6_1,x7_19,hnn,hn1,hn2,neX,dv814,List.range_succ,byteC]) ?_
    clear hh mX0 m6_1 m7_19 x6_1 x7_19
    rintro ρ H n849 ⟨v845,v846,v847,v848,hh,mX0,m6_1,m7_19,x6_1,x7_19,hnn,hid,sp⟩
    have hq_n849:=hnn
    have hn1:=Nat.le_succ_of_le hnn
    have hn2:=Nat.le_succ_of_le hn1
    obtain⟨hb850,h⟩:=h
    obtain⟨x851,ex851,h⟩:=atm h
    have f852:=fun H=>ix_list (H:=H) (fr:=true) (f:=strC) (k:=.i64) kd_27 (fun _=>rfl) hb850 ex851
    obtain⟨hb853,h⟩:=h
    obtain⟨r854,er854,h⟩:=atm h
    obtain⟨l855,el855,h⟩:=atm h
    refine Runs.drawL Ty_ok 11 (fun H n=>H (n1,6)=some ⟨6,[zB]⟩∧H (n16,7)=some ⟨6,[[int r5.2,v848,v847,int r13.2,v846,v845]]⟩∧Sep H n (oW v845 l591::oS v846 l49::oI v847 l680::oN v848 l167::K0) ((n16,7)::(n1,6)::X::ids0)) [8,10] (.free 0 (.free 1 (.free 2 (.free 3 (.free 4 (.free 5 (.free 6 (.free 7 (.hard 8 (.free 9 (.hard 10 (.fin) (.stop))) (.stop)))))))))) (fun ρ H n=>∃ (v856 v857 v858 v859:AVal),(ρ 0 = .ptr X 1 0 0∧ρ 1 = .list false (sig.map Control.cells)∧ρ 6=pA n1 6∧ρ 7=pA n16 7∧ρ 8 = .list true (l22.map strC)∧ρ 10=int v100∧ρ 16=int i587∧ρ 193=v856∧ρ 202 = .list true (l855.map Wire.cells))∧H X=some ⟨3,[[.list false (r854.1.code.map byteC),int r854.1.pos,.v (.int .u64 r854.1.seed)]]⟩∧H (n1,6)=some ⟨6,[zB]⟩∧H (n16,7)=some ⟨6,[[int r5.2,v859,v858,int r13.2,v857,v856]]⟩∧(X=(n1,6))=False∧(X=(n16,7))=False∧n0≤n∧(∀ i ∈ ids0,H i=H0 i)∧Sep H n (oW v856 l591::oS v857 l49::oI v858 l680::oN v859 l167::K0) ((n16,7)::(n1,6)::X::ids0)) draws (by decide) (by kernel_rfl) (by kernel_rfl) ?_ ?_
    ·refine RunT.free (.ptr (n16,7) 1 0 5) rfl rfl ⟨m6_1,m7_19,sp⟩ (fun H n hS=>by obtain⟨m6_1,m7_19,sp⟩:=hS;exact (by exact stepF_ok Ty_ok (by rw[stepF_loc];simp[hh,mX0,m6_1,m7_19,x6_1,x7_19,hnn,hn1,hn2,neX,f852,el855,List.range_succ,byteC,-indexAddrF]))) ?_
     refine RunT.free v845 rfl rfl ⟨m6_1,m7_19,sp⟩ (fun H n hS=>by obtain⟨m6_1,m7_19,sp⟩:=hS;exact (by exact stepF_ok Ty_ok (by rw[stepF_loc];simp[hh,mX0,m6_1,m7_19,x6_1,x7_19,hnn,hn1,hn2,neX,f852,el855,List.range_succ,byteC,-indexAddrF]))) ?_
     refine RunT.free (.list true (l22.map strC)) rfl rfl ⟨m6_1,m7_19,sp⟩ (fun H n hS=>by obtain⟨m6_1,m7_19,sp⟩:=hS;exact (by exact stepF_ok Ty_ok (by rw[stepF_loc];simp[hh,mX0,m6_1,m7_19,x6_1,x7_19,hnn,hn1,hn2,neX,f852,el855,List.range_succ,byteC,-indexAddrF]))) ?_
     refine RunT.free (int i587) rfl rfl ⟨m6_1,m7_19,sp⟩ (fun H n hS=>by obtain⟨m6_1,m7_19,sp⟩:=hS;exact (by exact stepF_ok Ty_ok (by rw[stepF_loc];simp[hh,mX0,m6_1,m7_19,x6_1,x7_19,hnn,hn1,hn2,neX,f852,el855,List.range_succ,byteC,-indexAddrF]))) ?_
     refine RunT.free (.iptr true [str x851]) rfl rfl ⟨m6_1,m7_19,sp⟩ (fun H n hS=>by obtain⟨m6_1,m7_19,sp⟩:=hS;exact (by have f852:=fun H=>ix_list (H:=H) (fr:=true) (f:=strC) (k:=.i64) kd_27 (fun _=>rfl) hb850 ex851;exact stepF_ok Ty_ok (by rw[stepF_loc];simp[hh,mX0,m6_1,m7_19,x6_1,x7_19,hnn,hn1,hn2,neX,f852,el855,List.range_succ,byteC,-indexAddrF]))) ?_
     refine RunT.free (str x851) rfl rfl ⟨m6_1,m7_19,sp⟩ (fun H n hS=>by obtain⟨m6_1,m7_19,sp⟩:=hS;exact (by exact stepF_ok Ty_ok (by rw[stepF_loc];simp[hh,mX0,m6_1,m7_19,x6_1,x7_19,hnn,hn1,hn2,neX,f852,el855,List.range_succ,byteC,-indexAddrF]))) ?_
     refine RunT.free (.ptr X 1 0 0) rfl rfl ⟨m6_1,m7_19,sp⟩ (fun H n hS=>by obtain⟨m6_1,m7_19,sp⟩:=hS;exact (by exact stepF_ok Ty_ok (by rw[stepF_loc];simp[hh,mX0,m6_1,m7_19,x6_1,x7_19,hnn,hn1,hn2,neX,f852,el855,List.range_succ,byteC,-indexAddrF]))) ?_
     refine RunT.free (int v100) rfl rfl ⟨m6_1,m7_19,sp⟩ (fun H n hS=>by obtain⟨m6_1,m7_19,sp⟩:=hS;exact (by exact stepF_ok Ty_ok (by rw[stepF_loc];simp[hh,mX0,m6_1,m7_19,x6_1,x7_19,hnn,hn1,hn2,neX,f852,el855,List.range_succ,byteC,-indexAddrF]))) ?_
     refine⟨?_,trivial⟩
     refine RunT.callDr (xsA:=[.ptr X 1 0 0,int v100]) (X:=X) (A:=[(n16,7),(n1,6)]) (B:=(ids0)) (M:=[]) (K0:=(oW v845 l591::oS v846 l49::oI v847 l680::oN v848 l167::K0)) rfl rfl (pickZ_ok (Cur.mk w815 w816 w817) v100 hb853) (.cons (Sub.refl _) (.cons (Sub.refl _) .nil)) e17 (by simp[hh,mX0,m6_1,m7_19,x6_1,x7_19,hnn,hn1,hn2,neX,f852,el855,List.range_succ,byteC,-indexAddrF]) (by simp[hh,mX0,m6_1,m7_19,x6_1,x7_19,hnn,hn1,hn2,neX,f852,el855,hxi,List.range_succ,byteC,-indexAddrF]) sp (by simp[hh,mX0,m6_1,m7_19,x6_1,x7_19,hnn,hn1,hn2,neX,f852,el855,List.range_succ,byteC,-indexAddrF]) (by simp[hh,mX0,m6_1,m7_19,x6_1,x7_19,hnn,hn1,hn2,neX,f852,el855,List.range_succ,byteC,-indexAddrF]) ?_
     rintro v865 H861 n862 _ _ ⟨rfl,rfl⟩ hmx sp hle864 hfr863
     rw[← er854] at hmx sp
     have mX0:H861 X=some ⟨3,[[.list false (r854.1.code.map byteC),int r854.1.pos,.v (.int .u64 r854.1.seed)]]⟩:=hmx
     have hid:∀ i ∈ ids0,H861 i=H0 i:=fun i hi=>(hfr863 i (by simp[hi])).trans (hid i hi)
     have hnn:n0≤n862:=by omega
     have hq_n862:=hnn
     have m6_1:=(hfr863 _ (by simp)).trans m6_1
     have m7_19:=(hfr863 _ (by simp)).trans m7_19
     replace sp:=Sep.scalar sp
     obtain⟨hv,sp⟩:=sp
     subst hv
     replace sp:Sep H861 n862 (oW v845 l591::oS v846 l49::oI v847 l680::oN v848 l167::K0) ((n16,7)::(n1,6)::X::ids0):=sp
     refine⟨(fun _=>⟨m6_1,m7_19,sp⟩),?_⟩
     refine RunT.free (.agg [str x851,int r854.2]) rfl rfl ⟨m6_1,m7_19,sp⟩ (fun H n hS=>by obtain⟨m6_1,m7_19,sp⟩:=hS;exact (by exact stepF_ok Ty_ok (by rw[stepF_loc];simp[hh,mX0,m6_1,m7_19,x6_1,x7_19,hnn,hn1,hn2,neX,f852,el855,List.range_succ,byteC,-indexAddrF]))) ?_
     refine⟨?_,trivial⟩
     refine RunT.same (v:=(.list true ([(Wire.mk x851 r854.2)].map Wire.cells))) Ty_ok rfl rfl (by simp[hh,mX0,m6_1,m7_19,x6_1,x7_19,hnn,hn1,hn2,neX,f852,el855,List.range_succ,byteC,-indexAddrF]) (fun _=>⟨m6_1,m7_19,sp⟩) ?_
     refine RunT.fin (by refine⟨v845,v846,v847,v848,?_,?_,?_,?_,?_,?_,(by omega),hid,sp⟩<;>simp[hh,mX0,m6_1,m7_19,x6_1,x7_19,hnn,hn1,hn2,neX,f852,el855,List.range_succ,byteC,-indexAddrF])
    clear hh mX0 m6_1 m7_19 x6_1 x7_19
    rintro k' hk' ρ H n860 ⟨v856,v857,v858,v859,hh,mX0,m6_1,m7_19,x6_1,x7_19,hnn,hid,sp⟩
    have hq_n860:=hnn
    have hn1:=Nat.le_succ_of_le hnn
    have hn2:=Nat.le_succ_of_le hn1
    show evalK _ _ _ _ _ _ _ _ _ _ _
    simp only[List.drop_succ_cons,List.drop_zero]
    obtain⟨hb874,h⟩:=h
    obtain⟨l875,el875,h⟩:=atm h
    simp[hh,mX0,m6_1,m7_19,x6_1,x7_19,hnn,hn1,hn2,neX,List.range_succ,byteC,-appendF]
    refine bind_append0 (l855.map Wire.cells) sp (by simp) kd_28 (by simp) (by simp) (by simp[srcOf,List.range_succ,byteC]) (by simp[-one1,o1x,List.range_succ,byteC]) (by simpa using hb874) ?_
    rintro v876 H877 n878 sp hfr879 hle880
    replace sp:Sep H877 n878 (oW v876 l875::oS v857 l49::oI v858 l680::oN v859 l167::K0) ((n16,7)::(n1,6)::X::ids0):=by refine Sep.ap el875 ?_;exact sp
    have hid:∀ i ∈ ids0,H877 i=H0 i:=fun i hi=>(hfr879 i (by simp[hi])).trans (hid i hi)
    have hnn:n0≤n878:=by omega
    have hq_n878:=hnn
    have mX0:=(hfr879 _ (by simp)).trans mX0
    have m6_1:=(hfr879 _ (by simp)).trans m6_1
    have m7_19:=(hfr879 _ (by simp)).trans m7_19
    have f882:=Sep.oc sp
    simp[hh,mX0,m6_1,m7_19,x6_1,x7_19,hnn,hn1,hn2,neX,f882,List.range_succ,byteC,-cellsA,-one1,cAx,o1x]
    apply hk'
    refine Runs.cut (fun ρ H n=>∃ (v883 v884 v885 v886:AVal),(ρ 0 = .ptr X 1 0 0∧ρ 1 = .list false (sig.map Control.cells)∧ρ 6=pA n1 6∧ρ 7=pA n16 7∧ρ 8 = .list true (l22.map strC)∧ρ 10=int v100∧ρ 16=int i587)∧H X=some ⟨3,[[.list false (r854.1.code.map byteC),int r854.1.pos,.v (.int .u64 r854.1.seed)]]⟩∧H (n1,6)=some ⟨6,[zB]⟩∧H (n16,7)=some ⟨6,[[int r5.2,v886,v885,int r13.2,v884,v883]]⟩∧(X=(n1,6))=False∧(X=(n16,7))=False∧n0≤n∧(∀ i ∈ ids0,H i=H0 i)∧Sep H n (oW v883 l875::oS v884 l49::oI v885 l680::oN v886 l167::K0) ((n16,7)::(n1,6)::X::ids0)) (by refine⟨v876,v857,v858,v859,?_,?_,?_,?_,?_,?_,(by omega),(by intro i hi;have hlt:=h00 i (by simp[hi]);have hxx:i ≠ X:=fun e=>hxi (e ▸ hi);repeat (first | exact hid i hi | rw[Heap.get_set_ne _ _ hxx] | rw[Heap.get_set_ne _ _ (by rintro rfl;simp at hlt;omega)])),(Sep.setVar (w:=(n16,7)) sp (by simp))⟩<;>simp[hh,mX0,m6_1,m7_19,x6_1,x7_19,hnn,hn1,hn2,neX,f882,List.range_succ,byteC,-cellsA,-one1,cAx,o1x]) ?_
    clear hh mX0 m6_1 m7_19 x6_1 x7_19
    rintro ρ H n887 ⟨v883,v884,v885,v886,hh,mX0,m6_1,m7_19,x6_1,x7_19,hnn,hid,sp⟩
    have hq_n887:=hnn
    have hn1:=Nat.le_succ_of_le hnn
    have hn2:=Nat.le_succ_of_le hn1
    refine Runs.inBlock ?_
    refine zF fun k' hk'=>?_
    obtain⟨hb888,h⟩:=h
    obtain⟨v889,ev889,h⟩:=atm h
    have f890:=ib_add hb888 ev889
    simp[hh,mX0,m6_1,m7_19,x6_1,x7_19,hnn,hn1,hn2,neX,f890,List.range_succ,byteC,-intBin]
    apply hk'
    refine IH598 (v889,r854.1.code,r854.1.pos,r854.1.seed,l875,l680) _ _ _ h (by refine⟨v883,v884,v885,v886,?_,?_,?_,?_,?_,?_,(by omega),hid,sp⟩<;>simp[hh,mX0,m6_1,m7_19,x6_1,x7_19,hnn,hn1,hn2,neX,List.range_succ,byteC])
   replace h:=h.2 dv814
   refine Runs.skip ?_
   refine Runs.inBlock ?_
   refine zF fun k' hk'=>?_
   obtain⟨hb891,h⟩:=h
   obtain⟨v892,ev892,h⟩:=atm h
   have f893:=ib_add hb891 ev892
   simp[hh,mX0,m6_1,m7_19,x6_1,x7_19,hnn,hn1,hn2,neX,f893,dv814,List.range_succ,byteC,-intBin]
   apply hk'
   refine IH598 (v892,w815,w816,w817,l591,l680) _ _ _ h (by refine⟨v818,v819,v820,v821,?_,?_,?_,?_,?_,?_,(by omega),hid,sp⟩<;>simp[hh,mX0,m6_1,m7_19,x6_1,x7_19,hnn,hn1,hn2,neX,dv814,List.range_succ,byteC])
  replace h:=h.2 dc600
  refine Runs.exit rfl ?_
  refine zE fun k' hk'=>?_
  obtain⟨hb894,h⟩:=h
  simp[hh,mX0,m6_1,m7_19,x6_1,x7_19,hnn,hn1,hn2,neX,dc600,List.range_succ,byteC]
  refine RunK.callDr (xsA:=[.ptr X 1 0 0,.agg [int r5.2,v596,v595,int r13.2,v594,v593]]) (X:=X) (A:=[(n16,7),(n1,6)]) (B:=(ids0)) (M:=[(.a [.c,.s [.c,.c,.s [.c]],.s [.c],.c,.s [.c],.s [.c,.c]],.agg [int r5.2,v596,v595,int r13.2,v594,v593],.agg [int r5.2,.list true (l167.map (GNode.cells true)),.list true (l592.map intC),int r13.2,.list true (l49.map strC),.list true (l591.map Wire.cells)])]) (K0:=(K0)) Ty_ok (harmedR_ok (Cur.mk w588 w589 w590) (Big.mk r5.2 l167 l592 r13.2 l49 l591) hb894 (.agg [int r5.2,v596,v595,int r13.2,v594,v593])) (.cons (Sub.refl _) (.cons (Sub.refl _) .nil)) e44 (by simp[hh,mX0,m6_1,m7_19,x6_1,x7_19,hnn,hn1,hn2,neX,dc600,List.range_succ,byteC]) (by simp[hh,mX0,m6_1,m7_19,x6_1,x7_19,hnn,hn1,hn2,neX,hxi,List.range_succ,byteC]) (Sep.pack (Fill.v _ (Fill.own (Fill.own (Fill.v _ (Fill.own (Fill.own Fill.nil)))))) sp.f1.f2.f3) (by decide) (by decide) rfl (by simp[hh,mX0,m6_1,m7_19,x6_1,x7_19,hnn,hn1,hn2,neX,dc600,List.range_succ,byteC]) ?_
  rintro v895 H896 n897 _ _ ⟨r900,er900,rfl,rfl⟩ hmx sp hle899 hfr898
  replace h:=h r900 er900
  have mX0:H896 X=some ⟨3,[[.list false (r900.1.code.map byteC),int r900.1.pos,.v (.int .u64 r900.1.seed)]]⟩:=hmx
  have hid:∀ i ∈ ids0,H896 i=H0 i:=fun i hi=>(hfr898 i (by simp[hi])).trans (hid i hi)
  have hnn:n0≤n897:=by omega
  have hq_n897:=hnn
  have m6_1:=(hfr898 _ (by simp)).trans m6_1
  have m7_19:=(hfr898 _ (by simp)).trans m7_19
  replace sp:=Sep.unpack sp
  obtain⟨L908,hv,hl909,sp⟩:=sp
  subst hv
  obtain⟨v902,v903,v904,v905,v906,v907,hv⟩:=len6 (by simpa using hl909)
  subst hv
  simp only[zip3,List.cons_append,List.nil_append] at sp
  replace sp:=Sep.scalar sp
  obtain⟨hv,sp⟩:=sp
  subst hv
  replace sp:=Sep.rot sp
  try simp only[List.cons_append,List.nil_append,List.append_assoc] at sp
  replace sp:=Sep.rot sp
  try simp only[List.cons_append,List.nil_append,List.append_assoc] at sp
  replace sp:=Sep.scalar sp
  obtain⟨hv,sp⟩:=sp
  subst hv
  replace sp:=Sep.rot sp
  try simp only[List.cons_append,List.nil_append,List.append_assoc] at sp
  replace sp:=Sep.rot sp
  try simp only[List.cons_append,List.nil_append,List.append_assoc] at sp
  replace sp:=Sep.lasts (R:=[]) (K0:=K0) (D:=[oE [.c,.c,.c] (GNode.cells true) v903 r900.2.nodes,oI v904 r900.2.sites,oS v906 r900.2.outer,oW v907 r900.2.inner]) sp
  replace sp:Sep H896 n897 (oE [.c,.c,.c] (GNode.cells true) v903 r900.2.nodes::oI v904 r900.2.sites::oS v906 r900.2.outer::oW v907 r900.2.inner::K0) ((n16,7)::(n1,6)::X::ids0):=sp
  have f914:=Sep.oc sp
  have f915:=Sep.oc sp.f1
  have f916:=Sep.oc sp.f2
  have f917:=Sep.oc sp.f3
  simp[hh,mX0,m6_1,m7_19,x6_1,x7_19,hnn,hn1,hn2,neX,f914,f915,f916,f917,dc600,List.range_succ,byteC,-cellsA,-one1,cAx,o1x]
  apply hk'
  refine Runs.cut (fun ρ H n=>∃ (v918 v919 v920 v921:AVal),ρ 6=pA n1 6∧H (n1,6)=some ⟨6,[[int r900.2.roots,v918,v919,int r900.2.edges,v920,v921]]⟩∧H X=some ⟨3,[[.list false (r900.1.code.map byteC),int r900.1.pos,.v (.int .u64 r900.1.seed)]]⟩∧(X=(n1,6))=False∧n0≤n∧(∀ i ∈ ids0,H i=H0 i)∧Sep H n (oE [.c,.c,.c] (GNode.cells true) v918 r900.2.nodes::oI v919 r900.2.sites::oS v920 r900.2.outer::oW v921 r900.2.inner::K0) ((n1,6)::X::ids0)) (by refine⟨v903,v904,v906,v907,?_,?_,?_,?_,(by omega),(by intro i hi;have hlt:=h00 i (by simp[hi]);have hxx:i ≠ X:=fun e=>hxi (e ▸ hi);repeat (first | exact hid i hi | rw[Heap.get_set_ne _ _ hxx] | rw[Heap.get_set_ne _ _ (by rintro rfl;simp at hlt;omega)])),(Sep.sub (Sep.setVar (w:=(n1,6)) sp (by simp)) (by simp +contextual))⟩<;>simp[hh,mX0,m6_1,m7_19,x6_1,x7_19,hnn,hn1,hn2,neX,f914,f915,f916,f917,dc600,List.range_succ,byteC,-cellsA,-one1,cAx,o1x]) ?_
  clear hh mX0 m6_1 m7_19 x6_1 x7_19
  rintro ρ H n922 ⟨v918,v919,v920,v921,hh,m6_1,mX0,x6_1,hnn,hid,sp⟩
  have hq_n922:=hnn
  have hn1:=Nat.le_succ_of_le hnn
  have hn2:=Nat.le_succ_of_le hn1
  exact Runs.res1 Ty_ok (v:=.agg [int r900.2.roots,v918,v919,int r900.2.edges,v920,v921]) Tryd.func16 Tryd.results16 (by simp[hh,m6_1,mX0,x6_1,hnn,hn1,hn2,neX,resA,List.range_succ,byteC]) (hQ _ _ _ r900.1 _ (by simp[hh,m6_1,mX0,x6_1,hnn,hn1,hn2,neX,resA,List.range_succ,byteC]) (Sep.sub (Sep.pack (Fill.v _ (Fill.own (Fill.own (Fill.v _ (Fill.own (Fill.own Fill.nil)))))) sp) (by simp +contextual)) hid (by omega) ⟨r900.2,h,rfl⟩)
 replace h:=hJ119
 obtain⟨len924,elen924,h⟩:=atm h
 have f925:=fun H=>len_list (H:=H) (fr:=false) (f:=Control.cells) kd_24 elen924
 obtain⟨c926,ec926,h⟩:=atm h
 have f927:=ib_eql (k:=.i64) ec926
 rcases Bool.eq_false_or_eq_true c926 with dc926 | dc926
 ·replace h:=h.1 dc926
  simp[hh,mX0,m6_1,m7_19,x6_1,x7_19,hnn,hn1,hn2,neX,f925,f927,dc926,List.range_succ,byteC,-intBin,-lenF]
  exact fin126 (true) _ _ _ h (by refine⟨v113,v114,v115,v116,?_,?_,?_,?_,?_,?_,(by omega),hid,sp⟩<;>simp[hh,mX0,m6_1,m7_19,x6_1,x7_19,hnn,hn1,hn2,neX,f925,f927,dc926,List.range_succ,byteC,-intBin,-lenF])
 replace h:=h.2 dc926
 obtain⟨c928,ec928,h⟩:=atm h
 have f929:=ib_eql (k:=.i64) ec928
 simp[hh,mX0,m6_1,m7_19,x6_1,x7_19,hnn,hn1,hn2,neX,f925,f927,f929,dc926,List.range_succ,byteC,-intBin,-lenF]
 exact fin126 (c928) _ _ _ h (by refine⟨v113,v114,v115,v116,?_,?_,?_,?_,?_,?_,(by omega),hid,sp⟩<;>simp[hh,mX0,m6_1,m7_19,x6_1,x7_19,hnn,hn1,hn2,neX,f925,f927,f929,dc926,List.range_succ,byteC,-intBin,-lenF])
theorem bigraphR_ok (c:Cur) (sig:List Control) (most:Int) (hp:bigraphR_pre c sig most)  : DrawS Tryd.prog 16 (fun p=>[p,.list false (sig.map Control.cells),int most]) 3 (fun s=>[.list false (s.code.map byteC),int s.pos,.v (.int .u64 s.seed)]) c [] (.a [.c,.s [.c,.c,.c],.s [.c],.c,.s [.c],.s [.c,.c]]) (fun s' r=>∃ y:Cur × Big,bigraphR c sig most y∧s'=y.1∧r = .agg (bC true y.2)):=(bigraphR_walk c sig most _ (bigraphR_vc c sig most hp)).mono (by rintro s' _ ⟨y,hz,rfl⟩;exact⟨(s',y),hz,rfl,rfl⟩)
theorem bigraphR_fz (c:Cur) (sig:List Control) (most:Int) (hp:bigraphR_pre c sig most):DrawS Tryd.prog 16 (fun p=>[p,.list false (sig.map Control.cells),int most]) 3 (fun s=>[.list false (s.code.map byteC),int s.pos,.v (.int .u64 s.seed)]) c [] .c (fun s' r=>∃ y:Cur × Big,bigraphR c sig most y∧s'=y.1∧r = .agg (bC true y.2)):=(bigraphR_ok c sig most hp).fz (by rintro _ _ ⟨y,_,rfl,rfl⟩;simp )
end Go.Ab.Vg
