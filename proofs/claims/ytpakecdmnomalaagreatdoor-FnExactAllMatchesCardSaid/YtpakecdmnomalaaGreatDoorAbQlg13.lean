/- Merged texts (13 of 14) of the proof that ends in Lgy: Mrw Lgz. -/
import Derived.Test.YtpakecdmnomalaaGreatDoorAbQlg12
/- Walks by program for YtpakecdmnomalaaGreatDoorAbMr. -/
namespace Go.Ab.Vg
open Go.Proofs
set_option maxRecDepth 100000
set_option linter.unusedSimpArgs false
set_option linter.unusedVariables false
attribute [local simp] Control.cells GNode.cells Wire.cells Match.cells intC sliceC strC bC pA
theorem e24 : Ent Tryz.prog 24 := Ent.of Tryz.func24 (by kernel_rfl) rfl
theorem eqMatchS_walk (a : List Match) (b : List Match) (Z : Bool → Prop) (h : eqMatchS_wp a b Z) : PureC Tryz.prog 24 [.list false (a.map (Match.cells false)), .list false (b.map (Match.cells false))] (fun r => ∃ y : Bool, Z y ∧ r = bool y) := by
 unfold eqMatchS_wp at h
 refine PureC.of Tryz.func24 rfl Tryz.ntmps24 (by simp) fun Q hQ => ?_
 refine Runs.cut (fun ρ H n => (ρ 0 = .list false (a.map (Match.cells false)) ∧ ρ 1 = .list false (b.map (Match.cells false)))) (by simp) ?_
 rintro ρ H n1 hh
 refine zE fun k' hk' => ?_
 simp [hh]
 apply hk'
 refine Runs.seq ?_
 refine zE fun k' hk' => ?_
 obtain ⟨len2, elen2, h⟩ := atm h
 have f3 := fun H => len_list (H := H) (fr := false) (f := (Match.cells false)) kd_51 elen2
 obtain ⟨len4, elen4, h⟩ := atm h
 have f5 := fun H => len_list (H := H) (fr := false) (f := (Match.cells false)) kd_51 elen4
 obtain ⟨c6, ec6, h⟩ := atm h
 have f7 := ib_neq (k := .i64) ec6
 simp [hh, f3, f5, f7, -intBin, -lenF]
 apply hk'
 refine Runs.ite (b := c6) (by simp [hh]) (fun dc6 => ?_) (fun dc6 => ?_)
 ·replace h := h.1 dc6
  refine zE fun k' hk' => ?_
  simp [hh, dc6]
  apply hk'
  exact Runs.ret1 (v := bool false) Tryz.func24 Tryz.results24 (by simp [hh, dc6]) (hQ _ _ _ _ (.of (.v _)) ⟨false, h, rfl⟩)
 replace h := h.2 dc6
 refine Runs.skip ?_
 refine Runs.seq ?_
 refine zE fun k' hk' => ?_
 simp [hh, dc6]
 apply hk'
 refine Runs.block ?_
 refine Runs.loopW h (fun (sJ : Int) ρ H n => match sJ with | i10 => (ρ 0 = .list false (a.map (Match.cells false)) ∧ ρ 1 = .list false (b.map (Match.cells false)) ∧ ρ 5 = int i10)) (by simp [hh, dc6]) ?_
 clear hh
 rintro i10 ρ H n11 K h hh IH12
 refine Runs.seq ?_
 refine zE fun k' hk' => ?_
 obtain ⟨len14, elen14, h⟩ := atm h
 have f15 := fun H => len_list (H := H) (fr := false) (f := (Match.cells false)) kd_51 elen14
 obtain ⟨c16, ec16, h⟩ := atm h
 have f17 := ib_lss (k := .i64) ec16
 simp [hh, f15, f17, -intBin, -lenF]
 apply hk'
 refine Runs.ite (b := c16) (by simp [hh]) (fun dc16 => ?_) (fun dc16 => ?_)
 ·replace h := h.1 dc16
  refine Runs.skip ?_
  refine Runs.seq ?_
  refine Runs.block ?_
  refine Runs.seqD Ty_ok kindOp_ok draws (by decide) (by kernel_rfl) fun k' hk' => ?_
  obtain ⟨hb18, h⟩ := h
  obtain ⟨x19, ex19, h⟩ := atm h
  have f20 := fun H => ix_list (H := H) (fr := false) (f := (Match.cells false)) (k := .i64) kd_51 (fun _ => rfl) hb18 ex19
  obtain ⟨hb21, h⟩ := h
  obtain ⟨x22, ex22, h⟩ := atm h
  have f23 := fun H => ix_list (H := H) (fr := false) (f := (Match.cells false)) (k := .i64) kd_51 (fun _ => rfl) hb21 ex22
  obtain ⟨hb24, h⟩ := h
  obtain ⟨r25, er25, h⟩ := atm h
  simp [hh, f20, f23, dc16, -indexAddrF]
  refine RunDK.callA Ty_ok kindOp_ok (eqM_ok x19 x22 hb24) e17 (.cons (argM false x19) (.cons (argM false x22) .nil)) (by decide) rfl (by simp [hh, f20, f23, dc16, -indexAddrF]) ?_
  rw [← er25]
  simp [hh, f20, f23, dc16, -indexAddrF]
  apply hk'
  refine Runs.ite (b := (!r25)) (by simp [hh, dc16]) (fun dr25 => ?_) (fun dr25 => ?_)
  ·have dr25 : r25 = false := by simpa using dr25
   replace h := h.2 dr25
   refine zE fun k' hk' => ?_
   simp [hh, dc16, dr25]
   apply hk'
   refine Runs.cut (fun ρ H n => ρ 4 = bool false) (by simp [hh, dc16, dr25]) ?_
   clear hh
   rintro ρ H n26 hh
   exact Runs.ret1 (v := bool false) Tryz.func24 Tryz.results24 (by simp [hh]) (hQ _ _ _ _ (.of (.v _)) ⟨false, h, rfl⟩)
  have dr25 : r25 = true := by simpa using dr25
  replace h := h.1 dr25
  refine Runs.skip ?_
  refine Runs.inBlock ?_
  refine zF fun k' hk' => ?_
  obtain ⟨hb27, h⟩ := h
  obtain ⟨v28, ev28, h⟩ := atm h
  have f29 := ib_add hb27 ev28
  simp [hh, f29, dc16, dr25, -intBin]
  apply hk'
  refine Runs.cut (fun ρ H n => (ρ 0 = .list false (a.map (Match.cells false)) ∧ ρ 1 = .list false (b.map (Match.cells false)) ∧ ρ 5 = int v28)) (by simp [hh, f29, dc16, dr25, -intBin]) ?_
  clear hh
  rintro ρ H n30 hh
  refine IH12 (v28) _ _ _ h (by simp [hh])
 replace h := h.2 dc16
 refine Runs.exit rfl ?_
 refine zE fun k' hk' => ?_
 simp [hh, dc16]
 apply hk'
 exact Runs.ret1 (v := bool true) Tryz.func24 Tryz.results24 (by simp [hh, dc16]) (hQ _ _ _ _ (.of (.v _)) ⟨true, h, rfl⟩)
theorem eqMatchS_ok (a : List Match) (b : List Match) (hp : eqMatchS_pre a b) : PureC Tryz.prog 24 [.list false (a.map (Match.cells false)), .list false (b.map (Match.cells false))] (fun r => r = bool (eqMatchS a b)) := (eqMatchS_walk a b _ (eqMatchS_vc a b hp)).mono (by rintro _ ⟨_, rfl, rfl⟩; rfl)
theorem e25 : Ent Tryz.prog 25 := Ent.of Tryz.func25 (by kernel_rfl) rfl
theorem markMatchS_walk (a : List Match) (k_ : Int) (Z : ((List Match) × Int) → Prop) (h : markMatchS_wp a k_ Z) : MutS Tryz.prog 25 (fun v => [v, int k_]) (.s [.s [.c], .s [.c]]) (.list true (a.map (Match.cells true))) (fun e' r => ∃ y : (List Match) × Int, Z y ∧ e' = .list true (y.1.map (Match.cells true)) ∧ r = int y.2) := by
 unfold markMatchS_wp at h
 refine MutS.of Tryz.func25 rfl Tryz.ntmps25 (fun _ => by simp) fun H0 n0 v0 K0 ids0 sp Q hQ => ?_
 have h00 := sp.1
 have hid : ∀ i ∈ ids0, H0 i = H0 i := fun _ _ => rfl
 have hnn : n0 ≤ n0 := Nat.le_refl _
 refine Runs.cut (fun ρ H n => (ρ 0 = v0 ∧ ρ 1 = int k_) ∧ n0 ≤ n ∧ (∀ i ∈ ids0, H i = H0 i) ∧ Sep H n (oE [.s [.c], .s [.c]] (Match.cells true) v0 a :: K0) (ids0)) (by refine ⟨?_, (by omega), hid, sp⟩ <;> simp ) ?_
 rintro ρ H n2 ⟨hh, hnn, hid, sp⟩
 have hq_n2 := hnn
 refine zE fun k' hk' => ?_
 simp [hh]
 apply hk'
 refine Runs.seq ?_
 refine zE fun k' hk' => ?_
 simp [hh]
 apply hk'
 refine Runs.block ?_
 refine Runs.loopW h (fun (sJ : Int × Int × (List Match)) ρ H n => match sJ with | (k10, i11, l12) => (ρ 0 = v0 ∧ ρ 1 = int k10 ∧ ρ 5 = int i11) ∧ n0 ≤ n ∧ (∀ i ∈ ids0, H i = H0 i) ∧ Sep H n (oE [.s [.c], .s [.c]] (Match.cells true) v0 l12 :: K0) (ids0)) (by refine ⟨?_, (by omega), hid, sp⟩ <;> simp [hh]) ?_
 clear hh
 rintro ⟨k10, i11, l12⟩ ρ H n13 K h ⟨hh, hnn, hid, sp⟩ IH14
 have hq_n13 := hnn
 refine Runs.seq ?_
 refine zE fun k' hk' => ?_
 obtain ⟨len16, elen16, h⟩ := atm h
 have f17 := len_own (Sep.len (m := len16) sp kd_51 (by rw [elen16, List.length_map]))
 obtain ⟨c18, ec18, h⟩ := atm h
 have f19 := ib_lss (k := .i64) ec18
 simp [hh, f17, f19, -intBin, -lenF]
 apply hk'
 refine Runs.ite (b := c18) (by simp [hh]) (fun dc18 => ?_) (fun dc18 => ?_)
 ·replace h := h.1 dc18
  refine Runs.skip ?_
  refine Runs.seq ?_
  refine Runs.block ?_
  refine zE fun k' hk' => ?_
  obtain ⟨hb20, h⟩ := h
  obtain ⟨x21, ex21, h⟩ := atm h
  obtain ⟨id22, els23, row24, W25, hq26, mo27, moL28, moR29, hrl30, hW31, hsub32, hni33, spr34, hcl35⟩ := Sep.rowF (q := i11.toNat) (f := (Match.cells true)) sp hb20 ex21 rfl
  subst hq26
  obtain ⟨c36, c37, hq26⟩ := len2 (by simpa using hrl30)
  subst hq26
  replace spr34 : Sep _ _ [(.s [.c], c36, .list true (x21.nodes.map intC)), (.s [.c], c37, .list true (x21.roots.map intC))] W25 := spr34
  have f38 := ix_arr (k := .i64) (off := 0) (len := l12.length) kd_51 mo27 moL28 rfl hb20
  obtain ⟨hb39, h⟩ := h
  obtain ⟨r40, er40, h⟩ := atm h
  simp [hh, mo27, moL28, moR29, f38, dc18, -indexAddrF]
  refine RunK.callM (v := c36) Ty_ok (markIntS_ok x21.nodes k10 hb39) e56 (Sep.front (K1 := []) (K2 := [(.s [.c], c37, .list true (x21.roots.map intC))]) spr34) (by decide) (by decide) rfl (by simp [hh, mo27, moL28, moR29, f38, dc18, -indexAddrF]) ?_
  rintro _ H41 n42 _ ⟨rfl, rfl⟩ spx hle44 hfrW43
  rw [← er40] at spx
  rw [← er40]
  obtain ⟨l46, el46, h⟩ := atm h
  replace sp := hcl35 H41 n42 (Match.mk r40.1 x21.roots) (Sep.unfront (K1 := []) (K2 := [(.s [.c], c37, .list true (x21.roots.map intC))]) spx) rfl hfrW43 hle44
  have hfr45 := fun i hi => hfrW43 i (hsub32 i hi)
  replace sp : Sep H41 n42 (oE [.s [.c], .s [.c]] (Match.cells true) (.arr id22 l12.length 0 l12.length) l46 :: K0) (ids0) := by rw [el46]; exact sp
  have hid : ∀ i ∈ ids0, H41 i = H0 i := fun i hi => (hfr45 i (by simp [hi])).trans (hid i hi)
  have hnn : n0 ≤ n42 := by omega
  have hq_n42 := hnn
  simp [hh, f38, dc18, -indexAddrF]
  apply hk'
  refine Runs.cut (fun ρ H n => (ρ 0 = .arr id22 l12.length 0 l12.length ∧ ρ 1 = int r40.2 ∧ ρ 5 = int i11) ∧ n0 ≤ n ∧ (∀ i ∈ ids0, H i = H0 i) ∧ Sep H n (oE [.s [.c], .s [.c]] (Match.cells true) (.arr id22 l12.length 0 l12.length) l46 :: K0) (ids0)) (by refine ⟨?_, (by omega), hid, sp⟩ <;> simp [hh, f38, dc18, -indexAddrF]) ?_
  clear hh
  rintro ρ H n48 ⟨hh, hnn, hid, sp⟩
  have hq_n48 := hnn
  refine zF fun k' hk' => ?_
  obtain ⟨hb49, h⟩ := h
  obtain ⟨x50, ex50, h⟩ := atm h
  obtain ⟨id51, els52, row53, W54, hq55, mo56, moL57, moR58, hrl59, hW60, hsub61, hni62, spr63, hcl64⟩ := Sep.rowF (q := i11.toNat) (f := (Match.cells true)) sp hb49 ex50 rfl
  simp only [AVal.arr.injEq] at hq55
  obtain ⟨hq55, hln65, -⟩ := hq55
  subst hq55
  replace moL57 := moL57.trans hln65.symm
  obtain ⟨c66, c67, hq55⟩ := len2 (by simpa using hrl59)
  subst hq55
  replace spr63 : Sep _ _ [(.s [.c], c66, .list true (x50.nodes.map intC)), (.s [.c], c67, .list true (x50.roots.map intC))] W54 := spr63
  have f68 := ix_arr (k := .i64) (off := 0) (len := l12.length) kd_51 mo56 moL57 rfl (by rw [hln65]; exact hb49)
  obtain ⟨hb69, h⟩ := h
  obtain ⟨r70, er70, h⟩ := atm h
  simp [hh, mo56, moL57, moR58, f68, -indexAddrF]
  refine RunK.callM (v := c67) Ty_ok (markIntS_ok x50.roots r40.2 hb69) e56 (Sep.front (K1 := [(.s [.c], c66, .list true (x50.nodes.map intC))]) (K2 := []) spr63) (by decide) (by decide) rfl (by simp [hh, mo56, moL57, moR58, f68, -indexAddrF]) ?_
  rintro _ H71 n72 _ ⟨rfl, rfl⟩ spx hle74 hfrW73
  rw [← er70] at spx
  rw [← er70]
  obtain ⟨l76, el76, h⟩ := atm h
  replace sp := hcl64 H71 n72 (Match.mk x50.nodes r70.1) (Sep.unfront (K1 := [(.s [.c], c66, .list true (x50.nodes.map intC))]) (K2 := []) spx) rfl hfrW73 hle74
  have hfr75 := fun i hi => hfrW73 i (hsub61 i hi)
  replace sp : Sep H71 n72 (oE [.s [.c], .s [.c]] (Match.cells true) (.arr id22 l12.length 0 l12.length) l76 :: K0) (ids0) := by rw [el76]; exact sp
  have hid : ∀ i ∈ ids0, H71 i = H0 i := fun i hi => (hfr75 i (by simp [hi])).trans (hid i hi)
  have hnn : n0 ≤ n72 := by omega
  have hq_n72 := hnn
  simp [hh, f68, -indexAddrF]
  apply hk'
  refine Runs.cut (fun ρ H n => (ρ 0 = .arr id22 l12.length 0 l12.length ∧ ρ 1 = int r70.2 ∧ ρ 5 = int i11) ∧ n0 ≤ n ∧ (∀ i ∈ ids0, H i = H0 i) ∧ Sep H n (oE [.s [.c], .s [.c]] (Match.cells true) (.arr id22 l12.length 0 l12.length) l76 :: K0) (ids0)) (by refine ⟨?_, (by omega), hid, sp⟩ <;> simp [hh, f68, -indexAddrF]) ?_
  clear hh
  rintro ρ H n78 ⟨hh, hnn, hid, sp⟩
  have hq_n78 := hnn
  refine Runs.inBlock ?_
  refine zF fun k' hk' => ?_
  obtain ⟨hb79, h⟩ := h
  obtain ⟨v80, ev80, h⟩ := atm h
  have f81 := ib_add hb79 ev80
  simp [hh, f81, -intBin]
  apply hk'
  refine IH14 (r70.2, v80, l76) _ _ _ h (by refine ⟨?_, (by omega), hid, sp⟩ <;> simp [hh])
 replace h := h.2 dc18
 refine Runs.exit rfl ?_
 refine zE fun k' hk' => ?_
 simp [hh, dc18]
 apply hk'
 exact Runs.ret1 (v := int k10) Tryz.func25 Tryz.results25 (by simp [hh, dc18]) (hQ _ _ _ _ (Sep.sub sp (by simp +contextual)) hid (by omega) ⟨(l12, k10), h, rfl, rfl⟩)
theorem markMatchS_ok (a : List Match) (k_ : Int) (hp : markMatchS_pre a k_) : MutS Tryz.prog 25 (fun v => [v, int k_]) (.s [.s [.c], .s [.c]]) (.list true (a.map (Match.cells true))) (fun e' r => e' = .list true (((markMatchS a k_).1).map (Match.cells true)) ∧ r = int ((markMatchS a k_).2)) := (markMatchS_walk a k_ _ (markMatchS_vc a k_ hp)).mono (by rintro _ _ ⟨_, rfl, rfl, rfl⟩; exact ⟨rfl, rfl⟩)
theorem e26 : Ent Tryz.prog 26 := Ent.of Tryz.func26 (by kernel_rfl) rfl
theorem heldMatchS_walk (a : List Match) (k_ : Int) (Z : Int → Prop) (h : heldMatchS_wp a k_ Z) : PureC Tryz.prog 26 [.list false (a.map (Match.cells false)), int k_] (fun r => ∃ y : Int, Z y ∧ r = int y) := by
 unfold heldMatchS_wp at h
 refine PureC.of Tryz.func26 rfl Tryz.ntmps26 (by simp) fun Q hQ => ?_
 refine Runs.cut (fun ρ H n => (ρ 0 = .list false (a.map (Match.cells false)) ∧ ρ 1 = int k_)) (by simp) ?_
 rintro ρ H n1 hh
 refine zE fun k' hk' => ?_
 simp [hh]
 apply hk'
 refine Runs.seq ?_
 refine zE fun k' hk' => ?_
 simp [hh]
 apply hk'
 refine Runs.block ?_
 refine Runs.loopW h (fun (sJ : Int × Int) ρ H n => match sJ with | (k5, i6) => (ρ 0 = .list false (a.map (Match.cells false)) ∧ ρ 1 = int k5 ∧ ρ 5 = int i6)) (by simp [hh]) ?_
 clear hh
 rintro ⟨k5, i6⟩ ρ H n7 K h hh IH8
 refine Runs.seq ?_
 refine zE fun k' hk' => ?_
 obtain ⟨len10, elen10, h⟩ := atm h
 have f11 := fun H => len_list (H := H) (fr := false) (f := (Match.cells false)) kd_51 elen10
 obtain ⟨c12, ec12, h⟩ := atm h
 have f13 := ib_lss (k := .i64) ec12
 simp [hh, f11, f13, -intBin, -lenF]
 apply hk'
 refine Runs.ite (b := c12) (by simp [hh]) (fun dc12 => ?_) (fun dc12 => ?_)
 ·replace h := h.1 dc12
  refine Runs.skip ?_
  refine Runs.seq ?_
  refine Runs.block ?_
  refine zE fun k' hk' => ?_
  obtain ⟨hb14, h⟩ := h
  obtain ⟨x15, ex15, h⟩ := atm h
  have f16 := fun H => ix_list (H := H) (fr := false) (f := (Match.cells false)) (k := .i64) kd_51 (fun _ => rfl) hb14 ex15
  obtain ⟨hb17, h⟩ := h
  obtain ⟨r18, er18, h⟩ := atm h
  simp [hh, f16, dc12, -indexAddrF]
  refine RunK.callA Ty_ok (heldIntS_ok x15.nodes k5 hb17) e59 (.cons (argI false x15.nodes) (.cons (.v _ _ _) .nil)) (by decide) (by decide) rfl (by simp [hh, f16, dc12, -indexAddrF]) ?_
  rintro _ rfl
  rw [← er18]
  simp [hh, f16, dc12, -indexAddrF]
  apply hk'
  refine Runs.seq ?_
  refine zE fun k' hk' => ?_
  obtain ⟨c19, ec19, h⟩ := atm h
  have f20 := ib_lss (k := .i64) ec19
  simp [hh, f20, dc12, -intBin]
  apply hk'
  refine Runs.ite (b := c19) (by simp [hh, dc12]) (fun dc19 => ?_) (fun dc19 => ?_)
  ·replace h := h.1 dc19
   refine zE fun k' hk' => ?_
   simp [hh, dc12, dc19]
   apply hk'
   refine Runs.cut (fun ρ H n => ρ 4 = int (-1)) (by simp [hh, dc12, dc19]) ?_
   clear hh
   rintro ρ H n21 hh
   exact Runs.ret1 (v := int (-1)) Tryz.func26 Tryz.results26 (by simp [hh]) (hQ _ _ _ _ (.of (.v _)) ⟨(-1), h, rfl⟩)
  replace h := h.2 dc19
  refine Runs.skip ?_
  refine zE fun k' hk' => ?_
  obtain ⟨hb22, h⟩ := h
  obtain ⟨x23, ex23, h⟩ := atm h
  have hq24 := ex15.trans ex23.symm
  subst hq24
  have f25 := fun H => ix_list (H := H) (fr := false) (f := (Match.cells false)) (k := .i64) kd_51 (fun _ => rfl) hb22 ex15
  obtain ⟨hb26, h⟩ := h
  obtain ⟨r27, er27, h⟩ := atm h
  simp [hh, f25, dc12, dc19, -indexAddrF]
  refine RunK.callA Ty_ok (heldIntS_ok x15.roots r18 hb26) e59 (.cons (argI false x15.roots) (.cons (.v _ _ _) .nil)) (by decide) (by decide) rfl (by simp [hh, f25, dc12, dc19, -indexAddrF]) ?_
  rintro _ rfl
  rw [← er27]
  simp [hh, f25, dc12, dc19, -indexAddrF]
  apply hk'
  refine Runs.cut (fun ρ H n => (ρ 0 = .list false (a.map (Match.cells false)) ∧ ρ 1 = int r27 ∧ ρ 5 = int i6)) (by simp [hh, f25, dc12, dc19, -indexAddrF]) ?_
  clear hh
  rintro ρ H n28 hh
  refine zE fun k' hk' => ?_
  obtain ⟨c29, ec29, h⟩ := atm h
  have f30 := ib_lss (k := .i64) ec29
  simp [hh, f30, -intBin]
  apply hk'
  refine Runs.ite (b := c29) (by simp [hh]) (fun dc29 => ?_) (fun dc29 => ?_)
  ·replace h := h.1 dc29
   refine zE fun k' hk' => ?_
   simp [hh, dc29]
   apply hk'
   exact Runs.ret1 (v := int (-1)) Tryz.func26 Tryz.results26 (by simp [hh, dc29]) (hQ _ _ _ _ (.of (.v _)) ⟨(-1), h, rfl⟩)
  replace h := h.2 dc29
  refine Runs.skip ?_
  refine Runs.inBlock ?_
  refine zF fun k' hk' => ?_
  obtain ⟨hb31, h⟩ := h
  obtain ⟨v32, ev32, h⟩ := atm h
  have f33 := ib_add hb31 ev32
  simp [hh, f33, dc29, -intBin]
  apply hk'
  refine IH8 (r27, v32) _ _ _ h (by simp [hh, dc29])
 replace h := h.2 dc12
 refine Runs.exit rfl ?_
 refine zE fun k' hk' => ?_
 simp [hh, dc12]
 apply hk'
 exact Runs.ret1 (v := int k5) Tryz.func26 Tryz.results26 (by simp [hh, dc12]) (hQ _ _ _ _ (.of (.v _)) ⟨k5, h, rfl⟩)
theorem heldMatchS_ok (a : List Match) (k_ : Int) (hp : heldMatchS_pre a k_) : PureC Tryz.prog 26 [.list false (a.map (Match.cells false)), int k_] (fun r => r = int (heldMatchS a k_)) := (heldMatchS_walk a k_ _ (heldMatchS_vc a k_ hp)).mono (by rintro _ ⟨_, rfl, rfl⟩; rfl)
set_option maxHeartbeats 4000000 in
theorem lawAll_walk (aSig : List Control) (aRedex : Big) (aAgent : Big) (Z : Bool → Prop) (h : lawAll_wp aSig aRedex aAgent Z) : PureC Tryz.prog 5 [.list false (aSig.map Control.cells), .agg (bC false aRedex), .agg (bC false aAgent)] (fun r => ∃ y : Bool, Z y ∧ r = bool y) := by
 unfold lawAll_wp at h
 have sp : Sep noHeap 0 [] [] := Sep.nil (by simp)
 refine PureC.of Tryz.func5 rfl Tryz.ntmps5 (by simp) fun Q hQ => ?_
 refine Runs.cut (fun ρ H n => (ρ 0 = .list false (aSig.map Control.cells) ∧ ρ 1 = .agg (bC false aRedex) ∧ ρ 2 = .agg (bC false aAgent)) ∧ Sep H n [] []) (by refine ⟨?_, sp⟩ <;> simp ) ?_
 rintro ρ H n1 ⟨hh, sp⟩
 refine zE fun k' hk' => ?_
 simp [hh]
 apply hk'
 refine Runs.cut (fun ρ H n => (ρ 0 = .list false (aSig.map Control.cells) ∧ ρ 4 = pA n1 4 ∧ ρ 5 = pA (n1 + 1) 5) ∧ H (n1, 4) = some ⟨6, [bC false aRedex]⟩ ∧ H (n1 + 1, 5) = some ⟨6, [bC false aAgent]⟩ ∧ Sep H n [] [(n1 + 1, 5), (n1, 4)]) (by refine ⟨?_, ?_, ?_, sp.var.var⟩ <;> simp [hh]) ?_
 clear hh
 rintro ρ H n4 ⟨hh, m4_1, m5_2, sp⟩
 refine zE fun k' hk' => ?_
 simp [hh, m4_1, m5_2]
 apply hk'
 refine zE fun k' hk' => ?_
 obtain ⟨hb5, h⟩ := h
 obtain ⟨r6, er6, h⟩ := atm h
 simp [hh, m4_1, m5_2]
 refine RunK.callA Ty_ok (szControlS_ok aSig 1048576 hb5.1.1 hb5.1.2 hb5.2.len hb5.2.names) e7 (.cons (argC false aSig) (.cons (.v _ _ _) .nil)) (by decide) (by decide) rfl (by simp [hh, m4_1, m5_2]) ?_
 rintro _ rfl
 rw [← er6]
 simp [hh, m4_1, m5_2]
 apply hk'
 refine Runs.seq ?_
 refine zE fun k' hk' => ?_
 obtain ⟨c7, ec7, h⟩ := atm h
 have f8 := ib_lss (k := .i64) ec7
 simp [hh, m4_1, m5_2, f8, -intBin]
 apply hk'
 refine Runs.ite (b := c7) (by simp [hh, m4_1, m5_2]) (fun dc7 => ?_) (fun dc7 => ?_)
 ·replace h := h.1 dc7
  refine zE fun k' hk' => ?_
  simp [hh, m4_1, m5_2, dc7]
  apply hk'
  exact Runs.ret1 (v := bool true) Tryz.func5 Tryz.results5 (by simp [hh, m4_1, m5_2, dc7]) (hQ _ _ _ _ (.of (.v _)) ⟨true, h, rfl⟩)
 replace h := h.2 dc7
 refine Runs.skip ?_
 refine zE fun k' hk' => ?_
 obtain ⟨hb9, h⟩ := h
 obtain ⟨r10, er10, h⟩ := atm h
 simp [hh, m4_1, m5_2, dc7]
 refine RunK.callA Ty_ok (szBigraph_ok aRedex r6 hb9.1.1 hb9.1.2 hb9.2) e8 (.cons (argB false aRedex) (.cons (.v _ _ _) .nil)) (by decide) (by decide) rfl (by simp [hh, m4_1, m5_2, dc7]) ?_
 rintro _ rfl
 rw [← er10]
 simp [hh, m4_1, m5_2, dc7]
 apply hk'
 refine Runs.seq ?_
 refine zE fun k' hk' => ?_
 obtain ⟨c11, ec11, h⟩ := atm h
 have f12 := ib_lss (k := .i64) ec11
 simp [hh, m4_1, m5_2, f12, dc7, -intBin]
 apply hk'
 refine Runs.ite (b := c11) (by simp [hh, m4_1, m5_2, dc7]) (fun dc11 => ?_) (fun dc11 => ?_)
 ·replace h := h.1 dc11
  refine zE fun k' hk' => ?_
  simp [hh, m4_1, m5_2, dc7, dc11]
  apply hk'
  exact Runs.ret1 (v := bool true) Tryz.func5 Tryz.results5 (by simp [hh, m4_1, m5_2, dc7, dc11]) (hQ _ _ _ _ (.of (.v _)) ⟨true, h, rfl⟩)
 replace h := h.2 dc11
 refine Runs.skip ?_
 refine zE fun k' hk' => ?_
 obtain ⟨hb13, h⟩ := h
 obtain ⟨r14, er14, h⟩ := atm h
 simp [hh, m4_1, m5_2, dc7, dc11]
 refine RunK.callA Ty_ok (szBigraph_ok aAgent r10 hb13.1.1 hb13.1.2 hb13.2) e8 (.cons (argB false aAgent) (.cons (.v _ _ _) .nil)) (by decide) (by decide) rfl (by simp [hh, m4_1, m5_2, dc7, dc11]) ?_
 rintro _ rfl
 rw [← er14]
 simp [hh, m4_1, m5_2, dc7, dc11]
 apply hk'
 refine Runs.cut (fun ρ H n => (ρ 0 = .list false (aSig.map Control.cells) ∧ ρ 4 = pA n1 4 ∧ ρ 5 = pA (n1 + 1) 5 ∧ ρ 7 = int r14) ∧ H (n1, 4) = some ⟨6, [bC false aRedex]⟩ ∧ H (n1 + 1, 5) = some ⟨6, [bC false aAgent]⟩ ∧ Sep H n [] [(n1 + 1, 5), (n1, 4)]) (by refine ⟨?_, ?_, ?_, sp⟩ <;> simp [hh, m4_1, m5_2, dc7, dc11]) ?_
 clear hh m4_1 m5_2
 rintro ρ H n15 ⟨hh, m4_1, m5_2, sp⟩
 refine Runs.seq ?_
 refine zE fun k' hk' => ?_
 obtain ⟨c16, ec16, h⟩ := atm h
 have f17 := ib_lss (k := .i64) ec16
 simp [hh, m4_1, m5_2, f17, -intBin]
 apply hk'
 refine Runs.ite (b := c16) (by simp [hh, m4_1, m5_2]) (fun dc16 => ?_) (fun dc16 => ?_)
 ·replace h := h.1 dc16
  refine zE fun k' hk' => ?_
  simp [hh, m4_1, m5_2, dc16]
  apply hk'
  exact Runs.ret1 (v := bool true) Tryz.func5 Tryz.results5 (by simp [hh, m4_1, m5_2, dc16]) (hQ _ _ _ _ (.of (.v _)) ⟨true, h, rfl⟩)
 replace h := h.2 dc16
 refine Runs.skip ?_
 refine Runs.seqD Ty_ok kindOp_ok draws (by decide) (by kernel_rfl) fun k' hk' => ?_
 obtain ⟨hb18, h⟩ := h
 obtain ⟨r19, er19, h⟩ := atm h
 simp [hh, m4_1, m5_2, dc16]
 refine RunDK.callA Ty_ok kindOp_ok ((toControlS_ok aSig hb18).pure) e10 (.cons (argC false aSig) .nil) (by decide) rfl (by simp [hh, m4_1, m5_2, dc16]) ?_
 rw [← er19]
 obtain ⟨hb20, h⟩ := h
 obtain ⟨r21, er21, h⟩ := atm h
 simp [hh, m4_1, m5_2, dc16]
 refine RunDK.callA Ty_ok kindOp_ok ((toBigraph_ok aRedex hb20).pure) e11 (.cons (argB false aRedex) .nil) (by decide) rfl (by simp [hh, m4_1, m5_2, dc16]) ?_
 rw [← er21]
 obtain ⟨hb22, h⟩ := h
 obtain ⟨r23, er23, h⟩ := atm h
 simp [hh, m4_1, m5_2, dc16]
 refine RunDK.callA Ty_ok kindOp_ok ((toBigraph_ok aAgent hb22).pure) e11 (.cons (argB false aAgent) .nil) (by decide) rfl (by simp [hh, m4_1, m5_2, dc16]) ?_
 rw [← er23]
 obtain ⟨hb24, h⟩ := h
 obtain ⟨r25, er25, h⟩ := atm h
 simp [hh, m4_1, m5_2, dc16]
 refine RunDK.callA Ty_ok kindOp_ok (sAllMatches_ok r19 r21 r23 hb24) e22 (.cons (argC true r19) (.cons (argB true r21) (.cons (argB true r23) .nil))) (by decide) rfl (by simp [hh, m4_1, m5_2, dc16]) ?_
 rw [← er25]
 simp [hh, m4_1, m5_2, dc16]
 apply hk'
 refine zE fun k' hk' => ?_
 obtain ⟨hb26, h⟩ := h
 obtain ⟨r27, er27, h⟩ := atm h
 simp [hh, m4_1, m5_2, dc16]
 refine RunK.callW Ty_ok (toControlS_ok aSig hb26) e10 (.cons (argC false aSig) .nil) sp (by decide) (by decide) rfl (by simp [hh, m4_1, m5_2, dc16]) ?_
 rintro v28 H29 n30 _ sp rfl hle32 hfr31
 rw [← er27] at sp
 have m4_1 : H29 (n1, 4) = some ⟨6, [bC false aRedex]⟩ := (hfr31 _ (by simp)).trans (by simp [hh, m4_1, m5_2, Heap.get_set])
 have m5_2 : H29 (n1 + 1, 5) = some ⟨6, [bC false aAgent]⟩ := (hfr31 _ (by simp)).trans (by simp [hh, m4_1, m5_2, Heap.get_set])
 simp [hh, m4_1, m5_2, dc16]
 apply hk'
 refine Runs.cut (fun ρ H n => ∃ (v35 : AVal), (ρ 0 = .list false (aSig.map Control.cells) ∧ ρ 4 = pA n1 4 ∧ ρ 5 = pA (n1 + 1) 5 ∧ ρ 8 = .list true (r25.1.map (Match.cells true)) ∧ ρ 9 = bool r25.2 ∧ ρ 10 = v35) ∧ H (n1, 4) = some ⟨6, [bC false aRedex]⟩ ∧ H (n1 + 1, 5) = some ⟨6, [bC false aAgent]⟩ ∧ Sep H n [oE [.c, .c, .c] Control.cells v35 r27] [(n1 + 1, 5), (n1, 4)]) (by refine ⟨v28, ?_, ?_, ?_, sp⟩ <;> simp [hh, m4_1, m5_2, dc16]) ?_
 clear hh m4_1 m5_2
 rintro ρ H n36 ⟨v35, hh, m4_1, m5_2, sp⟩
 refine zE fun k' hk' => ?_
 obtain ⟨hb37, h⟩ := h
 obtain ⟨r38, er38, h⟩ := atm h
 simp [hh, m4_1, m5_2]
 refine RunK.callW Ty_ok (toBigraph_ok aRedex hb37) e11 (.cons (argB false aRedex) .nil) sp (by decide) (by decide) rfl (by simp [hh, m4_1, m5_2]) ?_
 rintro v39 H40 n41 _ sp rfl hle43 hfr42
 rw [← er38] at sp
 have m4_1 : H40 (n1, 4) = some ⟨6, [bC false aRedex]⟩ := (hfr42 _ (by simp)).trans (by simp [hh, m4_1, m5_2, Heap.get_set])
 have m5_2 : H40 (n1 + 1, 5) = some ⟨6, [bC false aAgent]⟩ := (hfr42 _ (by simp)).trans (by simp [hh, m4_1, m5_2, Heap.get_set])
 replace sp := Sep.unpack sp
 obtain ⟨L51, hv, hl52, sp⟩ := sp
 subst hv
 obtain ⟨v45, v46, v47, v48, v49, v50, hv⟩ := len6 (by simpa using hl52)
 subst hv
 simp only [zip3, List.cons_append, List.nil_append] at sp
 replace sp := Sep.scalar sp
 obtain ⟨hv, sp⟩ := sp
 subst hv
 replace sp := Sep.rot sp
 try simp only [List.cons_append, List.nil_append, List.append_assoc] at sp
 replace sp := Sep.rot sp
 try simp only [List.cons_append, List.nil_append, List.append_assoc] at sp
 replace sp := Sep.scalar sp
 obtain ⟨hv, sp⟩ := sp
 subst hv
 replace sp := Sep.rot sp
 try simp only [List.cons_append, List.nil_append, List.append_assoc] at sp
 replace sp := Sep.rot sp
 try simp only [List.cons_append, List.nil_append, List.append_assoc] at sp
 replace sp : Sep H40 n41 [oE [.c, .c, .c] Control.cells v35 r27, oN v46 r38.nodes, oI v47 r38.sites, oS v49 r38.outer, oW v50 r38.inner] [(n1 + 1, 5), (n1, 4)] := sp
 have f58 := Sep.oc sp.f1
 have f59 := Sep.oc sp.f2
 have f60 := Sep.oc sp.f3
 have f61 := Sep.oc sp.f4
 simp [hh, m4_1, m5_2, f58, f59, f60, f61, -cellsA, -one1, cAx, o1x]
 apply hk'
 refine Runs.cut (fun ρ H n => ∃ (v62 v63 v64 v65 v66 : AVal), (ρ 0 = .list false (aSig.map Control.cells) ∧ ρ 4 = pA n1 4 ∧ ρ 5 = pA (n1 + 1) 5 ∧ ρ 8 = .list true (r25.1.map (Match.cells true)) ∧ ρ 9 = bool r25.2 ∧ ρ 10 = v62 ∧ ρ 11 = pA n41 11) ∧ H (n1, 4) = some ⟨6, [bC false aRedex]⟩ ∧ H (n1 + 1, 5) = some ⟨6, [bC false aAgent]⟩ ∧ H (n41, 11) = some ⟨6, [[int r38.roots, v63, v64, int r38.edges, v65, v66]]⟩ ∧ Sep H n [oE [.c, .c, .c] Control.cells v62 r27, oN v63 r38.nodes, oI v64 r38.sites, oS v65 r38.outer, oW v66 r38.inner] [(n41, 11), (n1 + 1, 5), (n1, 4)]) (by refine ⟨v35, v46, v47, v49, v50, ?_, ?_, ?_, ?_, sp.var⟩ <;> simp [hh, m4_1, m5_2, f58, f59, f60, f61, -cellsA, -one1, cAx, o1x]) ?_
 clear hh m4_1 m5_2
 rintro ρ H n67 ⟨v62, v63, v64, v65, v66, hh, m4_1, m5_2, m11_56, sp⟩
 refine zE fun k' hk' => ?_
 obtain ⟨hb68, h⟩ := h
 obtain ⟨r69, er69, h⟩ := atm h
 simp [hh, m4_1, m5_2, m11_56]
 refine RunK.callW Ty_ok (toBigraph_ok aAgent hb68) e11 (.cons (argB false aAgent) .nil) sp (by decide) (by decide) rfl (by simp [hh, m4_1, m5_2, m11_56]) ?_
 rintro v70 H71 n72 _ sp rfl hle74 hfr73
 rw [← er69] at sp
 have m4_1 : H71 (n1, 4) = some ⟨6, [bC false aRedex]⟩ := (hfr73 _ (by simp)).trans (by simp [hh, m4_1, m5_2, m11_56, Heap.get_set])
 have m5_2 : H71 (n1 + 1, 5) = some ⟨6, [bC false aAgent]⟩ := (hfr73 _ (by simp)).trans (by simp [hh, m4_1, m5_2, m11_56, Heap.get_set])
 have m11_56 : H71 (n41, 11) = some ⟨6, [[int r38.roots, v63, v64, int r38.edges, v65, v66]]⟩ := (hfr73 _ (by simp)).trans (by simp [hh, m4_1, m5_2, m11_56, Heap.get_set])
 replace sp := Sep.unpack sp
 obtain ⟨L82, hv, hl83, sp⟩ := sp
 subst hv
 obtain ⟨v76, v77, v78, v79, v80, v81, hv⟩ := len6 (by simpa using hl83)
 subst hv
 simp only [zip3, List.cons_append, List.nil_append] at sp
 replace sp := Sep.scalar sp
 obtain ⟨hv, sp⟩ := sp
 subst hv
 replace sp := Sep.rot sp
 try simp only [List.cons_append, List.nil_append, List.append_assoc] at sp
 replace sp := Sep.rot sp
 try simp only [List.cons_append, List.nil_append, List.append_assoc] at sp
 replace sp := Sep.scalar sp
 obtain ⟨hv, sp⟩ := sp
 subst hv
 replace sp := Sep.rot sp
 try simp only [List.cons_append, List.nil_append, List.append_assoc] at sp
 replace sp := Sep.rot sp
 try simp only [List.cons_append, List.nil_append, List.append_assoc] at sp
 replace sp : Sep H71 n72 [oE [.c, .c, .c] Control.cells v62 r27, oN v63 r38.nodes, oI v64 r38.sites, oS v65 r38.outer, oW v66 r38.inner, oN v77 r69.nodes, oI v78 r69.sites, oS v80 r69.outer, oW v81 r69.inner] [(n41, 11), (n1 + 1, 5), (n1, 4)] := sp
 have f89 := Sep.oc sp.f5
 have f90 := Sep.oc sp.f6
 have f91 := Sep.oc sp.f7
 have f92 := Sep.oc sp.f8
 simp [hh, m4_1, m5_2, m11_56, f89, f90, f91, f92, -cellsA, -one1, cAx, o1x]
 apply hk'
 refine Runs.cut (fun ρ H n => ∃ (v93 v94 v95 v96 v97 v98 v99 v100 v101 : AVal), (ρ 0 = .list false (aSig.map Control.cells) ∧ ρ 4 = pA n1 4 ∧ ρ 5 = pA (n1 + 1) 5 ∧ ρ 8 = .list true (r25.1.map (Match.cells true)) ∧ ρ 9 = bool r25.2 ∧ ρ 10 = v93 ∧ ρ 11 = pA n41 11 ∧ ρ 12 = pA n72 12) ∧ H (n1, 4) = some ⟨6, [bC false aRedex]⟩ ∧ H (n1 + 1, 5) = some ⟨6, [bC false aAgent]⟩ ∧ H (n41, 11) = some ⟨6, [[int r38.roots, v94, v95, int r38.edges, v96, v97]]⟩ ∧ H (n72, 12) = some ⟨6, [[int r69.roots, v98, v99, int r69.edges, v100, v101]]⟩ ∧ Sep H n [oE [.c, .c, .c] Control.cells v93 r27, oN v94 r38.nodes, oI v95 r38.sites, oS v96 r38.outer, oW v97 r38.inner, oN v98 r69.nodes, oI v99 r69.sites, oS v100 r69.outer, oW v101 r69.inner] [(n72, 12), (n41, 11), (n1 + 1, 5), (n1, 4)]) (by refine ⟨v62, v63, v64, v65, v66, v77, v78, v80, v81, ?_, ?_, ?_, ?_, ?_, sp.var⟩ <;> simp [hh, m4_1, m5_2, m11_56, f89, f90, f91, f92, -cellsA, -one1, cAx, o1x]) ?_
 clear hh m4_1 m5_2 m11_56
 rintro ρ H n102 ⟨v93, v94, v95, v96, v97, v98, v99, v100, v101, hh, m4_1, m5_2, m11_56, m12_87, sp⟩
 refine zE fun k' hk' => ?_
 obtain ⟨hb103, h⟩ := h
 obtain ⟨r104, er104, h⟩ := atm h
 simp [hh, m4_1, m5_2, m11_56, m12_87]
 refine RunK.callW Ty_ok (AllMatches_ok r27 r38 r69 hb103) e23 (.cons (Sep.argOk' sp (old_listF (by simp))) (.cons (ArgOk.agg (.cons (.v _ _ _) (.cons (Sep.argOk' sp.f1 (old_nest_Node true r38.nodes)) (.cons (Sep.argOk' sp.f2 (old_listF (by simp))) (.cons (.v _ _ _) (.cons (Sep.argOk' sp.f3 (old_listF (by simp))) (.cons (Sep.argOk' sp.f4 (old_listF (by simp))) .nil))))))) (.cons (ArgOk.agg (.cons (.v _ _ _) (.cons (Sep.argOk' sp.f5 (old_nest_Node true r69.nodes)) (.cons (Sep.argOk' sp.f6 (old_listF (by simp))) (.cons (.v _ _ _) (.cons (Sep.argOk' sp.f7 (old_listF (by simp))) (.cons (Sep.argOk' sp.f8 (old_listF (by simp))) .nil))))))) .nil))) sp (by decide) (by decide) rfl (by simp [hh, m4_1, m5_2, m11_56, m12_87]) ?_
 rintro v105 H106 n107 _ sp rfl hle109 hfr108
 rw [← er104] at sp
 have m4_1 : H106 (n1, 4) = some ⟨6, [bC false aRedex]⟩ := (hfr108 _ (by simp)).trans (by simp [hh, m4_1, m5_2, m11_56, m12_87, Heap.get_set])
 have m5_2 : H106 (n1 + 1, 5) = some ⟨6, [bC false aAgent]⟩ := (hfr108 _ (by simp)).trans (by simp [hh, m4_1, m5_2, m11_56, m12_87, Heap.get_set])
 have m11_56 : H106 (n41, 11) = some ⟨6, [[int r38.roots, v94, v95, int r38.edges, v96, v97]]⟩ := (hfr108 _ (by simp)).trans (by simp [hh, m4_1, m5_2, m11_56, m12_87, Heap.get_set])
 have m12_87 : H106 (n72, 12) = some ⟨6, [[int r69.roots, v98, v99, int r69.edges, v100, v101]]⟩ := (hfr108 _ (by simp)).trans (by simp [hh, m4_1, m5_2, m11_56, m12_87, Heap.get_set])
 replace sp := Sep.unpackT sp
 obtain ⟨L113, hv, hl114, sp⟩ := sp
 subst hv
 obtain ⟨v111, v112, hv⟩ := len2 (by simpa using hl114)
 subst hv
 simp only [zip3, List.cons_append, List.nil_append] at sp
 replace sp := Sep.rot sp
 try simp only [List.cons_append, List.nil_append, List.append_assoc] at sp
 replace sp := Sep.scalar sp
 obtain ⟨hv, sp⟩ := sp
 subst hv
 replace sp : Sep H106 n107 [oE [.c, .c, .c] Control.cells v93 r27, oN v94 r38.nodes, oI v95 r38.sites, oS v96 r38.outer, oW v97 r38.inner, oN v98 r69.nodes, oI v99 r69.sites, oS v100 r69.outer, oW v101 r69.inner, oE [.s [.c], .s [.c]] (Match.cells true) v111 r104.1] [(n72, 12), (n41, 11), (n1 + 1, 5), (n1, 4)] := sp
 simp [hh, m4_1, m5_2, m11_56, m12_87]
 apply hk'
 refine Runs.cut (fun ρ H n => ∃ (v116 v117 v118 v119 v120 v121 v122 v123 v124 v125 : AVal), (ρ 0 = .list false (aSig.map Control.cells) ∧ ρ 4 = pA n1 4 ∧ ρ 5 = pA (n1 + 1) 5 ∧ ρ 8 = .list true (r25.1.map (Match.cells true)) ∧ ρ 9 = bool r25.2 ∧ ρ 10 = v116 ∧ ρ 11 = pA n41 11 ∧ ρ 12 = pA n72 12 ∧ ρ 13 = v125 ∧ ρ 14 = bool r104.2) ∧ H (n1, 4) = some ⟨6, [bC false aRedex]⟩ ∧ H (n1 + 1, 5) = some ⟨6, [bC false aAgent]⟩ ∧ H (n41, 11) = some ⟨6, [[int r38.roots, v117, v118, int r38.edges, v119, v120]]⟩ ∧ H (n72, 12) = some ⟨6, [[int r69.roots, v121, v122, int r69.edges, v123, v124]]⟩ ∧ Sep H n [oE [.c, .c, .c] Control.cells v116 r27, oN v117 r38.nodes, oI v118 r38.sites, oS v119 r38.outer, oW v120 r38.inner, oN v121 r69.nodes, oI v122 r69.sites, oS v123 r69.outer, oW v124 r69.inner, oE [.s [.c], .s [.c]] (Match.cells true) v125 r104.1] [(n72, 12), (n41, 11), (n1 + 1, 5), (n1, 4)]) (by refine ⟨v93, v94, v95, v96, v97, v98, v99, v100, v101, v111, ?_, ?_, ?_, ?_, ?_, sp⟩ <;> simp [hh, m4_1, m5_2, m11_56, m12_87]) ?_
 clear hh m4_1 m5_2 m11_56 m12_87
 rintro ρ H n126 ⟨v116, v117, v118, v119, v120, v121, v122, v123, v124, v125, hh, m4_1, m5_2, m11_56, m12_87, sp⟩
 refine Runs.seq ?_
 refine zE fun k' hk' => ?_
 obtain ⟨J127, hJ128, hr129⟩ := h
 have fin141 : ∀ (sJ : Bool) (ρ : Env) (H : Heap) (n : Nat), J127 sJ → (match sJ with | b130 => ∃ (v131 v132 v133 v134 v135 v136 v137 v138 v139 v140 : AVal), (ρ 0 = .list false (aSig.map Control.cells) ∧ ρ 4 = pA n1 4 ∧ ρ 5 = pA (n1 + 1) 5 ∧ ρ 8 = .list true (r25.1.map (Match.cells true)) ∧ ρ 9 = bool r25.2 ∧ ρ 10 = v131 ∧ ρ 11 = pA n41 11 ∧ ρ 12 = pA n72 12 ∧ ρ 13 = v140 ∧ ρ 14 = bool r104.2 ∧ ρ 66 = bool b130) ∧ H (n1, 4) = some ⟨6, [bC false aRedex]⟩ ∧ H (n1 + 1, 5) = some ⟨6, [bC false aAgent]⟩ ∧ H (n41, 11) = some ⟨6, [[int r38.roots, v132, v133, int r38.edges, v134, v135]]⟩ ∧ H (n72, 12) = some ⟨6, [[int r69.roots, v136, v137, int r69.edges, v138, v139]]⟩ ∧ Sep H n [oE [.c, .c, .c] Control.cells v131 r27, oN v132 r38.nodes, oI v133 r38.sites, oS v134 r38.outer, oW v135 r38.inner, oN v136 r69.nodes, oI v137 r69.sites, oS v138 r69.outer, oW v139 r69.inner, oE [.s [.c], .s [.c]] (Match.cells true) v140 r104.1] [(n72, 12), (n41, 11), (n1 + 1, 5), (n1, 4)]) → Runs Tryz.prog 5 142 k' ρ H n Q := by
  rintro b130 ρ H n142 h ⟨v131, v132, v133, v134, v135, v136, v137, v138, v139, v140, hh, m4_1, m5_2, m11_56, m12_87, sp⟩
  replace h := hr129 _ h
  apply hk'
  refine Runs.ite (b := b130) (by simp [hh, m4_1, m5_2, m11_56, m12_87]) (fun db130 => ?_) (fun db130 => ?_)
  ·replace h := h.1 db130
   refine zE fun k' hk' => ?_
   simp [hh, m4_1, m5_2, m11_56, m12_87, db130]
   apply hk'
   exact Runs.ret1 (v := bool false) Tryz.func5 Tryz.results5 (by simp [hh, m4_1, m5_2, m11_56, m12_87, db130]) (hQ _ _ _ _ (.of (.v _)) ⟨false, h, rfl⟩)
  replace h := h.2 db130
  refine Runs.skip ?_
  refine Runs.seq ?_
  refine zE fun k' hk' => ?_
  obtain ⟨hb143, h⟩ := h
  obtain ⟨r144, er144, h⟩ := atm h
  simp [hh, m4_1, m5_2, m11_56, m12_87, db130]
  refine RunK.callW Ty_ok (toControlS_ok aSig hb143) e10 (.cons (argC false aSig) .nil) sp (by decide) (by decide) rfl (by simp [hh, m4_1, m5_2, m11_56, m12_87, db130]) ?_
  rintro v145 H146 n147 _ sp rfl hle149 hfr148
  rw [← er144] at sp
  have m4_1 : H146 (n1, 4) = some ⟨6, [bC false aRedex]⟩ := (hfr148 _ (by simp)).trans (by simp [hh, m4_1, m5_2, m11_56, m12_87, Heap.get_set])
  have m5_2 : H146 (n1 + 1, 5) = some ⟨6, [bC false aAgent]⟩ := (hfr148 _ (by simp)).trans (by simp [hh, m4_1, m5_2, m11_56, m12_87, Heap.get_set])
  have m11_56 : H146 (n41, 11) = some ⟨6, [[int r38.roots, v132, v133, int r38.edges, v134, v135]]⟩ := (hfr148 _ (by simp)).trans (by simp [hh, m4_1, m5_2, m11_56, m12_87, Heap.get_set])
  have m12_87 : H146 (n72, 12) = some ⟨6, [[int r69.roots, v136, v137, int r69.edges, v138, v139]]⟩ := (hfr148 _ (by simp)).trans (by simp [hh, m4_1, m5_2, m11_56, m12_87, Heap.get_set])
  obtain ⟨hb152, h⟩ := h
  obtain ⟨r153, er153, h⟩ := atm h
  simp [hh, m4_1, m5_2, m11_56, m12_87, db130]
  refine RunK.callA Ty_ok (eqControlS_ok r27 r144 hb152) e13 (.cons (Sep.argOk' sp.f1 (old_listF (by simp))) (.cons (Sep.argOk' sp (old_listF (by simp))) .nil)) (by decide) (by decide) rfl (by simp [hh, m4_1, m5_2, m11_56, m12_87, db130]) ?_
  rintro _ rfl
  rw [← er153]
  simp [hh, m4_1, m5_2, m11_56, m12_87, db130]
  apply hk'
  refine Runs.cut (fun ρ H n => ∃ (v154 v155 v156 v157 v158 v159 v160 v161 v162 v163 : AVal), (ρ 0 = .list false (aSig.map Control.cells) ∧ ρ 4 = pA n1 4 ∧ ρ 5 = pA (n1 + 1) 5 ∧ ρ 8 = .list true (r25.1.map (Match.cells true)) ∧ ρ 9 = bool r25.2 ∧ ρ 10 = v154 ∧ ρ 11 = pA n41 11 ∧ ρ 12 = pA n72 12 ∧ ρ 13 = v163 ∧ ρ 14 = bool r104.2 ∧ ρ 71 = bool (!r153)) ∧ H (n1, 4) = some ⟨6, [bC false aRedex]⟩ ∧ H (n1 + 1, 5) = some ⟨6, [bC false aAgent]⟩ ∧ H (n41, 11) = some ⟨6, [[int r38.roots, v155, v156, int r38.edges, v157, v158]]⟩ ∧ H (n72, 12) = some ⟨6, [[int r69.roots, v159, v160, int r69.edges, v161, v162]]⟩ ∧ Sep H n [oE [.c, .c, .c] Control.cells v154 r27, oN v155 r38.nodes, oI v156 r38.sites, oS v157 r38.outer, oW v158 r38.inner, oN v159 r69.nodes, oI v160 r69.sites, oS v161 r69.outer, oW v162 r69.inner, oE [.s [.c], .s [.c]] (Match.cells true) v163 r104.1] [(n72, 12), (n41, 11), (n1 + 1, 5), (n1, 4)]) (by refine ⟨v131, v132, v133, v134, v135, v136, v137, v138, v139, v140, ?_, ?_, ?_, ?_, ?_, sp.dr⟩ <;> simp [hh, m4_1, m5_2, m11_56, m12_87, db130]) ?_
  clear hh m4_1 m5_2 m11_56 m12_87
  rintro ρ H n164 ⟨v154, v155, v156, v157, v158, v159, v160, v161, v162, v163, hh, m4_1, m5_2, m11_56, m12_87, sp⟩
  refine Runs.ite (b := (!r153)) (by simp [hh, m4_1, m5_2, m11_56, m12_87]) (fun dr153 => ?_) (fun dr153 => ?_)
  ·have dr153 : r153 = false := by simpa using dr153
   replace h := h.2 dr153
   refine zE fun k' hk' => ?_
   simp [hh, m4_1, m5_2, m11_56, m12_87, dr153]
   apply hk'
   exact Runs.ret1 (v := bool false) Tryz.func5 Tryz.results5 (by simp [hh, m4_1, m5_2, m11_56, m12_87, dr153]) (hQ _ _ _ _ (.of (.v _)) ⟨false, h, rfl⟩)
  have dr153 : r153 = true := by simpa using dr153
  replace h := h.1 dr153
  refine Runs.skip ?_
  refine Runs.seq ?_
  refine Runs.seqD Ty_ok kindOp_ok draws (by decide) (by kernel_rfl) fun k' hk' => ?_
  obtain ⟨hb165, h⟩ := h
  obtain ⟨r166, er166, h⟩ := atm h
  simp [hh, m4_1, m5_2, m11_56, m12_87, dr153]
  refine RunDK.callA Ty_ok kindOp_ok ((toBigraph_ok aRedex hb165).pure) e11 (.cons (argB false aRedex) .nil) (by decide) rfl (by simp [hh, m4_1, m5_2, m11_56, m12_87, dr153]) ?_
  rw [← er166]
  obtain ⟨hb167, h⟩ := h
  obtain ⟨r168, er168, h⟩ := atm h
  simp [hh, m4_1, m5_2, m11_56, m12_87, dr153]
  refine RunDK.callA Ty_ok kindOp_ok (eqBigraph_ok r38 r166 hb167) e14 (.cons (ArgOk.agg (.cons (.v _ _ _) (.cons (Sep.argOk' sp.f1 (old_nest_Node true r38.nodes)) (.cons (Sep.argOk' sp.f2 (old_listF (by simp))) (.cons (.v _ _ _) (.cons (Sep.argOk' sp.f3 (old_listF (by simp))) (.cons (Sep.argOk' sp.f4 (old_listF (by simp))) .nil))))))) (.cons (argB true r166) .nil)) (by decide) rfl (by simp [hh, m4_1, m5_2, m11_56, m12_87, dr153]) ?_
  rw [← er168]
  simp [hh, m4_1, m5_2, m11_56, m12_87, dr153]
  apply hk'
  refine Runs.ite (b := (!r168)) (by simp [hh, m4_1, m5_2, m11_56, m12_87, dr153]) (fun dr168 => ?_) (fun dr168 => ?_)
  ·have dr168 : r168 = false := by simpa using dr168
   replace h := h.2 dr168
   refine zE fun k' hk' => ?_
   simp [hh, m4_1, m5_2, m11_56, m12_87, dr153, dr168]
   apply hk'
   exact Runs.ret1 (v := bool false) Tryz.func5 Tryz.results5 (by simp [hh, m4_1, m5_2, m11_56, m12_87, dr153, dr168]) (hQ _ _ _ _ (.of (.v _)) ⟨false, h, rfl⟩)
  have dr168 : r168 = true := by simpa using dr168
  replace h := h.1 dr168
  refine Runs.skip ?_
  refine Runs.seq ?_
  refine Runs.seqD Ty_ok kindOp_ok draws (by decide) (by kernel_rfl) fun k' hk' => ?_
  obtain ⟨hb169, h⟩ := h
  obtain ⟨r170, er170, h⟩ := atm h
  simp [hh, m4_1, m5_2, m11_56, m12_87, dr153, dr168]
  refine RunDK.callA Ty_ok kindOp_ok ((toBigraph_ok aAgent hb169).pure) e11 (.cons (argB false aAgent) .nil) (by decide) rfl (by simp [hh, m4_1, m5_2, m11_56, m12_87, dr153, dr168]) ?_
  rw [← er170]
  obtain ⟨hb171, h⟩ := h
  obtain ⟨r172, er172, h⟩ := atm h
  simp [hh, m4_1, m5_2, m11_56, m12_87, dr153, dr168]
  refine RunDK.callA Ty_ok kindOp_ok (eqBigraph_ok r69 r170 hb171) e14 (.cons (ArgOk.agg (.cons (.v _ _ _) (.cons (Sep.argOk' sp.f5 (old_nest_Node true r69.nodes)) (.cons (Sep.argOk' sp.f6 (old_listF (by simp))) (.cons (.v _ _ _) (.cons (Sep.argOk' sp.f7 (old_listF (by simp))) (.cons (Sep.argOk' sp.f8 (old_listF (by simp))) .nil))))))) (.cons (argB true r170) .nil)) (by decide) rfl (by simp [hh, m4_1, m5_2, m11_56, m12_87, dr153, dr168]) ?_
  rw [← er172]
  simp [hh, m4_1, m5_2, m11_56, m12_87, dr153, dr168]
  apply hk'
  refine Runs.ite (b := (!r172)) (by simp [hh, m4_1, m5_2, m11_56, m12_87, dr153, dr168]) (fun dr172 => ?_) (fun dr172 => ?_)
  ·have dr172 : r172 = false := by simpa using dr172
   replace h := h.2 dr172
   refine zE fun k' hk' => ?_
   simp [hh, m4_1, m5_2, m11_56, m12_87, dr153, dr168, dr172]
   apply hk'
   exact Runs.ret1 (v := bool false) Tryz.func5 Tryz.results5 (by simp [hh, m4_1, m5_2, m11_56, m12_87, dr153, dr168, dr172]) (hQ _ _ _ _ (.of (.v _)) ⟨false, h, rfl⟩)
  have dr172 : r172 = true := by simpa using dr172
  replace h := h.1 dr172
  refine Runs.skip ?_
  refine zE fun k' hk' => ?_
  simp [hh, m4_1, m5_2, m11_56, m12_87, dr153, dr168, dr172]
  apply hk'
  refine zE fun k' hk' => ?_
  obtain ⟨hb173, h⟩ := h
  obtain ⟨r174, er174, h⟩ := atm h
  have f175 := Sep.oc sp
  simp [hh, m4_1, m5_2, m11_56, m12_87, f175, dr153, dr168, dr172, -cellsA, -one1, cAx, o1x]
  refine RunK.callM (v := v154) Ty_ok (markControlS_ok r27 1 hb173) e18 sp (by decide) (by decide) rfl (by simp [hh, m4_1, m5_2, m11_56, m12_87, f175, dr153, dr168, dr172, -cellsA, -one1, cAx, o1x]) ?_
  rintro _ H176 n177 _ ⟨rfl, rfl⟩ sp hle179 hfr178
  rw [← er174] at sp
  rw [← er174]
  replace sp : Sep H176 n177 [oE [.c, .c, .c] Control.cells v154 r174.1, oN v155 r38.nodes, oI v156 r38.sites, oS v157 r38.outer, oW v158 r38.inner, oN v159 r69.nodes, oI v160 r69.sites, oS v161 r69.outer, oW v162 r69.inner, oE [.s [.c], .s [.c]] (Match.cells true) v163 r104.1] [(n72, 12), (n41, 11), (n1 + 1, 5), (n1, 4)] := sp
  have m4_1 : H176 (n1, 4) = some ⟨6, [bC false aRedex]⟩ := (hfr178 _ (by simp)).trans (by simp [hh, m4_1, m5_2, m11_56, m12_87, Heap.get_set])
  have m5_2 : H176 (n1 + 1, 5) = some ⟨6, [bC false aAgent]⟩ := (hfr178 _ (by simp)).trans (by simp [hh, m4_1, m5_2, m11_56, m12_87, Heap.get_set])
  have m11_56 : H176 (n41, 11) = some ⟨6, [[int r38.roots, v155, v156, int r38.edges, v157, v158]]⟩ := (hfr178 _ (by simp)).trans (by simp [hh, m4_1, m5_2, m11_56, m12_87, Heap.get_set])
  have m12_87 : H176 (n72, 12) = some ⟨6, [[int r69.roots, v159, v160, int r69.edges, v161, v162]]⟩ := (hfr178 _ (by simp)).trans (by simp [hh, m4_1, m5_2, m11_56, m12_87, Heap.get_set])
  simp [hh, m4_1, m5_2, m11_56, m12_87, f175, dr153, dr168, dr172, -cellsA, -one1, cAx, o1x]
  apply hk'
  refine Runs.cut (fun ρ H n => ∃ (v181 v182 v183 v184 v185 v186 v187 v188 v189 : AVal), (ρ 0 = .list false (aSig.map Control.cells) ∧ ρ 4 = pA n1 4 ∧ ρ 5 = pA (n1 + 1) 5 ∧ ρ 8 = .list true (r25.1.map (Match.cells true)) ∧ ρ 9 = bool r25.2 ∧ ρ 11 = pA n41 11 ∧ ρ 12 = pA n72 12 ∧ ρ 13 = v189 ∧ ρ 14 = bool r104.2 ∧ ρ 15 = int r174.2) ∧ H (n1, 4) = some ⟨6, [bC false aRedex]⟩ ∧ H (n1 + 1, 5) = some ⟨6, [bC false aAgent]⟩ ∧ H (n41, 11) = some ⟨6, [[int r38.roots, v181, v182, int r38.edges, v183, v184]]⟩ ∧ H (n72, 12) = some ⟨6, [[int r69.roots, v185, v186, int r69.edges, v187, v188]]⟩ ∧ Sep H n [oN v181 r38.nodes, oI v182 r38.sites, oS v183 r38.outer, oW v184 r38.inner, oN v185 r69.nodes, oI v186 r69.sites, oS v187 r69.outer, oW v188 r69.inner, oE [.s [.c], .s [.c]] (Match.cells true) v189 r104.1] [(n72, 12), (n41, 11), (n1 + 1, 5), (n1, 4)]) (by refine ⟨v155, v156, v157, v158, v159, v160, v161, v162, v163, ?_, ?_, ?_, ?_, ?_, sp.dr⟩ <;> simp [hh, m4_1, m5_2, m11_56, m12_87, f175, dr153, dr168, dr172, -cellsA, -one1, cAx, o1x]) ?_
  clear hh m4_1 m5_2 m11_56 m12_87
  rintro ρ H n190 ⟨v181, v182, v183, v184, v185, v186, v187, v188, v189, hh, m4_1, m5_2, m11_56, m12_87, sp⟩
  refine zE fun k' hk' => ?_
  obtain ⟨hb191, h⟩ := h
  obtain ⟨r192, er192, h⟩ := atm h
  have f193 := Sep.oc sp
  have f194 := Sep.oc sp.f1
  have f195 := Sep.oc sp.f2
  have f196 := Sep.oc sp.f3
  simp [hh, m4_1, m5_2, m11_56, m12_87, f193, f194, f195, f196, -cellsA, -one1, cAx, o1x]
  refine RunK.callM (v := .agg [int r38.roots, v181, v182, int r38.edges, v183, v184]) Ty_ok (markBig_ok r38 r174.2 hb191) e19 (Sep.pack (Fill.v _ (Fill.own (Fill.own (Fill.v _ (Fill.own (Fill.own Fill.nil)))))) sp) (by decide) (by decide) rfl (by simp [hh, m4_1, m5_2, m11_56, m12_87, f193, f194, f195, f196, -cellsA, -one1, cAx, o1x]) ?_
  rintro _ H197 n198 _ ⟨rfl, rfl⟩ sp hle200 hfr199
  rw [← er192] at sp
  rw [← er192]
  replace sp := Sep.unpack sp
  obtain ⟨L201, hv, hl202, sp⟩ := sp
  cases hv
  simp only [zip3, List.cons_append, List.nil_append] at sp
  replace sp := (Sep.scalar sp).2
  replace sp := Sep.rot sp
  try simp only [List.cons_append, List.nil_append, List.append_assoc] at sp
  replace sp := Sep.rot sp
  try simp only [List.cons_append, List.nil_append, List.append_assoc] at sp
  replace sp := (Sep.scalar sp).2
  replace sp := Sep.rot sp
  try simp only [List.cons_append, List.nil_append, List.append_assoc] at sp
  replace sp := Sep.rot sp
  try simp only [List.cons_append, List.nil_append, List.append_assoc] at sp
  replace sp : Sep H197 n198 [oN v185 r69.nodes, oI v186 r69.sites, oS v187 r69.outer, oW v188 r69.inner, oE [.s [.c], .s [.c]] (Match.cells true) v189 r104.1, oN v181 r192.1.nodes, oI v182 r192.1.sites, oS v183 r192.1.outer, oW v184 r192.1.inner] [(n72, 12), (n41, 11), (n1 + 1, 5), (n1, 4)] := sp
  have m4_1 : H197 (n1, 4) = some ⟨6, [bC false aRedex]⟩ := (hfr199 _ (by simp)).trans (by simp [hh, m4_1, m5_2, m11_56, m12_87, Heap.get_set])
  have m5_2 : H197 (n1 + 1, 5) = some ⟨6, [bC false aAgent]⟩ := (hfr199 _ (by simp)).trans (by simp [hh, m4_1, m5_2, m11_56, m12_87, Heap.get_set])
  have m11_56 : H197 (n41, 11) = some ⟨6, [[int r38.roots, v181, v182, int r38.edges, v183, v184]]⟩ := (hfr199 _ (by simp)).trans (by simp [hh, m4_1, m5_2, m11_56, m12_87, Heap.get_set])
  have m12_87 : H197 (n72, 12) = some ⟨6, [[int r69.roots, v185, v186, int r69.edges, v187, v188]]⟩ := (hfr199 _ (by simp)).trans (by simp [hh, m4_1, m5_2, m11_56, m12_87, Heap.get_set])
  simp [hh, m4_1, m5_2, m11_56, m12_87, f193, f194, f195, f196, -cellsA, -one1, cAx, o1x]
  apply hk'
  refine Runs.cut (fun ρ H n => ∃ (v204 v205 v206 v207 v208 : AVal), (ρ 0 = .list false (aSig.map Control.cells) ∧ ρ 4 = pA n1 4 ∧ ρ 5 = pA (n1 + 1) 5 ∧ ρ 8 = .list true (r25.1.map (Match.cells true)) ∧ ρ 9 = bool r25.2 ∧ ρ 12 = pA n72 12 ∧ ρ 13 = v208 ∧ ρ 14 = bool r104.2 ∧ ρ 15 = int r192.2) ∧ H (n1, 4) = some ⟨6, [bC false aRedex]⟩ ∧ H (n1 + 1, 5) = some ⟨6, [bC false aAgent]⟩ ∧ H (n72, 12) = some ⟨6, [[int r69.roots, v204, v205, int r69.edges, v206, v207]]⟩ ∧ Sep H n [oN v204 r69.nodes, oI v205 r69.sites, oS v206 r69.outer, oW v207 r69.inner, oE [.s [.c], .s [.c]] (Match.cells true) v208 r104.1] [(n72, 12), (n1 + 1, 5), (n1, 4)]) (by refine ⟨v185, v186, v187, v188, v189, ?_, ?_, ?_, ?_, (Sep.sub sp.f5.dr.f5.dr.f5.dr.f5.dr (by simp +contextual))⟩ <;> simp [hh, m4_1, m5_2, m11_56, m12_87, f193, f194, f195, f196, -cellsA, -one1, cAx, o1x]) ?_
  clear hh m4_1 m5_2 m11_56 m12_87
  rintro ρ H n209 ⟨v204, v205, v206, v207, v208, hh, m4_1, m5_2, m12_87, sp⟩
  refine zE fun k' hk' => ?_
  obtain ⟨hb210, h⟩ := h
  obtain ⟨r211, er211, h⟩ := atm h
  have f212 := Sep.oc sp
  have f213 := Sep.oc sp.f1
  have f214 := Sep.oc sp.f2
  have f215 := Sep.oc sp.f3
  simp [hh, m4_1, m5_2, m12_87, f212, f213, f214, f215, -cellsA, -one1, cAx, o1x]
  refine RunK.callM (v := .agg [int r69.roots, v204, v205, int r69.edges, v206, v207]) Ty_ok (markBig_ok r69 r192.2 hb210) e19 (Sep.pack (Fill.v _ (Fill.own (Fill.own (Fill.v _ (Fill.own (Fill.own Fill.nil)))))) sp) (by decide) (by decide) rfl (by simp [hh, m4_1, m5_2, m12_87, f212, f213, f214, f215, -cellsA, -one1, cAx, o1x]) ?_
  rintro _ H216 n217 _ ⟨rfl, rfl⟩ sp hle219 hfr218
  rw [← er211] at sp
  rw [← er211]
  replace sp := Sep.unpack sp
  obtain ⟨L220, hv, hl221, sp⟩ := sp
  cases hv
  simp only [zip3, List.cons_append, List.nil_append] at sp
  replace sp := (Sep.scalar sp).2
  replace sp := Sep.rot sp
  try simp only [List.cons_append, List.nil_append, List.append_assoc] at sp
  replace sp := Sep.rot sp
  try simp only [List.cons_append, List.nil_append, List.append_assoc] at sp
  replace sp := (Sep.scalar sp).2
  replace sp := Sep.rot sp
  try simp only [List.cons_append, List.nil_append, List.append_assoc] at sp
  replace sp := Sep.rot sp
  try simp only [List.cons_append, List.nil_append, List.append_assoc] at sp
  replace sp : Sep H216 n217 [oE [.s [.c], .s [.c]] (Match.cells true) v208 r104.1, oN v204 r211.1.nodes, oI v205 r211.1.sites, oS v206 r211.1.outer, oW v207 r211.1.inner] [(n72, 12), (n1 + 1, 5), (n1, 4)] := sp
  have m4_1 : H216 (n1, 4) = some ⟨6, [bC false aRedex]⟩ := (hfr218 _ (by simp)).trans (by simp [hh, m4_1, m5_2, m12_87, Heap.get_set])
  have m5_2 : H216 (n1 + 1, 5) = some ⟨6, [bC false aAgent]⟩ := (hfr218 _ (by simp)).trans (by simp [hh, m4_1, m5_2, m12_87, Heap.get_set])
  have m12_87 : H216 (n72, 12) = some ⟨6, [[int r69.roots, v204, v205, int r69.edges, v206, v207]]⟩ := (hfr218 _ (by simp)).trans (by simp [hh, m4_1, m5_2, m12_87, Heap.get_set])
  simp [hh, m4_1, m5_2, m12_87, f212, f213, f214, f215, -cellsA, -one1, cAx, o1x]
  apply hk'
  refine Runs.cut (fun ρ H n => ∃ (v223 : AVal), (ρ 0 = .list false (aSig.map Control.cells) ∧ ρ 4 = pA n1 4 ∧ ρ 5 = pA (n1 + 1) 5 ∧ ρ 8 = .list true (r25.1.map (Match.cells true)) ∧ ρ 9 = bool r25.2 ∧ ρ 13 = v223 ∧ ρ 14 = bool r104.2 ∧ ρ 15 = int r211.2) ∧ H (n1, 4) = some ⟨6, [bC false aRedex]⟩ ∧ H (n1 + 1, 5) = some ⟨6, [bC false aAgent]⟩ ∧ Sep H n [oE [.s [.c], .s [.c]] (Match.cells true) v223 r104.1] [(n1 + 1, 5), (n1, 4)]) (by refine ⟨v208, ?_, ?_, ?_, (Sep.sub sp.f1.dr.f1.dr.f1.dr.f1.dr (by simp +contextual))⟩ <;> simp [hh, m4_1, m5_2, m12_87, f212, f213, f214, f215, -cellsA, -one1, cAx, o1x]) ?_
  clear hh m4_1 m5_2 m12_87
  rintro ρ H n224 ⟨v223, hh, m4_1, m5_2, sp⟩
  refine Runs.seq ?_
  refine zE fun k' hk' => ?_
  obtain ⟨J225, hJ226, hr227⟩ := h
  have fin230 : ∀ (sJ : Bool) (ρ : Env) (H : Heap) (n : Nat), J225 sJ → (match sJ with | b228 => ∃ (v229 : AVal), (ρ 0 = .list false (aSig.map Control.cells) ∧ ρ 4 = pA n1 4 ∧ ρ 5 = pA (n1 + 1) 5 ∧ ρ 8 = .list true (r25.1.map (Match.cells true)) ∧ ρ 9 = bool r25.2 ∧ ρ 13 = v229 ∧ ρ 103 = bool b228) ∧ H (n1, 4) = some ⟨6, [bC false aRedex]⟩ ∧ H (n1 + 1, 5) = some ⟨6, [bC false aAgent]⟩ ∧ Sep H n [oE [.s [.c], .s [.c]] (Match.cells true) v229 r104.1] [(n1 + 1, 5), (n1, 4)]) → Runs Tryz.prog 5 142 k' ρ H n Q := by
   rintro b228 ρ H n231 h ⟨v229, hh, m4_1, m5_2, sp⟩
   replace h := hr227 _ h
   apply hk'
   refine Runs.ite (b := b228) (by simp [hh, m4_1, m5_2]) (fun db228 => ?_) (fun db228 => ?_)
   ·replace h := h.1 db228
    refine zE fun k' hk' => ?_
    simp [hh, m4_1, m5_2, db228]
    apply hk'
    exact Runs.ret1 (v := bool false) Tryz.func5 Tryz.results5 (by simp [hh, m4_1, m5_2, db228]) (hQ _ _ _ _ (.of (.v _)) ⟨false, h, rfl⟩)
   replace h := h.2 db228
   refine Runs.skip ?_
   refine zE fun k' hk' => ?_
   simp [hh, m4_1, m5_2, db228]
   apply hk'
   refine zE fun k' hk' => ?_
   obtain ⟨hb232, h⟩ := h
   obtain ⟨r233, er233, h⟩ := atm h
   have f234 := Sep.oc sp
   simp [hh, m4_1, m5_2, f234, db228, -cellsA, -one1, cAx, o1x]
   refine RunK.callM (v := v229) Ty_ok (markMatchS_ok r104.1 1 hb232) e25 sp (by decide) (by decide) rfl (by simp [hh, m4_1, m5_2, f234, db228, -cellsA, -one1, cAx, o1x]) ?_
   rintro _ H235 n236 _ ⟨rfl, rfl⟩ sp hle238 hfr237
   rw [← er233] at sp
   rw [← er233]
   replace sp : Sep H235 n236 [oE [.s [.c], .s [.c]] (Match.cells true) v229 r233.1] [(n1 + 1, 5), (n1, 4)] := sp
   have m4_1 : H235 (n1, 4) = some ⟨6, [bC false aRedex]⟩ := (hfr237 _ (by simp)).trans (by simp [hh, m4_1, m5_2, Heap.get_set])
   have m5_2 : H235 (n1 + 1, 5) = some ⟨6, [bC false aAgent]⟩ := (hfr237 _ (by simp)).trans (by simp [hh, m4_1, m5_2, Heap.get_set])
   simp [hh, m4_1, m5_2, f234, db228, -cellsA, -one1, cAx, o1x]
   apply hk'
   refine Runs.cut (fun ρ H n => ∃ (v240 : AVal), (ρ 0 = .list false (aSig.map Control.cells) ∧ ρ 4 = pA n1 4 ∧ ρ 5 = pA (n1 + 1) 5 ∧ ρ 8 = .list true (r25.1.map (Match.cells true)) ∧ ρ 9 = bool r25.2 ∧ ρ 13 = v240 ∧ ρ 16 = int r233.2) ∧ H (n1, 4) = some ⟨6, [bC false aRedex]⟩ ∧ H (n1 + 1, 5) = some ⟨6, [bC false aAgent]⟩ ∧ Sep H n [oE [.s [.c], .s [.c]] (Match.cells true) v240 r233.1] [(n1 + 1, 5), (n1, 4)]) (by refine ⟨v229, ?_, ?_, ?_, sp⟩ <;> simp [hh, m4_1, m5_2, f234, db228, -cellsA, -one1, cAx, o1x]) ?_
   clear hh m4_1 m5_2
   rintro ρ H n241 ⟨v240, hh, m4_1, m5_2, sp⟩
   refine zE fun k' hk' => ?_
   simp [hh, m4_1, m5_2]
   apply hk'
   refine zE fun k' hk' => ?_
   obtain ⟨hb242, h⟩ := h
   obtain ⟨r243, er243, h⟩ := atm h
   simp [hh, m4_1, m5_2]
   refine RunK.callA Ty_ok (heldMatchS_ok r233.1 1 hb242) e26 (.cons (Sep.argOk' sp (old_nest_Match true r233.1)) (.cons (.v _ _ _) .nil)) (by decide) (by decide) rfl (by simp [hh, m4_1, m5_2]) ?_
   rintro _ rfl
   rw [← er243]
   simp [hh, m4_1, m5_2]
   apply hk'
   refine Runs.seq ?_
   refine zE fun k' hk' => ?_
   obtain ⟨c244, ec244, h⟩ := atm h
   have f245 := ib_lss (k := .i64) ec244
   simp [hh, m4_1, m5_2, f245, -intBin]
   apply hk'
   refine Runs.ite (b := c244) (by simp [hh, m4_1, m5_2]) (fun dc244 => ?_) (fun dc244 => ?_)
   ·replace h := h.1 dc244
    refine zE fun k' hk' => ?_
    simp [hh, m4_1, m5_2, dc244]
    apply hk'
    exact Runs.ret1 (v := bool false) Tryz.func5 Tryz.results5 (by simp [hh, m4_1, m5_2, dc244]) (hQ _ _ _ _ (.of (.v _)) ⟨false, h, rfl⟩)
   replace h := h.2 dc244
   refine Runs.skip ?_
   refine Runs.seq ?_
   refine zE fun k' hk' => ?_
   obtain ⟨c246, ec246, h⟩ := atm h
   have f247 := ib_neq (k := .i64) ec246
   simp [hh, m4_1, m5_2, f247, dc244, -intBin]
   apply hk'
   refine Runs.ite (b := c246) (by simp [hh, m4_1, m5_2, dc244]) (fun dc246 => ?_) (fun dc246 => ?_)
   ·replace h := h.1 dc246
    refine zE fun k' hk' => ?_
    simp [hh, m4_1, m5_2, dc244, dc246]
    apply hk'
    exact Runs.ret1 (v := bool false) Tryz.func5 Tryz.results5 (by simp [hh, m4_1, m5_2, dc244, dc246]) (hQ _ _ _ _ (.of (.v _)) ⟨false, h, rfl⟩)
   replace h := h.2 dc246
   refine Runs.skip ?_
   refine Runs.seqD Ty_ok kindOp_ok draws (by decide) (by kernel_rfl) fun k' hk' => ?_
   obtain ⟨hb248, h⟩ := h
   obtain ⟨r249, er249, h⟩ := atm h
   simp [hh, m4_1, m5_2, dc244, dc246]
   refine RunDK.callA Ty_ok kindOp_ok ((toControlS_ok aSig hb248).pure) e10 (.cons (argC false aSig) .nil) (by decide) rfl (by simp [hh, m4_1, m5_2, dc244, dc246]) ?_
   rw [← er249]
   obtain ⟨hb250, h⟩ := h
   obtain ⟨r251, er251, h⟩ := atm h
   simp [hh, m4_1, m5_2, dc244, dc246]
   refine RunDK.callA Ty_ok kindOp_ok ((toBigraph_ok aRedex hb250).pure) e11 (.cons (argB false aRedex) .nil) (by decide) rfl (by simp [hh, m4_1, m5_2, dc244, dc246]) ?_
   rw [← er251]
   obtain ⟨hb252, h⟩ := h
   obtain ⟨r253, er253, h⟩ := atm h
   simp [hh, m4_1, m5_2, dc244, dc246]
   refine RunDK.callA Ty_ok kindOp_ok ((toBigraph_ok aAgent hb252).pure) e11 (.cons (argB false aAgent) .nil) (by decide) rfl (by simp [hh, m4_1, m5_2, dc244, dc246]) ?_
   rw [← er253]
   obtain ⟨hb254, h⟩ := h
   obtain ⟨r255, er255, h⟩ := atm h
   simp [hh, m4_1, m5_2, dc244, dc246]
   refine RunDK.callA Ty_ok kindOp_ok ((AllMatches_ok r249 r251 r253 hb254).pure) e23 (.cons (argC true r249) (.cons (argB true r251) (.cons (argB true r253) .nil))) (by decide) rfl (by simp [hh, m4_1, m5_2, dc244, dc246]) ?_
   rw [← er255]
   simp [hh, m4_1, m5_2, dc244, dc246]
   apply hk'
   refine Runs.cut (fun ρ H n => ∃ (v256 : AVal), (ρ 8 = .list true (r25.1.map (Match.cells true)) ∧ ρ 9 = bool r25.2 ∧ ρ 13 = v256 ∧ ρ 16 = int r233.2 ∧ ρ 18 = .list true (r255.1.map (Match.cells true)) ∧ ρ 19 = bool r255.2) ∧ Sep H n [oE [.s [.c], .s [.c]] (Match.cells true) v256 r233.1] []) (by refine ⟨v240, ?_, (Sep.sub sp (by simp +contextual))⟩ <;> simp [hh, m4_1, m5_2, dc244, dc246]) ?_
   clear hh m4_1 m5_2
   rintro ρ H n257 ⟨v256, hh, sp⟩
   refine Runs.seq ?_
   refine zE fun k' hk' => ?_
   obtain ⟨J258, hJ259, hr260⟩ := h
   have fin263 : ∀ (sJ : Bool) (ρ : Env) (H : Heap) (n : Nat), J258 sJ → (match sJ with | b261 => ∃ (v262 : AVal), (ρ 13 = v262 ∧ ρ 16 = int r233.2 ∧ ρ 133 = bool b261) ∧ Sep H n [oE [.s [.c], .s [.c]] (Match.cells true) v262 r233.1] []) → Runs Tryz.prog 5 142 k' ρ H n Q := by
    rintro b261 ρ H n264 h ⟨v262, hh, sp⟩
    replace h := hr260 _ h
    apply hk'
    refine Runs.ite (b := b261) (by simp [hh]) (fun db261 => ?_) (fun db261 => ?_)
    ·replace h := h.1 db261
     refine zE fun k' hk' => ?_
     simp [hh, db261]
     apply hk'
     exact Runs.ret1 (v := bool false) Tryz.func5 Tryz.results5 (by simp [hh, db261]) (hQ _ _ _ _ (.of (.v _)) ⟨false, h, rfl⟩)
    replace h := h.2 db261
    refine Runs.skip ?_
    refine zE fun k' hk' => ?_
    simp [hh, db261]
    apply hk'
    refine zE fun k' hk' => ?_
    obtain ⟨hb265, h⟩ := h
    obtain ⟨r266, er266, h⟩ := atm h
    simp [hh, db261]
    refine RunK.callA Ty_ok (heldMatchS_ok r233.1 1 hb265) e26 (.cons (Sep.argOk' sp (old_nest_Match true r233.1)) (.cons (.v _ _ _) .nil)) (by decide) (by decide) rfl (by simp [hh, db261]) ?_
    rintro _ rfl
    rw [← er266]
    simp [hh, db261]
    apply hk'
    refine Runs.seq ?_
    refine zE fun k' hk' => ?_
    obtain ⟨c267, ec267, h⟩ := atm h
    have f268 := ib_lss (k := .i64) ec267
    simp [hh, f268, db261, -intBin]
    apply hk'
    refine Runs.ite (b := c267) (by simp [hh, db261]) (fun dc267 => ?_) (fun dc267 => ?_)
    ·replace h := h.1 dc267
     refine zE fun k' hk' => ?_
     simp [hh, db261, dc267]
     apply hk'
     exact Runs.ret1 (v := bool false) Tryz.func5 Tryz.results5 (by simp [hh, db261, dc267]) (hQ _ _ _ _ (.of (.v _)) ⟨false, h, rfl⟩)
    replace h := h.2 dc267
    refine Runs.skip ?_
    refine Runs.seq ?_
    refine zE fun k' hk' => ?_
    obtain ⟨c269, ec269, h⟩ := atm h
    have f270 := ib_neq (k := .i64) ec269
    simp [hh, f270, db261, dc267, -intBin]
    apply hk'
    refine Runs.ite (b := c269) (by simp [hh, db261, dc267]) (fun dc269 => ?_) (fun dc269 => ?_)
    ·replace h := h.1 dc269
     refine zE fun k' hk' => ?_
     simp [hh, db261, dc267, dc269]
     apply hk'
     exact Runs.ret1 (v := bool false) Tryz.func5 Tryz.results5 (by simp [hh, db261, dc267, dc269]) (hQ _ _ _ _ (.of (.v _)) ⟨false, h, rfl⟩)
    replace h := h.2 dc269
    refine Runs.skip ?_
    refine zE fun k' hk' => ?_
    simp [hh, db261, dc267, dc269]
    apply hk'
    exact Runs.ret1 (v := bool true) Tryz.func5 Tryz.results5 (by simp [hh, db261, dc267, dc269]) (hQ _ _ _ _ (.of (.v _)) ⟨true, h, rfl⟩)
   replace h := hJ259
   obtain ⟨hb271, h⟩ := h
   obtain ⟨r272, er272, h⟩ := atm h
   simp [hh]
   refine RunK.callA Ty_ok (eqMatchS_ok r255.1 r25.1 hb271) e24 (.cons (ArgOk.nest_Match true r255.1) (.cons (ArgOk.nest_Match true r25.1) .nil)) (by decide) (by decide) rfl (by simp [hh]) ?_
   rintro _ rfl
   rw [← er272]
   rcases Bool.eq_false_or_eq_true r272 with dr272 | dr272
   ·replace h := h.1 dr272
    obtain ⟨c273, ec273, h⟩ := atm h
    have f274 := bb_neq ec273
    simp [hh, f274, dr272, -boolBin]
    exact fin263 (c273) _ _ _ h (by refine ⟨v256, ?_, sp⟩ <;> simp [hh, f274, dr272, -boolBin])
   replace h := h.2 dr272
   simp [hh, dr272]
   exact fin263 (true) _ _ _ h (by refine ⟨v256, ?_, sp⟩ <;> simp [hh, dr272])
  replace h := hJ226
  obtain ⟨c275, ec275, h⟩ := atm h
  have f276 := ib_lss (k := .i64) ec275
  rcases Bool.eq_false_or_eq_true c275 with dc275 | dc275
  ·replace h := h.1 dc275
   simp [hh, m4_1, m5_2, f276, dc275, -intBin]
   exact fin230 (true) _ _ _ h (by refine ⟨v223, ?_, ?_, ?_, sp⟩ <;> simp [hh, m4_1, m5_2, f276, dc275, -intBin])
  replace h := h.2 dc275
  obtain ⟨hb277, h⟩ := h
  obtain ⟨r278, er278, h⟩ := atm h
  simp [hh, m4_1, m5_2, f276, dc275, -intBin]
  refine RunK.callA Ty_ok (eqMatchS_ok r104.1 r25.1 hb277) e24 (.cons (Sep.argOk' sp (old_nest_Match true r104.1)) (.cons (ArgOk.nest_Match true r25.1) .nil)) (by decide) (by decide) rfl (by simp [hh, m4_1, m5_2, f276, dc275, -intBin]) ?_
  rintro _ rfl
  rw [← er278]
  rcases Bool.eq_false_or_eq_true r278 with dr278 | dr278
  ·replace h := h.1 dr278
   obtain ⟨c279, ec279, h⟩ := atm h
   have f280 := bb_neq ec279
   simp [hh, m4_1, m5_2, f276, f280, dc275, dr278, -boolBin, -intBin]
   exact fin230 (c279) _ _ _ h (by refine ⟨v223, ?_, ?_, ?_, sp⟩ <;> simp [hh, m4_1, m5_2, f276, f280, dc275, dr278, -boolBin, -intBin])
  replace h := h.2 dr278
  simp [hh, m4_1, m5_2, f276, dc275, dr278, -intBin]
  exact fin230 (true) _ _ _ h (by refine ⟨v223, ?_, ?_, ?_, sp⟩ <;> simp [hh, m4_1, m5_2, f276, dc275, dr278, -intBin])
 replace h := hJ128
 obtain ⟨hb281, h⟩ := h
 obtain ⟨r282, er282, h⟩ := atm h
 simp [hh, m4_1, m5_2, m11_56, m12_87]
 refine RunK.callA Ty_ok (eqMatchS_ok r104.1 r25.1 hb281) e24 (.cons (Sep.argOk' sp.f9 (old_nest_Match true r104.1)) (.cons (ArgOk.nest_Match true r25.1) .nil)) (by decide) (by decide) rfl (by simp [hh, m4_1, m5_2, m11_56, m12_87]) ?_
 rintro _ rfl
 rw [← er282]
 rcases Bool.eq_false_or_eq_true r282 with dr282 | dr282
 ·replace h := h.1 dr282
  obtain ⟨c283, ec283, h⟩ := atm h
  have f284 := bb_neq ec283
  simp [hh, m4_1, m5_2, m11_56, m12_87, f284, dr282, -boolBin]
  exact fin141 (c283) _ _ _ h (by refine ⟨v116, v117, v118, v119, v120, v121, v122, v123, v124, v125, ?_, ?_, ?_, ?_, ?_, sp⟩ <;> simp [hh, m4_1, m5_2, m11_56, m12_87, f284, dr282, -boolBin])
 replace h := h.2 dr282
 simp [hh, m4_1, m5_2, m11_56, m12_87, dr282]
 exact fin141 (true) _ _ _ h (by refine ⟨v116, v117, v118, v119, v120, v121, v122, v123, v124, v125, ?_, ?_, ?_, ?_, ?_, sp⟩ <;> simp [hh, m4_1, m5_2, m11_56, m12_87, dr282])
theorem lawAll_ok (aSig : List Control) (aRedex : Big) (aAgent : Big) (hp : lawAll_pre aSig aRedex aAgent) : PureC Tryz.prog 5 [.list false (aSig.map Control.cells), .agg (bC false aRedex), .agg (bC false aAgent)] (fun r => r = bool (lawAll aSig aRedex aAgent)) := (lawAll_walk aSig aRedex aAgent _ (lawAll_vc aSig aRedex aAgent hp)).mono (by rintro _ ⟨_, rfl, rfl⟩; rfl)
end Go.Ab.Vg
/- The contract of laws.FnExactAllMatches: it answers true. -/
namespace Go.Ab
open Go.Proofs
theorem exactAllMatches_ok (a0 : Sig) (a1 : Big) (a2 : Big) (h0 : HugeS a0) (h1 : HugeB a1) (h2 : HugeB a2) : PureC Tryz.prog 5 [encSig false a0, encB false a1, encB false a2] (fun r => r = bool true) := Vg.lawAll_ok a0 a1 a2 ⟨h0, h1, h2⟩
end Go.Ab
