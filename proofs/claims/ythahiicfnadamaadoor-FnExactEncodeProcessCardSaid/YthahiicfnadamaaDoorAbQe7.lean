/- Merged texts (7 of 10) of the proof that ends in Ey: Nmw Cow Mpw Emw Cpw Cqw. -/
import Derived.Test.YthahiicfnadamaaDoorAbQe6
/- Walks by program for YthahiicfnadamaaDoorAbNm. -/
namespace Go.Ab.Vg
open Go.Proofs
set_option maxRecDepth 100000
set_option linter.unusedSimpArgs false
set_option linter.unusedVariables false
theorem e25 : Ent Tryd.prog 25 := Ent.of Tryd.func25 (by kernel_rfl) rfl
theorem markNodeS_walk (a : List GNode) (k_ : Int) (Z : ((List GNode) × Int) → Prop) (h : markNodeS_wp a k_ Z) : MutS Tryd.prog 25 (fun v => [v, int k_]) (.s [.c, .c, .s [.c]]) (.list true (a.map (GNode.cells true))) (fun e' r => ∃ y : (List GNode) × Int, Z y ∧ e' = .list true (y.1.map (GNode.cells true)) ∧ r = int y.2) := by
  unfold markNodeS_wp at h
  refine MutS.of Tryd.func25 rfl Tryd.ntmps25 (fun _ => by simp) fun H0 n0 v0 K0 ids0 sp Q hQ => ?_
  have h00 := sp.1
  have hid : ∀ i ∈ ids0, H0 i = H0 i := fun _ _ => rfl
  have hnn : n0 ≤ n0 := Nat.le_refl _
  refine Runs.cut (fun ρ H n => ρ 0 = v0 ∧ ρ 1 = int k_ ∧ n0 ≤ n ∧ (∀ i ∈ ids0, H i = H0 i) ∧ Sep H n (oN v0 a :: K0) (ids0)) (by refine ⟨?_, ?_, (by omega), hid, sp⟩ <;> simp [GNode.cells, intC, sliceC]) ?_
  rintro ρ H n2 ⟨h0, h1, hnn, hid, sp⟩
  have hq_n2 := hnn
  refine Runs.seqE Ty_ok (by decide) fun k' hk' => ?_
  simp [h0, h1, GNode.cells, intC, sliceC]
  refine hk' _ _ _ ?_
  refine Runs.seq ?_
  refine Runs.seqE Ty_ok (by decide) fun k' hk' => ?_
  simp [h0, h1, GNode.cells, intC, sliceC]
  refine hk' _ _ _ ?_
  refine Runs.block ?_
  refine Runs.loopW h (fun (sJ : Int × Int × (List GNode)) ρ H n => match sJ with | (k10, i11, l12) => ρ 0 = v0 ∧ ρ 1 = int k10 ∧ ρ 5 = int i11 ∧ n0 ≤ n ∧ (∀ i ∈ ids0, H i = H0 i) ∧ Sep H n (oN v0 l12 :: K0) (ids0)) (by refine ⟨?_, ?_, ?_, (by omega), hid, sp⟩ <;> simp [h0, h1, GNode.cells, intC, sliceC]) ?_
  clear h0 h1
  rintro ⟨k10, i11, l12⟩ ρ H n13 K h ⟨h0, h1, h5, hnn, hid, sp⟩ IH14
  have hq_n13 := hnn
  refine Runs.seq ?_
  refine Runs.seqE Ty_ok (by decide) fun k' hk' => ?_
  obtain ⟨len16, elen16⟩ : ∃ v : Int, v = (l12.length : Int) := ⟨_, rfl⟩
  replace h := h len16 elen16
  have f17 := len_own (Sep.len (m := len16) sp kd_26 (by rw [elen16, List.length_map]))
  obtain ⟨c18, ec18⟩ : ∃ v : Bool, v = decide (i11 < len16) := ⟨_, rfl⟩
  replace h := h c18 ec18
  have f19 := ib_lss (k := .i64) ec18
  simp [h0, h1, h5, f17, f19, GNode.cells, intC, sliceC, -intBin, -lenF]
  refine hk' _ _ _ ?_
  refine Runs.ite (b := c18) (by simp [h0, h1, h5, GNode.cells, intC, sliceC]) (fun dc18 => ?_) (fun dc18 => ?_)
  · replace h := h.1 dc18
    refine Runs.skip ?_
    refine Runs.seq ?_
    refine Runs.block ?_
    refine Runs.seqE Ty_ok (by decide) fun k' hk' => ?_
    obtain ⟨hb20, h⟩ := h
    obtain ⟨x21, ex21⟩ : ∃ v : GNode, v = at' l12 i11 := ⟨_, rfl⟩
    replace h := h x21 ex21
    obtain ⟨id22, els23, row24, W25, hq26, mo27, moL28, moR29, hrl30, hW31, hsub32, hni33, spr34, hcl35⟩ := Sep.rowF (q := i11.toNat) (f := (GNode.cells true)) sp hb20 ex21 rfl
    subst hq26
    obtain ⟨c36, c37, c38, hq26⟩ := len3 (by simpa using hrl30)
    subst hq26
    replace spr34 : Sep _ _ [(.c, c36, int x21.control), (.c, c37, int x21.parent), (.s [.c], c38, .list true (x21.links.map intC))] W25 := spr34
    obtain rfl := Sep.cAt (K1 := []) (K2 := [(.c, c37, int x21.parent), (.s [.c], c38, .list true (x21.links.map intC))]) spr34
    obtain rfl := Sep.cAt (K1 := [(.c, int x21.control, int x21.control)]) (K2 := [(.s [.c], c38, .list true (x21.links.map intC))]) spr34
    have f39 := ix_arr (k := .i64) (off := 0) (len := l12.length) kd_26 mo27 moL28 rfl hb20
    obtain ⟨l40, el40⟩ : ∃ v : List GNode, v = l12.set i11.toNat (GNode.mk k10 x21.parent x21.links) := ⟨_, rfl⟩
    replace h := h l40 el40
    simp [h0, h1, h5, mo27, moL28, moR29, f39, dc18, GNode.cells, intC, sliceC, -indexAddrF, -storeF]
    refine bind_cell (i := ty3) (q := i11.toNat) (off := 0) (ix := i11) (x := x21) (y := (GNode.mk k10 x21.parent x21.links)) (f := (GNode.cells true)) [] [.c, .s [.c]] [] [int x21.parent, .list true (x21.links.map intC)] sp rfl rfl hb20 ex21 rfl rfl rfl rfl rfl rfl rfl ?_
    rintro H41 sp hfr42
    replace sp : Sep H41 n13 (oN (.arr id22 l12.length 0 l12.length) l40 :: K0) (ids0) := by rw [el40]; exact sp
    have hid : ∀ i ∈ ids0, H41 i = H0 i := fun i hi => (hfr42 i (by simp [hi])).trans (hid i hi)
    simp [h0, h1, h5, f39, dc18, GNode.cells, intC, sliceC, -indexAddrF]
    refine hk' _ _ _ ?_
    refine Runs.cut (fun ρ H n => ρ 0 = .arr id22 l12.length 0 l12.length ∧ ρ 1 = int k10 ∧ ρ 5 = int i11 ∧ n0 ≤ n ∧ (∀ i ∈ ids0, H i = H0 i) ∧ Sep H n (oN (.arr id22 l12.length 0 l12.length) l40 :: K0) (ids0)) (by refine ⟨?_, ?_, ?_, (by omega), hid, sp⟩ <;> simp [h0, h1, h5, f39, dc18, GNode.cells, intC, sliceC, -indexAddrF]) ?_
    clear h0 h1 h5
    rintro ρ H n44 ⟨h0, h1, h5, hnn, hid, sp⟩
    have hq_n44 := hnn
    refine Runs.seqE Ty_ok (by decide) fun k' hk' => ?_
    obtain ⟨hb45, h⟩ := h
    obtain ⟨v46, ev46⟩ : ∃ v : Int, v = k10 + 1 := ⟨_, rfl⟩
    replace h := h v46 ev46
    have f47 := ib_add hb45 ev46
    simp [h0, h1, h5, f47, dc18, GNode.cells, intC, sliceC, -intBin]
    refine hk' _ _ _ ?_
    refine Runs.seqE Ty_ok (by decide) fun k' hk' => ?_
    obtain ⟨hb48, h⟩ := h
    obtain ⟨x49, ex49⟩ : ∃ v : GNode, v = at' l40 i11 := ⟨_, rfl⟩
    replace h := h x49 ex49
    obtain ⟨id50, els51, row52, W53, hq54, mo55, moL56, moR57, hrl58, hW59, hsub60, hni61, spr62, hcl63⟩ := Sep.rowF (q := i11.toNat) (f := (GNode.cells true)) sp hb48 ex49 rfl
    simp only [AVal.arr.injEq] at hq54
    obtain ⟨hq54, hln64, -⟩ := hq54
    subst hq54
    replace moL56 := moL56.trans hln64.symm
    obtain ⟨c65, c66, c67, hq54⟩ := len3 (by simpa using hrl58)
    subst hq54
    replace spr62 : Sep _ _ [(.c, c65, int x49.control), (.c, c66, int x49.parent), (.s [.c], c67, .list true (x49.links.map intC))] W53 := spr62
    obtain rfl := Sep.cAt (K1 := []) (K2 := [(.c, c66, int x49.parent), (.s [.c], c67, .list true (x49.links.map intC))]) spr62
    obtain rfl := Sep.cAt (K1 := [(.c, int x49.control, int x49.control)]) (K2 := [(.s [.c], c67, .list true (x49.links.map intC))]) spr62
    have f68 := ix_arr (k := .i64) (off := 0) (len := l12.length) kd_26 mo55 moL56 rfl (by rw [hln64]; exact hb48)
    obtain ⟨l69, el69⟩ : ∃ v : List GNode, v = l40.set i11.toNat (GNode.mk x49.control v46 x49.links) := ⟨_, rfl⟩
    replace h := h l69 el69
    simp [h0, h1, h5, mo55, moL56, moR57, f68, dc18, GNode.cells, intC, sliceC, -indexAddrF, -storeF]
    refine bind_cell (i := ty3) (q := i11.toNat) (off := 1) (ix := i11) (x := x49) (y := (GNode.mk x49.control v46 x49.links)) (f := (GNode.cells true)) [.c] [.s [.c]] [int x49.control] [.list true (x49.links.map intC)] sp rfl rfl hb48 ex49 rfl hln64 rfl rfl rfl rfl rfl ?_
    rintro H70 sp hfr71
    replace sp : Sep H70 n44 (oN (.arr id22 l12.length 0 l12.length) l69 :: K0) (ids0) := by rw [el69]; exact sp
    have hid : ∀ i ∈ ids0, H70 i = H0 i := fun i hi => (hfr71 i (by simp [hi])).trans (hid i hi)
    simp [h0, h1, h5, f68, dc18, GNode.cells, intC, sliceC, -indexAddrF]
    refine hk' _ _ _ ?_
    refine Runs.cut (fun ρ H n => ρ 0 = .arr id22 l12.length 0 l12.length ∧ ρ 1 = int v46 ∧ ρ 5 = int i11 ∧ n0 ≤ n ∧ (∀ i ∈ ids0, H i = H0 i) ∧ Sep H n (oN (.arr id22 l12.length 0 l12.length) l69 :: K0) (ids0)) (by refine ⟨?_, ?_, ?_, (by omega), hid, sp⟩ <;> simp [h0, h1, h5, f68, dc18, GNode.cells, intC, sliceC, -indexAddrF]) ?_
    clear h0 h1 h5
    rintro ρ H n73 ⟨h0, h1, h5, hnn, hid, sp⟩
    have hq_n73 := hnn
    refine Runs.seqE Ty_ok (by decide) fun k' hk' => ?_
    obtain ⟨hb74, h⟩ := h
    obtain ⟨v75, ev75⟩ : ∃ v : Int, v = v46 + 1 := ⟨_, rfl⟩
    replace h := h v75 ev75
    have f76 := ib_add hb74 ev75
    simp [h0, h1, h5, f76, dc18, GNode.cells, intC, sliceC, -intBin]
    refine hk' _ _ _ ?_
    refine Runs.evalE Ty_ok (by decide) fun k' hk' => ?_
    obtain ⟨hb77, h⟩ := h
    obtain ⟨x78, ex78⟩ : ∃ v : GNode, v = at' l69 i11 := ⟨_, rfl⟩
    replace h := h x78 ex78
    obtain ⟨id79, els80, row81, W82, hq83, mo84, moL85, moR86, hrl87, hW88, hsub89, hni90, spr91, hcl92⟩ := Sep.rowF (q := i11.toNat) (f := (GNode.cells true)) sp hb77 ex78 rfl
    simp only [AVal.arr.injEq] at hq83
    obtain ⟨hq83, hln93, -⟩ := hq83
    subst hq83
    replace moL85 := moL85.trans hln93.symm
    obtain ⟨c94, c95, c96, hq83⟩ := len3 (by simpa using hrl87)
    subst hq83
    replace spr91 : Sep _ _ [(.c, c94, int x78.control), (.c, c95, int x78.parent), (.s [.c], c96, .list true (x78.links.map intC))] W82 := spr91
    obtain rfl := Sep.cAt (K1 := []) (K2 := [(.c, c95, int x78.parent), (.s [.c], c96, .list true (x78.links.map intC))]) spr91
    obtain rfl := Sep.cAt (K1 := [(.c, int x78.control, int x78.control)]) (K2 := [(.s [.c], c96, .list true (x78.links.map intC))]) spr91
    have f97 := ix_arr (k := .i64) (off := 0) (len := l12.length) kd_26 mo84 moL85 rfl (by rw [hln93]; exact hb77)
    obtain ⟨hb98, h⟩ := h
    obtain ⟨r99, er99⟩ : ∃ v : (List Int) × Int, v = markIntS x78.links v75 := ⟨_, rfl⟩
    replace h := h r99 er99
    simp [h0, h1, h5, mo84, moL85, moR86, f97, dc18, GNode.cells, intC, sliceC, -indexAddrF]
    refine RunK.callM (v := c96) Ty_ok (markIntS_ok x78.links v75 hb98) e26 (Sep.front (K1 := [(.c, int x78.control, int x78.control), (.c, int x78.parent, int x78.parent)]) (K2 := []) spr91) (by decide) (by decide) rfl (by simp [h0, h1, h5, mo84, moL85, moR86, f97, dc18, GNode.cells, intC, sliceC, -indexAddrF]) ?_
    rintro _ H100 n101 _ ⟨rfl, rfl⟩ spx hle103 hfrW102
    rw [← er99] at spx
    rw [← er99]
    obtain ⟨l105, el105⟩ : ∃ v : List GNode, v = l69.set i11.toNat (GNode.mk x78.control x78.parent r99.1) := ⟨_, rfl⟩
    replace h := h l105 el105
    replace sp := hcl92 H100 n101 (GNode.mk x78.control x78.parent r99.1) (Sep.unfront (K1 := [(.c, int x78.control, int x78.control), (.c, int x78.parent, int x78.parent)]) (K2 := []) spx) rfl hfrW102 hle103
    have hfr104 := fun i hi => hfrW102 i (hsub89 i hi)
    replace sp : Sep H100 n101 (oN (.arr id22 l12.length 0 l12.length) l105 :: K0) (ids0) := by rw [el105]; exact sp
    have hid : ∀ i ∈ ids0, H100 i = H0 i := fun i hi => (hfr104 i (by simp [hi])).trans (hid i hi)
    have hnn : n0 ≤ n101 := by omega
    have hq_n101 := hnn
    simp [h0, h1, h5, f97, dc18, GNode.cells, intC, sliceC, -indexAddrF]
    refine hk' _ _ _ ?_
    refine Runs.cut (fun ρ H n => ρ 0 = .arr id22 l12.length 0 l12.length ∧ ρ 1 = int r99.2 ∧ ρ 5 = int i11 ∧ n0 ≤ n ∧ (∀ i ∈ ids0, H i = H0 i) ∧ Sep H n (oN (.arr id22 l12.length 0 l12.length) l105 :: K0) (ids0)) (by refine ⟨?_, ?_, ?_, (by omega), hid, sp⟩ <;> simp [h0, h1, h5, f97, dc18, GNode.cells, intC, sliceC, -indexAddrF]) ?_
    clear h0 h1 h5
    rintro ρ H n107 ⟨h0, h1, h5, hnn, hid, sp⟩
    have hq_n107 := hnn
    refine Runs.inBlock ?_
    refine Runs.evalE Ty_ok (by decide) fun k' hk' => ?_
    obtain ⟨hb108, h⟩ := h
    obtain ⟨v109, ev109⟩ : ∃ v : Int, v = i11 + 1 := ⟨_, rfl⟩
    replace h := h v109 ev109
    have f110 := ib_add hb108 ev109
    simp [h0, h1, h5, f110, dc18, GNode.cells, intC, sliceC, -intBin]
    refine hk' _ _ _ ?_
    refine IH14 (r99.2, v109, l105) _ _ _ h (by refine ⟨?_, ?_, ?_, (by omega), hid, sp⟩ <;> simp [h0, h1, h5, dc18, GNode.cells, intC, sliceC])
  · replace h := h.2 dc18
    refine Runs.exit rfl ?_
    refine Runs.seqE Ty_ok (by decide) fun k' hk' => ?_
    simp [h0, h1, h5, dc18, GNode.cells, intC, sliceC]
    refine hk' _ _ _ ?_
    exact Runs.ret1 (v := int k10) Tryd.func25 Tryd.results25 (by simp [h0, h1, h5, dc18, GNode.cells, intC, sliceC]) (hQ _ _ _ _ (Sep.sub sp (by simp +contextual)) hid (by omega) ⟨(l12, k10), h, rfl, rfl⟩)

theorem markNodeS_ok (a : List GNode) (k_ : Int) (hp : markNodeS_pre a k_) : MutS Tryd.prog 25 (fun v => [v, int k_]) (.s [.c, .c, .s [.c]]) (.list true (a.map (GNode.cells true))) (fun e' r => e' = .list true (((markNodeS a k_).1).map (GNode.cells true)) ∧ r = int ((markNodeS a k_).2)) := (markNodeS_walk a k_ _ (markNodeS_vc a k_ hp)).mono (by rintro _ _ ⟨_, rfl, rfl, rfl⟩; exact ⟨rfl, rfl⟩)

theorem e31 : Ent Tryd.prog 31 := Ent.of Tryd.func31 (by kernel_rfl) rfl
theorem heldStringS_walk (a : List Str) (k_ : Int) (Z : Int → Prop) (h : heldStringS_wp a k_ Z) : PureC Tryd.prog 31 [.list false (a.map strC), int k_] (fun r => ∃ y : Int, Z y ∧ r = int y) := by
  unfold heldStringS_wp at h
  refine PureC.of Tryd.func31 rfl Tryd.ntmps31 (by simp) fun Q hQ => ?_
  refine Runs.cut (fun ρ H n => ρ 0 = .list false (a.map strC) ∧ ρ 1 = int k_) (by refine ⟨?_, ?_⟩ <;> simp [strC]) ?_
  rintro ρ H n1 ⟨h0, h1⟩
  refine Runs.seqE Ty_ok (by decide) fun k' hk' => ?_
  simp [h0, h1, strC]
  refine hk' _ _ _ ?_
  refine Runs.seq ?_
  refine Runs.seqE Ty_ok (by decide) fun k' hk' => ?_
  simp [h0, h1, strC]
  refine hk' _ _ _ ?_
  refine Runs.block ?_
  refine Runs.loopW h (fun (sJ : Int × Int) ρ H n => match sJ with | (k5, i6) => ρ 0 = .list false (a.map strC) ∧ ρ 1 = int k5 ∧ ρ 5 = int i6) (by refine ⟨?_, ?_, ?_⟩ <;> simp [h0, h1, strC]) ?_
  clear h0 h1
  rintro ⟨k5, i6⟩ ρ H n7 K h ⟨h0, h1, h5⟩ IH8
  refine Runs.seq ?_
  refine Runs.seqE Ty_ok (by decide) fun k' hk' => ?_
  obtain ⟨len10, elen10⟩ : ∃ v : Int, v = (a.length : Int) := ⟨_, rfl⟩
  replace h := h len10 elen10
  have f11 := fun H => len_list (H := H) (fr := false) (f := strC) kd_28 elen10
  obtain ⟨c12, ec12⟩ : ∃ v : Bool, v = decide (i6 < len10) := ⟨_, rfl⟩
  replace h := h c12 ec12
  have f13 := ib_lss (k := .i64) ec12
  simp [h0, h1, h5, f11, f13, strC, -intBin, -lenF]
  refine hk' _ _ _ ?_
  refine Runs.ite (b := c12) (by simp [h0, h1, h5, strC]) (fun dc12 => ?_) (fun dc12 => ?_)
  · replace h := h.1 dc12
    refine Runs.skip ?_
    refine Runs.seq ?_
    refine Runs.block ?_
    refine Runs.seq ?_
    refine Runs.seqD Ty_ok kindOp_ok draws (by decide) (by kernel_rfl) fun k' hk' => ?_
    obtain ⟨hb14, h⟩ := h
    obtain ⟨x15, ex15⟩ : ∃ v : Str, v = at' a i6 := ⟨_, rfl⟩
    replace h := h x15 ex15
    have f16 := fun H => ix_list (H := H) (fr := false) (f := strC) (k := .i64) kd_28 (fun _ => rfl) hb14 ex15
    obtain ⟨hb17, h⟩ := h
    obtain ⟨r18, er18⟩ : ∃ v : Str, v = markTxt k5 := ⟨_, rfl⟩
    replace h := h r18 er18
    simp [h0, h1, h5, f16, dc12, strC, -indexAddrF]
    refine RunDK.callA Ty_ok kindOp_ok (markTxt_ok k5 hb17) e46 (.cons (.v _ _ _) .nil) (by decide) rfl (by simp [h0, h1, h5, f16, dc12, strC, -indexAddrF]) ?_
    rw [← er18]
    obtain ⟨c19, ec19⟩ : ∃ v : Bool, v = decide (x15 ≠ r18) := ⟨_, rfl⟩
    replace h := h c19 ec19
    have f20 := sb_neq ec19
    simp [h0, h1, h5, f16, f20, dc12, strC, -indexAddrF, -strBin]
    refine hk' _ _ _ ?_
    refine Runs.ite (b := c19) (by simp [h0, h1, h5, dc12, strC]) (fun dc19 => ?_) (fun dc19 => ?_)
    · replace h := h.1 dc19
      refine Runs.seqE Ty_ok (by decide) fun k' hk' => ?_
      simp [h0, h1, h5, dc12, dc19, strC]
      refine hk' _ _ _ ?_
      exact Runs.ret1 (v := int (-1)) Tryd.func31 Tryd.results31 (by simp [h0, h1, h5, dc12, dc19, strC]) (hQ _ _ _ _ (.of (.v _)) ⟨(-1), h, rfl⟩)
    · replace h := h.2 dc19
      refine Runs.skip ?_
      refine Runs.evalE Ty_ok (by decide) fun k' hk' => ?_
      obtain ⟨hb21, h⟩ := h
      obtain ⟨v22, ev22⟩ : ∃ v : Int, v = k5 + 1 := ⟨_, rfl⟩
      replace h := h v22 ev22
      have f23 := ib_add hb21 ev22
      simp [h0, h1, h5, f23, dc12, dc19, strC, -intBin]
      refine hk' _ _ _ ?_
      refine Runs.inBlock ?_
      refine Runs.evalE Ty_ok (by decide) fun k' hk' => ?_
      obtain ⟨hb24, h⟩ := h
      obtain ⟨v25, ev25⟩ : ∃ v : Int, v = i6 + 1 := ⟨_, rfl⟩
      replace h := h v25 ev25
      have f26 := ib_add hb24 ev25
      simp [h0, h1, h5, f26, dc12, dc19, strC, -intBin]
      refine hk' _ _ _ ?_
      refine Runs.cut (fun ρ H n => ρ 0 = .list false (a.map strC) ∧ ρ 1 = int v22 ∧ ρ 5 = int v25) (by refine ⟨?_, ?_, ?_⟩ <;> simp [h0, h1, h5, f26, dc12, dc19, strC, -intBin]) ?_
      clear h0 h1 h5
      rintro ρ H n27 ⟨h0, h1, h5⟩
      refine IH8 (v22, v25) _ _ _ h (by refine ⟨?_, ?_, ?_⟩ <;> simp [h0, h1, h5, dc12, dc19, strC])
  · replace h := h.2 dc12
    refine Runs.exit rfl ?_
    refine Runs.seqE Ty_ok (by decide) fun k' hk' => ?_
    simp [h0, h1, h5, dc12, strC]
    refine hk' _ _ _ ?_
    exact Runs.ret1 (v := int k5) Tryd.func31 Tryd.results31 (by simp [h0, h1, h5, dc12, strC]) (hQ _ _ _ _ (.of (.v _)) ⟨k5, h, rfl⟩)

theorem heldStringS_ok (a : List Str) (k_ : Int) (hp : heldStringS_pre a k_) : PureC Tryd.prog 31 [.list false (a.map strC), int k_] (fun r => r = int (heldStringS a k_)) := (heldStringS_walk a k_ _ (heldStringS_vc a k_ hp)).mono (by rintro _ ⟨_, rfl, rfl⟩; rfl)

theorem e32 : Ent Tryd.prog 32 := Ent.of Tryd.func32 (by kernel_rfl) rfl
theorem heldWireS_walk (a : List Wire) (k_ : Int) (Z : Int → Prop) (h : heldWireS_wp a k_ Z) : PureC Tryd.prog 32 [.list false (a.map Wire.cells), int k_] (fun r => ∃ y : Int, Z y ∧ r = int y) := by
  unfold heldWireS_wp at h
  refine PureC.of Tryd.func32 rfl Tryd.ntmps32 (by simp) fun Q hQ => ?_
  refine Runs.cut (fun ρ H n => ρ 0 = .list false (a.map Wire.cells) ∧ ρ 1 = int k_) (by refine ⟨?_, ?_⟩ <;> simp [Wire.cells, intC, strC]) ?_
  rintro ρ H n1 ⟨h0, h1⟩
  refine Runs.seqE Ty_ok (by decide) fun k' hk' => ?_
  simp [h0, h1, Wire.cells, intC, strC]
  refine hk' _ _ _ ?_
  refine Runs.seq ?_
  refine Runs.seqE Ty_ok (by decide) fun k' hk' => ?_
  simp [h0, h1, Wire.cells, intC, strC]
  refine hk' _ _ _ ?_
  refine Runs.block ?_
  refine Runs.loopW h (fun (sJ : Int × Int) ρ H n => match sJ with | (k5, i6) => ρ 0 = .list false (a.map Wire.cells) ∧ ρ 1 = int k5 ∧ ρ 5 = int i6) (by refine ⟨?_, ?_, ?_⟩ <;> simp [h0, h1, Wire.cells, intC, strC]) ?_
  clear h0 h1
  rintro ⟨k5, i6⟩ ρ H n7 K h ⟨h0, h1, h5⟩ IH8
  refine Runs.seq ?_
  refine Runs.seqE Ty_ok (by decide) fun k' hk' => ?_
  obtain ⟨len10, elen10⟩ : ∃ v : Int, v = (a.length : Int) := ⟨_, rfl⟩
  replace h := h len10 elen10
  have f11 := fun H => len_list (H := H) (fr := false) (f := Wire.cells) kd_29 elen10
  obtain ⟨c12, ec12⟩ : ∃ v : Bool, v = decide (i6 < len10) := ⟨_, rfl⟩
  replace h := h c12 ec12
  have f13 := ib_lss (k := .i64) ec12
  simp [h0, h1, h5, f11, f13, Wire.cells, intC, strC, -intBin, -lenF]
  refine hk' _ _ _ ?_
  refine Runs.ite (b := c12) (by simp [h0, h1, h5, Wire.cells, intC, strC]) (fun dc12 => ?_) (fun dc12 => ?_)
  · replace h := h.1 dc12
    refine Runs.skip ?_
    refine Runs.seq ?_
    refine Runs.block ?_
    refine Runs.seq ?_
    refine Runs.seqD Ty_ok kindOp_ok draws (by decide) (by kernel_rfl) fun k' hk' => ?_
    obtain ⟨hb14, h⟩ := h
    obtain ⟨x15, ex15⟩ : ∃ v : Wire, v = at' a i6 := ⟨_, rfl⟩
    replace h := h x15 ex15
    have f16 := fun H => ix_list (H := H) (fr := false) (f := Wire.cells) (k := .i64) kd_29 (fun _ => rfl) hb14 ex15
    obtain ⟨hb17, h⟩ := h
    obtain ⟨r18, er18⟩ : ∃ v : Str, v = markTxt k5 := ⟨_, rfl⟩
    replace h := h r18 er18
    simp [h0, h1, h5, f16, dc12, Wire.cells, intC, strC, -indexAddrF]
    refine RunDK.callA Ty_ok kindOp_ok (markTxt_ok k5 hb17) e46 (.cons (.v _ _ _) .nil) (by decide) rfl (by simp [h0, h1, h5, f16, dc12, Wire.cells, intC, strC, -indexAddrF]) ?_
    rw [← er18]
    obtain ⟨c19, ec19⟩ : ∃ v : Bool, v = decide (x15.name ≠ r18) := ⟨_, rfl⟩
    replace h := h c19 ec19
    have f20 := sb_neq ec19
    simp [h0, h1, h5, f16, f20, dc12, Wire.cells, intC, strC, -indexAddrF, -strBin]
    refine hk' _ _ _ ?_
    refine Runs.ite (b := c19) (by simp [h0, h1, h5, dc12, Wire.cells, intC, strC]) (fun dc19 => ?_) (fun dc19 => ?_)
    · replace h := h.1 dc19
      refine Runs.seqE Ty_ok (by decide) fun k' hk' => ?_
      simp [h0, h1, h5, dc12, dc19, Wire.cells, intC, strC]
      refine hk' _ _ _ ?_
      exact Runs.ret1 (v := int (-1)) Tryd.func32 Tryd.results32 (by simp [h0, h1, h5, dc12, dc19, Wire.cells, intC, strC]) (hQ _ _ _ _ (.of (.v _)) ⟨(-1), h, rfl⟩)
    · replace h := h.2 dc19
      refine Runs.skip ?_
      refine Runs.seqE Ty_ok (by decide) fun k' hk' => ?_
      obtain ⟨hb21, h⟩ := h
      obtain ⟨v22, ev22⟩ : ∃ v : Int, v = k5 + 1 := ⟨_, rfl⟩
      replace h := h v22 ev22
      have f23 := ib_add hb21 ev22
      simp [h0, h1, h5, f23, dc12, dc19, Wire.cells, intC, strC, -intBin]
      refine hk' _ _ _ ?_
      refine Runs.cut (fun ρ H n => ρ 0 = .list false (a.map Wire.cells) ∧ ρ 1 = int v22 ∧ ρ 5 = int i6) (by refine ⟨?_, ?_, ?_⟩ <;> simp [h0, h1, h5, f23, dc12, dc19, Wire.cells, intC, strC, -intBin]) ?_
      clear h0 h1 h5
      rintro ρ H n24 ⟨h0, h1, h5⟩
      refine Runs.seq ?_
      refine Runs.seqE Ty_ok (by decide) fun k' hk' => ?_
      obtain ⟨hb25, h⟩ := h
      obtain ⟨x26, ex26⟩ : ∃ v : Wire, v = at' a i6 := ⟨_, rfl⟩
      replace h := h x26 ex26
      have f27 := fun H => ix_list (H := H) (fr := false) (f := Wire.cells) (k := .i64) kd_29 (fun _ => rfl) hb25 ex26
      obtain ⟨c28, ec28⟩ : ∃ v : Bool, v = decide (x26.link ≠ v22) := ⟨_, rfl⟩
      replace h := h c28 ec28
      have f29 := ib_neq (k := .i64) ec28
      simp [h0, h1, h5, f27, f29, dc12, dc19, Wire.cells, intC, strC, -indexAddrF, -intBin]
      refine hk' _ _ _ ?_
      refine Runs.ite (b := c28) (by simp [h0, h1, h5, dc12, dc19, Wire.cells, intC, strC]) (fun dc28 => ?_) (fun dc28 => ?_)
      · replace h := h.1 dc28
        refine Runs.seqE Ty_ok (by decide) fun k' hk' => ?_
        simp [h0, h1, h5, dc12, dc19, dc28, Wire.cells, intC, strC]
        refine hk' _ _ _ ?_
        exact Runs.ret1 (v := int (-1)) Tryd.func32 Tryd.results32 (by simp [h0, h1, h5, dc12, dc19, dc28, Wire.cells, intC, strC]) (hQ _ _ _ _ (.of (.v _)) ⟨(-1), h, rfl⟩)
      · replace h := h.2 dc28
        refine Runs.skip ?_
        refine Runs.evalE Ty_ok (by decide) fun k' hk' => ?_
        obtain ⟨hb30, h⟩ := h
        obtain ⟨v31, ev31⟩ : ∃ v : Int, v = v22 + 1 := ⟨_, rfl⟩
        replace h := h v31 ev31
        have f32 := ib_add hb30 ev31
        simp [h0, h1, h5, f32, dc12, dc19, dc28, Wire.cells, intC, strC, -intBin]
        refine hk' _ _ _ ?_
        refine Runs.inBlock ?_
        refine Runs.evalE Ty_ok (by decide) fun k' hk' => ?_
        obtain ⟨hb33, h⟩ := h
        obtain ⟨v34, ev34⟩ : ∃ v : Int, v = i6 + 1 := ⟨_, rfl⟩
        replace h := h v34 ev34
        have f35 := ib_add hb33 ev34
        simp [h0, h1, h5, f35, dc12, dc19, dc28, Wire.cells, intC, strC, -intBin]
        refine hk' _ _ _ ?_
        refine IH8 (v31, v34) _ _ _ h (by refine ⟨?_, ?_, ?_⟩ <;> simp [h0, h1, h5, dc12, dc19, dc28, Wire.cells, intC, strC])
  · replace h := h.2 dc12
    refine Runs.exit rfl ?_
    refine Runs.seqE Ty_ok (by decide) fun k' hk' => ?_
    simp [h0, h1, h5, dc12, Wire.cells, intC, strC]
    refine hk' _ _ _ ?_
    exact Runs.ret1 (v := int k5) Tryd.func32 Tryd.results32 (by simp [h0, h1, h5, dc12, Wire.cells, intC, strC]) (hQ _ _ _ _ (.of (.v _)) ⟨k5, h, rfl⟩)

theorem heldWireS_ok (a : List Wire) (k_ : Int) (hp : heldWireS_pre a k_) : PureC Tryd.prog 32 [.list false (a.map Wire.cells), int k_] (fun r => r = int (heldWireS a k_)) := (heldWireS_walk a k_ _ (heldWireS_vc a k_ hp)).mono (by rintro _ ⟨_, rfl, rfl⟩; rfl)

theorem e29 : Ent Tryd.prog 29 := Ent.of Tryd.func29 (by kernel_rfl) rfl
theorem heldNodeS_walk (a : List GNode) (k_ : Int) (Z : Int → Prop) (h : heldNodeS_wp a k_ Z) : PureC Tryd.prog 29 [.list false (a.map (GNode.cells false)), int k_] (fun r => ∃ y : Int, Z y ∧ r = int y) := by
  unfold heldNodeS_wp at h
  refine PureC.of Tryd.func29 rfl Tryd.ntmps29 (by simp) fun Q hQ => ?_
  refine Runs.cut (fun ρ H n => ρ 0 = .list false (a.map (GNode.cells false)) ∧ ρ 1 = int k_) (by refine ⟨?_, ?_⟩ <;> simp [GNode.cells, intC, sliceC]) ?_
  rintro ρ H n1 ⟨h0, h1⟩
  refine Runs.seqE Ty_ok (by decide) fun k' hk' => ?_
  simp [h0, h1, GNode.cells, intC, sliceC]
  refine hk' _ _ _ ?_
  refine Runs.seq ?_
  refine Runs.seqE Ty_ok (by decide) fun k' hk' => ?_
  simp [h0, h1, GNode.cells, intC, sliceC]
  refine hk' _ _ _ ?_
  refine Runs.block ?_
  refine Runs.loopW h (fun (sJ : Int × Int) ρ H n => match sJ with | (k5, i6) => ρ 0 = .list false (a.map (GNode.cells false)) ∧ ρ 1 = int k5 ∧ ρ 5 = int i6) (by refine ⟨?_, ?_, ?_⟩ <;> simp [h0, h1, GNode.cells, intC, sliceC]) ?_
  clear h0 h1
  rintro ⟨k5, i6⟩ ρ H n7 K h ⟨h0, h1, h5⟩ IH8
  refine Runs.seq ?_
  refine Runs.seqE Ty_ok (by decide) fun k' hk' => ?_
  obtain ⟨len10, elen10⟩ : ∃ v : Int, v = (a.length : Int) := ⟨_, rfl⟩
  replace h := h len10 elen10
  have f11 := fun H => len_list (H := H) (fr := false) (f := (GNode.cells false)) kd_26 elen10
  obtain ⟨c12, ec12⟩ : ∃ v : Bool, v = decide (i6 < len10) := ⟨_, rfl⟩
  replace h := h c12 ec12
  have f13 := ib_lss (k := .i64) ec12
  simp [h0, h1, h5, f11, f13, GNode.cells, intC, sliceC, -intBin, -lenF]
  refine hk' _ _ _ ?_
  refine Runs.ite (b := c12) (by simp [h0, h1, h5, GNode.cells, intC, sliceC]) (fun dc12 => ?_) (fun dc12 => ?_)
  · replace h := h.1 dc12
    refine Runs.skip ?_
    refine Runs.seq ?_
    refine Runs.block ?_
    refine Runs.seq ?_
    refine Runs.seqE Ty_ok (by decide) fun k' hk' => ?_
    obtain ⟨hb14, h⟩ := h
    obtain ⟨x15, ex15⟩ : ∃ v : GNode, v = at' a i6 := ⟨_, rfl⟩
    replace h := h x15 ex15
    have f16 := fun H => ix_list (H := H) (fr := false) (f := (GNode.cells false)) (k := .i64) kd_26 (fun _ => rfl) hb14 ex15
    obtain ⟨c17, ec17⟩ : ∃ v : Bool, v = decide (x15.control ≠ k5) := ⟨_, rfl⟩
    replace h := h c17 ec17
    have f18 := ib_neq (k := .i64) ec17
    simp [h0, h1, h5, f16, f18, dc12, GNode.cells, intC, sliceC, -indexAddrF, -intBin]
    refine hk' _ _ _ ?_
    refine Runs.ite (b := c17) (by simp [h0, h1, h5, dc12, GNode.cells, intC, sliceC]) (fun dc17 => ?_) (fun dc17 => ?_)
    · replace h := h.1 dc17
      refine Runs.seqE Ty_ok (by decide) fun k' hk' => ?_
      simp [h0, h1, h5, dc12, dc17, GNode.cells, intC, sliceC]
      refine hk' _ _ _ ?_
      exact Runs.ret1 (v := int (-1)) Tryd.func29 Tryd.results29 (by simp [h0, h1, h5, dc12, dc17, GNode.cells, intC, sliceC]) (hQ _ _ _ _ (.of (.v _)) ⟨(-1), h, rfl⟩)
    · replace h := h.2 dc17
      refine Runs.skip ?_
      refine Runs.seqE Ty_ok (by decide) fun k' hk' => ?_
      obtain ⟨hb19, h⟩ := h
      obtain ⟨v20, ev20⟩ : ∃ v : Int, v = k5 + 1 := ⟨_, rfl⟩
      replace h := h v20 ev20
      have f21 := ib_add hb19 ev20
      simp [h0, h1, h5, f21, dc12, dc17, GNode.cells, intC, sliceC, -intBin]
      refine hk' _ _ _ ?_
      refine Runs.seq ?_
      refine Runs.seqE Ty_ok (by decide) fun k' hk' => ?_
      obtain ⟨hb22, h⟩ := h
      obtain ⟨x23, ex23⟩ : ∃ v : GNode, v = at' a i6 := ⟨_, rfl⟩
      replace h := h x23 ex23
      have hq24 := ex15.trans ex23.symm
      subst hq24
      have f25 := fun H => ix_list (H := H) (fr := false) (f := (GNode.cells false)) (k := .i64) kd_26 (fun _ => rfl) hb22 ex15
      obtain ⟨c26, ec26⟩ : ∃ v : Bool, v = decide (x15.parent ≠ v20) := ⟨_, rfl⟩
      replace h := h c26 ec26
      have f27 := ib_neq (k := .i64) ec26
      simp [h0, h1, h5, f25, f27, dc12, dc17, GNode.cells, intC, sliceC, -indexAddrF, -intBin]
      refine hk' _ _ _ ?_
      refine Runs.cut (fun ρ H n => ρ 0 = .list false (a.map (GNode.cells false)) ∧ ρ 1 = int v20 ∧ ρ 5 = int i6 ∧ ρ 27 = bool c26) (by refine ⟨?_, ?_, ?_, ?_⟩ <;> simp [h0, h1, h5, f25, f27, dc12, dc17, GNode.cells, intC, sliceC, -indexAddrF, -intBin]) ?_
      clear h0 h1 h5
      rintro ρ H n28 ⟨h0, h1, h5, h27⟩
      refine Runs.ite (b := c26) (by simp [h0, h1, h5, h27, dc12, dc17, GNode.cells, intC, sliceC]) (fun dc26 => ?_) (fun dc26 => ?_)
      · replace h := h.1 dc26
        refine Runs.seqE Ty_ok (by decide) fun k' hk' => ?_
        simp [h0, h1, h5, h27, dc12, dc17, dc26, GNode.cells, intC, sliceC]
        refine hk' _ _ _ ?_
        exact Runs.ret1 (v := int (-1)) Tryd.func29 Tryd.results29 (by simp [h0, h1, h5, h27, dc12, dc17, dc26, GNode.cells, intC, sliceC]) (hQ _ _ _ _ (.of (.v _)) ⟨(-1), h, rfl⟩)
      · replace h := h.2 dc26
        refine Runs.skip ?_
        refine Runs.seqE Ty_ok (by decide) fun k' hk' => ?_
        obtain ⟨hb29, h⟩ := h
        obtain ⟨v30, ev30⟩ : ∃ v : Int, v = v20 + 1 := ⟨_, rfl⟩
        replace h := h v30 ev30
        have f31 := ib_add hb29 ev30
        simp [h0, h1, h5, h27, f31, dc12, dc17, dc26, GNode.cells, intC, sliceC, -intBin]
        refine hk' _ _ _ ?_
        refine Runs.seqE Ty_ok (by decide) fun k' hk' => ?_
        obtain ⟨hb32, h⟩ := h
        obtain ⟨x33, ex33⟩ : ∃ v : GNode, v = at' a i6 := ⟨_, rfl⟩
        replace h := h x33 ex33
        have f34 := fun H => ix_list (H := H) (fr := false) (f := (GNode.cells false)) (k := .i64) kd_26 (fun _ => rfl) hb32 ex33
        obtain ⟨hb35, h⟩ := h
        obtain ⟨r36, er36⟩ : ∃ v : Int, v = heldIntS x33.links v30 := ⟨_, rfl⟩
        replace h := h r36 er36
        simp [h0, h1, h5, h27, f34, dc12, dc17, dc26, GNode.cells, intC, sliceC, -indexAddrF]
        refine RunK.callA Ty_ok (heldIntS_ok x33.links v30 hb35) e30 (.cons (ArgOk.listF (fr := false) (els := x33.links.map intC) (by simp [intC])) (.cons (.v _ _ _) .nil)) (by decide) (by decide) rfl (by simp [h0, h1, h5, h27, f34, dc12, dc17, dc26, GNode.cells, intC, sliceC, -indexAddrF]) ?_
        rintro _ rfl
        rw [← er36]
        simp [h0, h1, h5, h27, f34, dc12, dc17, dc26, GNode.cells, intC, sliceC, -indexAddrF]
        refine hk' _ _ _ ?_
        refine Runs.seqE Ty_ok (by decide) fun k' hk' => ?_
        obtain ⟨c37, ec37⟩ : ∃ v : Bool, v = decide (r36 < 0) := ⟨_, rfl⟩
        replace h := h c37 ec37
        have f38 := ib_lss (k := .i64) ec37
        simp [h0, h1, h5, h27, f38, dc12, dc17, dc26, GNode.cells, intC, sliceC, -intBin]
        refine hk' _ _ _ ?_
        refine Runs.ite (b := c37) (by simp [h0, h1, h5, h27, dc12, dc17, dc26, GNode.cells, intC, sliceC]) (fun dc37 => ?_) (fun dc37 => ?_)
        · replace h := h.1 dc37
          refine Runs.seqE Ty_ok (by decide) fun k' hk' => ?_
          simp [h0, h1, h5, h27, dc12, dc17, dc26, dc37, GNode.cells, intC, sliceC]
          refine hk' _ _ _ ?_
          exact Runs.ret1 (v := int (-1)) Tryd.func29 Tryd.results29 (by simp [h0, h1, h5, h27, dc12, dc17, dc26, dc37, GNode.cells, intC, sliceC]) (hQ _ _ _ _ (.of (.v _)) ⟨(-1), h, rfl⟩)
        · replace h := h.2 dc37
          refine Runs.skip ?_
          refine Runs.inBlock ?_
          refine Runs.evalE Ty_ok (by decide) fun k' hk' => ?_
          obtain ⟨hb39, h⟩ := h
          obtain ⟨v40, ev40⟩ : ∃ v : Int, v = i6 + 1 := ⟨_, rfl⟩
          replace h := h v40 ev40
          have f41 := ib_add hb39 ev40
          simp [h0, h1, h5, h27, f41, dc12, dc17, dc26, dc37, GNode.cells, intC, sliceC, -intBin]
          refine hk' _ _ _ ?_
          refine Runs.cut (fun ρ H n => ρ 0 = .list false (a.map (GNode.cells false)) ∧ ρ 1 = int r36 ∧ ρ 5 = int v40) (by refine ⟨?_, ?_, ?_⟩ <;> simp [h0, h1, h5, h27, f41, dc12, dc17, dc26, dc37, GNode.cells, intC, sliceC, -intBin]) ?_
          clear h0 h1 h5 h27
          rintro ρ H n42 ⟨h0, h1, h5⟩
          refine IH8 (r36, v40) _ _ _ h (by refine ⟨?_, ?_, ?_⟩ <;> simp [h0, h1, h5, dc12, dc17, dc26, dc37, GNode.cells, intC, sliceC])
  · replace h := h.2 dc12
    refine Runs.exit rfl ?_
    refine Runs.seqE Ty_ok (by decide) fun k' hk' => ?_
    simp [h0, h1, h5, dc12, GNode.cells, intC, sliceC]
    refine hk' _ _ _ ?_
    exact Runs.ret1 (v := int k5) Tryd.func29 Tryd.results29 (by simp [h0, h1, h5, dc12, GNode.cells, intC, sliceC]) (hQ _ _ _ _ (.of (.v _)) ⟨k5, h, rfl⟩)

theorem heldNodeS_ok (a : List GNode) (k_ : Int) (hp : heldNodeS_pre a k_) : PureC Tryd.prog 29 [.list false (a.map (GNode.cells false)), int k_] (fun r => r = int (heldNodeS a k_)) := (heldNodeS_walk a k_ _ (heldNodeS_vc a k_ hp)).mono (by rintro _ ⟨_, rfl, rfl⟩; rfl)

theorem e11 : Ent Tryd.prog 11 := Ent.of Tryd.func11 (by kernel_rfl) rfl
theorem markBig_walk (a : Big) (k_ : Int) (Z : (Big × Int) → Prop) (h : markBig_wp a k_ Z) : MutS Tryd.prog 11 (fun v => [v, int k_]) (.a [.c, .s [.c, .c, .s [.c]], .s [.c], .c, .s [.c], .s [.c, .c]]) (.agg [int a.roots, .list true (a.nodes.map (GNode.cells true)), .list true (a.sites.map intC), int a.edges, .list true (a.outer.map strC), .list true (a.inner.map Wire.cells)]) (fun e' r => ∃ y : Big × Int, Z y ∧ e' = .agg [int y.1.roots, .list true (y.1.nodes.map (GNode.cells true)), .list true (y.1.sites.map intC), int y.1.edges, .list true (y.1.outer.map strC), .list true (y.1.inner.map Wire.cells)] ∧ r = int y.2) := by
  unfold markBig_wp at h
  refine MutS.of Tryd.func11 rfl Tryd.ntmps11 (fun _ => by simp) fun H0 n0 v0 K0 ids0 sp Q hQ => ?_
  have h00 := sp.1
  have hid : ∀ i ∈ ids0, H0 i = H0 i := fun _ _ => rfl
  have hnn : n0 ≤ n0 := Nat.le_refl _
  replace sp := Sep.unpack sp
  obtain ⟨L0, hv, hl0, sp⟩ := sp
  subst hv
  obtain ⟨a0_, a1_, a2_, a3_, a4_, a5_, hv⟩ := len6 (by simpa using hl0)
  subst hv
  simp only [zip3, List.cons_append, List.nil_append] at sp
  replace sp := Sep.scalar sp
  obtain ⟨hv, sp⟩ := sp
  subst hv
  replace sp := Sep.rot sp
  try simp only [List.cons_append, List.nil_append, List.append_assoc] at sp
  replace sp := Sep.rot sp
  try simp only [List.cons_append, List.nil_append, List.append_assoc] at sp
  replace sp := Sep.scalar sp
  obtain ⟨hv, sp⟩ := sp
  subst hv
  replace sp := Sep.rot sp
  try simp only [List.cons_append, List.nil_append, List.append_assoc] at sp
  replace sp := Sep.rot sp
  try simp only [List.cons_append, List.nil_append, List.append_assoc] at sp
  replace sp := Sep.swap (K1 := K0) sp
  simp only [List.cons_append, List.nil_append] at sp
  refine Runs.cut (fun ρ H n => ρ 0 = .agg [int a.roots, a1_, a2_, int a.edges, a4_, a5_] ∧ ρ 1 = int k_ ∧ n0 ≤ n ∧ (∀ i ∈ ids0, H i = H0 i) ∧ Sep H n (oN a1_ a.nodes :: oI a2_ a.sites :: oS a4_ a.outer :: oW a5_ a.inner :: K0) (ids0)) (by refine ⟨?_, ?_, (by omega), hid, (Sep.f3 (Sep.f3 (Sep.f3 (Sep.f3 sp))))⟩ <;> simp [GNode.cells, Wire.cells, intC, sliceC, strC]) ?_
  rintro ρ H n5 ⟨h0, h1, hnn, hid, sp⟩
  have hq_n5 := hnn
  refine Runs.seqE Ty_ok (by decide) fun k' hk' => ?_
  have f6 := Sep.oc sp
  have f7 := Sep.oc (Sep.f1 sp)
  have f8 := Sep.oc (Sep.f2 sp)
  have f9 := Sep.oc (Sep.f3 sp)
  simp [h0, h1, f6, f7, f8, f9, GNode.cells, Wire.cells, intC, sliceC, strC, -cellsA, -one1, cAx, o1x]
  refine hk' _ _ _ ?_
  refine Runs.cut (fun ρ H n => ρ 1 = int k_ ∧ ρ 2 = .ptr (n5, 2) 1 0 0 ∧ H (n5, 2) = some ⟨6, [[int a.roots, a1_, a2_, int a.edges, a4_, a5_]]⟩ ∧ n0 ≤ n ∧ (∀ i ∈ ids0, H i = H0 i) ∧ Sep H n (oN a1_ a.nodes :: oI a2_ a.sites :: oS a4_ a.outer :: oW a5_ a.inner :: K0) ((n5, 2) :: ids0)) (by refine ⟨?_, ?_, ?_, (by omega), (by intro i hi; have hlt := h00 i hi; repeat (first | exact hid i hi | rw [Heap.get_set_ne _ _ (by rintro rfl; simp at hlt; omega)])), (Sep.f3 (Sep.f3 (Sep.f3 (Sep.f3 (Sep.var sp)))))⟩ <;> simp [h0, h1, f6, f7, f8, f9, GNode.cells, Wire.cells, intC, sliceC, strC, -cellsA, -one1, cAx, o1x]) ?_
  clear h0 h1
  rintro ρ H n11 ⟨h1, h2, m2_9, hnn, hid, sp⟩
  have hq_n11 := hnn
  refine Runs.seqE Ty_ok (by decide) fun k' hk' => ?_
  obtain ⟨hb12, h⟩ := h
  obtain ⟨r13, er13⟩ : ∃ v : (List GNode) × Int, v = markNodeS a.nodes k_ := ⟨_, rfl⟩
  replace h := h r13 er13
  have f14 := Sep.oc sp
  simp [h1, h2, m2_9, f14, GNode.cells, Wire.cells, intC, sliceC, strC, -cellsA, -one1, cAx, o1x]
  refine RunK.callM (v := a1_) Ty_ok (markNodeS_ok a.nodes k_ hb12) e25 sp (by decide) (by decide) rfl (by simp [h1, h2, m2_9, f14, GNode.cells, Wire.cells, intC, sliceC, strC, -cellsA, -one1, cAx, o1x]) ?_
  rintro _ H15 n16 _ ⟨rfl, rfl⟩ sp hle18 hfr17
  rw [← er13] at sp
  rw [← er13]
  replace sp : Sep H15 n16 (oN a1_ r13.1 :: oI a2_ a.sites :: oS a4_ a.outer :: oW a5_ a.inner :: K0) ((n5, 2) :: ids0) := sp
  have hid : ∀ i ∈ ids0, H15 i = H0 i := fun i hi => (hfr17 i (by simp [hi])).trans (hid i hi)
  have hnn : n0 ≤ n16 := by omega
  have hq_n16 := hnn
  have m2_9 : H15 (n5, 2) = some ⟨6, [[int a.roots, a1_, a2_, int a.edges, a4_, a5_]]⟩ := (hfr17 _ (by simp)).trans (by simp [h1, h2, m2_9, Heap.get_set])
  simp [h1, h2, m2_9, f14, GNode.cells, Wire.cells, intC, sliceC, strC, -cellsA, -one1, cAx, o1x]
  refine hk' _ _ _ ?_
  refine Runs.cut (fun ρ H n => ρ 1 = int r13.2 ∧ ρ 2 = .ptr (n5, 2) 1 0 0 ∧ H (n5, 2) = some ⟨6, [[int a.roots, a1_, a2_, int a.edges, a4_, a5_]]⟩ ∧ n0 ≤ n ∧ (∀ i ∈ ids0, H i = H0 i) ∧ Sep H n (oN a1_ r13.1 :: oI a2_ a.sites :: oS a4_ a.outer :: oW a5_ a.inner :: K0) ((n5, 2) :: ids0)) (by refine ⟨?_, ?_, ?_, (by omega), hid, (Sep.f3 (Sep.f3 (Sep.f3 (Sep.f3 sp))))⟩ <;> simp [h1, h2, m2_9, f14, GNode.cells, Wire.cells, intC, sliceC, strC, -cellsA, -one1, cAx, o1x]) ?_
  clear h1 h2 m2_9
  rintro ρ H n20 ⟨h1, h2, m2_9, hnn, hid, sp⟩
  have hq_n20 := hnn
  refine Runs.seqE Ty_ok (by decide) fun k' hk' => ?_
  obtain ⟨hb21, h⟩ := h
  obtain ⟨r22, er22⟩ : ∃ v : (List Int) × Int, v = markIntS a.sites r13.2 := ⟨_, rfl⟩
  replace h := h r22 er22
  have f23 := Sep.oc (Sep.f1 sp)
  simp [h1, h2, m2_9, f23, GNode.cells, Wire.cells, intC, sliceC, strC, -cellsA, -one1, cAx, o1x]
  refine RunK.callM (v := a2_) Ty_ok (markIntS_ok a.sites r13.2 hb21) e26 (Sep.f1 sp) (by decide) (by decide) rfl (by simp [h1, h2, m2_9, f23, GNode.cells, Wire.cells, intC, sliceC, strC, -cellsA, -one1, cAx, o1x]) ?_
  rintro _ H24 n25 _ ⟨rfl, rfl⟩ sp hle27 hfr26
  rw [← er22] at sp
  rw [← er22]
  replace sp : Sep H24 n25 (oI a2_ r22.1 :: oN a1_ r13.1 :: oS a4_ a.outer :: oW a5_ a.inner :: K0) ((n5, 2) :: ids0) := sp
  have hid : ∀ i ∈ ids0, H24 i = H0 i := fun i hi => (hfr26 i (by simp [hi])).trans (hid i hi)
  have hnn : n0 ≤ n25 := by omega
  have hq_n25 := hnn
  have m2_9 : H24 (n5, 2) = some ⟨6, [[int a.roots, a1_, a2_, int a.edges, a4_, a5_]]⟩ := (hfr26 _ (by simp)).trans (by simp [h1, h2, m2_9, Heap.get_set])
  simp [h1, h2, m2_9, f23, GNode.cells, Wire.cells, intC, sliceC, strC, -cellsA, -one1, cAx, o1x]
  refine hk' _ _ _ ?_
  refine Runs.cut (fun ρ H n => ρ 1 = int r22.2 ∧ ρ 2 = .ptr (n5, 2) 1 0 0 ∧ H (n5, 2) = some ⟨6, [[int a.roots, a1_, a2_, int a.edges, a4_, a5_]]⟩ ∧ n0 ≤ n ∧ (∀ i ∈ ids0, H i = H0 i) ∧ Sep H n (oI a2_ r22.1 :: oN a1_ r13.1 :: oS a4_ a.outer :: oW a5_ a.inner :: K0) ((n5, 2) :: ids0)) (by refine ⟨?_, ?_, ?_, (by omega), hid, (Sep.f3 (Sep.f3 (Sep.f3 (Sep.f3 sp))))⟩ <;> simp [h1, h2, m2_9, f23, GNode.cells, Wire.cells, intC, sliceC, strC, -cellsA, -one1, cAx, o1x]) ?_
  clear h1 h2 m2_9
  rintro ρ H n29 ⟨h1, h2, m2_9, hnn, hid, sp⟩
  have hq_n29 := hnn
  refine Runs.seqE Ty_ok (by decide) fun k' hk' => ?_
  obtain ⟨hb30, h⟩ := h
  obtain ⟨r31, er31⟩ : ∃ v : (List Str) × Int, v = markStringS a.outer r22.2 := ⟨_, rfl⟩
  replace h := h r31 er31
  have f32 := Sep.oc (Sep.f2 sp)
  simp [h1, h2, m2_9, f32, GNode.cells, Wire.cells, intC, sliceC, strC, -cellsA, -one1, cAx, o1x]
  refine RunK.callM (v := a4_) Ty_ok (markStringS_ok a.outer r22.2 hb30) e27 (Sep.f2 sp) (by decide) (by decide) rfl (by simp [h1, h2, m2_9, f32, GNode.cells, Wire.cells, intC, sliceC, strC, -cellsA, -one1, cAx, o1x]) ?_
  rintro _ H33 n34 _ ⟨rfl, rfl⟩ sp hle36 hfr35
  rw [← er31] at sp
  rw [← er31]
  replace sp : Sep H33 n34 (oS a4_ r31.1 :: oI a2_ r22.1 :: oN a1_ r13.1 :: oW a5_ a.inner :: K0) ((n5, 2) :: ids0) := sp
  have hid : ∀ i ∈ ids0, H33 i = H0 i := fun i hi => (hfr35 i (by simp [hi])).trans (hid i hi)
  have hnn : n0 ≤ n34 := by omega
  have hq_n34 := hnn
  have m2_9 : H33 (n5, 2) = some ⟨6, [[int a.roots, a1_, a2_, int a.edges, a4_, a5_]]⟩ := (hfr35 _ (by simp)).trans (by simp [h1, h2, m2_9, Heap.get_set])
  simp [h1, h2, m2_9, f32, GNode.cells, Wire.cells, intC, sliceC, strC, -cellsA, -one1, cAx, o1x]
  refine hk' _ _ _ ?_
  refine Runs.cut (fun ρ H n => ρ 1 = int r31.2 ∧ ρ 2 = .ptr (n5, 2) 1 0 0 ∧ H (n5, 2) = some ⟨6, [[int a.roots, a1_, a2_, int a.edges, a4_, a5_]]⟩ ∧ n0 ≤ n ∧ (∀ i ∈ ids0, H i = H0 i) ∧ Sep H n (oS a4_ r31.1 :: oI a2_ r22.1 :: oN a1_ r13.1 :: oW a5_ a.inner :: K0) ((n5, 2) :: ids0)) (by refine ⟨?_, ?_, ?_, (by omega), hid, (Sep.f3 (Sep.f3 (Sep.f3 (Sep.f3 sp))))⟩ <;> simp [h1, h2, m2_9, f32, GNode.cells, Wire.cells, intC, sliceC, strC, -cellsA, -one1, cAx, o1x]) ?_
  clear h1 h2 m2_9
  rintro ρ H n38 ⟨h1, h2, m2_9, hnn, hid, sp⟩
  have hq_n38 := hnn
  refine Runs.seqE Ty_ok (by decide) fun k' hk' => ?_
  obtain ⟨hb39, h⟩ := h
  obtain ⟨r40, er40⟩ : ∃ v : (List Wire) × Int, v = markWireS a.inner r31.2 := ⟨_, rfl⟩
  replace h := h r40 er40
  have f41 := Sep.oc (Sep.f3 sp)
  simp [h1, h2, m2_9, f41, GNode.cells, Wire.cells, intC, sliceC, strC, -cellsA, -one1, cAx, o1x]
  refine RunK.callM (v := a5_) Ty_ok (markWireS_ok a.inner r31.2 hb39) e28 (Sep.f3 sp) (by decide) (by decide) rfl (by simp [h1, h2, m2_9, f41, GNode.cells, Wire.cells, intC, sliceC, strC, -cellsA, -one1, cAx, o1x]) ?_
  rintro _ H42 n43 _ ⟨rfl, rfl⟩ sp hle45 hfr44
  rw [← er40] at sp
  rw [← er40]
  replace sp : Sep H42 n43 (oW a5_ r40.1 :: oS a4_ r31.1 :: oI a2_ r22.1 :: oN a1_ r13.1 :: K0) ((n5, 2) :: ids0) := sp
  have hid : ∀ i ∈ ids0, H42 i = H0 i := fun i hi => (hfr44 i (by simp [hi])).trans (hid i hi)
  have hnn : n0 ≤ n43 := by omega
  have hq_n43 := hnn
  have m2_9 : H42 (n5, 2) = some ⟨6, [[int a.roots, a1_, a2_, int a.edges, a4_, a5_]]⟩ := (hfr44 _ (by simp)).trans (by simp [h1, h2, m2_9, Heap.get_set])
  simp [h1, h2, m2_9, f41, GNode.cells, Wire.cells, intC, sliceC, strC, -cellsA, -one1, cAx, o1x]
  refine hk' _ _ _ ?_
  refine Runs.cut (fun ρ H n => ρ 1 = int r40.2 ∧ n0 ≤ n ∧ (∀ i ∈ ids0, H i = H0 i) ∧ Sep H n (oW a5_ r40.1 :: oS a4_ r31.1 :: oI a2_ r22.1 :: oN a1_ r13.1 :: K0) (ids0)) (by refine ⟨?_, (by omega), hid, (Sep.sub (Sep.f3 (Sep.f3 (Sep.f3 (Sep.f3 sp)))) (by simp +contextual))⟩ <;> simp [h1, h2, m2_9, f41, GNode.cells, Wire.cells, intC, sliceC, strC, -cellsA, -one1, cAx, o1x]) ?_
  clear h1 h2 m2_9
  rintro ρ H n47 ⟨h1, hnn, hid, sp⟩
  have hq_n47 := hnn
  refine Runs.seqE Ty_ok (by decide) fun k' hk' => ?_
  simp [h1, GNode.cells, Wire.cells, intC, sliceC, strC]
  refine hk' _ _ _ ?_
  exact Runs.ret1 (v := int r40.2) Tryd.func11 Tryd.results11 (by simp [h1, GNode.cells, Wire.cells, intC, sliceC, strC]) (hQ _ _ _ _ (Sep.sub (Sep.pack (Fill.v _ (Fill.own (Fill.own (Fill.v _ (Fill.own (Fill.own Fill.nil)))))) (Sep.f3 (Sep.f2 (Sep.f1 sp)))) (by simp +contextual)) hid (by omega) ⟨((Big.mk a.roots r13.1 r22.1 a.edges r31.1 r40.1), r40.2), h, rfl, rfl⟩)

theorem markBig_ok (a : Big) (k_ : Int) (hp : markBig_pre a k_) : MutS Tryd.prog 11 (fun v => [v, int k_]) (.a [.c, .s [.c, .c, .s [.c]], .s [.c], .c, .s [.c], .s [.c, .c]]) (.agg [int a.roots, .list true (a.nodes.map (GNode.cells true)), .list true (a.sites.map intC), int a.edges, .list true (a.outer.map strC), .list true (a.inner.map Wire.cells)]) (fun e' r => e' = .agg [int (((markBig a k_).1).roots), .list true ((((markBig a k_).1).nodes).map (GNode.cells true)), .list true ((((markBig a k_).1).sites).map intC), int (((markBig a k_).1).edges), .list true ((((markBig a k_).1).outer).map strC), .list true ((((markBig a k_).1).inner).map Wire.cells)] ∧ r = int ((markBig a k_).2)) := (markBig_walk a k_ _ (markBig_vc a k_ hp)).mono (by rintro _ _ ⟨_, rfl, rfl, rfl⟩; exact ⟨rfl, rfl⟩)

theorem e12 : Ent Tryd.prog 12 := Ent.of Tryd.func12 (by kernel_rfl) rfl
theorem heldBig_walk (a : Big) (k_ : Int) (Z : Int → Prop) (h : heldBig_wp a k_ Z) : PureC Tryd.prog 12 [.agg [int a.roots, .list false (a.nodes.map (GNode.cells false)), .list false (a.sites.map intC), int a.edges, .list false (a.outer.map strC), .list false (a.inner.map Wire.cells)], int k_] (fun r => ∃ y : Int, Z y ∧ r = int y) := by
  unfold heldBig_wp at h
  refine PureC.of Tryd.func12 rfl Tryd.ntmps12 (by simp) fun Q hQ => ?_
  refine Runs.cut (fun ρ H n => ρ 0 = .agg [int a.roots, .list false (a.nodes.map (GNode.cells false)), .list false (a.sites.map intC), int a.edges, .list false (a.outer.map strC), .list false (a.inner.map Wire.cells)] ∧ ρ 1 = int k_) (by refine ⟨?_, ?_⟩ <;> simp [GNode.cells, Wire.cells, intC, sliceC, strC]) ?_
  rintro ρ H n1 ⟨h0, h1⟩
  refine Runs.seqE Ty_ok (by decide) fun k' hk' => ?_
  simp [h0, h1, GNode.cells, Wire.cells, intC, sliceC, strC]
  refine hk' _ _ _ ?_
  refine Runs.cut (fun ρ H n => ρ 1 = int k_ ∧ ρ 2 = .ptr (n1, 2) 1 0 0 ∧ H (n1, 2) = some ⟨6, [[int a.roots, .list false (a.nodes.map (GNode.cells false)), .list false (a.sites.map intC), int a.edges, .list false (a.outer.map strC), .list false (a.inner.map Wire.cells)]]⟩) (by refine ⟨?_, ?_, ?_⟩ <;> simp [h0, h1, GNode.cells, Wire.cells, intC, sliceC, strC]) ?_
  clear h0 h1
  rintro ρ H n3 ⟨h1, h2, m2_1⟩
  refine Runs.seqE Ty_ok (by decide) fun k' hk' => ?_
  obtain ⟨hb4, h⟩ := h
  obtain ⟨r5, er5⟩ : ∃ v : Int, v = heldNodeS a.nodes k_ := ⟨_, rfl⟩
  replace h := h r5 er5
  simp [h1, h2, m2_1, GNode.cells, Wire.cells, intC, sliceC, strC]
  refine RunK.callA Ty_ok (heldNodeS_ok a.nodes k_ hb4) e29 (.cons (ArgOk.nest_Node false a.nodes) (.cons (.v _ _ _) .nil)) (by decide) (by decide) rfl (by simp [h1, h2, m2_1, GNode.cells, Wire.cells, intC, sliceC, strC]) ?_
  rintro _ rfl
  rw [← er5]
  simp [h1, h2, m2_1, GNode.cells, Wire.cells, intC, sliceC, strC]
  refine hk' _ _ _ ?_
  refine Runs.seq ?_
  refine Runs.seqE Ty_ok (by decide) fun k' hk' => ?_
  obtain ⟨c6, ec6⟩ : ∃ v : Bool, v = decide (r5 < 0) := ⟨_, rfl⟩
  replace h := h c6 ec6
  have f7 := ib_lss (k := .i64) ec6
  simp [h1, h2, m2_1, f7, GNode.cells, Wire.cells, intC, sliceC, strC, -intBin]
  refine hk' _ _ _ ?_
  refine Runs.ite (b := c6) (by simp [h1, h2, m2_1, GNode.cells, Wire.cells, intC, sliceC, strC]) (fun dc6 => ?_) (fun dc6 => ?_)
  · replace h := h.1 dc6
    refine Runs.seqE Ty_ok (by decide) fun k' hk' => ?_
    simp [h1, h2, m2_1, dc6, GNode.cells, Wire.cells, intC, sliceC, strC]
    refine hk' _ _ _ ?_
    exact Runs.ret1 (v := int (-1)) Tryd.func12 Tryd.results12 (by simp [h1, h2, m2_1, dc6, GNode.cells, Wire.cells, intC, sliceC, strC]) (hQ _ _ _ _ (.of (.v _)) ⟨(-1), h, rfl⟩)
  · replace h := h.2 dc6
    refine Runs.skip ?_
    refine Runs.seqE Ty_ok (by decide) fun k' hk' => ?_
    obtain ⟨hb8, h⟩ := h
    obtain ⟨r9, er9⟩ : ∃ v : Int, v = heldIntS a.sites r5 := ⟨_, rfl⟩
    replace h := h r9 er9
    simp [h1, h2, m2_1, dc6, GNode.cells, Wire.cells, intC, sliceC, strC]
    refine RunK.callA Ty_ok (heldIntS_ok a.sites r5 hb8) e30 (.cons (ArgOk.listF (fr := false) (els := a.sites.map intC) (by simp [intC])) (.cons (.v _ _ _) .nil)) (by decide) (by decide) rfl (by simp [h1, h2, m2_1, dc6, GNode.cells, Wire.cells, intC, sliceC, strC]) ?_
    rintro _ rfl
    rw [← er9]
    simp [h1, h2, m2_1, dc6, GNode.cells, Wire.cells, intC, sliceC, strC]
    refine hk' _ _ _ ?_
    refine Runs.seq ?_
    refine Runs.seqE Ty_ok (by decide) fun k' hk' => ?_
    obtain ⟨c10, ec10⟩ : ∃ v : Bool, v = decide (r9 < 0) := ⟨_, rfl⟩
    replace h := h c10 ec10
    have f11 := ib_lss (k := .i64) ec10
    simp [h1, h2, m2_1, f11, dc6, GNode.cells, Wire.cells, intC, sliceC, strC, -intBin]
    refine hk' _ _ _ ?_
    refine Runs.ite (b := c10) (by simp [h1, h2, m2_1, dc6, GNode.cells, Wire.cells, intC, sliceC, strC]) (fun dc10 => ?_) (fun dc10 => ?_)
    · replace h := h.1 dc10
      refine Runs.seqE Ty_ok (by decide) fun k' hk' => ?_
      simp [h1, h2, m2_1, dc6, dc10, GNode.cells, Wire.cells, intC, sliceC, strC]
      refine hk' _ _ _ ?_
      refine Runs.cut (fun ρ H n => ρ 4 = int (-1)) (by simp [h1, h2, m2_1, dc6, dc10, GNode.cells, Wire.cells, intC, sliceC, strC]) ?_
      clear h1 h2 m2_1
      rintro ρ H n12 h4
      exact Runs.ret1 (v := int (-1)) Tryd.func12 Tryd.results12 (by simp [h4, dc6, dc10, GNode.cells, Wire.cells, intC, sliceC, strC]) (hQ _ _ _ _ (.of (.v _)) ⟨(-1), h, rfl⟩)
    · replace h := h.2 dc10
      refine Runs.skip ?_
      refine Runs.seqE Ty_ok (by decide) fun k' hk' => ?_
      obtain ⟨hb13, h⟩ := h
      obtain ⟨r14, er14⟩ : ∃ v : Int, v = heldStringS a.outer r9 := ⟨_, rfl⟩
      replace h := h r14 er14
      simp [h1, h2, m2_1, dc6, dc10, GNode.cells, Wire.cells, intC, sliceC, strC]
      refine RunK.callA Ty_ok (heldStringS_ok a.outer r9 hb13) e31 (.cons (ArgOk.listF (fr := false) (els := a.outer.map strC) (by simp [strC])) (.cons (.v _ _ _) .nil)) (by decide) (by decide) rfl (by simp [h1, h2, m2_1, dc6, dc10, GNode.cells, Wire.cells, intC, sliceC, strC]) ?_
      rintro _ rfl
      rw [← er14]
      simp [h1, h2, m2_1, dc6, dc10, GNode.cells, Wire.cells, intC, sliceC, strC]
      refine hk' _ _ _ ?_
      refine Runs.cut (fun ρ H n => ρ 1 = int r14 ∧ ρ 2 = .ptr (n1, 2) 1 0 0 ∧ H (n1, 2) = some ⟨6, [[int a.roots, .list false (a.nodes.map (GNode.cells false)), .list false (a.sites.map intC), int a.edges, .list false (a.outer.map strC), .list false (a.inner.map Wire.cells)]]⟩) (by refine ⟨?_, ?_, ?_⟩ <;> simp [h1, h2, m2_1, dc6, dc10, GNode.cells, Wire.cells, intC, sliceC, strC]) ?_
      clear h1 h2 m2_1
      rintro ρ H n15 ⟨h1, h2, m2_1⟩
      refine Runs.seq ?_
      refine Runs.seqE Ty_ok (by decide) fun k' hk' => ?_
      obtain ⟨c16, ec16⟩ : ∃ v : Bool, v = decide (r14 < 0) := ⟨_, rfl⟩
      replace h := h c16 ec16
      have f17 := ib_lss (k := .i64) ec16
      simp [h1, h2, m2_1, f17, dc6, dc10, GNode.cells, Wire.cells, intC, sliceC, strC, -intBin]
      refine hk' _ _ _ ?_
      refine Runs.ite (b := c16) (by simp [h1, h2, m2_1, dc6, dc10, GNode.cells, Wire.cells, intC, sliceC, strC]) (fun dc16 => ?_) (fun dc16 => ?_)
      · replace h := h.1 dc16
        refine Runs.seqE Ty_ok (by decide) fun k' hk' => ?_
        simp [h1, h2, m2_1, dc6, dc10, dc16, GNode.cells, Wire.cells, intC, sliceC, strC]
        refine hk' _ _ _ ?_
        exact Runs.ret1 (v := int (-1)) Tryd.func12 Tryd.results12 (by simp [h1, h2, m2_1, dc6, dc10, dc16, GNode.cells, Wire.cells, intC, sliceC, strC]) (hQ _ _ _ _ (.of (.v _)) ⟨(-1), h, rfl⟩)
      · replace h := h.2 dc16
        refine Runs.skip ?_
        refine Runs.seqE Ty_ok (by decide) fun k' hk' => ?_
        obtain ⟨hb18, h⟩ := h
        obtain ⟨r19, er19⟩ : ∃ v : Int, v = heldWireS a.inner r14 := ⟨_, rfl⟩
        replace h := h r19 er19
        simp [h1, h2, m2_1, dc6, dc10, dc16, GNode.cells, Wire.cells, intC, sliceC, strC]
        refine RunK.callA Ty_ok (heldWireS_ok a.inner r14 hb18) e32 (.cons (ArgOk.listF (fr := false) (els := a.inner.map Wire.cells) (by simp [Wire.cells, strC, intC])) (.cons (.v _ _ _) .nil)) (by decide) (by decide) rfl (by simp [h1, h2, m2_1, dc6, dc10, dc16, GNode.cells, Wire.cells, intC, sliceC, strC]) ?_
        rintro _ rfl
        rw [← er19]
        simp [h1, h2, m2_1, dc6, dc10, dc16, GNode.cells, Wire.cells, intC, sliceC, strC]
        refine hk' _ _ _ ?_
        refine Runs.seq ?_
        refine Runs.seqE Ty_ok (by decide) fun k' hk' => ?_
        obtain ⟨c20, ec20⟩ : ∃ v : Bool, v = decide (r19 < 0) := ⟨_, rfl⟩
        replace h := h c20 ec20
        have f21 := ib_lss (k := .i64) ec20
        simp [h1, h2, m2_1, f21, dc6, dc10, dc16, GNode.cells, Wire.cells, intC, sliceC, strC, -intBin]
        refine hk' _ _ _ ?_
        refine Runs.ite (b := c20) (by simp [h1, h2, m2_1, dc6, dc10, dc16, GNode.cells, Wire.cells, intC, sliceC, strC]) (fun dc20 => ?_) (fun dc20 => ?_)
        · replace h := h.1 dc20
          refine Runs.seqE Ty_ok (by decide) fun k' hk' => ?_
          simp [h1, h2, m2_1, dc6, dc10, dc16, dc20, GNode.cells, Wire.cells, intC, sliceC, strC]
          refine hk' _ _ _ ?_
          exact Runs.ret1 (v := int (-1)) Tryd.func12 Tryd.results12 (by simp [h1, h2, m2_1, dc6, dc10, dc16, dc20, GNode.cells, Wire.cells, intC, sliceC, strC]) (hQ _ _ _ _ (.of (.v _)) ⟨(-1), h, rfl⟩)
        · replace h := h.2 dc20
          refine Runs.skip ?_
          refine Runs.seqE Ty_ok (by decide) fun k' hk' => ?_
          simp [h1, h2, m2_1, dc6, dc10, dc16, dc20, GNode.cells, Wire.cells, intC, sliceC, strC]
          refine hk' _ _ _ ?_
          exact Runs.ret1 (v := int r19) Tryd.func12 Tryd.results12 (by simp [h1, h2, m2_1, dc6, dc10, dc16, dc20, GNode.cells, Wire.cells, intC, sliceC, strC]) (hQ _ _ _ _ (.of (.v _)) ⟨r19, h, rfl⟩)

theorem heldBig_ok (a : Big) (k_ : Int) (hp : heldBig_pre a k_) : PureC Tryd.prog 12 [.agg [int a.roots, .list false (a.nodes.map (GNode.cells false)), .list false (a.sites.map intC), int a.edges, .list false (a.outer.map strC), .list false (a.inner.map Wire.cells)], int k_] (fun r => r = int (heldBig a k_)) := (heldBig_walk a k_ _ (heldBig_vc a k_ hp)).mono (by rintro _ ⟨_, rfl, rfl⟩; rfl)
end Go.Ab.Vg

/- Walks by program for YthahiicfnadamaaDoorAbCo. -/
namespace Go.Ab.Vg
open Go.Proofs
set_option maxRecDepth 100000
set_option linter.unusedSimpArgs false
set_option linter.unusedVariables false
theorem e49 : Ent Tryd.prog 49 := Ent.of Tryd.func49 (by kernel_rfl) rfl

theorem sortStr_ok (l : List Str) (h : l.length ≤ 1073741824) : MutS Tryd.prog 49 (fun v => [v]) (.s [.c]) (.list true (l.map strC)) (fun e r => e = .list true ((sortT l).1.map strC) ∧ r = .tup []) := MutS.sort (by omega) (fun blk off cap w hH hb => Tryd.slices_Sort_string blk off cap l w hH hb (by omega)) (fun w => (Tryd.slices_Sort_string_none none 0 w).mono (by rintro e w' ⟨h1, h2⟩; exact ⟨h1, h2 ▸ Go.RowKit.Below.refl _ _⟩))
end Go.Ab.Vg

/- Walks by program for YthahiicfnadamaaDoorAbMp. -/
namespace Go.Ab.Vg
open Go.Proofs
set_option maxRecDepth 100000
set_option linter.unusedSimpArgs false
set_option linter.unusedVariables false
theorem e24 : Ent Tryd.prog 24 := Ent.of Tryd.func24 (by kernel_rfl) rfl
theorem markAmbS_walk (a : List AmbNode) (k_ : Int) (Z : ((List AmbNode) × Int) → Prop) (h : markAmbS_wp a k_ Z) : MutS Tryd.prog 24 (fun v => [v, int k_]) (.s [.c, .c, .c]) (.list true (a.map AmbNode.cells)) (fun e' r => ∃ y : (List AmbNode) × Int, Z y ∧ e' = .list true (y.1.map AmbNode.cells) ∧ r = int y.2) := by
  unfold markAmbS_wp at h
  refine MutS.of Tryd.func24 rfl Tryd.ntmps24 (fun _ => by simp) fun H0 n0 v0 K0 ids0 sp Q hQ => ?_
  have h00 := sp.1
  have hid : ∀ i ∈ ids0, H0 i = H0 i := fun _ _ => rfl
  have hnn : n0 ≤ n0 := Nat.le_refl _
  refine Runs.cut (fun ρ H n => ρ 0 = v0 ∧ ρ 1 = int k_ ∧ n0 ≤ n ∧ (∀ i ∈ ids0, H i = H0 i) ∧ Sep H n (oE [.c, .c, .c] AmbNode.cells v0 a :: K0) (ids0)) (by refine ⟨?_, ?_, (by omega), hid, sp⟩ <;> simp [AmbNode.cells, intC, strC]) ?_
  rintro ρ H n2 ⟨h0, h1, hnn, hid, sp⟩
  have hq_n2 := hnn
  refine Runs.seqE Ty_ok (by decide) fun k' hk' => ?_
  simp [h0, h1, AmbNode.cells, intC, strC]
  refine hk' _ _ _ ?_
  refine Runs.seq ?_
  refine Runs.seqE Ty_ok (by decide) fun k' hk' => ?_
  simp [h0, h1, AmbNode.cells, intC, strC]
  refine hk' _ _ _ ?_
  refine Runs.block ?_
  refine Runs.loopW h (fun (sJ : Int × Int × (List AmbNode)) ρ H n => match sJ with | (k10, i11, l12) => ρ 0 = v0 ∧ ρ 1 = int k10 ∧ ρ 5 = int i11 ∧ n0 ≤ n ∧ (∀ i ∈ ids0, H i = H0 i) ∧ Sep H n (oE [.c, .c, .c] AmbNode.cells v0 l12 :: K0) (ids0)) (by refine ⟨?_, ?_, ?_, (by omega), hid, sp⟩ <;> simp [h0, h1, AmbNode.cells, intC, strC]) ?_
  clear h0 h1
  rintro ⟨k10, i11, l12⟩ ρ H n13 K h ⟨h0, h1, h5, hnn, hid, sp⟩ IH14
  have hq_n13 := hnn
  refine Runs.seq ?_
  refine Runs.seqE Ty_ok (by decide) fun k' hk' => ?_
  obtain ⟨len16, elen16⟩ : ∃ v : Int, v = (l12.length : Int) := ⟨_, rfl⟩
  replace h := h len16 elen16
  have f17 := len_own (Sep.len (m := len16) sp kd_34 (by rw [elen16, List.length_map]))
  obtain ⟨c18, ec18⟩ : ∃ v : Bool, v = decide (i11 < len16) := ⟨_, rfl⟩
  replace h := h c18 ec18
  have f19 := ib_lss (k := .i64) ec18
  simp [h0, h1, h5, f17, f19, AmbNode.cells, intC, strC, -intBin, -lenF]
  refine hk' _ _ _ ?_
  refine Runs.ite (b := c18) (by simp [h0, h1, h5, AmbNode.cells, intC, strC]) (fun dc18 => ?_) (fun dc18 => ?_)
  · replace h := h.1 dc18
    refine Runs.skip ?_
    refine Runs.seq ?_
    refine Runs.block ?_
    refine Runs.seqE Ty_ok (by decide) fun k' hk' => ?_
    obtain ⟨hb20, h⟩ := h
    obtain ⟨id21, hv, mo22, ln23, ni24⟩ := Sep.openF sp (by simp) hb20
    subst hv
    obtain ⟨x25, ex25⟩ : ∃ v : AmbNode, v = at' l12 i11 := ⟨_, rfl⟩
    replace h := h x25 ex25
    have f26 := fun H (hm : H id21 = some ⟨3, l12.map AmbNode.cells⟩) => ix_arr (H := H) (k := .i64) (off := 0) (len := l12.length) (g := l12.length) kd_34 hm (by simp) rfl hb20
    have f27 := at_some (q := i11.toNat) hb20 ex25 rfl
    obtain ⟨l28, el28⟩ : ∃ v : List AmbNode, v = l12.set i11.toNat (AmbNode.mk k10 x25.name x25.parent) := ⟨_, rfl⟩
    replace h := h l28 el28
    simp [h0, h1, h5, mo22, f26, f27, dc18, AmbNode.cells, intC, strC, -indexAddrF, -storeF]
    refine bind_field (i := ty3) (q := i11.toNat) (off := 0) (new := [int k10]) (ix := i11) (x := x25) (y := (AmbNode.mk k10 x25.name x25.parent)) (f := AmbNode.cells) sp (by simp) (by simp) hb20 ex25 rfl rfl (fun _ => rfl) (by simp [AmbNode.cells, intC, strC]) (by simp) (by simp [splice, AmbNode.cells, intC, strC]) (by simp) ?_
    rintro H29 sp hfr30
    replace sp : Sep H29 n13 (oE [.c, .c, .c] AmbNode.cells (.arr id21 l12.length 0 l12.length) l28 :: K0) (ids0) := by rw [el28]; exact sp
    have hid : ∀ i ∈ ids0, H29 i = H0 i := fun i hi => (hfr30 i (by simp [hi])).trans (hid i hi)
    simp [h0, h1, h5, f26, f27, dc18, AmbNode.cells, intC, strC, -indexAddrF]
    refine hk' _ _ _ ?_
    refine Runs.cut (fun ρ H n => ρ 0 = .arr id21 l12.length 0 l12.length ∧ ρ 1 = int k10 ∧ ρ 5 = int i11 ∧ n0 ≤ n ∧ (∀ i ∈ ids0, H i = H0 i) ∧ Sep H n (oE [.c, .c, .c] AmbNode.cells (.arr id21 l12.length 0 l12.length) l28 :: K0) (ids0)) (by refine ⟨?_, ?_, ?_, (by omega), hid, sp⟩ <;> simp [h0, h1, h5, f26, f27, dc18, AmbNode.cells, intC, strC, -indexAddrF]) ?_
    clear h0 h1 h5
    rintro ρ H n32 ⟨h0, h1, h5, hnn, hid, sp⟩
    have hq_n32 := hnn
    refine Runs.seqE Ty_ok (by decide) fun k' hk' => ?_
    obtain ⟨hb33, h⟩ := h
    obtain ⟨v34, ev34⟩ : ∃ v : Int, v = k10 + 1 := ⟨_, rfl⟩
    replace h := h v34 ev34
    have f35 := ib_add hb33 ev34
    simp [h0, h1, h5, f35, dc18, AmbNode.cells, intC, strC, -intBin]
    refine hk' _ _ _ ?_
    refine Runs.seqE Ty_ok (by decide) fun k' hk' => ?_
    obtain ⟨hb36, h⟩ := h
    obtain ⟨r37, er37⟩ : ∃ v : Str, v = markTxt v34 := ⟨_, rfl⟩
    replace h := h r37 er37
    simp [h0, h1, h5, dc18, AmbNode.cells, intC, strC]
    refine RunK.callA Ty_ok (markTxt_ok v34 hb36) e46 (.cons (.v _ _ _) .nil) (by decide) (by decide) rfl (by simp [h0, h1, h5, dc18, AmbNode.cells, intC, strC]) ?_
    rintro _ rfl
    rw [← er37]
    obtain ⟨hb38, h⟩ := h
    obtain ⟨id39, hv, mo40, ln41, ni42⟩ := Sep.openF sp (by simp) hb38
    simp only [AVal.arr.injEq] at hv
    obtain ⟨hv, hln43, -⟩ := hv
    subst hv
    have hlshln43 := hln43.symm
    obtain ⟨x44, ex44⟩ : ∃ v : AmbNode, v = at' l28 i11 := ⟨_, rfl⟩
    replace h := h x44 ex44
    have f45 := fun H (hm : H id21 = some ⟨3, l28.map AmbNode.cells⟩) => ix_arr (H := H) (k := .i64) (off := 0) (len := l12.length) (g := l12.length) kd_34 hm (by simp [hln43]) rfl (by rw [hln43]; exact hb38)
    have f46 := at_some (q := i11.toNat) hb38 ex44 rfl
    obtain ⟨l47, el47⟩ : ∃ v : List AmbNode, v = l28.set i11.toNat (AmbNode.mk x44.kind r37 x44.parent) := ⟨_, rfl⟩
    replace h := h l47 el47
    simp [h0, h1, h5, hlshln43, mo40, f45, f46, dc18, AmbNode.cells, intC, strC, -indexAddrF, -storeF]
    refine bind_field (i := ty9) (q := i11.toNat) (off := 1) (new := [str r37]) (ix := i11) (x := x44) (y := (AmbNode.mk x44.kind r37 x44.parent)) (f := AmbNode.cells) sp (by simp) (by simp) hb38 ex44 rfl hln43 (fun _ => rfl) (by simp [AmbNode.cells, intC, strC]) (by simp) (by simp [splice, AmbNode.cells, intC, strC]) (by simp) ?_
    rintro H48 sp hfr49
    replace sp : Sep H48 n32 (oE [.c, .c, .c] AmbNode.cells (.arr id21 l12.length 0 l12.length) l47 :: K0) (ids0) := by rw [el47]; exact sp
    have hid : ∀ i ∈ ids0, H48 i = H0 i := fun i hi => (hfr49 i (by simp [hi])).trans (hid i hi)
    simp [h0, h1, h5, hlshln43, f45, f46, dc18, AmbNode.cells, intC, strC, -indexAddrF]
    refine hk' _ _ _ ?_
    refine Runs.cut (fun ρ H n => ρ 0 = .arr id21 l12.length 0 l12.length ∧ ρ 1 = int v34 ∧ ρ 5 = int i11 ∧ n0 ≤ n ∧ (∀ i ∈ ids0, H i = H0 i) ∧ Sep H n (oE [.c, .c, .c] AmbNode.cells (.arr id21 l12.length 0 l12.length) l47 :: K0) (ids0)) (by refine ⟨?_, ?_, ?_, (by omega), hid, sp⟩ <;> simp [h0, h1, h5, hlshln43, f45, f46, dc18, AmbNode.cells, intC, strC, -indexAddrF]) ?_
    clear h0 h1 h5 hlshln43
    rintro ρ H n51 ⟨h0, h1, h5, hnn, hid, sp⟩
    have hq_n51 := hnn
    refine Runs.seqE Ty_ok (by decide) fun k' hk' => ?_
    obtain ⟨hb52, h⟩ := h
    obtain ⟨v53, ev53⟩ : ∃ v : Int, v = v34 + 1 := ⟨_, rfl⟩
    replace h := h v53 ev53
    have f54 := ib_add hb52 ev53
    simp [h0, h1, h5, f54, dc18, AmbNode.cells, intC, strC, -intBin]
    refine hk' _ _ _ ?_
    refine Runs.seqE Ty_ok (by decide) fun k' hk' => ?_
    obtain ⟨hb55, h⟩ := h
    obtain ⟨id56, hv, mo57, ln58, ni59⟩ := Sep.openF sp (by simp) hb55
    simp only [AVal.arr.injEq] at hv
    obtain ⟨hv, hln60, -⟩ := hv
    subst hv
    have hlshln60 := hln60.symm
    obtain ⟨x61, ex61⟩ : ∃ v : AmbNode, v = at' l47 i11 := ⟨_, rfl⟩
    replace h := h x61 ex61
    have f62 := fun H (hm : H id21 = some ⟨3, l47.map AmbNode.cells⟩) => ix_arr (H := H) (k := .i64) (off := 0) (len := l12.length) (g := l12.length) kd_34 hm (by simp [hln60]) rfl (by rw [hln60]; exact hb55)
    have f63 := at_some (q := i11.toNat) hb55 ex61 rfl
    obtain ⟨l64, el64⟩ : ∃ v : List AmbNode, v = l47.set i11.toNat (AmbNode.mk x61.kind x61.name v53) := ⟨_, rfl⟩
    replace h := h l64 el64
    simp [h0, h1, h5, hlshln60, mo57, f62, f63, dc18, AmbNode.cells, intC, strC, -indexAddrF, -storeF]
    refine bind_field (i := ty3) (q := i11.toNat) (off := 2) (new := [int v53]) (ix := i11) (x := x61) (y := (AmbNode.mk x61.kind x61.name v53)) (f := AmbNode.cells) sp (by simp) (by simp) hb55 ex61 rfl hln60 (fun _ => rfl) (by simp [AmbNode.cells, intC, strC]) (by simp) (by simp [splice, AmbNode.cells, intC, strC]) (by simp) ?_
    rintro H65 sp hfr66
    replace sp : Sep H65 n51 (oE [.c, .c, .c] AmbNode.cells (.arr id21 l12.length 0 l12.length) l64 :: K0) (ids0) := by rw [el64]; exact sp
    have hid : ∀ i ∈ ids0, H65 i = H0 i := fun i hi => (hfr66 i (by simp [hi])).trans (hid i hi)
    simp [h0, h1, h5, hlshln60, f62, f63, dc18, AmbNode.cells, intC, strC, -indexAddrF]
    refine hk' _ _ _ ?_
    refine Runs.cut (fun ρ H n => ρ 0 = .arr id21 l12.length 0 l12.length ∧ ρ 1 = int v53 ∧ ρ 5 = int i11 ∧ n0 ≤ n ∧ (∀ i ∈ ids0, H i = H0 i) ∧ Sep H n (oE [.c, .c, .c] AmbNode.cells (.arr id21 l12.length 0 l12.length) l64 :: K0) (ids0)) (by refine ⟨?_, ?_, ?_, (by omega), hid, sp⟩ <;> simp [h0, h1, h5, hlshln60, f62, f63, dc18, AmbNode.cells, intC, strC, -indexAddrF]) ?_
    clear h0 h1 h5 hlshln60
    rintro ρ H n68 ⟨h0, h1, h5, hnn, hid, sp⟩
    have hq_n68 := hnn
    refine Runs.evalE Ty_ok (by decide) fun k' hk' => ?_
    obtain ⟨hb69, h⟩ := h
    obtain ⟨v70, ev70⟩ : ∃ v : Int, v = v53 + 1 := ⟨_, rfl⟩
    replace h := h v70 ev70
    have f71 := ib_add hb69 ev70
    simp [h0, h1, h5, f71, dc18, AmbNode.cells, intC, strC, -intBin]
    refine hk' _ _ _ ?_
    refine Runs.inBlock ?_
    refine Runs.evalE Ty_ok (by decide) fun k' hk' => ?_
    obtain ⟨hb72, h⟩ := h
    obtain ⟨v73, ev73⟩ : ∃ v : Int, v = i11 + 1 := ⟨_, rfl⟩
    replace h := h v73 ev73
    have f74 := ib_add hb72 ev73
    simp [h0, h1, h5, f74, dc18, AmbNode.cells, intC, strC, -intBin]
    refine hk' _ _ _ ?_
    refine IH14 (v70, v73, l64) _ _ _ h (by refine ⟨?_, ?_, ?_, (by omega), hid, sp⟩ <;> simp [h0, h1, h5, dc18, AmbNode.cells, intC, strC])
  · replace h := h.2 dc18
    refine Runs.exit rfl ?_
    refine Runs.seqE Ty_ok (by decide) fun k' hk' => ?_
    simp [h0, h1, h5, dc18, AmbNode.cells, intC, strC]
    refine hk' _ _ _ ?_
    exact Runs.ret1 (v := int k10) Tryd.func24 Tryd.results24 (by simp [h0, h1, h5, dc18, AmbNode.cells, intC, strC]) (hQ _ _ _ _ (Sep.sub sp (by simp +contextual)) hid (by omega) ⟨(l12, k10), h, rfl, rfl⟩)

theorem markAmbS_ok (a : List AmbNode) (k_ : Int) (hp : markAmbS_pre a k_) : MutS Tryd.prog 24 (fun v => [v, int k_]) (.s [.c, .c, .c]) (.list true (a.map AmbNode.cells)) (fun e' r => e' = .list true (((markAmbS a k_).1).map AmbNode.cells) ∧ r = int ((markAmbS a k_).2)) := (markAmbS_walk a k_ _ (markAmbS_vc a k_ hp)).mono (by rintro _ _ ⟨_, rfl, rfl, rfl⟩; exact ⟨rfl, rfl⟩)

theorem e10 : Ent Tryd.prog 10 := Ent.of Tryd.func10 (by kernel_rfl) rfl
theorem markProcess_walk (a : Proc) (k_ : Int) (Z : (Proc × Int) → Prop) (h : markProcess_wp a k_ Z) : MutS Tryd.prog 10 (fun v => [v, int k_]) (.a [.s [.c, .c, .c]]) (.agg [.list true (a.map AmbNode.cells)]) (fun e' r => ∃ y : Proc × Int, Z y ∧ e' = .agg [.list true (y.1.map AmbNode.cells)] ∧ r = int y.2) := by
  unfold markProcess_wp at h
  refine MutS.of Tryd.func10 rfl Tryd.ntmps10 (fun _ => by simp) fun H0 n0 v0 K0 ids0 sp Q hQ => ?_
  have h00 := sp.1
  have hid : ∀ i ∈ ids0, H0 i = H0 i := fun _ _ => rfl
  have hnn : n0 ≤ n0 := Nat.le_refl _
  replace sp := Sep.unpack sp
  obtain ⟨L0, hv, hl0, sp⟩ := sp
  subst hv
  obtain ⟨a0_, hv⟩ := len1 (by simpa using hl0)
  subst hv
  simp only [zip3, List.cons_append, List.nil_append] at sp
  replace sp := Sep.rot sp
  try simp only [List.cons_append, List.nil_append, List.append_assoc] at sp
  replace sp := Sep.swap (K1 := K0) sp
  simp only [List.cons_append, List.nil_append] at sp
  refine Runs.cut (fun ρ H n => ρ 0 = .agg [a0_] ∧ ρ 1 = int k_ ∧ n0 ≤ n ∧ (∀ i ∈ ids0, H i = H0 i) ∧ Sep H n (oE [.c, .c, .c] AmbNode.cells a0_ a :: K0) (ids0)) (by refine ⟨?_, ?_, (by omega), hid, sp⟩ <;> simp [AmbNode.cells, intC, strC]) ?_
  rintro ρ H n2 ⟨h0, h1, hnn, hid, sp⟩
  have hq_n2 := hnn
  refine Runs.seqE Ty_ok (by decide) fun k' hk' => ?_
  have f3 := Sep.oc sp
  simp [h0, h1, f3, AmbNode.cells, intC, strC, -cellsA, -one1, cAx, o1x]
  refine hk' _ _ _ ?_
  refine Runs.cut (fun ρ H n => ρ 1 = int k_ ∧ ρ 2 = .ptr (n2, 2) 1 0 0 ∧ H (n2, 2) = some ⟨1, [[a0_]]⟩ ∧ n0 ≤ n ∧ (∀ i ∈ ids0, H i = H0 i) ∧ Sep H n (oE [.c, .c, .c] AmbNode.cells a0_ a :: K0) ((n2, 2) :: ids0)) (by refine ⟨?_, ?_, ?_, (by omega), (by intro i hi; have hlt := h00 i hi; repeat (first | exact hid i hi | rw [Heap.get_set_ne _ _ (by rintro rfl; simp at hlt; omega)])), (Sep.var sp)⟩ <;> simp [h0, h1, f3, AmbNode.cells, intC, strC, -cellsA, -one1, cAx, o1x]) ?_
  clear h0 h1
  rintro ρ H n5 ⟨h1, h2, m2_3, hnn, hid, sp⟩
  have hq_n5 := hnn
  refine Runs.seqE Ty_ok (by decide) fun k' hk' => ?_
  obtain ⟨hb6, h⟩ := h
  obtain ⟨r7, er7⟩ : ∃ v : (List AmbNode) × Int, v = markAmbS a k_ := ⟨_, rfl⟩
  replace h := h r7 er7
  have f8 := Sep.oc sp
  simp [h1, h2, m2_3, f8, AmbNode.cells, intC, strC, -cellsA, -one1, cAx, o1x]
  refine RunK.callM (v := a0_) Ty_ok (markAmbS_ok a k_ hb6) e24 sp (by decide) (by decide) rfl (by simp [h1, h2, m2_3, f8, AmbNode.cells, intC, strC, -cellsA, -one1, cAx, o1x]) ?_
  rintro _ H9 n10 _ ⟨rfl, rfl⟩ sp hle12 hfr11
  rw [← er7] at sp
  rw [← er7]
  replace sp : Sep H9 n10 (oE [.c, .c, .c] AmbNode.cells a0_ r7.1 :: K0) ((n2, 2) :: ids0) := sp
  have hid : ∀ i ∈ ids0, H9 i = H0 i := fun i hi => (hfr11 i (by simp [hi])).trans (hid i hi)
  have hnn : n0 ≤ n10 := by omega
  have hq_n10 := hnn
  have m2_3 : H9 (n2, 2) = some ⟨1, [[a0_]]⟩ := (hfr11 _ (by simp)).trans (by simp [h1, h2, m2_3, Heap.get_set])
  simp [h1, h2, m2_3, f8, AmbNode.cells, intC, strC, -cellsA, -one1, cAx, o1x]
  refine hk' _ _ _ ?_
  refine Runs.cut (fun ρ H n => ρ 1 = int r7.2 ∧ n0 ≤ n ∧ (∀ i ∈ ids0, H i = H0 i) ∧ Sep H n (oE [.c, .c, .c] AmbNode.cells a0_ r7.1 :: K0) (ids0)) (by refine ⟨?_, (by omega), hid, (Sep.sub sp (by simp +contextual))⟩ <;> simp [h1, h2, m2_3, f8, AmbNode.cells, intC, strC, -cellsA, -one1, cAx, o1x]) ?_
  clear h1 h2 m2_3
  rintro ρ H n14 ⟨h1, hnn, hid, sp⟩
  have hq_n14 := hnn
  refine Runs.seqE Ty_ok (by decide) fun k' hk' => ?_
  simp [h1, AmbNode.cells, intC, strC]
  refine hk' _ _ _ ?_
  exact Runs.ret1 (v := int r7.2) Tryd.func10 Tryd.results10 (by simp [h1, AmbNode.cells, intC, strC]) (hQ _ _ _ _ (Sep.sub (Sep.pack (Fill.own Fill.nil) sp) (by simp +contextual)) hid (by omega) ⟨(r7.1, r7.2), h, rfl, rfl⟩)

theorem markProcess_ok (a : Proc) (k_ : Int) (hp : markProcess_pre a k_) : MutS Tryd.prog 10 (fun v => [v, int k_]) (.a [.s [.c, .c, .c]]) (.agg [.list true (a.map AmbNode.cells)]) (fun e' r => e' = .agg [.list true (((markProcess a k_).1).map AmbNode.cells)] ∧ r = int ((markProcess a k_).2)) := (markProcess_walk a k_ _ (markProcess_vc a k_ hp)).mono (by rintro _ _ ⟨_, rfl, rfl, rfl⟩; exact ⟨rfl, rfl⟩)

theorem e38 : Ent Tryd.prog 38 := Ent.of Tryd.func38 (by kernel_rfl) rfl
theorem toAmbNode_walk (a : AmbNode) (Z : AmbNode → Prop) (h : toAmbNode_wp a Z) : PureC Tryd.prog 38 [.agg [int a.kind, str a.name, int a.parent]] (fun r => ∃ y : AmbNode, Z y ∧ r = .agg [int y.kind, str y.name, int y.parent]) := by
  unfold toAmbNode_wp at h
  refine PureC.of Tryd.func38 rfl Tryd.ntmps38 (by simp) fun Q hQ => ?_
  refine Runs.cut (fun ρ H n => ρ 0 = .agg [int a.kind, str a.name, int a.parent]) (by simp []) ?_
  rintro ρ H n1 h0
  refine Runs.seqE Ty_ok (by decide) fun k' hk' => ?_
  simp [h0]
  refine hk' _ _ _ ?_
  refine Runs.cut (fun ρ H n => ρ 1 = .ptr (n1, 1) 1 0 0 ∧ ρ 2 = .ptr (n1 + 1, 2) 1 0 0 ∧ H (n1, 1) = some ⟨3, [[int a.kind, str a.name, int a.parent]]⟩ ∧ H (n1 + 1, 2) = some ⟨3, [[int 0, str [], int 0]]⟩) (by refine ⟨?_, ?_, ?_, ?_⟩ <;> simp [h0]) ?_
  clear h0
  rintro ρ H n4 ⟨h1, h2, m1_1, m2_2⟩
  refine Runs.seqE Ty_ok (by decide) fun k' hk' => ?_
  simp [h1, h2, m1_1, m2_2]
  refine hk' _ _ _ ?_
  refine Runs.cut (fun ρ H n => ρ 1 = .ptr (n1, 1) 1 0 0 ∧ ρ 2 = .ptr (n1 + 1, 2) 1 0 0 ∧ ρ 3 = .ptr (n4, 3) 1 0 0 ∧ H (n1, 1) = some ⟨3, [[int a.kind, str a.name, int a.parent]]⟩ ∧ H (n1 + 1, 2) = some ⟨3, [[int 0, str [], int 0]]⟩ ∧ H (n4, 3) = some ⟨3, [[int 0, str [], int 0]]⟩) (by refine ⟨?_, ?_, ?_, ?_, ?_, ?_⟩ <;> simp [h1, h2, m1_1, m2_2]) ?_
  clear h1 h2 m1_1 m2_2
  rintro ρ H n6 ⟨h1, h2, h3, m1_1, m2_2, m3_4⟩
  refine Runs.seqE Ty_ok (by decide) fun k' hk' => ?_
  simp [h1, h2, h3, m1_1, m2_2, m3_4]
  refine hk' _ _ _ ?_
  refine Runs.cut (fun ρ H n => ρ 1 = .ptr (n1, 1) 1 0 0 ∧ ρ 2 = .ptr (n1 + 1, 2) 1 0 0 ∧ ρ 3 = .ptr (n4, 3) 1 0 0 ∧ H (n1, 1) = some ⟨3, [[int a.kind, str a.name, int a.parent]]⟩ ∧ H (n1 + 1, 2) = some ⟨3, [[int 0, str [], int 0]]⟩ ∧ H (n4, 3) = some ⟨3, [[int a.kind, str [], int 0]]⟩) (by refine ⟨?_, ?_, ?_, ?_, ?_, ?_⟩ <;> simp [h1, h2, h3, m1_1, m2_2, m3_4]) ?_
  clear h1 h2 h3 m1_1 m2_2 m3_4
  rintro ρ H n7 ⟨h1, h2, h3, m1_1, m2_2, m3_4⟩
  refine Runs.seqE Ty_ok (by decide) fun k' hk' => ?_
  simp [h1, h2, h3, m1_1, m2_2, m3_4]
  refine hk' _ _ _ ?_
  refine Runs.cut (fun ρ H n => ρ 1 = .ptr (n1, 1) 1 0 0 ∧ ρ 2 = .ptr (n1 + 1, 2) 1 0 0 ∧ ρ 3 = .ptr (n4, 3) 1 0 0 ∧ H (n1, 1) = some ⟨3, [[int a.kind, str a.name, int a.parent]]⟩ ∧ H (n1 + 1, 2) = some ⟨3, [[int 0, str [], int 0]]⟩ ∧ H (n4, 3) = some ⟨3, [[int a.kind, str a.name, int 0]]⟩) (by refine ⟨?_, ?_, ?_, ?_, ?_, ?_⟩ <;> simp [h1, h2, h3, m1_1, m2_2, m3_4]) ?_
  clear h1 h2 h3 m1_1 m2_2 m3_4
  rintro ρ H n8 ⟨h1, h2, h3, m1_1, m2_2, m3_4⟩
  refine Runs.seqE Ty_ok (by decide) fun k' hk' => ?_
  simp [h1, h2, h3, m1_1, m2_2, m3_4]
  refine hk' _ _ _ ?_
  refine Runs.cut (fun ρ H n => ρ 2 = .ptr (n1 + 1, 2) 1 0 0 ∧ ρ 3 = .ptr (n4, 3) 1 0 0 ∧ H (n1 + 1, 2) = some ⟨3, [[int 0, str [], int 0]]⟩ ∧ H (n4, 3) = some ⟨3, [[int a.kind, str a.name, int a.parent]]⟩) (by refine ⟨?_, ?_, ?_, ?_⟩ <;> simp [h1, h2, h3, m1_1, m2_2, m3_4]) ?_
  clear h1 h2 h3 m1_1 m2_2 m3_4
  rintro ρ H n9 ⟨h2, h3, m2_2, m3_4⟩
  refine Runs.seqE Ty_ok (by decide) fun k' hk' => ?_
  simp [h2, h3, m2_2, m3_4]
  refine hk' _ _ _ ?_
  refine Runs.cut (fun ρ H n => ρ 2 = .ptr (n1 + 1, 2) 1 0 0 ∧ H (n1 + 1, 2) = some ⟨3, [[int a.kind, str a.name, int a.parent]]⟩) (by refine ⟨?_, ?_⟩ <;> simp [h2, h3, m2_2, m3_4]) ?_
  clear h2 h3 m2_2 m3_4
  rintro ρ H n10 ⟨h2, m2_2⟩
  exact Runs.res1 Ty_ok (v := .agg [int a.kind, str a.name, int a.parent]) Tryd.func38 Tryd.results38 (by simp [h2, m2_2, resA]) (hQ _ _ _ _ (.of (.aggL (.cons (.v _) (.cons (.v _) (.cons (.v _) .nil))))) ⟨a, h, rfl⟩)

theorem toAmbNode_ok (a : AmbNode)  : PureC Tryd.prog 38 [.agg [int a.kind, str a.name, int a.parent]] (fun r => r = .agg [int ((toAmbNode a).kind), str ((toAmbNode a).name), int ((toAmbNode a).parent)]) := (toAmbNode_walk a _ (toAmbNode_vc a )).mono (by rintro _ ⟨_, rfl, rfl⟩; rfl)

theorem e16 : Ent Tryd.prog 16 := Ent.of Tryd.func16 (by kernel_rfl) rfl
theorem toAmbNodeS_walk (a : List AmbNode) (Z : (List AmbNode) → Prop) (h : toAmbNodeS_wp a Z) : OwnS Tryd.prog 16 [.list false (a.map AmbNode.cells)] (.s [.c, .c, .c]) (fun r => ∃ y : List AmbNode, Z y ∧ r = .list true (y.map AmbNode.cells)) := by
  unfold toAmbNodeS_wp at h
  have sp : Sep noHeap 0 [] [] := Sep.nil (by simp)
  refine OwnS.of Tryd.func16 rfl Tryd.ntmps16 (by simp) fun Q hQ => ?_
  refine Runs.cut (fun ρ H n => ρ 0 = .list false (a.map AmbNode.cells) ∧ Sep H n [] []) (by refine ⟨?_, sp⟩ <;> simp [AmbNode.cells, intC, strC]) ?_
  rintro ρ H n1 ⟨h0, sp⟩
  refine Runs.seqE Ty_ok (by decide) fun k' hk' => ?_
  simp [h0, AmbNode.cells, intC, strC]
  refine hk' _ _ _ ?_
  refine Runs.seqE Ty_ok (by decide) fun k' hk' => ?_
  obtain ⟨len2, elen2⟩ : ∃ v : Int, v = (a.length : Int) := ⟨_, rfl⟩
  replace h := h len2 elen2
  have f3 := fun H => len_list (H := H) (fr := false) (f := AmbNode.cells) kd_22 elen2
  obtain ⟨hb4, h⟩ := h
  obtain ⟨l5, el5⟩ : ∃ v : List AmbNode, v = List.replicate len2.toNat default := ⟨_, rfl⟩
  replace h := h l5 el5
  simp [h0, f3, hb4, el5, AmbNode.cells, intC, strC, -lenF]
  refine hk' _ _ _ ?_
  refine Runs.cut (fun ρ H n => ∃ (v7 : AVal), ρ 0 = .list false (a.map AmbNode.cells) ∧ ρ 3 = v7 ∧ Sep H n [oE [.c, .c, .c] AmbNode.cells v7 l5] []) (by refine ⟨.arr (n1, 7) len2.toNat 0 len2.toNat, ?_, ?_, (by rw [el5]; exact Sep.addRep (z := [int 0, str [], int 0]) (f := AmbNode.cells) (k := len2.toNat) sp (fun H => by show Row H [.c, .c, .c] [int 0, str [], int 0] [int 0, str [], int 0] []; simp [Row, Tr]))⟩ <;> simp [h0, f3, hb4, el5, AmbNode.cells, intC, strC, -lenF]) ?_
  clear h0
  rintro ρ H n8 ⟨v7, h0, h3, sp⟩
  refine Runs.seq ?_
  refine Runs.seqE Ty_ok (by decide) fun k' hk' => ?_
  simp [h0, h3, AmbNode.cells, intC, strC]
  refine hk' _ _ _ ?_
  refine Runs.block ?_
  refine Runs.loopW h (fun (sJ : Int × (List AmbNode)) ρ H n => match sJ with | (i16, l17) => ∃ (v18 : AVal), ρ 0 = .list false (a.map AmbNode.cells) ∧ ρ 3 = v18 ∧ ρ 4 = int i16 ∧ Sep H n [oE [.c, .c, .c] AmbNode.cells v18 l17] []) (by refine ⟨v7, ?_, ?_, ?_, sp⟩ <;> simp [h0, h3, AmbNode.cells, intC, strC]) ?_
  clear h0 h3
  rintro ⟨i16, l17⟩ ρ H n19 K h ⟨v18, h0, h3, h4, sp⟩ IH20
  refine Runs.seq ?_
  refine Runs.seqE Ty_ok (by decide) fun k' hk' => ?_
  obtain ⟨len22, elen22⟩ : ∃ v : Int, v = (a.length : Int) := ⟨_, rfl⟩
  replace h := h len22 elen22
  have f23 := fun H => len_list (H := H) (fr := false) (f := AmbNode.cells) kd_22 elen22
  obtain ⟨c24, ec24⟩ : ∃ v : Bool, v = decide (i16 < len22) := ⟨_, rfl⟩
  replace h := h c24 ec24
  have f25 := ib_lss (k := .i64) ec24
  simp [h0, h3, h4, f23, f25, AmbNode.cells, intC, strC, -intBin, -lenF]
  refine hk' _ _ _ ?_
  refine Runs.ite (b := c24) (by simp [h0, h3, h4, AmbNode.cells, intC, strC]) (fun dc24 => ?_) (fun dc24 => ?_)
  · replace h := h.1 dc24
    refine Runs.skip ?_
    refine Runs.seq ?_
    refine Runs.block ?_
    refine Runs.evalE Ty_ok (by decide) fun k' hk' => ?_
    obtain ⟨hb26, h⟩ := h
    obtain ⟨x27, ex27⟩ : ∃ v : AmbNode, v = at' a i16 := ⟨_, rfl⟩
    replace h := h x27 ex27
    have f28 := fun H => ix_list (H := H) (fr := false) (f := AmbNode.cells) (k := .i64) kd_22 (fun _ => rfl) hb26 ex27
    obtain ⟨r29, er29⟩ : ∃ v : AmbNode, v = toAmbNode x27 := ⟨_, rfl⟩
    replace h := h r29 er29
    simp [h0, h3, h4, f28, dc24, AmbNode.cells, intC, strC, -indexAddrF]
    refine RunK.callA Ty_ok (toAmbNode_ok x27 ) e38 (.cons (ArgOk.agg (.cons (.v _ _ _) (.cons (.v _ _ _) (.cons (.v _ _ _) .nil)))) .nil) (by decide) (by decide) rfl (by simp [h0, h3, h4, f28, dc24, AmbNode.cells, intC, strC, -indexAddrF]) ?_
    rintro _ rfl
    rw [← er29]
    obtain ⟨hb30, h⟩ := h
    obtain ⟨id31, hv, mo32, ln33, ni34⟩ := Sep.openF sp (by simp) hb30
    subst hv
    obtain ⟨x35, ex35⟩ : ∃ v : AmbNode, v = at' l17 i16 := ⟨_, rfl⟩
    replace h := h x35 ex35
    have f36 := fun H (hm : H id31 = some ⟨3, l17.map AmbNode.cells⟩) => ix_arr (H := H) (k := .i64) (off := 0) (len := l17.length) (g := l17.length) kd_34 hm (by simp) rfl hb30
    have f37 := at_some (q := i16.toNat) hb30 ex35 rfl
    obtain ⟨l38, el38⟩ : ∃ v : List AmbNode, v = l17.set i16.toNat r29 := ⟨_, rfl⟩
    replace h := h l38 el38
    simp [h0, h3, h4, mo32, f28, f36, f37, dc24, AmbNode.cells, intC, strC, -indexAddrF, -storeF]
    refine bind_store (q := i16.toNat) (news := AmbNode.cells r29) [] [] sp (by simp) (by simp; omega) (by simp) (by simp [-one1, o1x]) (Fill.v _ (Fill.v _ (Fill.v _ Fill.nil))) ?_
    rintro H39 sp hfr40
    replace sp : Sep H39 n19 [oE [.c, .c, .c] AmbNode.cells (.arr id31 l17.length 0 l17.length) l38] [] := Sep.st el38 sp
    simp [h0, h3, h4, f28, f36, f37, dc24, AmbNode.cells, intC, strC, -indexAddrF]
    refine hk' _ _ _ ?_
    refine Runs.cut (fun ρ H n => ∃ (v42 : AVal), ρ 0 = .list false (a.map AmbNode.cells) ∧ ρ 3 = v42 ∧ ρ 4 = int i16 ∧ Sep H n [oE [.c, .c, .c] AmbNode.cells v42 l38] []) (by refine ⟨.arr id31 l17.length 0 l17.length, ?_, ?_, ?_, sp⟩ <;> simp [h0, h3, h4, f28, f36, f37, dc24, AmbNode.cells, intC, strC, -indexAddrF]) ?_
    clear h0 h3 h4
    rintro ρ H n43 ⟨v42, h0, h3, h4, sp⟩
    refine Runs.inBlock ?_
    refine Runs.evalE Ty_ok (by decide) fun k' hk' => ?_
    obtain ⟨hb44, h⟩ := h
    obtain ⟨v45, ev45⟩ : ∃ v : Int, v = i16 + 1 := ⟨_, rfl⟩
    replace h := h v45 ev45
    have f46 := ib_add hb44 ev45
    simp [h0, h3, h4, f46, dc24, AmbNode.cells, intC, strC, -intBin]
    refine hk' _ _ _ ?_
    refine IH20 (v45, l38) _ _ _ h (by refine ⟨v42, ?_, ?_, ?_, sp⟩ <;> simp [h0, h3, h4, dc24, AmbNode.cells, intC, strC])
  · replace h := h.2 dc24
    refine Runs.exit rfl ?_
    refine Runs.seqE Ty_ok (by decide) fun k' hk' => ?_
    simp [h0, h3, h4, dc24, AmbNode.cells, intC, strC]
    refine hk' _ _ _ ?_
    exact Runs.ret1 (v := v18) Tryd.func16 Tryd.results16 (by simp [h0, h3, h4, dc24, AmbNode.cells, intC, strC]) (hQ _ _ _ _ (Sep.sub (ids' := []) sp (by simp)) ⟨l17, h, rfl⟩)

theorem toAmbNodeS_ok (a : List AmbNode) (hp : toAmbNodeS_pre a) : OwnS Tryd.prog 16 [.list false (a.map AmbNode.cells)] (.s [.c, .c, .c]) (fun r => r = .list true ((toAmbNodeS a).map AmbNode.cells)) := (toAmbNodeS_walk a _ (toAmbNodeS_vc a hp)).mono (by rintro _ ⟨_, rfl, rfl⟩; rfl)

theorem e6 : Ent Tryd.prog 6 := Ent.of Tryd.func6 (by kernel_rfl) rfl
theorem toProcess_walk (a : Proc) (Z : Proc → Prop) (h : toProcess_wp a Z) : OwnS Tryd.prog 6 [.agg [.list false (a.map AmbNode.cells)]] (.a [.s [.c, .c, .c]]) (fun r => ∃ y : Proc, Z y ∧ r = .agg [.list true (y.map AmbNode.cells)]) := by
  unfold toProcess_wp at h
  have sp : Sep noHeap 0 [] [] := Sep.nil (by simp)
  refine OwnS.of Tryd.func6 rfl Tryd.ntmps6 (by simp) fun Q hQ => ?_
  refine Runs.cut (fun ρ H n => ρ 0 = .agg [.list false (a.map AmbNode.cells)] ∧ Sep H n [] []) (by refine ⟨?_, sp⟩ <;> simp [AmbNode.cells, intC, strC]) ?_
  rintro ρ H n1 ⟨h0, sp⟩
  refine Runs.seqE Ty_ok (by decide) fun k' hk' => ?_
  simp [h0, AmbNode.cells, intC, strC]
  refine hk' _ _ _ ?_
  refine Runs.cut (fun ρ H n => ρ 1 = .ptr (n1, 1) 1 0 0 ∧ ρ 2 = .ptr (n1 + 1, 2) 1 0 0 ∧ H (n1, 1) = some ⟨1, [[.list false (a.map AmbNode.cells)]]⟩ ∧ H (n1 + 1, 2) = some ⟨1, [[.v (.slice none 0 0)]]⟩ ∧ Sep H n [] [(n1 + 1, 2), (n1, 1)]) (by refine ⟨?_, ?_, ?_, ?_, (Sep.var (Sep.var sp))⟩ <;> simp [h0, AmbNode.cells, intC, strC]) ?_
  clear h0
  rintro ρ H n4 ⟨h1, h2, m1_1, m2_2, sp⟩
  refine Runs.seqE Ty_ok (by decide) fun k' hk' => ?_
  simp [h1, h2, m1_1, m2_2, AmbNode.cells, intC, strC]
  refine hk' _ _ _ ?_
  refine Runs.cut (fun ρ H n => ρ 1 = .ptr (n1, 1) 1 0 0 ∧ ρ 2 = .ptr (n1 + 1, 2) 1 0 0 ∧ ρ 3 = .ptr (n4, 3) 1 0 0 ∧ H (n1, 1) = some ⟨1, [[.list false (a.map AmbNode.cells)]]⟩ ∧ H (n1 + 1, 2) = some ⟨1, [[.v (.slice none 0 0)]]⟩ ∧ H (n4, 3) = some ⟨1, [[.v (.slice none 0 0)]]⟩ ∧ Sep H n [] [(n4, 3), (n1 + 1, 2), (n1, 1)]) (by refine ⟨?_, ?_, ?_, ?_, ?_, ?_, (Sep.var sp)⟩ <;> simp [h1, h2, m1_1, m2_2, AmbNode.cells, intC, strC]) ?_
  clear h1 h2 m1_1 m2_2
  rintro ρ H n6 ⟨h1, h2, h3, m1_1, m2_2, m3_4, sp⟩
  refine Runs.seqE Ty_ok (by decide) fun k' hk' => ?_
  obtain ⟨hb7, h⟩ := h
  obtain ⟨r8, er8⟩ : ∃ v : List AmbNode, v = toAmbNodeS a := ⟨_, rfl⟩
  replace h := h r8 er8
  simp [h1, h2, h3, m1_1, m2_2, m3_4, AmbNode.cells, intC, strC]
  refine RunK.callW Ty_ok (toAmbNodeS_ok a hb7) e16 (.cons (ArgOk.listF (fr := false) (els := a.map AmbNode.cells) (by simp [AmbNode.cells, intC, strC, intC])) .nil) sp (by decide) (by decide) rfl (by simp [h1, h2, h3, m1_1, m2_2, m3_4, AmbNode.cells, intC, strC]) ?_
  rintro v9 H10 n11 _ sp rfl hle13 hfr12
  rw [← er8] at sp
  have m1_1 : H10 (n1, 1) = some ⟨1, [[.list false (a.map AmbNode.cells)]]⟩ := (hfr12 _ (by simp)).trans (by simp [h1, h2, h3, m1_1, m2_2, m3_4, Heap.get_set])
  have m2_2 : H10 (n1 + 1, 2) = some ⟨1, [[.v (.slice none 0 0)]]⟩ := (hfr12 _ (by simp)).trans (by simp [h1, h2, h3, m1_1, m2_2, m3_4, Heap.get_set])
  have m3_4 : H10 (n4, 3) = some ⟨1, [[.v (.slice none 0 0)]]⟩ := (hfr12 _ (by simp)).trans (by simp [h1, h2, h3, m1_1, m2_2, m3_4, Heap.get_set])
  have f16 := Sep.oc sp
  simp [h1, h2, h3, m1_1, m2_2, m3_4, f16, AmbNode.cells, intC, strC, -cellsA, -one1, cAx, o1x]
  refine hk' _ _ _ ?_
  refine Runs.cut (fun ρ H n => ∃ (v17 : AVal), ρ 2 = .ptr (n1 + 1, 2) 1 0 0 ∧ ρ 3 = .ptr (n4, 3) 1 0 0 ∧ H (n1 + 1, 2) = some ⟨1, [[.v (.slice none 0 0)]]⟩ ∧ H (n4, 3) = some ⟨1, [[v17]]⟩ ∧ Sep H n [oE [.c, .c, .c] AmbNode.cells v17 r8] [(n4, 3), (n1 + 1, 2)]) (by refine ⟨v9, ?_, ?_, ?_, ?_, (Sep.sub (Sep.setVar (w := (n4, 3)) sp (by simp)) (by simp +contextual))⟩ <;> simp [h1, h2, h3, m1_1, m2_2, m3_4, f16, AmbNode.cells, intC, strC, -cellsA, -one1, cAx, o1x]) ?_
  clear h1 h2 h3 m1_1 m2_2 m3_4
  rintro ρ H n18 ⟨v17, h2, h3, m2_2, m3_4, sp⟩
  refine Runs.seqE Ty_ok (by decide) fun k' hk' => ?_
  have f19 := Sep.oc sp
  simp [h2, h3, m2_2, m3_4, f19, AmbNode.cells, intC, strC, -cellsA, -one1, cAx, o1x]
  refine hk' _ _ _ ?_
  refine Runs.cut (fun ρ H n => ∃ (v20 : AVal), ρ 2 = .ptr (n1 + 1, 2) 1 0 0 ∧ H (n1 + 1, 2) = some ⟨1, [[v20]]⟩ ∧ Sep H n [oE [.c, .c, .c] AmbNode.cells v20 r8] [(n1 + 1, 2)]) (by refine ⟨v17, ?_, ?_, (Sep.sub (Sep.setVar (w := (n1 + 1, 2)) sp (by simp)) (by simp +contextual))⟩ <;> simp [h2, h3, m2_2, m3_4, f19, AmbNode.cells, intC, strC, -cellsA, -one1, cAx, o1x]) ?_
  clear h2 h3 m2_2 m3_4
  rintro ρ H n21 ⟨v20, h2, m2_2, sp⟩
  exact Runs.res1 Ty_ok (v := .agg [v20]) Tryd.func6 Tryd.results6 (by simp [h2, m2_2, resA, AmbNode.cells, intC, strC]) (hQ _ _ _ _ (Sep.sub (ids' := []) (Sep.pack (Fill.own Fill.nil) sp) (by simp)) ⟨r8, h, rfl⟩)

theorem toProcess_ok (a : Proc) (hp : toProcess_pre a) : OwnS Tryd.prog 6 [.agg [.list false (a.map AmbNode.cells)]] (.a [.s [.c, .c, .c]]) (fun r => r = .agg [.list true ((toProcess a).map AmbNode.cells)]) := (toProcess_walk a _ (toProcess_vc a hp)).mono (by rintro _ ⟨_, rfl, rfl⟩; rfl)
end Go.Ab.Vg

/- Walks by program for YthahiicfnadamaaDoorAbEm. -/
namespace Go.Ab.Vg
open Go.Proofs
set_option maxRecDepth 100000
set_option linter.unusedSimpArgs false
set_option linter.unusedVariables false
theorem e48 : Ent Tryd.prog 48 := Ent.of Tryd.func48 (by kernel_rfl) rfl
theorem cloneS_walk (s : List Str) (Z : (List Str) → Prop) (h : cloneS_wp s Z) : OwnS Tryd.prog 48 [.list false (s.map strC)] (.s [.c]) (fun r => ∃ y : List Str, Z y ∧ r = .list true (y.map strC)) := by
  unfold cloneS_wp at h
  have sp : Sep noHeap 0 [] [] := Sep.nil (by simp)
  refine OwnS.of Tryd.func48 rfl Tryd.ntmps48 (by simp) fun Q hQ => ?_
  refine Runs.cut (fun ρ H n => ρ 0 = .list false (s.map strC) ∧ Sep H n [] []) (by refine ⟨?_, sp⟩ <;> simp [strC]) ?_
  rintro ρ H n1 ⟨h0, sp⟩
  refine Runs.seqE Ty_ok (by decide) fun k' hk' => ?_
  simp [h0, strC]
  refine hk' _ _ _ ?_
  refine Runs.seq ?_
  refine Runs.seqE Ty_ok (by decide) fun k' hk' => ?_
  simp [h0, strC]
  refine RunK.isNil (fr := false) (els := s.map strC) Ty_ok (by decide) (by decide) kd_28 (by simp [h0, strC]) (by simp [h0, strC]) ?_
  rintro c2 hc3
  replace h := h c2 (fun hq => by simpa using hc3 hq)
  simp [h0, strC]
  refine hk' _ _ _ ?_
  refine Runs.ite (b := c2) (by simp [h0, strC]) (fun dc2 => ?_) (fun dc2 => ?_)
  · replace h := h.1 dc2
    refine Runs.seqE Ty_ok (by decide) fun k' hk' => ?_
    simp [h0, dc2, strC]
    refine hk' _ _ _ ?_
    exact Runs.ret1 (v := .v (.slice none 0 0)) Tryd.func48 Tryd.results48 (by simp [h0, dc2, strC]) (hQ _ _ _ _ (Sep.sub (ids' := []) (Sep.addNil sp) (by simp)) ⟨[], h, rfl⟩)
  · replace h := h.2 dc2
    refine Runs.skip ?_
    refine Runs.seqE Ty_ok (by decide) fun k' hk' => ?_
    obtain ⟨hb6, h⟩ := h
    obtain ⟨l7, el7⟩ : ∃ v : List Str, v = ([] : List Str) ++ s := ⟨_, rfl⟩
    replace h := h l7 el7
    simp [h0, dc2, strC, -appendF]
    refine bind_append0 (s.map strC) (Sep.addEmpty (l := [.c]) sp) (by simp) kd_28 (by simp) (by simp) (by simp [srcOf, strC]) (by simp [-one1, o1x, flat, strC]) (by simpa using hb6) ?_
    rintro v8 H9 n10 sp hfr11 hle12
    replace sp : Sep H9 n10 [oS v8 l7] [] := by refine Sep.ap el7 ?_; exact sp
    simp [h0, dc2, strC]
    refine hk' _ _ _ ?_
    refine Runs.cut (fun ρ H n => ∃ (v14 : AVal), ρ 2 = v14 ∧ Sep H n [oS v14 l7] []) (by refine ⟨v8, ?_, sp⟩ <;> simp [h0, dc2, strC]) ?_
    clear h0
    rintro ρ H n15 ⟨v14, h2, sp⟩
    exact Runs.ret1 (v := v14) Tryd.func48 Tryd.results48 (by simp [h2, dc2, strC]) (hQ _ _ _ _ (Sep.sub (ids' := []) sp (by simp)) ⟨l7, h, rfl⟩)

theorem cloneS_ok (s : List Str) (hp : cloneS_pre s) : OwnS Tryd.prog 48 [.list false (s.map strC)] (.s [.c]) (fun r => r = .list true ((cloneS s).map strC)) := (cloneS_walk s _ (cloneS_vc s hp)).mono (by rintro _ ⟨_, rfl, rfl⟩; rfl)

theorem e50 : Ent Tryd.prog 50 := Ent.of Tryd.func50 (by kernel_rfl) rfl

theorem compactStr_ok (l : List Str) (h : l.length ≤ 1073741824) : TakeS Tryd.prog 50 (fun v => [v]) (.s [.c]) (.list true (l.map strC)) (.s [.c]) (fun e => e = .list true ((compactT l).map strC)) := TakeS.compact (compact_le l) (fun blk off cap w hH hc => Tryd.slices_Compact_string blk off cap l w hH (by omega) hc) (fun _ w => Tryd.slices_Compact_string_empty none 0 w)

theorem e41 : Ent Tryd.prog 41 := Ent.of Tryd.func41 (by kernel_rfl) rfl
theorem sortedNames_walk (l : List Str) (Z : (List Str) → Prop) (h : sortedNames_wp l Z) : OwnS Tryd.prog 41 [.list false (l.map strC)] (.s [.c]) (fun r => ∃ y : List Str, Z y ∧ r = .list true (y.map strC)) := by
  unfold sortedNames_wp at h
  have sp : Sep noHeap 0 [] [] := Sep.nil (by simp)
  refine OwnS.of Tryd.func41 rfl Tryd.ntmps41 (by simp) fun Q hQ => ?_
  refine Runs.cut (fun ρ H n => ρ 0 = .list false (l.map strC) ∧ Sep H n [] []) (by refine ⟨?_, sp⟩ <;> simp [strC]) ?_
  rintro ρ H n1 ⟨h0, sp⟩
  refine Runs.seqE Ty_ok (by decide) fun k' hk' => ?_
  simp [h0, strC]
  refine hk' _ _ _ ?_
  refine Runs.seqE Ty_ok (by decide) fun k' hk' => ?_
  obtain ⟨hb2, h⟩ := h
  obtain ⟨r3, er3⟩ : ∃ v : List Str, v = cloneS l := ⟨_, rfl⟩
  replace h := h r3 er3
  simp [h0, strC]
  refine RunK.callW Ty_ok (cloneS_ok l hb2) e48 (.cons (ArgOk.listF (fr := false) (els := l.map strC) (by simp [strC])) .nil) sp (by decide) (by decide) rfl (by simp [h0, strC]) ?_
  rintro v4 H5 n6 _ sp rfl hle8 hfr7
  rw [← er3] at sp
  simp [h0, strC]
  refine hk' _ _ _ ?_
  refine Runs.cut (fun ρ H n => ∃ (v11 : AVal), ρ 3 = v11 ∧ Sep H n [oS v11 r3] []) (by refine ⟨v4, ?_, sp⟩ <;> simp [h0, strC]) ?_
  clear h0
  rintro ρ H n12 ⟨v11, h3, sp⟩
  refine Runs.seqE Ty_ok (by decide) fun k' hk' => ?_
  obtain ⟨hb13, h⟩ := h
  obtain ⟨r14, er14⟩ : ∃ v : (List Str) × Unit, v = sortT r3 := ⟨_, rfl⟩
  replace h := h r14 er14
  have f15 := Sep.oc sp
  simp [h3, f15, strC, -cellsA, -one1, cAx, o1x]
  refine RunK.callM (v := v11) Ty_ok (sortStr_ok r3 hb13) e49 sp (by decide) (by decide) rfl (by simp [h3, f15, strC, -cellsA, -one1, cAx, o1x]) ?_
  rintro _ H16 n17 _ ⟨rfl, rfl⟩ sp hle19 hfr18
  rw [← er14] at sp
  replace sp : Sep H16 n17 [oS v11 r14.1] [] := sp
  simp [h3, f15, strC, -cellsA, -one1, cAx, o1x]
  refine hk' _ _ _ ?_
  refine Runs.cut (fun ρ H n => ∃ (v21 : AVal), ρ 3 = v21 ∧ Sep H n [oS v21 r14.1] []) (by refine ⟨v11, ?_, sp⟩ <;> simp [h3, f15, strC, -cellsA, -one1, cAx, o1x]) ?_
  clear h3
  rintro ρ H n22 ⟨v21, h3, sp⟩
  refine Runs.seqE Ty_ok (by decide) fun k' hk' => ?_
  obtain ⟨hb23, h⟩ := h
  obtain ⟨r24, er24⟩ : ∃ v : List Str, v = compactT r14.1 := ⟨_, rfl⟩
  replace h := h r24 er24
  simp [h3, strC]
  refine RunK.callT' (v := v21) Ty_ok (compactStr_ok r14.1 hb23) e50 sp (by decide) (by decide) rfl (by simp [h3, strC]) ?_
  rintro v25 H26 n27 _ rfl sp hle29 hfr28
  rw [← er24] at sp
  replace sp : Sep H26 n27 [oS v25 r24] [] := sp
  simp [h3, strC]
  refine hk' _ _ _ ?_
  refine Runs.cut (fun ρ H n => ∃ (v32 : AVal), ρ 2 = v32 ∧ Sep H n [oS v32 r24] []) (by refine ⟨v25, ?_, sp⟩ <;> simp [h3, strC]) ?_
  clear h3
  rintro ρ H n33 ⟨v32, h2, sp⟩
  exact Runs.ret1 (v := v32) Tryd.func41 Tryd.results41 (by simp [h2, strC]) (hQ _ _ _ _ (Sep.sub (ids' := []) sp (by simp)) ⟨r24, h, rfl⟩)

theorem sortedNames_ok (l : List Str) (hp : sortedNames_pre l) : OwnS Tryd.prog 41 [.list false (l.map strC)] (.s [.c]) (fun r => r = .list true ((sortedNames l).map strC)) := (sortedNames_walk l _ (sortedNames_vc l hp)).mono (by rintro _ ⟨_, rfl, rfl⟩; rfl)

theorem e42 : Ent Tryd.prog 42 := Ent.of Tryd.func42 (by kernel_rfl) rfl
theorem indexS_walk (s : List Str) (v_ : Str) (Z : Int → Prop) (h : indexS_wp s v_ Z) : PureC Tryd.prog 42 [.list false (s.map strC), str v_] (fun r => ∃ y : Int, Z y ∧ r = int y) := by
  unfold indexS_wp at h
  refine PureC.of Tryd.func42 rfl Tryd.ntmps42 (by simp) fun Q hQ => ?_
  refine Runs.cut (fun ρ H n => ρ 0 = .list false (s.map strC) ∧ ρ 1 = str v_) (by refine ⟨?_, ?_⟩ <;> simp [strC]) ?_
  rintro ρ H n1 ⟨h0, h1⟩
  refine Runs.seqE Ty_ok (by decide) fun k' hk' => ?_
  simp [h0, h1, strC]
  refine hk' _ _ _ ?_
  refine Runs.seq ?_
  refine Runs.seqE Ty_ok (by decide) fun k' hk' => ?_
  obtain ⟨len2, elen2⟩ : ∃ v : Int, v = (s.length : Int) := ⟨_, rfl⟩
  replace h := h len2 elen2
  have f3 := fun H => len_list (H := H) (fr := false) (f := strC) kd_28 elen2
  simp [h0, h1, f3, strC, -lenF]
  refine hk' _ _ _ ?_
  refine Runs.block ?_
  refine Runs.loopW h (fun (sJ : Int) ρ H n => match sJ with | v6 => ρ 0 = .list false (s.map strC) ∧ ρ 1 = str v_ ∧ ρ 7 = int len2 ∧ ρ 8 = int v6) (by refine ⟨?_, ?_, ?_, ?_⟩ <;> simp [h0, h1, strC]) ?_
  clear h0 h1
  rintro v6 ρ H n7 K h ⟨h0, h1, h7, h8⟩ IH8
  refine Runs.seqE Ty_ok (by decide) fun k' hk' => ?_
  obtain ⟨c10, ec10⟩ : ∃ v : Bool, v = decide (v6 < len2) := ⟨_, rfl⟩
  replace h := h c10 ec10
  have f11 := ib_lss (k := .i64) ec10
  simp [h0, h1, h7, h8, f11, strC, -intBin]
  refine hk' _ _ _ ?_
  refine Runs.seq ?_
  refine Runs.ite (b := c10) (by simp [h0, h1, h7, h8, strC]) (fun dc10 => ?_) (fun dc10 => ?_)
  · replace h := h.1 dc10
    refine Runs.skip ?_
    refine Runs.seq ?_
    refine Runs.block ?_
    refine Runs.seqE Ty_ok (by decide) fun k' hk' => ?_
    simp [h0, h1, h7, h8, dc10, strC]
    refine hk' _ _ _ ?_
    refine Runs.seqE Ty_ok (by decide) fun k' hk' => ?_
    obtain ⟨hb12, h⟩ := h
    obtain ⟨x13, ex13⟩ : ∃ v : Str, v = at' s v6 := ⟨_, rfl⟩
    replace h := h x13 ex13
    have f14 := fun H => ix_list (H := H) (fr := false) (f := strC) (k := .i64) kd_28 (fun _ => rfl) hb12 ex13
    obtain ⟨c15, ec15⟩ : ∃ v : Bool, v = decide (v_ = x13) := ⟨_, rfl⟩
    replace h := h c15 ec15
    have f16 := sb_eql ec15
    simp [h0, h1, h7, h8, f14, f16, dc10, strC, -indexAddrF, -strBin]
    refine hk' _ _ _ ?_
    refine Runs.ite (b := c15) (by simp [h0, h1, h7, h8, dc10, strC]) (fun dc15 => ?_) (fun dc15 => ?_)
    · replace h := h.1 dc15
      refine Runs.seqE Ty_ok (by decide) fun k' hk' => ?_
      simp [h0, h1, h7, h8, dc10, dc15, strC]
      refine hk' _ _ _ ?_
      exact Runs.ret1 (v := int v6) Tryd.func42 Tryd.results42 (by simp [h0, h1, h7, h8, dc10, dc15, strC]) (hQ _ _ _ _ (.of (.v _)) ⟨v6, h, rfl⟩)
    · replace h := h.2 dc15
      refine Runs.skip ?_
      refine Runs.inBlock ?_
      refine Runs.evalE Ty_ok (by decide) fun k' hk' => ?_
      obtain ⟨hb17, h⟩ := h
      obtain ⟨v18, ev18⟩ : ∃ v : Int, v = v6 + 1 := ⟨_, rfl⟩
      replace h := h v18 ev18
      have f19 := ib_add hb17 ev18
      simp [h0, h1, h7, h8, f19, dc10, dc15, strC, -intBin]
      refine hk' _ _ _ ?_
      refine IH8 (v18) _ _ _ h (by refine ⟨?_, ?_, ?_, ?_⟩ <;> simp [h0, h1, h7, h8, dc10, dc15, strC])
  · replace h := h.2 dc10
    refine Runs.exit rfl ?_
    refine Runs.seqE Ty_ok (by decide) fun k' hk' => ?_
    simp [h0, h1, h7, h8, dc10, strC]
    refine hk' _ _ _ ?_
    exact Runs.ret1 (v := int (-1)) Tryd.func42 Tryd.results42 (by simp [h0, h1, h7, h8, dc10, strC]) (hQ _ _ _ _ (.of (.v _)) ⟨(-1), h, rfl⟩)

theorem indexS_ok (s : List Str) (v_ : Str) (hp : indexS_pre s v_) : PureC Tryd.prog 42 [.list false (s.map strC), str v_] (fun r => r = int (indexS s v_)) := (indexS_walk s v_ _ (indexS_vc s v_ hp)).mono (by rintro _ ⟨_, rfl, rfl⟩; rfl)

theorem e37 : Ent Tryd.prog 37 := Ent.of Tryd.func37 (by kernel_rfl) rfl
theorem l2At_walk (list : List Str) (name : Str) (Z : Int → Prop) (h : l2At_wp list name Z) : PureC Tryd.prog 37 [.list false (list.map strC), str name] (fun r => ∃ y : Int, Z y ∧ r = int y) := by
  unfold l2At_wp at h
  refine PureC.of Tryd.func37 rfl Tryd.ntmps37 (by simp) fun Q hQ => ?_
  refine Runs.cut (fun ρ H n => ρ 0 = .list false (list.map strC) ∧ ρ 1 = str name) (by refine ⟨?_, ?_⟩ <;> simp [strC]) ?_
  rintro ρ H n1 ⟨h0, h1⟩
  refine Runs.seqE Ty_ok (by decide) fun k' hk' => ?_
  simp [h0, h1, strC]
  refine hk' _ _ _ ?_
  refine Runs.seq ?_
  refine Runs.seqE Ty_ok (by decide) fun k' hk' => ?_
  simp [h0, h1, strC]
  refine hk' _ _ _ ?_
  refine Runs.block ?_
  refine Runs.loopW h (fun (sJ : Int) ρ H n => match sJ with | i4 => ρ 0 = .list false (list.map strC) ∧ ρ 1 = str name ∧ ρ 5 = int i4) (by refine ⟨?_, ?_, ?_⟩ <;> simp [h0, h1, strC]) ?_
  clear h0 h1
  rintro i4 ρ H n5 K h ⟨h0, h1, h5⟩ IH6
  refine Runs.seq ?_
  refine Runs.seqE Ty_ok (by decide) fun k' hk' => ?_
  obtain ⟨len8, elen8⟩ : ∃ v : Int, v = (list.length : Int) := ⟨_, rfl⟩
  replace h := h len8 elen8
  have f9 := fun H => len_list (H := H) (fr := false) (f := strC) kd_28 elen8
  obtain ⟨c10, ec10⟩ : ∃ v : Bool, v = decide (i4 < len8) := ⟨_, rfl⟩
  replace h := h c10 ec10
  have f11 := ib_lss (k := .i64) ec10
  simp [h0, h1, h5, f9, f11, strC, -intBin, -lenF]
  refine hk' _ _ _ ?_
  refine Runs.ite (b := c10) (by simp [h0, h1, h5, strC]) (fun dc10 => ?_) (fun dc10 => ?_)
  · replace h := h.1 dc10
    refine Runs.skip ?_
    refine Runs.seq ?_
    refine Runs.block ?_
    refine Runs.seqE Ty_ok (by decide) fun k' hk' => ?_
    obtain ⟨hb12, h⟩ := h
    obtain ⟨x13, ex13⟩ : ∃ v : Str, v = at' list i4 := ⟨_, rfl⟩
    replace h := h x13 ex13
    have f14 := fun H => ix_list (H := H) (fr := false) (f := strC) (k := .i64) kd_28 (fun _ => rfl) hb12 ex13
    obtain ⟨c15, ec15⟩ : ∃ v : Bool, v = decide (x13 = name) := ⟨_, rfl⟩
    replace h := h c15 ec15
    have f16 := sb_eql ec15
    simp [h0, h1, h5, f14, f16, dc10, strC, -indexAddrF, -strBin]
    refine hk' _ _ _ ?_
    refine Runs.ite (b := c15) (by simp [h0, h1, h5, dc10, strC]) (fun dc15 => ?_) (fun dc15 => ?_)
    · replace h := h.1 dc15
      refine Runs.seqE Ty_ok (by decide) fun k' hk' => ?_
      simp [h0, h1, h5, dc10, dc15, strC]
      refine hk' _ _ _ ?_
      exact Runs.ret1 (v := int i4) Tryd.func37 Tryd.results37 (by simp [h0, h1, h5, dc10, dc15, strC]) (hQ _ _ _ _ (.of (.v _)) ⟨i4, h, rfl⟩)
    · replace h := h.2 dc15
      refine Runs.skip ?_
      refine Runs.inBlock ?_
      refine Runs.evalE Ty_ok (by decide) fun k' hk' => ?_
      obtain ⟨hb17, h⟩ := h
      obtain ⟨v18, ev18⟩ : ∃ v : Int, v = i4 + 1 := ⟨_, rfl⟩
      replace h := h v18 ev18
      have f19 := ib_add hb17 ev18
      simp [h0, h1, h5, f19, dc10, dc15, strC, -intBin]
      refine hk' _ _ _ ?_
      refine IH6 (v18) _ _ _ h (by refine ⟨?_, ?_, ?_⟩ <;> simp [h0, h1, h5, dc10, dc15, strC])
  · replace h := h.2 dc10
    refine Runs.exit rfl ?_
    refine Runs.seqE Ty_ok (by decide) fun k' hk' => ?_
    simp [h0, h1, h5, dc10, strC]
    refine hk' _ _ _ ?_
    exact Runs.ret1 (v := int (-1)) Tryd.func37 Tryd.results37 (by simp [h0, h1, h5, dc10, strC]) (hQ _ _ _ _ (.of (.v _)) ⟨(-1), h, rfl⟩)

theorem l2At_ok (list : List Str) (name : Str) (hp : l2At_pre list name) : PureC Tryd.prog 37 [.list false (list.map strC), str name] (fun r => r = int (l2At list name)) := (l2At_walk list name _ (l2At_vc list name hp)).mono (by rintro _ ⟨_, rfl, rfl⟩; rfl)

theorem e36 : Ent Tryd.prog 36 := Ent.of Tryd.func36 (by kernel_rfl) rfl
theorem l2Sorted_walk (list : List Str) (Z : (List Str) → Prop) (h : l2Sorted_wp list Z) : OwnS Tryd.prog 36 [.list false (list.map strC)] (.s [.c]) (fun r => ∃ y : List Str, Z y ∧ r = .list true (y.map strC)) := by
  unfold l2Sorted_wp at h
  have sp : Sep noHeap 0 [] [] := Sep.nil (by simp)
  refine OwnS.of Tryd.func36 rfl Tryd.ntmps36 (by simp) fun Q hQ => ?_
  refine Runs.cut (fun ρ H n => ρ 0 = .list false (list.map strC) ∧ Sep H n [] []) (by refine ⟨?_, sp⟩ <;> simp [strC]) ?_
  rintro ρ H n1 ⟨h0, sp⟩
  refine Runs.seqE Ty_ok (by decide) fun k' hk' => ?_
  simp [h0, strC]
  refine hk' _ _ _ ?_
  refine Runs.seqE Ty_ok (by decide) fun k' hk' => ?_
  simp [h0, strC]
  refine hk' _ _ _ ?_
  refine Runs.cut (fun ρ H n => ∃ (v3 : AVal), ρ 0 = .list false (list.map strC) ∧ ρ 3 = v3 ∧ Sep H n [oS v3 ([] : List Str)] []) (by refine ⟨.arr (n1, 6) 0 0 0, ?_, ?_, (Sep.addEmpty (l := [.c]) sp)⟩ <;> simp [h0, strC]) ?_
  clear h0
  rintro ρ H n4 ⟨v3, h0, h3, sp⟩
  refine Runs.seq ?_
  refine Runs.seqE Ty_ok (by decide) fun k' hk' => ?_
  simp [h0, h3, strC]
  refine hk' _ _ _ ?_
  refine Runs.block ?_
  refine Runs.loopW h (fun (sJ : Int × (List Str)) ρ H n => match sJ with | (i12, l13) => ∃ (v14 : AVal), ρ 0 = .list false (list.map strC) ∧ ρ 3 = v14 ∧ ρ 4 = int i12 ∧ Sep H n [oS v14 l13] []) (by refine ⟨v3, ?_, ?_, ?_, sp⟩ <;> simp [h0, h3, strC]) ?_
  clear h0 h3
  rintro ⟨i12, l13⟩ ρ H n15 K h ⟨v14, h0, h3, h4, sp⟩ IH16
  refine Runs.seq ?_
  refine Runs.seqE Ty_ok (by decide) fun k' hk' => ?_
  obtain ⟨len18, elen18⟩ : ∃ v : Int, v = (list.length : Int) := ⟨_, rfl⟩
  replace h := h len18 elen18
  have f19 := fun H => len_list (H := H) (fr := false) (f := strC) kd_28 elen18
  obtain ⟨c20, ec20⟩ : ∃ v : Bool, v = decide (i12 < len18) := ⟨_, rfl⟩
  replace h := h c20 ec20
  have f21 := ib_lss (k := .i64) ec20
  simp [h0, h3, h4, f19, f21, strC, -intBin, -lenF]
  refine hk' _ _ _ ?_
  refine Runs.ite (b := c20) (by simp [h0, h3, h4, strC]) (fun dc20 => ?_) (fun dc20 => ?_)
  · replace h := h.1 dc20
    refine Runs.skip ?_
    refine Runs.seq ?_
    refine Runs.block ?_
    refine Runs.seqE Ty_ok (by decide) fun k' hk' => ?_
    simp [h0, h3, h4, dc20, strC]
    refine hk' _ _ _ ?_
    refine Runs.seq ?_
    refine Runs.block ?_
    refine Runs.loopW h (fun (sJ : Int) ρ H n => match sJ with | k25 => ∃ (v26 : AVal), ρ 0 = .list false (list.map strC) ∧ ρ 3 = v26 ∧ ρ 4 = int i12 ∧ ρ 5 = int k25 ∧ Sep H n [oS v26 l13] []) (by refine ⟨v14, ?_, ?_, ?_, ?_, sp⟩ <;> simp [h0, h3, h4, dc20, strC]) ?_
    clear h0 h3 h4
    rintro k25 ρ H n27 K h ⟨v26, h0, h3, h4, h5, sp⟩ IH28
    refine Runs.seq ?_
    refine Runs.seqD Ty_ok kindOp_ok draws (by decide) (by kernel_rfl) fun k' hk' => ?_
    obtain ⟨J30, hJ31, hr32⟩ := h
    have fin35 : ∀ (sJ : Bool) (ρ : Env) (H : Heap) (n : Nat), J30 sJ → (match sJ with | b33 => ∃ (v34 : AVal), ρ 0 = .list false (list.map strC) ∧ ρ 3 = v34 ∧ ρ 4 = int i12 ∧ ρ 5 = int k25 ∧ ρ 27 = bool b33 ∧ Sep H n [oS v34 l13] []) → Runs Tryd.prog 36 61 k' ρ H n Q := by
      rintro b33 ρ H n36 h ⟨v34, h0, h3, h4, h5, h27, sp⟩
      replace h := hr32 _ h
      refine hk' _ _ _ ?_
      refine Runs.ite (b := b33) (by simp [h0, h3, h4, h5, h27, dc20, strC]) (fun db33 => ?_) (fun db33 => ?_)
      · replace h := h.1 db33
        refine Runs.skip ?_
        refine Runs.block ?_
        refine Runs.evalE Ty_ok (by decide) fun k' hk' => ?_
        obtain ⟨hb37, h⟩ := h
        obtain ⟨v38, ev38⟩ : ∃ v : Int, v = k25 + 1 := ⟨_, rfl⟩
        replace h := h v38 ev38
        have f39 := ib_add hb37 ev38
        simp [h0, h3, h4, h5, h27, f39, dc20, db33, strC, -intBin]
        refine hk' _ _ _ ?_
        refine Runs.inBlock ?_
        refine IH28 (v38) _ _ _ h (by refine ⟨v34, ?_, ?_, ?_, ?_, sp⟩ <;> simp [h0, h3, h4, h5, h27, dc20, db33, strC])
      · replace h := h.2 db33
        refine Runs.exit rfl ?_
        refine Runs.seqD Ty_ok kindOp_ok draws (by decide) (by kernel_rfl) fun k' hk' => ?_
        obtain ⟨J40, hJ41, hr42⟩ := h
        have fin45 : ∀ (sJ : Bool) (ρ : Env) (H : Heap) (n : Nat), J40 sJ → (match sJ with | b43 => ∃ (v44 : AVal), ρ 0 = .list false (list.map strC) ∧ ρ 3 = v44 ∧ ρ 4 = int i12 ∧ ρ 5 = int k25 ∧ ρ 44 = bool b43 ∧ Sep H n [oS v44 l13] []) → Runs Tryd.prog 36 61 k' ρ H n Q := by
          rintro b43 ρ H n46 h ⟨v44, h0, h3, h4, h5, h44, sp⟩
          replace h := hr42 _ h
          refine hk' _ _ _ ?_
          refine Runs.ite (b := b43) (by simp [h0, h3, h4, h5, h44, dc20, db33, strC]) (fun db43 => ?_) (fun db43 => ?_)
          · replace h := h.1 db43
            have hA47 := Sep.at sp (by simp)
            refine Runs.evalWE Ty_ok (watchOf v44) draws (by decide) (by kernel_rfl) fun k' hk' => ?_
            simp [h0, h3, h4, h5, h44, dc20, db33, db43, strC]
            have hA49 := (watch_set (d := 45) (o' := ⟨1, []⟩) hA47).1
            refine bindW_new (watch_set hA47).2 (by simp) ?_
            obtain ⟨hb50, h⟩ := h
            obtain ⟨l51, el51⟩ : ∃ v : List Str, v = (l13.take k25.toNat).drop 0 := ⟨_, rfl⟩
            replace h := h l51 el51
            simp [h0, h3, h4, h5, h44, dc20, db33, db43, strC, -sliceF]
            refine bindW_view (g := strC) (xs := l13) 0 k25 (fun _ h => h) (by simp [h0, h3, h4, h5, h44, dc20, db33, db43, strC]) (Sep.f1 (Sep.addEmpty (l := [.c]) sp)) (by simp) kd_28 (by simp) (by simp [boundOf]) (by simp [boundOf]) hb50 ?_
            rintro w52 hw53
            replace hw53 := hw53.trans (show _ = some (l51.map strC) by simp [el51])
            obtain ⟨hb54, h⟩ := h
            obtain ⟨l55, el55⟩ : ∃ v : List Str, v = ([] : List Str) ++ l51 := ⟨_, rfl⟩
            replace h := h l55 el55
            simp [h0, h3, h4, h5, h44, dc20, db33, db43, strC, -appendF]
            refine bindW_append0 (l51.map strC) (by simp) (Sep.addEmpty (l := [.c]) sp) (by simp) kd_28 (by simp) (by simp) hw53 (by simp [-one1, o1x, flat, strC]) (by simpa using hb54) ?_
            rintro v56 H57 n58 sp hfr59 hle60
            replace sp : Sep H57 n58 [oS v56 l55, oS v44 l13] [] := by refine Sep.ap el55 ?_; exact sp
            have hA61 := Sep.at (Sep.f1 sp) (by simp)
            refine ⟨fun i hi => ((hA61 i hi).1).trans ((hA49 i hi).1).symm, ?_⟩
            obtain ⟨hb63, h⟩ := h
            obtain ⟨x64, ex64⟩ : ∃ v : Str, v = at' list i12 := ⟨_, rfl⟩
            replace h := h x64 ex64
            have f65 := fun H => ix_list (H := H) (fr := false) (f := strC) (k := .i64) kd_28 (fun _ => rfl) hb63 ex64
            obtain ⟨hb66, h⟩ := h
            obtain ⟨l67, el67⟩ : ∃ v : List Str, v = l55 ++ [x64] := ⟨_, rfl⟩
            replace h := h l67 el67
            simp [h0, h3, h4, h5, h44, f65, dc20, db33, db43, strC, -indexAddrF, -appendF]
            refine bindW_append [] [oS v44 l13] [[str x64]] [strC x64] (by simp) sp kd_28 (by simp) (by simp) (by simp [strC]) (by simp [-one1, o1x]) (rows_one (Fill.v _ Fill.nil)) (by simp) (by simpa using hb66) ?_
            rintro v68 H69 n70 sp hfr71 hle72
            replace sp : Sep H69 n70 [oS v68 l67, oS v44 l13] [] := Sep.ap el67 sp
            have hA73 := Sep.at (Sep.f1 sp) (by simp)
            refine ⟨fun i hi => ((hA73 i hi).1).trans ((hA61 i hi).1).symm, ?_⟩
            obtain ⟨hb75, h⟩ := h
            obtain ⟨l76, el76⟩ : ∃ v : List Str, v = (l13.take (l13.length : Int).toNat).drop k25.toNat := ⟨_, rfl⟩
            replace h := h l76 el76
            simp [h0, h3, h4, h5, h44, f65, dc20, db33, db43, strC, -indexAddrF, -sliceF]
            refine bindW_view (g := strC) (xs := l13) k25 (l13.length : Int) (fun _ h => h) (by simp [h0, h3, h4, h5, h44, f65, dc20, db33, db43, strC, -indexAddrF]) (Sep.f1 sp) (by simp) kd_28 (by simp) (by simp [boundOf]) (by simp [boundOf]) hb75 ?_
            rintro w77 hw78
            replace hw78 := hw78.trans (show _ = some (l76.map strC) by simp [el76])
            obtain ⟨hb79, h⟩ := h
            obtain ⟨l80, el80⟩ : ∃ v : List Str, v = l67 ++ l76 := ⟨_, rfl⟩
            replace h := h l80 el80
            simp [h0, h3, h4, h5, h44, f65, dc20, db33, db43, strC, -indexAddrF, -appendF]
            refine bindW_append0 (l76.map strC) (by simp) sp (by simp) kd_28 (by simp) (by simp) hw78 (by simp [-one1, o1x, flat, strC]) (by simpa using hb79) ?_
            rintro v81 H82 n83 sp hfr84 hle85
            replace sp : Sep H82 n83 [oS v81 l80, oS v44 l13] [] := by refine Sep.ap el80 ?_; exact sp
            have hA86 := Sep.at (Sep.f1 sp) (by simp)
            refine ⟨fun i hi => ((hA86 i hi).1).trans ((hA73 i hi).1).symm, ?_⟩
            simp [h0, h3, h4, h5, h44, f65, dc20, db33, db43, strC, -indexAddrF]
            refine hk' _ _ _ ?_
            refine Runs.cut (fun ρ H n => ∃ (v88 : AVal), ρ 0 = .list false (list.map strC) ∧ ρ 3 = v88 ∧ ρ 4 = int i12 ∧ Sep H n [oS v88 l80] []) (by refine ⟨v81, ?_, ?_, ?_, (Sep.dr (Sep.f1 sp))⟩ <;> simp [h0, h3, h4, h5, h44, f65, dc20, db33, db43, strC, -indexAddrF]) ?_
            clear h0 h3 h4 h5 h44
            rintro ρ H n89 ⟨v88, h0, h3, h4, sp⟩
            refine Runs.inBlock ?_
            refine Runs.evalE Ty_ok (by decide) fun k' hk' => ?_
            obtain ⟨hb90, h⟩ := h
            obtain ⟨v91, ev91⟩ : ∃ v : Int, v = i12 + 1 := ⟨_, rfl⟩
            replace h := h v91 ev91
            have f92 := ib_add hb90 ev91
            simp [h0, h3, h4, f92, dc20, db33, db43, strC, -intBin]
            refine hk' _ _ _ ?_
            refine IH16 (v91, l80) _ _ _ h (by refine ⟨v88, ?_, ?_, ?_, sp⟩ <;> simp [h0, h3, h4, dc20, db33, db43, strC])
          · replace h := h.2 db43
            refine Runs.skip ?_
            refine Runs.inBlock ?_
            refine Runs.evalE Ty_ok (by decide) fun k' hk' => ?_
            obtain ⟨hb93, h⟩ := h
            obtain ⟨v94, ev94⟩ : ∃ v : Int, v = i12 + 1 := ⟨_, rfl⟩
            replace h := h v94 ev94
            have f95 := ib_add hb93 ev94
            simp [h0, h3, h4, h5, h44, f95, dc20, db33, db43, strC, -intBin]
            refine hk' _ _ _ ?_
            refine IH16 (v94, l13) _ _ _ h (by refine ⟨v44, ?_, ?_, ?_, sp⟩ <;> simp [h0, h3, h4, h5, h44, dc20, db33, db43, strC])
        replace h := hJ41
        obtain ⟨len96, elen96⟩ : ∃ v : Int, v = (l13.length : Int) := ⟨_, rfl⟩
        replace h := h len96 elen96
        have f97 := len_own (Sep.len (m := len96) sp kd_28 (by rw [elen96, List.length_map]))
        obtain ⟨c98, ec98⟩ : ∃ v : Bool, v = decide (k25 = len96) := ⟨_, rfl⟩
        replace h := h c98 ec98
        have f99 := ib_eql (k := .i64) ec98
        rcases Bool.eq_false_or_eq_true c98 with dc98 | dc98
        · replace h := h.1 dc98
          simp [h0, h3, h4, h5, h27, f97, f99, dc20, db33, dc98, strC, -intBin, -lenF]
          exact fin45 (true) _ _ _ h (by refine ⟨v34, ?_, ?_, ?_, ?_, ?_, sp⟩ <;> simp [h0, h3, h4, h5, h27, f97, f99, dc20, db33, dc98, strC, -intBin, -lenF])
        · replace h := h.2 dc98
          obtain ⟨hb100, h⟩ := h
          obtain ⟨id101, hv, mo102, ln103, ni104⟩ := Sep.openF sp (by simp) hb100
          subst hv
          obtain ⟨x105, ex105⟩ : ∃ v : Str, v = at' l13 k25 := ⟨_, rfl⟩
          replace h := h x105 ex105
          have f106 := fun H (hm : H id101 = some ⟨1, l13.map strC⟩) => ix_arr (H := H) (k := .i64) (off := 0) (len := l13.length) (g := l13.length) kd_28 hm (by simp) rfl hb100
          have f107 := at_some (q := k25.toNat) hb100 ex105 rfl
          obtain ⟨hb108, h⟩ := h
          obtain ⟨x109, ex109⟩ : ∃ v : Str, v = at' list i12 := ⟨_, rfl⟩
          replace h := h x109 ex109
          have f110 := fun H => ix_list (H := H) (fr := false) (f := strC) (k := .i64) kd_28 (fun _ => rfl) hb108 ex109
          obtain ⟨c111, ec111⟩ : ∃ v : Bool, v = decide (x105 ≠ x109) := ⟨_, rfl⟩
          replace h := h c111 ec111
          have f112 := sb_neq ec111
          simp [h0, h3, h4, h5, h27, mo102, f97, f99, f106, f107, f110, f112, dc20, db33, dc98, strC, -indexAddrF, -intBin, -lenF, -strBin]
          exact fin45 (c111) _ _ _ h (by refine ⟨.arr id101 l13.length 0 l13.length, ?_, ?_, ?_, ?_, ?_, sp⟩ <;> simp [h0, h3, h4, h5, h27, mo102, f97, f99, f106, f107, f110, f112, dc20, db33, dc98, strC, -indexAddrF, -intBin, -lenF, -strBin])
    replace h := hJ31
    obtain ⟨len113, elen113⟩ : ∃ v : Int, v = (l13.length : Int) := ⟨_, rfl⟩
    replace h := h len113 elen113
    have f114 := len_own (Sep.len (m := len113) sp kd_28 (by rw [elen113, List.length_map]))
    obtain ⟨c115, ec115⟩ : ∃ v : Bool, v = decide (k25 < len113) := ⟨_, rfl⟩
    replace h := h c115 ec115
    have f116 := ib_lss (k := .i64) ec115
    rcases Bool.eq_false_or_eq_true c115 with dc115 | dc115
    · replace h := h.1 dc115
      obtain ⟨hb117, h⟩ := h
      obtain ⟨id118, hv, mo119, ln120, ni121⟩ := Sep.openF sp (by simp) hb117
      subst hv
      obtain ⟨x122, ex122⟩ : ∃ v : Str, v = at' l13 k25 := ⟨_, rfl⟩
      replace h := h x122 ex122
      have f123 := fun H (hm : H id118 = some ⟨1, l13.map strC⟩) => ix_arr (H := H) (k := .i64) (off := 0) (len := l13.length) (g := l13.length) kd_28 hm (by simp) rfl hb117
      have f124 := at_some (q := k25.toNat) hb117 ex122 rfl
      obtain ⟨hb125, h⟩ := h
      obtain ⟨x126, ex126⟩ : ∃ v : Str, v = at' list i12 := ⟨_, rfl⟩
      replace h := h x126 ex126
      have f127 := fun H => ix_list (H := H) (fr := false) (f := strC) (k := .i64) kd_28 (fun _ => rfl) hb125 ex126
      obtain ⟨c128, ec128⟩ : ∃ v : Bool, v = Op.bytesLess x122 x126 := ⟨_, rfl⟩
      replace h := h c128 ec128
      have f129 := sb_lss ec128
      simp [h0, h3, h4, h5, mo119, f114, f116, f123, f124, f127, f129, dc20, dc115, strC, -indexAddrF, -intBin, -lenF, -strBin]
      exact fin35 (c128) _ _ _ h (by refine ⟨.arr id118 l13.length 0 l13.length, ?_, ?_, ?_, ?_, ?_, sp⟩ <;> simp [h0, h3, h4, h5, mo119, f114, f116, f123, f124, f127, f129, dc20, dc115, strC, -indexAddrF, -intBin, -lenF, -strBin])
    · replace h := h.2 dc115
      simp [h0, h3, h4, h5, f114, f116, dc20, dc115, strC, -intBin, -lenF]
      exact fin35 (false) _ _ _ h (by refine ⟨v26, ?_, ?_, ?_, ?_, ?_, sp⟩ <;> simp [h0, h3, h4, h5, f114, f116, dc20, dc115, strC, -intBin, -lenF])
  · replace h := h.2 dc20
    refine Runs.exit rfl ?_
    refine Runs.seqE Ty_ok (by decide) fun k' hk' => ?_
    simp [h0, h3, h4, dc20, strC]
    refine hk' _ _ _ ?_
    exact Runs.ret1 (v := v14) Tryd.func36 Tryd.results36 (by simp [h0, h3, h4, dc20, strC]) (hQ _ _ _ _ (Sep.sub (ids' := []) sp (by simp)) ⟨l13, h, rfl⟩)

theorem l2Sorted_ok (list : List Str) (hp : l2Sorted_pre list) : OwnS Tryd.prog 36 [.list false (list.map strC)] (.s [.c]) (fun r => r = .list true ((l2Sorted list).map strC)) := (l2Sorted_walk list _ (l2Sorted_vc list hp)).mono (by rintro _ ⟨_, rfl, rfl⟩; rfl)

theorem e18 : Ent Tryd.prog 18 := Ent.of Tryd.func18 (by kernel_rfl) rfl
theorem encoded_walk (p : Proc) (Z : Big → Prop) (h : encoded_wp p Z) : OwnS Tryd.prog 18 [.agg [.list false (p.map AmbNode.cells)]] (.a [.c, .s [.c, .c, .s [.c]], .s [.c], .c, .s [.c], .s [.c, .c]]) (fun r => ∃ y : Big, Z y ∧ r = .agg [int y.roots, .list true (y.nodes.map (GNode.cells true)), .list true (y.sites.map intC), int y.edges, .list true (y.outer.map strC), .list true (y.inner.map Wire.cells)]) := by
  unfold encoded_wp at h
  have sp : Sep noHeap 0 [] [] := Sep.nil (by simp)
  refine OwnS.of Tryd.func18 rfl Tryd.ntmps18 (by simp) fun Q hQ => ?_
  refine Runs.cut (fun ρ H n => ρ 0 = .agg [.list false (p.map AmbNode.cells)] ∧ Sep H n [] []) (by refine ⟨?_, sp⟩ <;> simp [AmbNode.cells, intC, strC]) ?_
  rintro ρ H n1 ⟨h0, sp⟩
  refine Runs.seqE Ty_ok (by decide) fun k' hk' => ?_
  simp [h0, AmbNode.cells, intC, strC]
  refine hk' _ _ _ ?_
  refine Runs.cut (fun ρ H n => ρ 1 = .ptr (n1, 1) 1 0 0 ∧ ρ 2 = .ptr (n1 + 1, 2) 1 0 0 ∧ H (n1, 1) = some ⟨1, [[.list false (p.map AmbNode.cells)]]⟩ ∧ H (n1 + 1, 2) = some ⟨6, [[int 0, .v (.slice none 0 0), .v (.slice none 0 0), int 0, .v (.slice none 0 0), .v (.slice none 0 0)]]⟩ ∧ Sep H n [] [(n1 + 1, 2), (n1, 1)]) (by refine ⟨?_, ?_, ?_, ?_, (Sep.var (Sep.var sp))⟩ <;> simp [h0, AmbNode.cells, intC, strC]) ?_
  clear h0
  rintro ρ H n4 ⟨h1, h2, m1_1, m2_2, sp⟩
  refine Runs.seqE Ty_ok (by decide) fun k' hk' => ?_
  simp [h1, h2, m1_1, m2_2, AmbNode.cells, intC, strC]
  refine hk' _ _ _ ?_
  refine Runs.cut (fun ρ H n => ∃ (v6 : AVal), ρ 1 = .ptr (n1, 1) 1 0 0 ∧ ρ 2 = .ptr (n1 + 1, 2) 1 0 0 ∧ ρ 3 = v6 ∧ H (n1, 1) = some ⟨1, [[.list false (p.map AmbNode.cells)]]⟩ ∧ H (n1 + 1, 2) = some ⟨6, [[int 0, .v (.slice none 0 0), .v (.slice none 0 0), int 0, .v (.slice none 0 0), .v (.slice none 0 0)]]⟩ ∧ Sep H n [oS v6 ([] : List Str)] [(n1 + 1, 2), (n1, 1)]) (by refine ⟨.arr (n4, 9) 0 0 0, ?_, ?_, ?_, ?_, ?_, (Sep.addEmpty (l := [.c]) sp)⟩ <;> simp [h1, h2, m1_1, m2_2, AmbNode.cells, intC, strC]) ?_
  clear h1 h2 m1_1 m2_2
  rintro ρ H n7 ⟨v6, h1, h2, h3, m1_1, m2_2, sp⟩
  refine Runs.seq ?_
  refine Runs.seqE Ty_ok (by decide) fun k' hk' => ?_
  obtain ⟨len8, elen8⟩ : ∃ v : Int, v = (p.length : Int) := ⟨_, rfl⟩
  replace h := h len8 elen8
  have f9 := fun H => len_list (H := H) (fr := false) (f := AmbNode.cells) kd_34 elen8
  simp [h1, h2, h3, m1_1, m2_2, f9, AmbNode.cells, intC, strC, -lenF]
  refine hk' _ _ _ ?_
  refine Runs.block ?_
  refine Runs.loopW h (fun (sJ : Int × (List Str)) ρ H n => match sJ with | (v29, l30) => ∃ (v31 : AVal) (v32 : AVal) (v33 : AVal) (v34 : AVal) (v35 : AVal), ρ 1 = .ptr (n1, 1) 1 0 0 ∧ ρ 2 = .ptr (n1 + 1, 2) 1 0 0 ∧ ρ 3 = v35 ∧ ρ 11 = .list false (p.map AmbNode.cells) ∧ ρ 12 = int len8 ∧ ρ 13 = int v29 ∧ H (n1, 1) = some ⟨1, [[.list false (p.map AmbNode.cells)]]⟩ ∧ H (n1 + 1, 2) = some ⟨6, [[int 0, v34, v33, int 0, v32, v31]]⟩ ∧ Sep H n [oW v31 ([] : List Wire), oS v32 ([] : List Str), oI v33 ([] : List Int), oN v34 ([] : List GNode), oS v35 l30] [(n1 + 1, 2), (n1, 1)]) (by refine ⟨.v (.slice none 0 0), .v (.slice none 0 0), .v (.slice none 0 0), .v (.slice none 0 0), v6, ?_, ?_, ?_, ?_, ?_, ?_, ?_, ?_, (Sep.f4 (Sep.f4 (Sep.f4 (Sep.f4 (Sep.f4 (Sep.addNil (Sep.addNil (Sep.addNil (Sep.addNil sp)))))))))⟩ <;> simp [h1, h2, h3, m1_1, m2_2, AmbNode.cells, intC, strC]) ?_
  clear h1 h2 h3 m1_1 m2_2
  rintro ⟨v29, l30⟩ ρ H n36 K h ⟨v31, v32, v33, v34, v35, h1, h2, h3, h11, h12, h13, m1_1, m2_2, sp⟩ IH37
  refine Runs.seqE Ty_ok (by decide) fun k' hk' => ?_
  obtain ⟨c39, ec39⟩ : ∃ v : Bool, v = decide (v29 < len8) := ⟨_, rfl⟩
  replace h := h c39 ec39
  have f40 := ib_lss (k := .i64) ec39
  simp [h1, h2, h3, h11, h12, h13, m1_1, m2_2, f40, AmbNode.cells, intC, strC, -intBin]
  refine hk' _ _ _ ?_
  refine Runs.seq ?_
  refine Runs.ite (b := c39) (by simp [h1, h2, h3, h11, h12, h13, m1_1, m2_2, AmbNode.cells, intC, strC]) (fun dc39 => ?_) (fun dc39 => ?_)
  · replace h := h.1 dc39
    refine Runs.skip ?_
    refine Runs.seq ?_
    refine Runs.block ?_
    refine Runs.seqE Ty_ok (by decide) fun k' hk' => ?_
    obtain ⟨hb41, h⟩ := h
    obtain ⟨x42, ex42⟩ : ∃ v : AmbNode, v = at' p v29 := ⟨_, rfl⟩
    replace h := h x42 ex42
    have f43 := fun H => ix_list (H := H) (fr := false) (f := AmbNode.cells) (k := .i64) kd_34 (fun _ => rfl) hb41 ex42
    simp [h1, h2, h3, h11, h12, h13, m1_1, m2_2, f43, dc39, AmbNode.cells, intC, strC, -indexAddrF]
    refine hk' _ _ _ ?_
    refine Runs.cut (fun ρ H n => ∃ (v45 : AVal) (v46 : AVal) (v47 : AVal) (v48 : AVal) (v49 : AVal), ρ 1 = .ptr (n1, 1) 1 0 0 ∧ ρ 2 = .ptr (n1 + 1, 2) 1 0 0 ∧ ρ 3 = v49 ∧ ρ 5 = .ptr (n36, 5) 1 0 0 ∧ ρ 11 = .list false (p.map AmbNode.cells) ∧ ρ 12 = int len8 ∧ ρ 13 = int v29 ∧ H (n1, 1) = some ⟨1, [[.list false (p.map AmbNode.cells)]]⟩ ∧ H (n1 + 1, 2) = some ⟨6, [[int 0, v48, v47, int 0, v46, v45]]⟩ ∧ H (n36, 5) = some ⟨3, [[int x42.kind, str x42.name, int x42.parent]]⟩ ∧ Sep H n [oW v45 ([] : List Wire), oS v46 ([] : List Str), oI v47 ([] : List Int), oN v48 ([] : List GNode), oS v49 l30] [(n36, 5), (n1 + 1, 2), (n1, 1)]) (by refine ⟨v31, v32, v33, v34, v35, ?_, ?_, ?_, ?_, ?_, ?_, ?_, ?_, ?_, ?_, (Sep.f4 (Sep.f4 (Sep.f4 (Sep.f4 (Sep.f4 (Sep.var sp))))))⟩ <;> simp [h1, h2, h3, h11, h12, h13, m1_1, m2_2, f43, dc39, AmbNode.cells, intC, strC, -indexAddrF]) ?_
    clear h1 h2 h3 h11 h12 h13 m1_1 m2_2
    rintro ρ H n50 ⟨v45, v46, v47, v48, v49, h1, h2, h3, h5, h11, h12, h13, m1_1, m2_2, m5_43, sp⟩
    refine Runs.evalE Ty_ok (by decide) fun k' hk' => ?_
    obtain ⟨hb51, h⟩ := h
    obtain ⟨l52, el52⟩ : ∃ v : List Str, v = l30 ++ [x42.name] := ⟨_, rfl⟩
    replace h := h l52 el52
    simp [h1, h2, h3, h5, h11, h12, h13, m1_1, m2_2, m5_43, dc39, AmbNode.cells, intC, strC, -appendF]
    refine bind_append [] [oW v45 ([] : List Wire), oS v46 ([] : List Str), oI v47 ([] : List Int), oN v48 ([] : List GNode)] [[str x42.name]] [strC x42.name] (Sep.f4 sp) kd_28 (by simp) (by simp) (by simp [AmbNode.cells, intC, strC]) (by simp [-one1, o1x]) (rows_one (Fill.v _ Fill.nil)) (by simp) (by simpa using hb51) ?_
    rintro v53 H54 n55 sp hfr56 hle57
    replace sp : Sep H54 n55 [oS v53 l52, oW v45 ([] : List Wire), oS v46 ([] : List Str), oI v47 ([] : List Int), oN v48 ([] : List GNode)] [(n36, 5), (n1 + 1, 2), (n1, 1)] := Sep.ap el52 sp
    have m1_1 : H54 (n1, 1) = some ⟨1, [[.list false (p.map AmbNode.cells)]]⟩ := (hfr56 _ (by simp)).trans (by simp [h1, h2, h3, h5, h11, h12, h13, m1_1, m2_2, m5_43, Heap.get_set])
    have m2_2 : H54 (n1 + 1, 2) = some ⟨6, [[int 0, v48, v47, int 0, v46, v45]]⟩ := (hfr56 _ (by simp)).trans (by simp [h1, h2, h3, h5, h11, h12, h13, m1_1, m2_2, m5_43, Heap.get_set])
    have m5_43 : H54 (n36, 5) = some ⟨3, [[int x42.kind, str x42.name, int x42.parent]]⟩ := (hfr56 _ (by simp)).trans (by simp [h1, h2, h3, h5, h11, h12, h13, m1_1, m2_2, m5_43, Heap.get_set])
    simp [h1, h2, h3, h5, h11, h12, h13, m1_1, m2_2, m5_43, dc39, AmbNode.cells, intC, strC]
    refine hk' _ _ _ ?_
    refine Runs.cut (fun ρ H n => ∃ (v59 : AVal) (v60 : AVal) (v61 : AVal) (v62 : AVal) (v63 : AVal), ρ 1 = .ptr (n1, 1) 1 0 0 ∧ ρ 2 = .ptr (n1 + 1, 2) 1 0 0 ∧ ρ 3 = v59 ∧ ρ 11 = .list false (p.map AmbNode.cells) ∧ ρ 12 = int len8 ∧ ρ 13 = int v29 ∧ H (n1, 1) = some ⟨1, [[.list false (p.map AmbNode.cells)]]⟩ ∧ H (n1 + 1, 2) = some ⟨6, [[int 0, v63, v62, int 0, v61, v60]]⟩ ∧ Sep H n [oS v59 l52, oW v60 ([] : List Wire), oS v61 ([] : List Str), oI v62 ([] : List Int), oN v63 ([] : List GNode)] [(n1 + 1, 2), (n1, 1)]) (by refine ⟨v53, v45, v46, v47, v48, ?_, ?_, ?_, ?_, ?_, ?_, ?_, ?_, (Sep.sub (Sep.f4 (Sep.f4 (Sep.f4 (Sep.f4 (Sep.f4 sp))))) (by simp +contextual))⟩ <;> simp [h1, h2, h3, h5, h11, h12, h13, m1_1, m2_2, m5_43, dc39, AmbNode.cells, intC, strC]) ?_
    clear h1 h2 h3 h5 h11 h12 h13 m1_1 m2_2 m5_43
    rintro ρ H n64 ⟨v59, v60, v61, v62, v63, h1, h2, h3, h11, h12, h13, m1_1, m2_2, sp⟩
    refine Runs.inBlock ?_
    refine Runs.evalE Ty_ok (by decide) fun k' hk' => ?_
    obtain ⟨hb65, h⟩ := h
    obtain ⟨v66, ev66⟩ : ∃ v : Int, v = v29 + 1 := ⟨_, rfl⟩
    replace h := h v66 ev66
    have f67 := ib_add hb65 ev66
    simp [h1, h2, h3, h11, h12, h13, m1_1, m2_2, f67, dc39, AmbNode.cells, intC, strC, -intBin]
    refine hk' _ _ _ ?_
    refine IH37 (v66, l52) _ _ _ h (by refine ⟨v60, v61, v62, v63, v59, ?_, ?_, ?_, ?_, ?_, ?_, ?_, ?_, (Sep.f4 (Sep.f4 (Sep.f4 (Sep.f4 sp))))⟩ <;> simp [h1, h2, h3, h11, h12, h13, m1_1, m2_2, dc39, AmbNode.cells, intC, strC])
  · replace h := h.2 dc39
    refine Runs.exit rfl ?_
    refine Runs.seqE Ty_ok (by decide) fun k' hk' => ?_
    obtain ⟨hb68, h⟩ := h
    obtain ⟨r69, er69⟩ : ∃ v : List Str, v = sortedNames l30 := ⟨_, rfl⟩
    replace h := h r69 er69
    simp [h1, h2, h3, h11, h12, h13, m1_1, m2_2, dc39, AmbNode.cells, intC, strC]
    refine RunK.callW Ty_ok (sortedNames_ok l30 hb68) e41 (.cons (Sep.argOk' (Sep.f4 sp) (old_listF (by simp [strC]))) .nil) sp (by decide) (by decide) rfl (by simp [h1, h2, h3, h11, h12, h13, m1_1, m2_2, dc39, AmbNode.cells, intC, strC]) ?_
    rintro v70 H71 n72 _ sp rfl hle74 hfr73
    rw [← er69] at sp
    have m1_1 : H71 (n1, 1) = some ⟨1, [[.list false (p.map AmbNode.cells)]]⟩ := (hfr73 _ (by simp)).trans (by simp [h1, h2, h3, h11, h12, h13, m1_1, m2_2, Heap.get_set])
    have m2_2 : H71 (n1 + 1, 2) = some ⟨6, [[int 0, v34, v33, int 0, v32, v31]]⟩ := (hfr73 _ (by simp)).trans (by simp [h1, h2, h3, h11, h12, h13, m1_1, m2_2, Heap.get_set])
    have f77 := Sep.oc sp
    have f79 := Sep.oc sp
    simp [h1, h2, h3, h11, h12, h13, m1_1, m2_2, f77, f79, dc39, AmbNode.cells, intC, strC, -cellsA, -one1, cAx, o1x]
    refine hk' _ _ _ ?_
    refine Runs.cut (fun ρ H n => ∃ (v80 : AVal) (v81 : AVal) (v82 : AVal) (v83 : AVal) (v84 : AVal), ρ 1 = .ptr (n1, 1) 1 0 0 ∧ ρ 2 = .ptr (n1 + 1, 2) 1 0 0 ∧ ρ 6 = .ptr (n72, 6) 1 0 0 ∧ H (n1, 1) = some ⟨1, [[.list false (p.map AmbNode.cells)]]⟩ ∧ H (n1 + 1, 2) = some ⟨6, [[int 0, v84, v83, int 0, v82, v81]]⟩ ∧ H (n72, 6) = some ⟨6, [[int 1, .v (.slice none 0 0), .v (.slice none 0 0), int 0, v80, .v (.slice none 0 0)]]⟩ ∧ Sep H n [oS v80 r69, oW v81 ([] : List Wire), oS v82 ([] : List Str), oI v83 ([] : List Int), oN v84 ([] : List GNode)] [(n72, 6), (n1 + 1, 2), (n1, 1)]) (by refine ⟨v70, v31, v32, v33, v34, ?_, ?_, ?_, ?_, ?_, ?_, (Sep.f4 (Sep.f4 (Sep.f4 (Sep.f4 (Sep.f4 (Sep.dr (Sep.f5 (Sep.var sp))))))))⟩ <;> simp [h1, h2, h3, h11, h12, h13, m1_1, m2_2, f77, f79, dc39, AmbNode.cells, intC, strC, -cellsA, -one1, cAx, o1x]) ?_
    clear h1 h2 h3 h11 h12 h13 m1_1 m2_2
    rintro ρ H n85 ⟨v80, v81, v82, v83, v84, h1, h2, h6, m1_1, m2_2, m6_77, sp⟩
    refine Runs.seq ?_
    refine Runs.seqE Ty_ok (by decide) fun k' hk' => ?_
    obtain ⟨len86, elen86⟩ : ∃ v : Int, v = (p.length : Int) := ⟨_, rfl⟩
    replace h := h len86 elen86
    have f87 := fun H => len_list (H := H) (fr := false) (f := AmbNode.cells) kd_34 elen86
    simp [h1, h2, h6, m1_1, m2_2, m6_77, f87, dc39, AmbNode.cells, intC, strC, -lenF]
    refine hk' _ _ _ ?_
    refine Runs.block ?_
    refine Runs.loopW h (fun (sJ : Int × (List GNode)) ρ H n => match sJ with | (v112, l113) => ∃ (v114 : AVal) (v115 : AVal) (v116 : AVal) (v117 : AVal) (v118 : AVal) (v119 : AVal) (v120 : AVal) (v121 : AVal), ρ 2 = .ptr (n1 + 1, 2) 1 0 0 ∧ ρ 6 = .ptr (n72, 6) 1 0 0 ∧ ρ 27 = .list false (p.map AmbNode.cells) ∧ ρ 28 = int len86 ∧ ρ 29 = int v112 ∧ H (n1 + 1, 2) = some ⟨6, [[int 0, v121, v120, int 0, v119, v118]]⟩ ∧ H (n72, 6) = some ⟨6, [[int 1, v116, v115, int 0, v117, v114]]⟩ ∧ Sep H n [oW v114 ([] : List Wire), oI v115 ([] : List Int), oN v116 l113, oS v117 r69, oW v118 ([] : List Wire), oS v119 ([] : List Str), oI v120 ([] : List Int), oN v121 ([] : List GNode)] [(n72, 6), (n1 + 1, 2)]) (by refine ⟨.v (.slice none 0 0), .v (.slice none 0 0), .v (.slice none 0 0), v80, v81, v82, v83, v84, ?_, ?_, ?_, ?_, ?_, ?_, ?_, (Sep.sub (Sep.f7 (Sep.f7 (Sep.f7 (Sep.f7 (Sep.f7 (Sep.f7 (Sep.f7 (Sep.f7 (Sep.addNil (Sep.addNil (Sep.addNil sp))))))))))) (by simp +contextual))⟩ <;> simp [h1, h2, h6, m1_1, m2_2, m6_77, dc39, AmbNode.cells, intC, strC]) ?_
    clear h1 h2 h6 m1_1 m2_2 m6_77
    rintro ⟨v112, l113⟩ ρ H n122 K h ⟨v114, v115, v116, v117, v118, v119, v120, v121, h2, h6, h27, h28, h29, m2_2, m6_77, sp⟩ IH123
    refine Runs.seqE Ty_ok (by decide) fun k' hk' => ?_
    obtain ⟨c125, ec125⟩ : ∃ v : Bool, v = decide (v112 < len86) := ⟨_, rfl⟩
    replace h := h c125 ec125
    have f126 := ib_lss (k := .i64) ec125
    simp [h2, h6, h27, h28, h29, m2_2, m6_77, f126, dc39, AmbNode.cells, intC, strC, -intBin]
    refine hk' _ _ _ ?_
    refine Runs.seq ?_
    refine Runs.ite (b := c125) (by simp [h2, h6, h27, h28, h29, m2_2, m6_77, dc39, AmbNode.cells, intC, strC]) (fun dc125 => ?_) (fun dc125 => ?_)
    · replace h := h.1 dc125
      refine Runs.skip ?_
      refine Runs.seq ?_
      refine Runs.block ?_
      refine Runs.seqE Ty_ok (by decide) fun k' hk' => ?_
      obtain ⟨hb127, h⟩ := h
      obtain ⟨x128, ex128⟩ : ∃ v : AmbNode, v = at' p v112 := ⟨_, rfl⟩
      replace h := h x128 ex128
      have f129 := fun H => ix_list (H := H) (fr := false) (f := AmbNode.cells) (k := .i64) kd_34 (fun _ => rfl) hb127 ex128
      simp [h2, h6, h27, h28, h29, m2_2, m6_77, f129, dc39, dc125, AmbNode.cells, intC, strC, -indexAddrF]
      refine hk' _ _ _ ?_
      refine Runs.cut (fun ρ H n => ∃ (v131 : AVal) (v132 : AVal) (v133 : AVal) (v134 : AVal) (v135 : AVal) (v136 : AVal) (v137 : AVal) (v138 : AVal), ρ 2 = .ptr (n1 + 1, 2) 1 0 0 ∧ ρ 6 = .ptr (n72, 6) 1 0 0 ∧ ρ 8 = .ptr (n122, 8) 1 0 0 ∧ ρ 27 = .list false (p.map AmbNode.cells) ∧ ρ 28 = int len86 ∧ ρ 29 = int v112 ∧ H (n1 + 1, 2) = some ⟨6, [[int 0, v138, v137, int 0, v136, v135]]⟩ ∧ H (n72, 6) = some ⟨6, [[int 1, v133, v132, int 0, v134, v131]]⟩ ∧ H (n122, 8) = some ⟨3, [[int x128.kind, str x128.name, int x128.parent]]⟩ ∧ Sep H n [oW v131 ([] : List Wire), oI v132 ([] : List Int), oN v133 l113, oS v134 r69, oW v135 ([] : List Wire), oS v136 ([] : List Str), oI v137 ([] : List Int), oN v138 ([] : List GNode)] [(n122, 8), (n72, 6), (n1 + 1, 2)]) (by refine ⟨v114, v115, v116, v117, v118, v119, v120, v121, ?_, ?_, ?_, ?_, ?_, ?_, ?_, ?_, ?_, (Sep.f7 (Sep.f7 (Sep.f7 (Sep.f7 (Sep.f7 (Sep.f7 (Sep.f7 (Sep.f7 (Sep.var sp)))))))))⟩ <;> simp [h2, h6, h27, h28, h29, m2_2, m6_77, f129, dc39, dc125, AmbNode.cells, intC, strC, -indexAddrF]) ?_
      clear h2 h6 h27 h28 h29 m2_2 m6_77
      rintro ρ H n139 ⟨v131, v132, v133, v134, v135, v136, v137, v138, h2, h6, h8, h27, h28, h29, m2_2, m6_77, m8_129, sp⟩
      refine Runs.evalME Ty_ok [45] draws (by decide) (by kernel_rfl) fun k' hk' => ?_
      obtain ⟨hb140, h⟩ := h
      obtain ⟨v141, ev141⟩ : ∃ v : Int, v = x128.kind - 0 := ⟨_, rfl⟩
      replace h := h v141 ev141
      have f142 := ib_sub hb140 ev141
      obtain ⟨hb143, h⟩ := h
      obtain ⟨r144, er144⟩ : ∃ v : Int, v = indexS r69 x128.name := ⟨_, rfl⟩
      replace h := h r144 er144
      simp [h2, h6, h8, h27, h28, h29, m2_2, m6_77, m8_129, f142, dc39, dc125, AmbNode.cells, intC, strC, -intBin]
      refine RunXK.callA (M := [45]) Ty_ok (indexS_ok r69 x128.name hb143) e42 (fun _ _ hE hN => (.cons (Sep.argOk' (Sep.ext (Sep.f3 sp) hE hN) (old_listF (by simp [strC]))) (.cons (.v _ _ _) .nil))) rfl (by simp [h2, h6, h8, h27, h28, h29, m2_2, m6_77, m8_129, f142, dc39, dc125, AmbNode.cells, intC, strC, -intBin]) ?_
      rw [← er144]
      obtain ⟨l145, el145⟩ : ∃ v : List Int, v = [r144] := ⟨_, rfl⟩
      replace h := h l145 el145
      simp [h2, h6, h8, h27, h28, h29, m2_2, m6_77, m8_129, f142, dc39, dc125, AmbNode.cells, intC, strC, -intBin, -fillA]
      refine bindM_make (l := [.c]) (cs := [int r144]) (([r144] : List Int).map intC) sp (by simp) kd_27 (by simp) (by simp) (by simp [h2, h6, h8, h27, h28, h29, m2_2, m6_77, m8_129, f142, dc39, dc125, splice, List.replicate, fillA, AmbNode.cells, intC, strC, -intBin]) (by simp [chunks, List.range_succ, AmbNode.cells, intC, strC, intC]) (by simp) (by simp [AmbNode.cells, intC, strC, intC]) ?_
      rintro id146 H147 n148 sp hfr149 hle150
      replace sp : Sep H147 n148 [oI (.arr id146 1 0 1) l145, oW v131 ([] : List Wire), oI v132 ([] : List Int), oN v133 l113, oS v134 r69, oW v135 ([] : List Wire), oS v136 ([] : List Str), oI v137 ([] : List Int), oN v138 ([] : List GNode)] [(n122, 8), (n72, 6), (n1 + 1, 2)] := by rw [el145]; exact sp
      have m2_2 : H147 (n1 + 1, 2) = some ⟨6, [[int 0, v138, v137, int 0, v136, v135]]⟩ := (hfr149 _ (by simp)).trans (by simp [h2, h6, h8, h27, h28, h29, m2_2, m6_77, m8_129, Heap.get_set])
      have m6_77 : H147 (n72, 6) = some ⟨6, [[int 1, v133, v132, int 0, v134, v131]]⟩ := (hfr149 _ (by simp)).trans (by simp [h2, h6, h8, h27, h28, h29, m2_2, m6_77, m8_129, Heap.get_set])
      have m8_129 : H147 (n122, 8) = some ⟨3, [[int x128.kind, str x128.name, int x128.parent]]⟩ := (hfr149 _ (by simp)).trans (by simp [h2, h6, h8, h27, h28, h29, m2_2, m6_77, m8_129, Heap.get_set])
      obtain ⟨hb153, h⟩ := h
      obtain ⟨l154, el154⟩ : ∃ v : List GNode, v = l113 ++ [(GNode.mk v141 x128.parent l145)] := ⟨_, rfl⟩
      replace h := h l154 el154
      simp [h2, h6, h8, h27, h28, h29, m2_2, m6_77, m8_129, f142, dc39, dc125, AmbNode.cells, GNode.cells, intC, sliceC, strC, -intBin, -appendF]
      refine bindM_append [oI (.arr id146 1 0 1) l145] [oW v131 ([] : List Wire), oI v132 ([] : List Int), oS v134 r69, oW v135 ([] : List Wire), oS v136 ([] : List Str), oI v137 ([] : List Int), oN v138 ([] : List GNode)] [[int v141, int x128.parent, .arr id146 1 0 1]] [(GNode.cells true) (GNode.mk v141 x128.parent l145)] (Sep.f3 sp) kd_26 (by simp) (by simp) (by simp [AmbNode.cells, GNode.cells, intC, sliceC, strC]) (by simp [-one1, o1x, Sep.one1 (Sep.dr (Sep.f3 sp))]) (rows_one (Fill.v _ (Fill.v _ (Fill.own Fill.nil)))) (by simp) (by simpa using hb153) ?_
      rintro v155 H156 n157 sp hfr158 hle159
      replace sp : Sep H156 n157 [oN v155 l154, oW v131 ([] : List Wire), oI v132 ([] : List Int), oS v134 r69, oW v135 ([] : List Wire), oS v136 ([] : List Str), oI v137 ([] : List Int), oN v138 ([] : List GNode)] [(n122, 8), (n72, 6), (n1 + 1, 2)] := Sep.ap el154 sp
      have m2_2 : H156 (n1 + 1, 2) = some ⟨6, [[int 0, v138, v137, int 0, v136, v135]]⟩ := (hfr158 _ (by simp)).trans (by simp [h2, h6, h8, h27, h28, h29, m2_2, m6_77, m8_129, Heap.get_set])
      have m6_77 : H156 (n72, 6) = some ⟨6, [[int 1, v133, v132, int 0, v134, v131]]⟩ := (hfr158 _ (by simp)).trans (by simp [h2, h6, h8, h27, h28, h29, m2_2, m6_77, m8_129, Heap.get_set])
      have m8_129 : H156 (n122, 8) = some ⟨3, [[int x128.kind, str x128.name, int x128.parent]]⟩ := (hfr158 _ (by simp)).trans (by simp [h2, h6, h8, h27, h28, h29, m2_2, m6_77, m8_129, Heap.get_set])
      have f161 := Sep.oc sp
      simp [h2, h6, h8, h27, h28, h29, m2_2, m6_77, m8_129, f142, f161, dc39, dc125, AmbNode.cells, GNode.cells, intC, sliceC, strC, -cellsA, -intBin, -one1, cAx, o1x]
      refine hk' _ _ _ ?_
      refine Runs.cut (fun ρ H n => ∃ (v162 : AVal) (v163 : AVal) (v164 : AVal) (v165 : AVal) (v166 : AVal) (v167 : AVal) (v168 : AVal) (v169 : AVal), ρ 2 = .ptr (n1 + 1, 2) 1 0 0 ∧ ρ 6 = .ptr (n72, 6) 1 0 0 ∧ ρ 27 = .list false (p.map AmbNode.cells) ∧ ρ 28 = int len86 ∧ ρ 29 = int v112 ∧ H (n1 + 1, 2) = some ⟨6, [[int 0, v169, v168, int 0, v167, v166]]⟩ ∧ H (n72, 6) = some ⟨6, [[int 1, v162, v164, int 0, v165, v163]]⟩ ∧ Sep H n [oN v162 l154, oW v163 ([] : List Wire), oI v164 ([] : List Int), oS v165 r69, oW v166 ([] : List Wire), oS v167 ([] : List Str), oI v168 ([] : List Int), oN v169 ([] : List GNode)] [(n72, 6), (n1 + 1, 2)]) (by refine ⟨v155, v131, v132, v134, v135, v136, v137, v138, ?_, ?_, ?_, ?_, ?_, ?_, ?_, (Sep.sub (Sep.f7 (Sep.f7 (Sep.f7 (Sep.f7 (Sep.f7 (Sep.f7 (Sep.f7 (Sep.f7 (Sep.setVar (w := (n72, 6)) sp (by simp)))))))))) (by simp +contextual))⟩ <;> simp [h2, h6, h8, h27, h28, h29, m2_2, m6_77, m8_129, f142, f161, dc39, dc125, AmbNode.cells, GNode.cells, intC, sliceC, strC, -cellsA, -intBin, -one1, cAx, o1x]) ?_
      clear h2 h6 h8 h27 h28 h29 m2_2 m6_77 m8_129
      rintro ρ H n170 ⟨v162, v163, v164, v165, v166, v167, v168, v169, h2, h6, h27, h28, h29, m2_2, m6_77, sp⟩
      refine Runs.inBlock ?_
      refine Runs.evalE Ty_ok (by decide) fun k' hk' => ?_
      obtain ⟨hb171, h⟩ := h
      obtain ⟨v172, ev172⟩ : ∃ v : Int, v = v112 + 1 := ⟨_, rfl⟩
      replace h := h v172 ev172
      have f173 := ib_add hb171 ev172
      simp [h2, h6, h27, h28, h29, m2_2, m6_77, f173, dc39, dc125, AmbNode.cells, GNode.cells, intC, sliceC, strC, -intBin]
      refine hk' _ _ _ ?_
      refine IH123 (v172, l154) _ _ _ h (by refine ⟨v163, v164, v162, v165, v166, v167, v168, v169, ?_, ?_, ?_, ?_, ?_, ?_, ?_, (Sep.f7 (Sep.f7 (Sep.f5 (Sep.f7 (Sep.f7 (Sep.f7 (Sep.f7 (Sep.f7 sp))))))))⟩ <;> simp [h2, h6, h27, h28, h29, m2_2, m6_77, dc39, dc125, AmbNode.cells, GNode.cells, intC, sliceC, strC])
    · replace h := h.2 dc125
      refine Runs.exit rfl ?_
      refine Runs.seqE Ty_ok (by decide) fun k' hk' => ?_
      have f174 := Sep.oc (Sep.f2 sp)
      have f175 := Sep.oc (Sep.f1 sp)
      have f176 := Sep.oc (Sep.f3 sp)
      have f177 := Sep.oc sp
      simp [h2, h6, h27, h28, h29, m2_2, m6_77, f174, f175, f176, f177, dc39, dc125, AmbNode.cells, GNode.cells, intC, sliceC, strC, -cellsA, -one1, cAx, o1x]
      refine hk' _ _ _ ?_
      refine Runs.cut (fun ρ H n => ∃ (v178 : AVal) (v179 : AVal) (v180 : AVal) (v181 : AVal), ρ 2 = .ptr (n1 + 1, 2) 1 0 0 ∧ H (n1 + 1, 2) = some ⟨6, [[int 1, v180, v179, int 0, v181, v178]]⟩ ∧ Sep H n [oW v178 ([] : List Wire), oI v179 ([] : List Int), oN v180 l113, oS v181 r69] [(n1 + 1, 2)]) (by refine ⟨v114, v115, v116, v117, ?_, ?_, (Sep.sub (Sep.f3 (Sep.f3 (Sep.f3 (Sep.f3 (Sep.dr (Sep.f4 (Sep.dr (Sep.f4 (Sep.dr (Sep.f4 (Sep.dr (Sep.f4 (Sep.setVar (w := (n1 + 1, 2)) sp (by simp)))))))))))))) (by simp +contextual))⟩ <;> simp [h2, h6, h27, h28, h29, m2_2, m6_77, f174, f175, f176, f177, dc39, dc125, AmbNode.cells, GNode.cells, intC, sliceC, strC, -cellsA, -one1, cAx, o1x]) ?_
      clear h2 h6 h27 h28 h29 m2_2 m6_77
      rintro ρ H n182 ⟨v178, v179, v180, v181, h2, m2_2, sp⟩
      exact Runs.res1 Ty_ok (v := .agg [int 1, v180, v179, int 0, v181, v178]) Tryd.func18 Tryd.results18 (by simp [h2, m2_2, dc39, dc125, resA, AmbNode.cells, GNode.cells, intC, sliceC, strC]) (hQ _ _ _ _ (Sep.sub (ids' := []) (Sep.pack (Fill.v _ (Fill.own (Fill.own (Fill.v _ (Fill.own (Fill.own Fill.nil)))))) (Sep.f3 (Sep.f2 (Sep.f3 sp)))) (by simp)) ⟨(Big.mk 1 l113 ([] : List Int) 0 r69 ([] : List Wire)), h, rfl⟩)

theorem encoded_ok (p : Proc) (hp : encoded_pre p) : OwnS Tryd.prog 18 [.agg [.list false (p.map AmbNode.cells)]] (.a [.c, .s [.c, .c, .s [.c]], .s [.c], .c, .s [.c], .s [.c, .c]]) (fun r => r = .agg [int ((encoded p).roots), .list true (((encoded p).nodes).map (GNode.cells true)), .list true (((encoded p).sites).map intC), int ((encoded p).edges), .list true (((encoded p).outer).map strC), .list true (((encoded p).inner).map Wire.cells)]) := (encoded_walk p _ (encoded_vc p hp)).mono (by rintro _ ⟨_, rfl, rfl⟩; rfl)

theorem e15 : Ent Tryd.prog 15 := Ent.of Tryd.func15 (by kernel_rfl) rfl
theorem l12Encode_walk (p : Proc) (Z : Big → Prop) (h : l12Encode_wp p Z) : OwnS Tryd.prog 15 [.agg [.list false (p.map AmbNode.cells)]] (.a [.c, .s [.c, .c, .s [.c]], .s [.c], .c, .s [.c], .s [.c, .c]]) (fun r => ∃ y : Big, Z y ∧ r = .agg [int y.roots, .list true (y.nodes.map (GNode.cells true)), .list true (y.sites.map intC), int y.edges, .list true (y.outer.map strC), .list true (y.inner.map Wire.cells)]) := by
  unfold l12Encode_wp at h
  have sp : Sep noHeap 0 [] [] := Sep.nil (by simp)
  refine OwnS.of Tryd.func15 rfl Tryd.ntmps15 (by simp) fun Q hQ => ?_
  refine Runs.cut (fun ρ H n => ρ 0 = .agg [.list false (p.map AmbNode.cells)] ∧ Sep H n [] []) (by refine ⟨?_, sp⟩ <;> simp [AmbNode.cells, intC, strC]) ?_
  rintro ρ H n1 ⟨h0, sp⟩
  refine Runs.seqE Ty_ok (by decide) fun k' hk' => ?_
  simp [h0, AmbNode.cells, intC, strC]
  refine hk' _ _ _ ?_
  refine Runs.cut (fun ρ H n => ρ 1 = .ptr (n1, 1) 1 0 0 ∧ ρ 2 = .ptr (n1 + 1, 2) 1 0 0 ∧ H (n1, 1) = some ⟨1, [[.list false (p.map AmbNode.cells)]]⟩ ∧ H (n1 + 1, 2) = some ⟨6, [[int 0, .v (.slice none 0 0), .v (.slice none 0 0), int 0, .v (.slice none 0 0), .v (.slice none 0 0)]]⟩ ∧ Sep H n [] [(n1 + 1, 2), (n1, 1)]) (by refine ⟨?_, ?_, ?_, ?_, (Sep.var (Sep.var sp))⟩ <;> simp [h0, AmbNode.cells, intC, strC]) ?_
  clear h0
  rintro ρ H n4 ⟨h1, h2, m1_1, m2_2, sp⟩
  refine Runs.seqE Ty_ok (by decide) fun k' hk' => ?_
  simp [h1, h2, m1_1, m2_2, AmbNode.cells, intC, strC]
  refine hk' _ _ _ ?_
  refine Runs.cut (fun ρ H n => ∃ (v6 : AVal), ρ 1 = .ptr (n1, 1) 1 0 0 ∧ ρ 2 = .ptr (n1 + 1, 2) 1 0 0 ∧ ρ 3 = v6 ∧ H (n1, 1) = some ⟨1, [[.list false (p.map AmbNode.cells)]]⟩ ∧ H (n1 + 1, 2) = some ⟨6, [[int 0, .v (.slice none 0 0), .v (.slice none 0 0), int 0, .v (.slice none 0 0), .v (.slice none 0 0)]]⟩ ∧ Sep H n [oS v6 ([] : List Str)] [(n1 + 1, 2), (n1, 1)]) (by refine ⟨.arr (n4, 7) 0 0 0, ?_, ?_, ?_, ?_, ?_, (Sep.addEmpty (l := [.c]) sp)⟩ <;> simp [h1, h2, m1_1, m2_2, AmbNode.cells, intC, strC]) ?_
  clear h1 h2 m1_1 m2_2
  rintro ρ H n7 ⟨v6, h1, h2, h3, m1_1, m2_2, sp⟩
  refine Runs.seq ?_
  refine Runs.seqE Ty_ok (by decide) fun k' hk' => ?_
  simp [h1, h2, h3, m1_1, m2_2, AmbNode.cells, intC, strC]
  refine hk' _ _ _ ?_
  refine Runs.block ?_
  refine Runs.loopW h (fun (sJ : Int × (List Str)) ρ H n => match sJ with | (i27, l28) => ∃ (v29 : AVal) (v30 : AVal) (v31 : AVal) (v32 : AVal) (v33 : AVal), ρ 1 = .ptr (n1, 1) 1 0 0 ∧ ρ 2 = .ptr (n1 + 1, 2) 1 0 0 ∧ ρ 3 = v33 ∧ ρ 4 = int i27 ∧ H (n1, 1) = some ⟨1, [[.list false (p.map AmbNode.cells)]]⟩ ∧ H (n1 + 1, 2) = some ⟨6, [[int 0, v32, v31, int 0, v30, v29]]⟩ ∧ Sep H n [oW v29 ([] : List Wire), oS v30 ([] : List Str), oI v31 ([] : List Int), oN v32 ([] : List GNode), oS v33 l28] [(n1 + 1, 2), (n1, 1)]) (by refine ⟨.v (.slice none 0 0), .v (.slice none 0 0), .v (.slice none 0 0), .v (.slice none 0 0), v6, ?_, ?_, ?_, ?_, ?_, ?_, (Sep.f4 (Sep.f4 (Sep.f4 (Sep.f4 (Sep.f4 (Sep.addNil (Sep.addNil (Sep.addNil (Sep.addNil sp)))))))))⟩ <;> simp [h1, h2, h3, m1_1, m2_2, AmbNode.cells, intC, strC]) ?_
  clear h1 h2 h3 m1_1 m2_2
  rintro ⟨i27, l28⟩ ρ H n34 K h ⟨v29, v30, v31, v32, v33, h1, h2, h3, h4, m1_1, m2_2, sp⟩ IH35
  refine Runs.seq ?_
  refine Runs.seqE Ty_ok (by decide) fun k' hk' => ?_
  obtain ⟨len37, elen37⟩ : ∃ v : Int, v = (p.length : Int) := ⟨_, rfl⟩
  replace h := h len37 elen37
  have f38 := fun H => len_list (H := H) (fr := false) (f := AmbNode.cells) kd_34 elen37
  obtain ⟨c39, ec39⟩ : ∃ v : Bool, v = decide (i27 < len37) := ⟨_, rfl⟩
  replace h := h c39 ec39
  have f40 := ib_lss (k := .i64) ec39
  simp [h1, h2, h3, h4, m1_1, m2_2, f38, f40, AmbNode.cells, intC, strC, -intBin, -lenF]
  refine hk' _ _ _ ?_
  refine Runs.ite (b := c39) (by simp [h1, h2, h3, h4, m1_1, m2_2, AmbNode.cells, intC, strC]) (fun dc39 => ?_) (fun dc39 => ?_)
  · replace h := h.1 dc39
    refine Runs.skip ?_
    refine Runs.seq ?_
    refine Runs.block ?_
    refine Runs.evalE Ty_ok (by decide) fun k' hk' => ?_
    obtain ⟨hb41, h⟩ := h
    obtain ⟨x42, ex42⟩ : ∃ v : AmbNode, v = at' p i27 := ⟨_, rfl⟩
    replace h := h x42 ex42
    have f43 := fun H => ix_list (H := H) (fr := false) (f := AmbNode.cells) (k := .i64) kd_34 (fun _ => rfl) hb41 ex42
    obtain ⟨hb44, h⟩ := h
    obtain ⟨l45, el45⟩ : ∃ v : List Str, v = l28 ++ [x42.name] := ⟨_, rfl⟩
    replace h := h l45 el45
    simp [h1, h2, h3, h4, m1_1, m2_2, f43, dc39, AmbNode.cells, intC, strC, -indexAddrF, -appendF]
    refine bind_append [] [oW v29 ([] : List Wire), oS v30 ([] : List Str), oI v31 ([] : List Int), oN v32 ([] : List GNode)] [[str x42.name]] [strC x42.name] (Sep.f4 sp) kd_28 (by simp) (by simp) (by simp [AmbNode.cells, intC, strC]) (by simp [-one1, o1x]) (rows_one (Fill.v _ Fill.nil)) (by simp) (by simpa using hb44) ?_
    rintro v46 H47 n48 sp hfr49 hle50
    replace sp : Sep H47 n48 [oS v46 l45, oW v29 ([] : List Wire), oS v30 ([] : List Str), oI v31 ([] : List Int), oN v32 ([] : List GNode)] [(n1 + 1, 2), (n1, 1)] := Sep.ap el45 sp
    have m1_1 : H47 (n1, 1) = some ⟨1, [[.list false (p.map AmbNode.cells)]]⟩ := (hfr49 _ (by simp)).trans (by simp [h1, h2, h3, h4, m1_1, m2_2, Heap.get_set])
    have m2_2 : H47 (n1 + 1, 2) = some ⟨6, [[int 0, v32, v31, int 0, v30, v29]]⟩ := (hfr49 _ (by simp)).trans (by simp [h1, h2, h3, h4, m1_1, m2_2, Heap.get_set])
    simp [h1, h2, h3, h4, m1_1, m2_2, f43, dc39, AmbNode.cells, intC, strC, -indexAddrF]
    refine hk' _ _ _ ?_
    refine Runs.cut (fun ρ H n => ∃ (v52 : AVal) (v53 : AVal) (v54 : AVal) (v55 : AVal) (v56 : AVal), ρ 1 = .ptr (n1, 1) 1 0 0 ∧ ρ 2 = .ptr (n1 + 1, 2) 1 0 0 ∧ ρ 3 = v52 ∧ ρ 4 = int i27 ∧ H (n1, 1) = some ⟨1, [[.list false (p.map AmbNode.cells)]]⟩ ∧ H (n1 + 1, 2) = some ⟨6, [[int 0, v56, v55, int 0, v54, v53]]⟩ ∧ Sep H n [oS v52 l45, oW v53 ([] : List Wire), oS v54 ([] : List Str), oI v55 ([] : List Int), oN v56 ([] : List GNode)] [(n1 + 1, 2), (n1, 1)]) (by refine ⟨v46, v29, v30, v31, v32, ?_, ?_, ?_, ?_, ?_, ?_, (Sep.f4 (Sep.f4 (Sep.f4 (Sep.f4 (Sep.f4 sp)))))⟩ <;> simp [h1, h2, h3, h4, m1_1, m2_2, f43, dc39, AmbNode.cells, intC, strC, -indexAddrF]) ?_
    clear h1 h2 h3 h4 m1_1 m2_2
    rintro ρ H n57 ⟨v52, v53, v54, v55, v56, h1, h2, h3, h4, m1_1, m2_2, sp⟩
    refine Runs.inBlock ?_
    refine Runs.evalE Ty_ok (by decide) fun k' hk' => ?_
    obtain ⟨hb58, h⟩ := h
    obtain ⟨v59, ev59⟩ : ∃ v : Int, v = i27 + 1 := ⟨_, rfl⟩
    replace h := h v59 ev59
    have f60 := ib_add hb58 ev59
    simp [h1, h2, h3, h4, m1_1, m2_2, f60, dc39, AmbNode.cells, intC, strC, -intBin]
    refine hk' _ _ _ ?_
    refine IH35 (v59, l45) _ _ _ h (by refine ⟨v53, v54, v55, v56, v52, ?_, ?_, ?_, ?_, ?_, ?_, (Sep.f4 (Sep.f4 (Sep.f4 (Sep.f4 sp))))⟩ <;> simp [h1, h2, h3, h4, m1_1, m2_2, dc39, AmbNode.cells, intC, strC])
  · replace h := h.2 dc39
    refine Runs.exit rfl ?_
    refine Runs.seqE Ty_ok (by decide) fun k' hk' => ?_
    obtain ⟨hb61, h⟩ := h
    obtain ⟨r62, er62⟩ : ∃ v : List Str, v = l2Sorted l28 := ⟨_, rfl⟩
    replace h := h r62 er62
    simp [h1, h2, h3, h4, m1_1, m2_2, dc39, AmbNode.cells, intC, strC]
    refine RunK.callW Ty_ok (l2Sorted_ok l28 hb61) e36 (.cons (Sep.argOk' (Sep.f4 sp) (old_listF (by simp [strC]))) .nil) sp (by decide) (by decide) rfl (by simp [h1, h2, h3, h4, m1_1, m2_2, dc39, AmbNode.cells, intC, strC]) ?_
    rintro v63 H64 n65 _ sp rfl hle67 hfr66
    rw [← er62] at sp
    have m1_1 : H64 (n1, 1) = some ⟨1, [[.list false (p.map AmbNode.cells)]]⟩ := (hfr66 _ (by simp)).trans (by simp [h1, h2, h3, h4, m1_1, m2_2, Heap.get_set])
    have m2_2 : H64 (n1 + 1, 2) = some ⟨6, [[int 0, v32, v31, int 0, v30, v29]]⟩ := (hfr66 _ (by simp)).trans (by simp [h1, h2, h3, h4, m1_1, m2_2, Heap.get_set])
    have f70 := Sep.oc sp
    have f72 := Sep.oc sp
    simp [h1, h2, h3, h4, m1_1, m2_2, f70, f72, dc39, AmbNode.cells, intC, strC, -cellsA, -one1, cAx, o1x]
    refine hk' _ _ _ ?_
    refine Runs.cut (fun ρ H n => ∃ (v73 : AVal) (v74 : AVal) (v75 : AVal) (v76 : AVal) (v77 : AVal) (v78 : AVal), ρ 1 = .ptr (n1, 1) 1 0 0 ∧ ρ 2 = .ptr (n1 + 1, 2) 1 0 0 ∧ ρ 3 = v78 ∧ ρ 5 = .ptr (n65, 5) 1 0 0 ∧ H (n1, 1) = some ⟨1, [[.list false (p.map AmbNode.cells)]]⟩ ∧ H (n1 + 1, 2) = some ⟨6, [[int 0, v77, v76, int 0, v75, v74]]⟩ ∧ H (n65, 5) = some ⟨6, [[int 1, .v (.slice none 0 0), .v (.slice none 0 0), int 0, v73, .v (.slice none 0 0)]]⟩ ∧ Sep H n [oS v73 r62, oW v74 ([] : List Wire), oS v75 ([] : List Str), oI v76 ([] : List Int), oN v77 ([] : List GNode), oS v78 l28] [(n65, 5), (n1 + 1, 2), (n1, 1)]) (by refine ⟨v63, v29, v30, v31, v32, v33, ?_, ?_, ?_, ?_, ?_, ?_, ?_, (Sep.f5 (Sep.f5 (Sep.f5 (Sep.f5 (Sep.f5 (Sep.f5 (Sep.var sp)))))))⟩ <;> simp [h1, h2, h3, h4, m1_1, m2_2, f70, f72, dc39, AmbNode.cells, intC, strC, -cellsA, -one1, cAx, o1x]) ?_
    clear h1 h2 h3 h4 m1_1 m2_2
    rintro ρ H n79 ⟨v73, v74, v75, v76, v77, v78, h1, h2, h3, h5, m1_1, m2_2, m5_70, sp⟩
    refine Runs.seq ?_
    refine Runs.seqE Ty_ok (by decide) fun k' hk' => ?_
    simp [h1, h2, h3, h5, m1_1, m2_2, m5_70, dc39, AmbNode.cells, intC, strC]
    refine hk' _ _ _ ?_
    refine Runs.block ?_
    refine Runs.loopW h (fun (sJ : Int × (List GNode)) ρ H n => match sJ with | (i106, l107) => ∃ (v108 : AVal) (v109 : AVal) (v110 : AVal) (v111 : AVal) (v112 : AVal) (v113 : AVal) (v114 : AVal) (v115 : AVal) (v116 : AVal), ρ 1 = .ptr (n1, 1) 1 0 0 ∧ ρ 2 = .ptr (n1 + 1, 2) 1 0 0 ∧ ρ 3 = v116 ∧ ρ 5 = .ptr (n65, 5) 1 0 0 ∧ ρ 6 = int i106 ∧ H (n1, 1) = some ⟨1, [[.list false (p.map AmbNode.cells)]]⟩ ∧ H (n1 + 1, 2) = some ⟨6, [[int 0, v115, v114, int 0, v113, v112]]⟩ ∧ H (n65, 5) = some ⟨6, [[int 1, v110, v109, int 0, v111, v108]]⟩ ∧ Sep H n [oW v108 ([] : List Wire), oI v109 ([] : List Int), oN v110 l107, oS v111 r62, oW v112 ([] : List Wire), oS v113 ([] : List Str), oI v114 ([] : List Int), oN v115 ([] : List GNode), oS v116 l28] [(n65, 5), (n1 + 1, 2), (n1, 1)]) (by refine ⟨.v (.slice none 0 0), .v (.slice none 0 0), .v (.slice none 0 0), v73, v74, v75, v76, v77, v78, ?_, ?_, ?_, ?_, ?_, ?_, ?_, ?_, (Sep.f8 (Sep.f8 (Sep.f8 (Sep.f8 (Sep.f8 (Sep.f8 (Sep.f8 (Sep.f8 (Sep.f8 (Sep.addNil (Sep.addNil (Sep.addNil sp))))))))))))⟩ <;> simp [h1, h2, h3, h5, m1_1, m2_2, m5_70, dc39, AmbNode.cells, intC, strC]) ?_
    clear h1 h2 h3 h5 m1_1 m2_2 m5_70
    rintro ⟨i106, l107⟩ ρ H n117 K h ⟨v108, v109, v110, v111, v112, v113, v114, v115, v116, h1, h2, h3, h5, h6, m1_1, m2_2, m5_70, sp⟩ IH118
    refine Runs.seq ?_
    refine Runs.seqE Ty_ok (by decide) fun k' hk' => ?_
    obtain ⟨len120, elen120⟩ : ∃ v : Int, v = (p.length : Int) := ⟨_, rfl⟩
    replace h := h len120 elen120
    have f121 := fun H => len_list (H := H) (fr := false) (f := AmbNode.cells) kd_34 elen120
    obtain ⟨c122, ec122⟩ : ∃ v : Bool, v = decide (i106 < len120) := ⟨_, rfl⟩
    replace h := h c122 ec122
    have f123 := ib_lss (k := .i64) ec122
    simp [h1, h2, h3, h5, h6, m1_1, m2_2, m5_70, f121, f123, dc39, AmbNode.cells, intC, strC, -intBin, -lenF]
    refine hk' _ _ _ ?_
    refine Runs.ite (b := c122) (by simp [h1, h2, h3, h5, h6, m1_1, m2_2, m5_70, dc39, AmbNode.cells, intC, strC]) (fun dc122 => ?_) (fun dc122 => ?_)
    · replace h := h.1 dc122
      refine Runs.skip ?_
      refine Runs.seq ?_
      refine Runs.block ?_
      refine Runs.evalME Ty_ok [55] draws (by decide) (by kernel_rfl) fun k' hk' => ?_
      obtain ⟨hb124, h⟩ := h
      obtain ⟨x125, ex125⟩ : ∃ v : AmbNode, v = at' p i106 := ⟨_, rfl⟩
      replace h := h x125 ex125
      have f126 := fun H => ix_list (H := H) (fr := false) (f := AmbNode.cells) (k := .i64) kd_34 (fun _ => rfl) hb124 ex125
      obtain ⟨hb127, h⟩ := h
      obtain ⟨x128, ex128⟩ : ∃ v : AmbNode, v = at' p i106 := ⟨_, rfl⟩
      replace h := h x128 ex128
      have hq129 := ex125.trans ex128.symm
      subst hq129
      have f130 := fun H => ix_list (H := H) (fr := false) (f := AmbNode.cells) (k := .i64) kd_34 (fun _ => rfl) hb127 ex125
      obtain ⟨hb131, h⟩ := h
      obtain ⟨id132, hv, mo133, ln134, ni135⟩ := Sep.openF (Sep.f8 sp) (by simp) hb131
      subst hv
      simp at ni135
      obtain ⟨x136, ex136⟩ : ∃ v : Str, v = at' l28 i106 := ⟨_, rfl⟩
      replace h := h x136 ex136
      have f137 := fun H (hm : H id132 = some ⟨1, l28.map strC⟩) => ix_arr (H := H) (k := .i64) (off := 0) (len := l28.length) (g := l28.length) kd_28 hm (by simp) rfl hb131
      have f138 := at_some (q := i106.toNat) hb131 ex136 rfl
      obtain ⟨hb139, h⟩ := h
      obtain ⟨r140, er140⟩ : ∃ v : Int, v = l2At r62 x136 := ⟨_, rfl⟩
      replace h := h r140 er140
      simp [h1, h2, h3, h5, h6, m1_1, m2_2, m5_70, mo133, ni135, f126, f130, f137, f138, dc39, dc122, AmbNode.cells, intC, strC, -indexAddrF]
      refine RunXK.callA (M := [55]) Ty_ok (l2At_ok r62 x136 hb139) e37 (fun _ _ hE hN => (.cons (Sep.argOk' (Sep.ext (Sep.f3 sp) hE hN) (old_listF (by simp [strC]))) (.cons (.v _ _ _) .nil))) rfl (by simp [h1, h2, h3, h5, h6, m1_1, m2_2, m5_70, mo133, ni135, f126, f130, f137, f138, dc39, dc122, AmbNode.cells, intC, strC, -indexAddrF]) ?_
      rw [← er140]
      obtain ⟨l141, el141⟩ : ∃ v : List Int, v = [r140] := ⟨_, rfl⟩
      replace h := h l141 el141
      simp [h1, h2, h3, h5, h6, m1_1, m2_2, m5_70, mo133, ni135, f126, f130, f137, f138, dc39, dc122, AmbNode.cells, intC, strC, -indexAddrF, -fillA]
      refine bindM_make (l := [.c]) (cs := [int r140]) (([r140] : List Int).map intC) sp (by simp) kd_27 (by simp) (by simp) (by simp [h1, h2, h3, h5, h6, m1_1, m2_2, m5_70, mo133, ni135, f126, f130, f137, f138, dc39, dc122, splice, List.replicate, fillA, AmbNode.cells, intC, strC, -indexAddrF]) (by simp [chunks, List.range_succ, AmbNode.cells, intC, strC, intC]) (by simp) (by simp [AmbNode.cells, intC, strC, intC]) ?_
      rintro id142 H143 n144 sp hfr145 hle146
      replace sp : Sep H143 n144 [oI (.arr id142 1 0 1) l141, oW v108 ([] : List Wire), oI v109 ([] : List Int), oN v110 l107, oS v111 r62, oW v112 ([] : List Wire), oS v113 ([] : List Str), oI v114 ([] : List Int), oN v115 ([] : List GNode), oS (.arr id132 l28.length 0 l28.length) l28] [(n65, 5), (n1 + 1, 2), (n1, 1)] := by rw [el141]; exact sp
      have m1_1 : H143 (n1, 1) = some ⟨1, [[.list false (p.map AmbNode.cells)]]⟩ := (hfr145 _ (by simp)).trans (by simp [h1, h2, h3, h5, h6, m1_1, m2_2, m5_70, mo133, ni135, Heap.get_set])
      have m2_2 : H143 (n1 + 1, 2) = some ⟨6, [[int 0, v115, v114, int 0, v113, v112]]⟩ := (hfr145 _ (by simp)).trans (by simp [h1, h2, h3, h5, h6, m1_1, m2_2, m5_70, mo133, ni135, Heap.get_set])
      have m5_70 : H143 (n65, 5) = some ⟨6, [[int 1, v110, v109, int 0, v111, v108]]⟩ := (hfr145 _ (by simp)).trans (by simp [h1, h2, h3, h5, h6, m1_1, m2_2, m5_70, mo133, ni135, Heap.get_set])
      obtain ⟨hb149, h⟩ := h
      obtain ⟨l150, el150⟩ : ∃ v : List GNode, v = l107 ++ [(GNode.mk x125.kind x125.parent l141)] := ⟨_, rfl⟩
      replace h := h l150 el150
      simp [h1, h2, h3, h5, h6, m1_1, m2_2, m5_70, ni135, f126, f130, f137, f138, dc39, dc122, AmbNode.cells, GNode.cells, intC, sliceC, strC, -indexAddrF, -appendF]
      refine bindM_append [oI (.arr id142 1 0 1) l141] [oW v108 ([] : List Wire), oI v109 ([] : List Int), oS v111 r62, oW v112 ([] : List Wire), oS v113 ([] : List Str), oI v114 ([] : List Int), oN v115 ([] : List GNode), oS (.arr id132 l28.length 0 l28.length) l28] [[int x125.kind, int x125.parent, .arr id142 1 0 1]] [(GNode.cells true) (GNode.mk x125.kind x125.parent l141)] (Sep.f3 sp) kd_26 (by simp) (by simp) (by simp [AmbNode.cells, GNode.cells, intC, sliceC, strC]) (by simp [-one1, o1x, Sep.one1 (Sep.dr (Sep.f3 sp))]) (rows_one (Fill.v _ (Fill.v _ (Fill.own Fill.nil)))) (by simp) (by simpa using hb149) ?_
      rintro v151 H152 n153 sp hfr154 hle155
      replace sp : Sep H152 n153 [oN v151 l150, oW v108 ([] : List Wire), oI v109 ([] : List Int), oS v111 r62, oW v112 ([] : List Wire), oS v113 ([] : List Str), oI v114 ([] : List Int), oN v115 ([] : List GNode), oS (.arr id132 l28.length 0 l28.length) l28] [(n65, 5), (n1 + 1, 2), (n1, 1)] := Sep.ap el150 sp
      have m1_1 : H152 (n1, 1) = some ⟨1, [[.list false (p.map AmbNode.cells)]]⟩ := (hfr154 _ (by simp)).trans (by simp [h1, h2, h3, h5, h6, m1_1, m2_2, m5_70, ni135, Heap.get_set])
      have m2_2 : H152 (n1 + 1, 2) = some ⟨6, [[int 0, v115, v114, int 0, v113, v112]]⟩ := (hfr154 _ (by simp)).trans (by simp [h1, h2, h3, h5, h6, m1_1, m2_2, m5_70, ni135, Heap.get_set])
      have m5_70 : H152 (n65, 5) = some ⟨6, [[int 1, v110, v109, int 0, v111, v108]]⟩ := (hfr154 _ (by simp)).trans (by simp [h1, h2, h3, h5, h6, m1_1, m2_2, m5_70, ni135, Heap.get_set])
      have f157 := Sep.oc sp
      simp [h1, h2, h3, h5, h6, m1_1, m2_2, m5_70, ni135, f126, f130, f137, f138, f157, dc39, dc122, AmbNode.cells, GNode.cells, intC, sliceC, strC, -cellsA, -indexAddrF, -one1, cAx, o1x]
      refine hk' _ _ _ ?_
      refine Runs.cut (fun ρ H n => ∃ (v158 : AVal) (v159 : AVal) (v160 : AVal) (v161 : AVal) (v162 : AVal) (v163 : AVal) (v164 : AVal) (v165 : AVal) (v166 : AVal), ρ 1 = .ptr (n1, 1) 1 0 0 ∧ ρ 2 = .ptr (n1 + 1, 2) 1 0 0 ∧ ρ 3 = v166 ∧ ρ 5 = .ptr (n65, 5) 1 0 0 ∧ ρ 6 = int i106 ∧ H (n1, 1) = some ⟨1, [[.list false (p.map AmbNode.cells)]]⟩ ∧ H (n1 + 1, 2) = some ⟨6, [[int 0, v165, v164, int 0, v163, v162]]⟩ ∧ H (n65, 5) = some ⟨6, [[int 1, v158, v160, int 0, v161, v159]]⟩ ∧ Sep H n [oN v158 l150, oW v159 ([] : List Wire), oI v160 ([] : List Int), oS v161 r62, oW v162 ([] : List Wire), oS v163 ([] : List Str), oI v164 ([] : List Int), oN v165 ([] : List GNode), oS v166 l28] [(n65, 5), (n1 + 1, 2), (n1, 1)]) (by refine ⟨v151, v108, v109, v111, v112, v113, v114, v115, .arr id132 l28.length 0 l28.length, ?_, ?_, ?_, ?_, ?_, ?_, ?_, ?_, (Sep.f8 (Sep.f8 (Sep.f8 (Sep.f8 (Sep.f8 (Sep.f8 (Sep.f8 (Sep.f8 (Sep.f8 (Sep.setVar (w := (n65, 5)) sp (by simp)))))))))))⟩ <;> simp [h1, h2, h3, h5, h6, m1_1, m2_2, m5_70, ni135, f126, f130, f137, f138, f157, dc39, dc122, AmbNode.cells, GNode.cells, intC, sliceC, strC, -cellsA, -indexAddrF, -one1, cAx, o1x]) ?_
      clear h1 h2 h3 h5 h6 m1_1 m2_2 m5_70 ni135
      rintro ρ H n167 ⟨v158, v159, v160, v161, v162, v163, v164, v165, v166, h1, h2, h3, h5, h6, m1_1, m2_2, m5_70, sp⟩
      refine Runs.inBlock ?_
      refine Runs.evalE Ty_ok (by decide) fun k' hk' => ?_
      obtain ⟨hb168, h⟩ := h
      obtain ⟨v169, ev169⟩ : ∃ v : Int, v = i106 + 1 := ⟨_, rfl⟩
      replace h := h v169 ev169
      have f170 := ib_add hb168 ev169
      simp [h1, h2, h3, h5, h6, m1_1, m2_2, m5_70, f170, dc39, dc122, AmbNode.cells, GNode.cells, intC, sliceC, strC, -intBin]
      refine hk' _ _ _ ?_
      refine IH118 (v169, l150) _ _ _ h (by refine ⟨v159, v160, v158, v161, v162, v163, v164, v165, v166, ?_, ?_, ?_, ?_, ?_, ?_, ?_, ?_, (Sep.f8 (Sep.f8 (Sep.f6 (Sep.f8 (Sep.f8 (Sep.f8 (Sep.f8 (Sep.f8 (Sep.f8 sp)))))))))⟩ <;> simp [h1, h2, h3, h5, h6, m1_1, m2_2, m5_70, dc39, dc122, AmbNode.cells, GNode.cells, intC, sliceC, strC])
    · replace h := h.2 dc122
      refine Runs.exit rfl ?_
      refine Runs.seqE Ty_ok (by decide) fun k' hk' => ?_
      have f171 := Sep.oc (Sep.f2 sp)
      have f172 := Sep.oc (Sep.f1 sp)
      have f173 := Sep.oc (Sep.f3 sp)
      have f174 := Sep.oc sp
      simp [h1, h2, h3, h5, h6, m1_1, m2_2, m5_70, f171, f172, f173, f174, dc39, dc122, AmbNode.cells, GNode.cells, intC, sliceC, strC, -cellsA, -one1, cAx, o1x]
      refine hk' _ _ _ ?_
      refine Runs.cut (fun ρ H n => ∃ (v175 : AVal) (v176 : AVal) (v177 : AVal) (v178 : AVal), ρ 2 = .ptr (n1 + 1, 2) 1 0 0 ∧ H (n1 + 1, 2) = some ⟨6, [[int 1, v177, v176, int 0, v178, v175]]⟩ ∧ Sep H n [oW v175 ([] : List Wire), oI v176 ([] : List Int), oN v177 l107, oS v178 r62] [(n1 + 1, 2)]) (by refine ⟨v108, v109, v110, v111, ?_, ?_, (Sep.sub (Sep.f3 (Sep.f3 (Sep.f3 (Sep.f3 (Sep.dr (Sep.f4 (Sep.dr (Sep.f4 (Sep.dr (Sep.f4 (Sep.dr (Sep.f4 (Sep.dr (Sep.f4 (Sep.setVar (w := (n1 + 1, 2)) sp (by simp)))))))))))))))) (by simp +contextual))⟩ <;> simp [h1, h2, h3, h5, h6, m1_1, m2_2, m5_70, f171, f172, f173, f174, dc39, dc122, AmbNode.cells, GNode.cells, intC, sliceC, strC, -cellsA, -one1, cAx, o1x]) ?_
      clear h1 h2 h3 h5 h6 m1_1 m2_2 m5_70
      rintro ρ H n179 ⟨v175, v176, v177, v178, h2, m2_2, sp⟩
      exact Runs.res1 Ty_ok (v := .agg [int 1, v177, v176, int 0, v178, v175]) Tryd.func15 Tryd.results15 (by simp [h2, m2_2, dc39, dc122, resA, AmbNode.cells, GNode.cells, intC, sliceC, strC]) (hQ _ _ _ _ (Sep.sub (ids' := []) (Sep.pack (Fill.v _ (Fill.own (Fill.own (Fill.v _ (Fill.own (Fill.own Fill.nil)))))) (Sep.f3 (Sep.f2 (Sep.f3 sp)))) (by simp)) ⟨(Big.mk 1 l107 ([] : List Int) 0 r62 ([] : List Wire)), h, rfl⟩)

theorem l12Encode_ok (p : Proc) (hp : l12Encode_pre p) : OwnS Tryd.prog 15 [.agg [.list false (p.map AmbNode.cells)]] (.a [.c, .s [.c, .c, .s [.c]], .s [.c], .c, .s [.c], .s [.c, .c]]) (fun r => r = .agg [int ((l12Encode p).roots), .list true (((l12Encode p).nodes).map (GNode.cells true)), .list true (((l12Encode p).sites).map intC), int ((l12Encode p).edges), .list true (((l12Encode p).outer).map strC), .list true (((l12Encode p).inner).map Wire.cells)]) := (l12Encode_walk p _ (l12Encode_vc p hp)).mono (by rintro _ ⟨_, rfl, rfl⟩; rfl)
end Go.Ab.Vg

/- Walks by program for YthahiicfnadamaaDoorAbCp. -/
namespace Go.Ab.Vg
open Go.Proofs
set_option maxRecDepth 100000
set_option linter.unusedSimpArgs false
set_option linter.unusedVariables false

end Go.Ab.Vg

/- Walks by program for YthahiicfnadamaaDoorAbCq. -/
namespace Go.Ab.Vg
open Go.Proofs
set_option maxRecDepth 100000
set_option linter.unusedSimpArgs false
set_option linter.unusedVariables false
theorem szT_ok (p : Proc) (left : Int) (h0 : 0 ≤ left) (h1 : left ≤ 1048576) (hp : Small p) : PureC Tryd.prog 4 [encP false p, int left] (fun r => r = int (szT p left)) := Go.Ab.szProcess_ok p left h0 h1 hp

theorem toP_ok (p : Proc) (h : p.length ≤ 1048576) : PureC Tryd.prog 6 [encP false p] (fun r => r = .agg [.list true ((idP p).map AmbNode.cells)]) := Go.Ab.toProcess_ok p h

theorem eqP_ok (p q : Proc) (h : p.length ≤ 1048576) : PureC Tryd.prog 9 [encP false p, encP false q] (fun r => r = bool (eqP p q)) := Go.Ab.eqProcess_ok p q h
end Go.Ab.Vg
