/- Merged texts (7 of 11) of the proof that ends in My: Mpw Pb Pc Pd Pe Pf Pg Ph Pi Pj Pw Caw Cgw. -/
import Derived.Test.YtkhhalniblpkcaaGreatDoorAbQm6
/- Walks by program for YtkhhalniblpkcaaGreatDoorAbMp. -/
namespace Go.Ab.Vg
open Go.Proofs
set_option maxRecDepth 100000
set_option linter.unusedSimpArgs false
set_option linter.unusedVariables false
theorem e28 : Ent Tryz.prog 28 := Ent.of Tryz.func28 (by kernel_rfl) rfl
theorem markAmbS_walk (a : List AmbNode) (k_ : Int) (Z : ((List AmbNode) × Int) → Prop) (h : markAmbS_wp a k_ Z) : MutS Tryz.prog 28 (fun v => [v, int k_]) (.s [.c, .c, .c]) (.list true (a.map AmbNode.cells)) (fun e' r => ∃ y : (List AmbNode) × Int, Z y ∧ e' = .list true (y.1.map AmbNode.cells) ∧ r = int y.2) := by
  unfold markAmbS_wp at h
  refine MutS.of Tryz.func28 rfl Tryz.ntmps28 (fun _ => by simp) fun H0 n0 v0 K0 ids0 sp Q hQ => ?_
  have h00 := sp.1
  have hid : ∀ i ∈ ids0, H0 i = H0 i := fun _ _ => rfl
  have hnn : n0 ≤ n0 := Nat.le_refl _
  refine Runs.cut (fun ρ H n => ρ 0 = v0 ∧ ρ 1 = int k_ ∧ n0 ≤ n ∧ (∀ i ∈ ids0, H i = H0 i) ∧ Sep H n ((.s [.c, .c, .c], v0, .list true (a.map AmbNode.cells)) :: K0) (ids0)) (by refine ⟨?_, ?_, (by omega), hid, sp⟩ <;> simp [AmbNode.cells, intC, strC]) ?_
  rintro ρ H n2 ⟨h0, h1, hnn, hid, sp⟩
  have hq_n2 := hnn
  refine Runs.seqE Ty_ok (by decide) fun k' hk' => ?_
  simp [h0, h1, AmbNode.cells, intC, strC]
  refine hk' _ _ _ ?_
  refine Runs.seq ?_
  refine Runs.seqE Ty_ok (by decide) fun k' hk' => ?_
  simp [h0, h1, AmbNode.cells, intC, strC]
  refine hk' _ _ _ ?_
  refine Runs.block ?_
  refine Runs.loopW h (fun (s : Int × Int × (List AmbNode)) ρ H n => match s with | (k10, i11, l12) => ρ 0 = v0 ∧ ρ 1 = int k10 ∧ ρ 5 = int i11 ∧ n0 ≤ n ∧ (∀ i ∈ ids0, H i = H0 i) ∧ Sep H n ((.s [.c, .c, .c], v0, .list true (l12.map AmbNode.cells)) :: K0) (ids0)) (by refine ⟨?_, ?_, ?_, (by omega), hid, sp⟩ <;> simp [h0, h1, AmbNode.cells, intC, strC]) ?_
  clear h0 h1
  rintro ⟨k10, i11, l12⟩ ρ H n13 K h ⟨h0, h1, h5, hnn, hid, sp⟩ IH14
  have hq_n13 := hnn
  refine Runs.seq ?_
  refine Runs.seqE Ty_ok (by decide) fun k' hk' => ?_
  obtain ⟨len16, elen16⟩ : ∃ v : Int, v = (l12.length : Int) := ⟨_, rfl⟩
  replace h := h len16 elen16
  have f17 := len_own (Sep.len (m := len16) sp kd_26 (by rw [elen16, List.length_map]))
  obtain ⟨c18, ec18⟩ : ∃ v : Bool, v = decide (i11 < len16) := ⟨_, rfl⟩
  replace h := h c18 ec18
  have f19 := ib_lss (k := .i64) ec18
  simp [h0, h1, h5, f17, f19, AmbNode.cells, intC, strC, -intBin, -lenF]
  refine hk' _ _ _ ?_
  refine Runs.ite (b := c18) (by simp [h0, h1, h5, AmbNode.cells, intC, strC]) (fun dc18 => ?_) (fun dc18 => ?_)
  · replace h := h.1 dc18
    refine Runs.skip ?_
    refine Runs.seq ?_
    refine Runs.block ?_
    refine Runs.seqE Ty_ok (by decide) fun k' hk' => ?_
    obtain ⟨hb20, h⟩ := h
    obtain ⟨id21, hv, mo22, ln23, ni24⟩ := Sep.openF sp (by simp) hb20
    subst hv
    obtain ⟨x25, ex25⟩ : ∃ v : AmbNode, v = at' l12 i11 := ⟨_, rfl⟩
    replace h := h x25 ex25
    have f26 := fun H (hm : H id21 = some ⟨3, l12.map AmbNode.cells⟩) => ix_arr (H := H) (k := .i64) (off := 0) (len := l12.length) (g := l12.length) kd_26 hm (by simp) rfl hb20
    have f27 := at_some (q := i11.toNat) hb20 ex25 rfl
    obtain ⟨l28, el28⟩ : ∃ v : List AmbNode, v = l12.set i11.toNat (AmbNode.mk k10 x25.name x25.parent) := ⟨_, rfl⟩
    replace h := h l28 el28
    simp [h0, h1, h5, mo22, f26, f27, dc18, AmbNode.cells, intC, strC, -indexAddrF, -storeF]
    refine bind_field (i := ty3) (q := i11.toNat) (off := 0) (new := [int k10]) (ix := i11) (x := x25) (y := (AmbNode.mk k10 x25.name x25.parent)) (f := AmbNode.cells) sp (by simp) (by simp) hb20 ex25 rfl rfl (fun _ => rfl) (by simp [AmbNode.cells, intC, strC]) (by simp) (by simp [splice, AmbNode.cells, intC, strC]) (by simp) ?_
    rintro H29 sp hfr30
    replace sp : Sep H29 n13 ((.s [.c, .c, .c], .arr id21 l12.length 0 l12.length, .list true (l28.map AmbNode.cells)) :: K0) (ids0) := by rw [el28]; exact sp
    have hid : ∀ i ∈ ids0, H29 i = H0 i := fun i hi => (hfr30 i (by simp [hi])).trans (hid i hi)
    simp [h0, h1, h5, f26, f27, dc18, AmbNode.cells, intC, strC, -indexAddrF]
    refine hk' _ _ _ ?_
    refine Runs.cut (fun ρ H n => ρ 0 = .arr id21 l12.length 0 l12.length ∧ ρ 1 = int k10 ∧ ρ 5 = int i11 ∧ n0 ≤ n ∧ (∀ i ∈ ids0, H i = H0 i) ∧ Sep H n ((.s [.c, .c, .c], .arr id21 l12.length 0 l12.length, .list true (l28.map AmbNode.cells)) :: K0) (ids0)) (by refine ⟨?_, ?_, ?_, (by omega), hid, sp⟩ <;> simp [h0, h1, h5, f26, f27, dc18, AmbNode.cells, intC, strC, -indexAddrF]) ?_
    clear h0 h1 h5
    rintro ρ H n32 ⟨h0, h1, h5, hnn, hid, sp⟩
    have hq_n32 := hnn
    refine Runs.seqE Ty_ok (by decide) fun k' hk' => ?_
    obtain ⟨hb33, h⟩ := h
    obtain ⟨v34, ev34⟩ : ∃ v : Int, v = k10 + 1 := ⟨_, rfl⟩
    replace h := h v34 ev34
    have f35 := ib_add hb33 ev34
    simp [h0, h1, h5, f35, dc18, AmbNode.cells, intC, strC, -intBin]
    refine hk' _ _ _ ?_
    refine Runs.seqE Ty_ok (by decide) fun k' hk' => ?_
    obtain ⟨hb36, h⟩ := h
    obtain ⟨r37, er37⟩ : ∃ v : Str, v = markTxt v34 := ⟨_, rfl⟩
    replace h := h r37 er37
    simp [h0, h1, h5, dc18, AmbNode.cells, intC, strC]
    refine RunK.callA Ty_ok (markTxt_ok v34 hb36) e47 (.cons (.v _ _ _) .nil) (by decide) (by decide) rfl (by simp [h0, h1, h5, dc18, AmbNode.cells, intC, strC]) ?_
    rintro _ rfl
    rw [← er37]
    obtain ⟨hb38, h⟩ := h
    obtain ⟨id39, hv, mo40, ln41, ni42⟩ := Sep.openF sp (by simp) hb38
    simp only [AVal.arr.injEq] at hv
    obtain ⟨hv, hln43, -⟩ := hv
    subst hv
    have hlshln43 := hln43.symm
    obtain ⟨x44, ex44⟩ : ∃ v : AmbNode, v = at' l28 i11 := ⟨_, rfl⟩
    replace h := h x44 ex44
    have f45 := fun H (hm : H id21 = some ⟨3, l28.map AmbNode.cells⟩) => ix_arr (H := H) (k := .i64) (off := 0) (len := l12.length) (g := l12.length) kd_26 hm (by simp [hln43]) rfl (by rw [hln43]; exact hb38)
    have f46 := at_some (q := i11.toNat) hb38 ex44 rfl
    obtain ⟨l47, el47⟩ : ∃ v : List AmbNode, v = l28.set i11.toNat (AmbNode.mk x44.kind r37 x44.parent) := ⟨_, rfl⟩
    replace h := h l47 el47
    simp [h0, h1, h5, hlshln43, mo40, f45, f46, dc18, AmbNode.cells, intC, strC, -indexAddrF, -storeF]
    refine bind_field (i := ty9) (q := i11.toNat) (off := 1) (new := [str r37]) (ix := i11) (x := x44) (y := (AmbNode.mk x44.kind r37 x44.parent)) (f := AmbNode.cells) sp (by simp) (by simp) hb38 ex44 rfl hln43 (fun _ => rfl) (by simp [AmbNode.cells, intC, strC]) (by simp) (by simp [splice, AmbNode.cells, intC, strC]) (by simp) ?_
    rintro H48 sp hfr49
    replace sp : Sep H48 n32 ((.s [.c, .c, .c], .arr id21 l12.length 0 l12.length, .list true (l47.map AmbNode.cells)) :: K0) (ids0) := by rw [el47]; exact sp
    have hid : ∀ i ∈ ids0, H48 i = H0 i := fun i hi => (hfr49 i (by simp [hi])).trans (hid i hi)
    simp [h0, h1, h5, hlshln43, f45, f46, dc18, AmbNode.cells, intC, strC, -indexAddrF]
    refine hk' _ _ _ ?_
    refine Runs.cut (fun ρ H n => ρ 0 = .arr id21 l12.length 0 l12.length ∧ ρ 1 = int v34 ∧ ρ 5 = int i11 ∧ n0 ≤ n ∧ (∀ i ∈ ids0, H i = H0 i) ∧ Sep H n ((.s [.c, .c, .c], .arr id21 l12.length 0 l12.length, .list true (l47.map AmbNode.cells)) :: K0) (ids0)) (by refine ⟨?_, ?_, ?_, (by omega), hid, sp⟩ <;> simp [h0, h1, h5, hlshln43, f45, f46, dc18, AmbNode.cells, intC, strC, -indexAddrF]) ?_
    clear h0 h1 h5 hlshln43
    rintro ρ H n51 ⟨h0, h1, h5, hnn, hid, sp⟩
    have hq_n51 := hnn
    refine Runs.seqE Ty_ok (by decide) fun k' hk' => ?_
    obtain ⟨hb52, h⟩ := h
    obtain ⟨v53, ev53⟩ : ∃ v : Int, v = v34 + 1 := ⟨_, rfl⟩
    replace h := h v53 ev53
    have f54 := ib_add hb52 ev53
    simp [h0, h1, h5, f54, dc18, AmbNode.cells, intC, strC, -intBin]
    refine hk' _ _ _ ?_
    refine Runs.seqE Ty_ok (by decide) fun k' hk' => ?_
    obtain ⟨hb55, h⟩ := h
    obtain ⟨id56, hv, mo57, ln58, ni59⟩ := Sep.openF sp (by simp) hb55
    simp only [AVal.arr.injEq] at hv
    obtain ⟨hv, hln60, -⟩ := hv
    subst hv
    have hlshln60 := hln60.symm
    obtain ⟨x61, ex61⟩ : ∃ v : AmbNode, v = at' l47 i11 := ⟨_, rfl⟩
    replace h := h x61 ex61
    have f62 := fun H (hm : H id21 = some ⟨3, l47.map AmbNode.cells⟩) => ix_arr (H := H) (k := .i64) (off := 0) (len := l12.length) (g := l12.length) kd_26 hm (by simp [hln60]) rfl (by rw [hln60]; exact hb55)
    have f63 := at_some (q := i11.toNat) hb55 ex61 rfl
    obtain ⟨l64, el64⟩ : ∃ v : List AmbNode, v = l47.set i11.toNat (AmbNode.mk x61.kind x61.name v53) := ⟨_, rfl⟩
    replace h := h l64 el64
    simp [h0, h1, h5, hlshln60, mo57, f62, f63, dc18, AmbNode.cells, intC, strC, -indexAddrF, -storeF]
    refine bind_field (i := ty3) (q := i11.toNat) (off := 2) (new := [int v53]) (ix := i11) (x := x61) (y := (AmbNode.mk x61.kind x61.name v53)) (f := AmbNode.cells) sp (by simp) (by simp) hb55 ex61 rfl hln60 (fun _ => rfl) (by simp [AmbNode.cells, intC, strC]) (by simp) (by simp [splice, AmbNode.cells, intC, strC]) (by simp) ?_
    rintro H65 sp hfr66
    replace sp : Sep H65 n51 ((.s [.c, .c, .c], .arr id21 l12.length 0 l12.length, .list true (l64.map AmbNode.cells)) :: K0) (ids0) := by rw [el64]; exact sp
    have hid : ∀ i ∈ ids0, H65 i = H0 i := fun i hi => (hfr66 i (by simp [hi])).trans (hid i hi)
    simp [h0, h1, h5, hlshln60, f62, f63, dc18, AmbNode.cells, intC, strC, -indexAddrF]
    refine hk' _ _ _ ?_
    refine Runs.cut (fun ρ H n => ρ 0 = .arr id21 l12.length 0 l12.length ∧ ρ 1 = int v53 ∧ ρ 5 = int i11 ∧ n0 ≤ n ∧ (∀ i ∈ ids0, H i = H0 i) ∧ Sep H n ((.s [.c, .c, .c], .arr id21 l12.length 0 l12.length, .list true (l64.map AmbNode.cells)) :: K0) (ids0)) (by refine ⟨?_, ?_, ?_, (by omega), hid, sp⟩ <;> simp [h0, h1, h5, hlshln60, f62, f63, dc18, AmbNode.cells, intC, strC, -indexAddrF]) ?_
    clear h0 h1 h5 hlshln60
    rintro ρ H n68 ⟨h0, h1, h5, hnn, hid, sp⟩
    have hq_n68 := hnn
    refine Runs.evalE Ty_ok (by decide) fun k' hk' => ?_
    obtain ⟨hb69, h⟩ := h
    obtain ⟨v70, ev70⟩ : ∃ v : Int, v = v53 + 1 := ⟨_, rfl⟩
    replace h := h v70 ev70
    have f71 := ib_add hb69 ev70
    simp [h0, h1, h5, f71, dc18, AmbNode.cells, intC, strC, -intBin]
    refine hk' _ _ _ ?_
    refine Runs.inBlock ?_
    refine Runs.evalE Ty_ok (by decide) fun k' hk' => ?_
    obtain ⟨hb72, h⟩ := h
    obtain ⟨v73, ev73⟩ : ∃ v : Int, v = i11 + 1 := ⟨_, rfl⟩
    replace h := h v73 ev73
    have f74 := ib_add hb72 ev73
    simp [h0, h1, h5, f74, dc18, AmbNode.cells, intC, strC, -intBin]
    refine hk' _ _ _ ?_
    refine IH14 (v70, v73, l64) _ _ _ h (by refine ⟨?_, ?_, ?_, (by omega), hid, sp⟩ <;> simp [h0, h1, h5, dc18, AmbNode.cells, intC, strC])
  · replace h := h.2 dc18
    refine Runs.exit rfl ?_
    refine Runs.seqE Ty_ok (by decide) fun k' hk' => ?_
    simp [h0, h1, h5, dc18, AmbNode.cells, intC, strC]
    refine hk' _ _ _ ?_
    exact Runs.ret1 (v := int k10) Tryz.func28 Tryz.results28 (by simp [h0, h1, h5, dc18, AmbNode.cells, intC, strC]) (hQ _ _ _ _ (Sep.sub sp (by simp +contextual)) hid (by omega) ⟨(l12, k10), h, rfl, rfl⟩)

theorem markAmbS_ok (a : List AmbNode) (k_ : Int) (hp : markAmbS_pre a k_) : MutS Tryz.prog 28 (fun v => [v, int k_]) (.s [.c, .c, .c]) (.list true (a.map AmbNode.cells)) (fun e' r => e' = .list true (((markAmbS a k_).1).map AmbNode.cells) ∧ r = int ((markAmbS a k_).2)) := (markAmbS_walk a k_ _ (markAmbS_vc a k_ hp)).mono (by rintro _ _ ⟨_, rfl, rfl, rfl⟩; exact ⟨rfl, rfl⟩)

theorem e11 : Ent Tryz.prog 11 := Ent.of Tryz.func11 (by kernel_rfl) rfl
theorem markProcess_walk (a : Proc) (k_ : Int) (Z : (Proc × Int) → Prop) (h : markProcess_wp a k_ Z) : MutS Tryz.prog 11 (fun v => [v, int k_]) (.a [.s [.c, .c, .c]]) (.agg [.list true (a.map AmbNode.cells)]) (fun e' r => ∃ y : Proc × Int, Z y ∧ e' = .agg [.list true (y.1.map AmbNode.cells)] ∧ r = int y.2) := by
  unfold markProcess_wp at h
  refine MutS.of Tryz.func11 rfl Tryz.ntmps11 (fun _ => by simp) fun H0 n0 v0 K0 ids0 sp Q hQ => ?_
  have h00 := sp.1
  have hid : ∀ i ∈ ids0, H0 i = H0 i := fun _ _ => rfl
  have hnn : n0 ≤ n0 := Nat.le_refl _
  replace sp := Sep.unpack sp
  obtain ⟨L0, hv, hl0, sp⟩ := sp
  subst hv
  obtain ⟨a0_, hv⟩ := len1 (by simpa using hl0)
  subst hv
  simp only [zip3, List.cons_append, List.nil_append] at sp
  replace sp := Sep.rot sp
  try simp only [List.cons_append, List.nil_append, List.append_assoc] at sp
  replace sp := Sep.swap (K1 := K0) sp
  simp only [List.cons_append, List.nil_append] at sp
  refine Runs.cut (fun ρ H n => ρ 0 = .agg [a0_] ∧ ρ 1 = int k_ ∧ n0 ≤ n ∧ (∀ i ∈ ids0, H i = H0 i) ∧ Sep H n ((.s [.c, .c, .c], a0_, .list true (a.map AmbNode.cells)) :: K0) (ids0)) (by refine ⟨?_, ?_, (by omega), hid, sp⟩ <;> simp [AmbNode.cells, intC, strC]) ?_
  rintro ρ H n2 ⟨h0, h1, hnn, hid, sp⟩
  have hq_n2 := hnn
  refine Runs.seqE Ty_ok (by decide) fun k' hk' => ?_
  have f3 := cell_own (Sep.cells sp)
  have f4 := cell_own (Sep.one1 sp)
  simp [h0, h1, f3, f4, AmbNode.cells, intC, strC, -cellsA, -one1, cA_int, cA_bool, cA_str, cA_nil, cA_agg, cA_list, cA_arr, cA_ptr, o1_int, o1_bool, o1_str, o1_nil, o1_list, o1_arr, o1_ptr]
  refine hk' _ _ _ ?_
  refine Runs.cut (fun ρ H n => ρ 1 = int k_ ∧ ρ 2 = .ptr (n2, 2) 1 0 0 ∧ H (n2, 2) = some ⟨1, [[a0_]]⟩ ∧ n0 ≤ n ∧ (∀ i ∈ ids0, H i = H0 i) ∧ Sep H n ((.s [.c, .c, .c], a0_, .list true (a.map AmbNode.cells)) :: K0) ((n2, 2) :: ids0)) (by refine ⟨?_, ?_, ?_, (by omega), (by intro i hi; have hlt := h00 i hi; repeat (first | exact hid i hi | rw [Heap.get_set_ne _ _ (by rintro rfl; simp at hlt; omega)])), (Sep.var sp)⟩ <;> simp [h0, h1, f3, f4, AmbNode.cells, intC, strC, -cellsA, -one1, cA_int, cA_bool, cA_str, cA_nil, cA_agg, cA_list, cA_arr, cA_ptr, o1_int, o1_bool, o1_str, o1_nil, o1_list, o1_arr, o1_ptr]) ?_
  clear h0 h1
  rintro ρ H n6 ⟨h1, h2, m2_4, hnn, hid, sp⟩
  have hq_n6 := hnn
  refine Runs.seqE Ty_ok (by decide) fun k' hk' => ?_
  obtain ⟨hb7, h⟩ := h
  obtain ⟨r8, er8⟩ : ∃ v : (List AmbNode) × Int, v = markAmbS a k_ := ⟨_, rfl⟩
  replace h := h r8 er8
  have f9 := cell_own (Sep.cells sp)
  have f10 := cell_own (Sep.one1 sp)
  simp [h1, h2, m2_4, f9, f10, AmbNode.cells, intC, strC, -cellsA, -one1, cA_int, cA_bool, cA_str, cA_nil, cA_agg, cA_list, cA_arr, cA_ptr, o1_int, o1_bool, o1_str, o1_nil, o1_list, o1_arr, o1_ptr]
  refine RunK.callM (v := a0_) Ty_ok (markAmbS_ok a k_ hb7) e28 sp (by decide) (by decide) rfl (by simp [h1, h2, m2_4, f9, f10, AmbNode.cells, intC, strC, -cellsA, -one1, cA_int, cA_bool, cA_str, cA_nil, cA_agg, cA_list, cA_arr, cA_ptr, o1_int, o1_bool, o1_str, o1_nil, o1_list, o1_arr, o1_ptr]) ?_
  rintro _ H11 n12 _ ⟨rfl, rfl⟩ sp hle14 hfr13
  rw [← er8] at sp
  rw [← er8]
  replace sp : Sep H11 n12 ((.s [.c, .c, .c], a0_, .list true (r8.1.map AmbNode.cells)) :: K0) ((n2, 2) :: ids0) := sp
  have hid : ∀ i ∈ ids0, H11 i = H0 i := fun i hi => (hfr13 i (by simp [hi])).trans (hid i hi)
  have hnn : n0 ≤ n12 := by omega
  have hq_n12 := hnn
  have m2_4 : H11 (n2, 2) = some ⟨1, [[a0_]]⟩ := (hfr13 _ (by simp)).trans (by simp [h1, h2, m2_4, Heap.get_set])
  simp [h1, h2, m2_4, f9, f10, AmbNode.cells, intC, strC, -cellsA, -one1, cA_int, cA_bool, cA_str, cA_nil, cA_agg, cA_list, cA_arr, cA_ptr, o1_int, o1_bool, o1_str, o1_nil, o1_list, o1_arr, o1_ptr]
  refine hk' _ _ _ ?_
  refine Runs.cut (fun ρ H n => ρ 1 = int r8.2 ∧ n0 ≤ n ∧ (∀ i ∈ ids0, H i = H0 i) ∧ Sep H n ((.s [.c, .c, .c], a0_, .list true (r8.1.map AmbNode.cells)) :: K0) (ids0)) (by refine ⟨?_, (by omega), hid, (Sep.sub sp (by simp +contextual))⟩ <;> simp [h1, h2, m2_4, f9, f10, AmbNode.cells, intC, strC, -cellsA, -one1, cA_int, cA_bool, cA_str, cA_nil, cA_agg, cA_list, cA_arr, cA_ptr, o1_int, o1_bool, o1_str, o1_nil, o1_list, o1_arr, o1_ptr]) ?_
  clear h1 h2 m2_4
  rintro ρ H n16 ⟨h1, hnn, hid, sp⟩
  have hq_n16 := hnn
  refine Runs.seqE Ty_ok (by decide) fun k' hk' => ?_
  simp [h1, AmbNode.cells, intC, strC]
  refine hk' _ _ _ ?_
  exact Runs.ret1 (v := int r8.2) Tryz.func11 Tryz.results11 (by simp [h1, AmbNode.cells, intC, strC]) (hQ _ _ _ _ (Sep.sub (Sep.pack (K := K0) (Fill.own Fill.nil) sp) (by simp +contextual)) hid (by omega) ⟨(r8.1, r8.2), h, rfl, rfl⟩)

theorem markProcess_ok (a : Proc) (k_ : Int) (hp : markProcess_pre a k_) : MutS Tryz.prog 11 (fun v => [v, int k_]) (.a [.s [.c, .c, .c]]) (.agg [.list true (a.map AmbNode.cells)]) (fun e' r => e' = .agg [.list true (((markProcess a k_).1).map AmbNode.cells)] ∧ r = int ((markProcess a k_).2)) := (markProcess_walk a k_ _ (markProcess_vc a k_ hp)).mono (by rintro _ _ ⟨_, rfl, rfl, rfl⟩; exact ⟨rfl, rfl⟩)

theorem e29 : Ent Tryz.prog 29 := Ent.of Tryz.func29 (by kernel_rfl) rfl
theorem heldAmbS_walk (a : List AmbNode) (k_ : Int) (Z : Int → Prop) (h : heldAmbS_wp a k_ Z) : PureC Tryz.prog 29 [.list false (a.map AmbNode.cells), int k_] (fun r => ∃ y : Int, Z y ∧ r = int y) := by
  unfold heldAmbS_wp at h
  refine PureC.of Tryz.func29 rfl Tryz.ntmps29 (by simp) fun Q hQ => ?_
  refine Runs.cut (fun ρ H n => ρ 0 = .list false (a.map AmbNode.cells) ∧ ρ 1 = int k_) (by refine ⟨?_, ?_⟩ <;> simp [AmbNode.cells, intC, strC]) ?_
  rintro ρ H n1 ⟨h0, h1⟩
  refine Runs.seqE Ty_ok (by decide) fun k' hk' => ?_
  simp [h0, h1, AmbNode.cells, intC, strC]
  refine hk' _ _ _ ?_
  refine Runs.seq ?_
  refine Runs.seqE Ty_ok (by decide) fun k' hk' => ?_
  simp [h0, h1, AmbNode.cells, intC, strC]
  refine hk' _ _ _ ?_
  refine Runs.block ?_
  refine Runs.loopW h (fun (s : Int × Int) ρ H n => match s with | (k5, i6) => ρ 0 = .list false (a.map AmbNode.cells) ∧ ρ 1 = int k5 ∧ ρ 5 = int i6) (by refine ⟨?_, ?_, ?_⟩ <;> simp [h0, h1, AmbNode.cells, intC, strC]) ?_
  clear h0 h1
  rintro ⟨k5, i6⟩ ρ H n7 K h ⟨h0, h1, h5⟩ IH8
  refine Runs.seq ?_
  refine Runs.seqE Ty_ok (by decide) fun k' hk' => ?_
  obtain ⟨len10, elen10⟩ : ∃ v : Int, v = (a.length : Int) := ⟨_, rfl⟩
  replace h := h len10 elen10
  have f11 := fun H => len_list (H := H) (fr := false) (f := AmbNode.cells) kd_26 elen10
  obtain ⟨c12, ec12⟩ : ∃ v : Bool, v = decide (i6 < len10) := ⟨_, rfl⟩
  replace h := h c12 ec12
  have f13 := ib_lss (k := .i64) ec12
  simp [h0, h1, h5, f11, f13, AmbNode.cells, intC, strC, -intBin, -lenF]
  refine hk' _ _ _ ?_
  refine Runs.ite (b := c12) (by simp [h0, h1, h5, AmbNode.cells, intC, strC]) (fun dc12 => ?_) (fun dc12 => ?_)
  · replace h := h.1 dc12
    refine Runs.skip ?_
    refine Runs.seq ?_
    refine Runs.block ?_
    refine Runs.seq ?_
    refine Runs.seqE Ty_ok (by decide) fun k' hk' => ?_
    obtain ⟨hb14, h⟩ := h
    obtain ⟨x15, ex15⟩ : ∃ v : AmbNode, v = at' a i6 := ⟨_, rfl⟩
    replace h := h x15 ex15
    have f16 := fun H => ix_list (H := H) (fr := false) (f := AmbNode.cells) (k := .i64) kd_26 (fun _ => rfl) hb14 ex15
    obtain ⟨c17, ec17⟩ : ∃ v : Bool, v = decide (x15.kind ≠ k5) := ⟨_, rfl⟩
    replace h := h c17 ec17
    have f18 := ib_neq (k := .i64) ec17
    simp [h0, h1, h5, f16, f18, dc12, AmbNode.cells, intC, strC, -indexAddrF, -intBin]
    refine hk' _ _ _ ?_
    refine Runs.ite (b := c17) (by simp [h0, h1, h5, dc12, AmbNode.cells, intC, strC]) (fun dc17 => ?_) (fun dc17 => ?_)
    · replace h := h.1 dc17
      refine Runs.seqE Ty_ok (by decide) fun k' hk' => ?_
      simp [h0, h1, h5, dc12, dc17, AmbNode.cells, intC, strC]
      refine hk' _ _ _ ?_
      exact Runs.ret1 (v := int (-1)) Tryz.func29 Tryz.results29 (by simp [h0, h1, h5, dc12, dc17, AmbNode.cells, intC, strC]) (hQ _ _ _ _ (.of (.v _)) ⟨(-1), h, rfl⟩)
    · replace h := h.2 dc17
      refine Runs.skip ?_
      refine Runs.seqE Ty_ok (by decide) fun k' hk' => ?_
      obtain ⟨hb19, h⟩ := h
      obtain ⟨v20, ev20⟩ : ∃ v : Int, v = k5 + 1 := ⟨_, rfl⟩
      replace h := h v20 ev20
      have f21 := ib_add hb19 ev20
      simp [h0, h1, h5, f21, dc12, dc17, AmbNode.cells, intC, strC, -intBin]
      refine hk' _ _ _ ?_
      refine Runs.seq ?_
      refine Runs.seqD Ty_ok kindOp_ok draws (by decide) (by kernel_rfl) fun k' hk' => ?_
      obtain ⟨hb22, h⟩ := h
      obtain ⟨x23, ex23⟩ : ∃ v : AmbNode, v = at' a i6 := ⟨_, rfl⟩
      replace h := h x23 ex23
      have hq24 := ex15.trans ex23.symm
      subst hq24
      have f25 := fun H => ix_list (H := H) (fr := false) (f := AmbNode.cells) (k := .i64) kd_26 (fun _ => rfl) hb22 ex15
      obtain ⟨hb26, h⟩ := h
      obtain ⟨r27, er27⟩ : ∃ v : Str, v = markTxt v20 := ⟨_, rfl⟩
      replace h := h r27 er27
      simp [h0, h1, h5, f25, dc12, dc17, AmbNode.cells, intC, strC, -indexAddrF]
      refine RunDK.callA Ty_ok kindOp_ok (markTxt_ok v20 hb26) e47 (.cons (.v _ _ _) .nil) (by decide) rfl (by simp [h0, h1, h5, f25, dc12, dc17, AmbNode.cells, intC, strC, -indexAddrF]) ?_
      rw [← er27]
      obtain ⟨c28, ec28⟩ : ∃ v : Bool, v = decide (x15.name ≠ r27) := ⟨_, rfl⟩
      replace h := h c28 ec28
      have f29 := sb_neq ec28
      simp [h0, h1, h5, f25, f29, dc12, dc17, AmbNode.cells, intC, strC, -indexAddrF, -strBin]
      refine hk' _ _ _ ?_
      refine Runs.cut (fun ρ H n => ρ 0 = .list false (a.map AmbNode.cells) ∧ ρ 1 = int v20 ∧ ρ 5 = int i6 ∧ ρ 28 = bool c28) (by refine ⟨?_, ?_, ?_, ?_⟩ <;> simp [h0, h1, h5, f25, f29, dc12, dc17, AmbNode.cells, intC, strC, -indexAddrF, -strBin]) ?_
      clear h0 h1 h5
      rintro ρ H n30 ⟨h0, h1, h5, h28⟩
      refine Runs.ite (b := c28) (by simp [h0, h1, h5, h28, dc12, dc17, AmbNode.cells, intC, strC]) (fun dc28 => ?_) (fun dc28 => ?_)
      · replace h := h.1 dc28
        refine Runs.seqE Ty_ok (by decide) fun k' hk' => ?_
        simp [h0, h1, h5, h28, dc12, dc17, dc28, AmbNode.cells, intC, strC]
        refine hk' _ _ _ ?_
        exact Runs.ret1 (v := int (-1)) Tryz.func29 Tryz.results29 (by simp [h0, h1, h5, h28, dc12, dc17, dc28, AmbNode.cells, intC, strC]) (hQ _ _ _ _ (.of (.v _)) ⟨(-1), h, rfl⟩)
      · replace h := h.2 dc28
        refine Runs.skip ?_
        refine Runs.seqE Ty_ok (by decide) fun k' hk' => ?_
        obtain ⟨hb31, h⟩ := h
        obtain ⟨v32, ev32⟩ : ∃ v : Int, v = v20 + 1 := ⟨_, rfl⟩
        replace h := h v32 ev32
        have f33 := ib_add hb31 ev32
        simp [h0, h1, h5, h28, f33, dc12, dc17, dc28, AmbNode.cells, intC, strC, -intBin]
        refine hk' _ _ _ ?_
        refine Runs.seq ?_
        refine Runs.seqE Ty_ok (by decide) fun k' hk' => ?_
        obtain ⟨hb34, h⟩ := h
        obtain ⟨x35, ex35⟩ : ∃ v : AmbNode, v = at' a i6 := ⟨_, rfl⟩
        replace h := h x35 ex35
        have f36 := fun H => ix_list (H := H) (fr := false) (f := AmbNode.cells) (k := .i64) kd_26 (fun _ => rfl) hb34 ex35
        obtain ⟨c37, ec37⟩ : ∃ v : Bool, v = decide (x35.parent ≠ v32) := ⟨_, rfl⟩
        replace h := h c37 ec37
        have f38 := ib_neq (k := .i64) ec37
        simp [h0, h1, h5, h28, f36, f38, dc12, dc17, dc28, AmbNode.cells, intC, strC, -indexAddrF, -intBin]
        refine hk' _ _ _ ?_
        refine Runs.ite (b := c37) (by simp [h0, h1, h5, h28, dc12, dc17, dc28, AmbNode.cells, intC, strC]) (fun dc37 => ?_) (fun dc37 => ?_)
        · replace h := h.1 dc37
          refine Runs.seqE Ty_ok (by decide) fun k' hk' => ?_
          simp [h0, h1, h5, h28, dc12, dc17, dc28, dc37, AmbNode.cells, intC, strC]
          refine hk' _ _ _ ?_
          exact Runs.ret1 (v := int (-1)) Tryz.func29 Tryz.results29 (by simp [h0, h1, h5, h28, dc12, dc17, dc28, dc37, AmbNode.cells, intC, strC]) (hQ _ _ _ _ (.of (.v _)) ⟨(-1), h, rfl⟩)
        · replace h := h.2 dc37
          refine Runs.skip ?_
          refine Runs.evalE Ty_ok (by decide) fun k' hk' => ?_
          obtain ⟨hb39, h⟩ := h
          obtain ⟨v40, ev40⟩ : ∃ v : Int, v = v32 + 1 := ⟨_, rfl⟩
          replace h := h v40 ev40
          have f41 := ib_add hb39 ev40
          simp [h0, h1, h5, h28, f41, dc12, dc17, dc28, dc37, AmbNode.cells, intC, strC, -intBin]
          refine hk' _ _ _ ?_
          refine Runs.inBlock ?_
          refine Runs.evalE Ty_ok (by decide) fun k' hk' => ?_
          obtain ⟨hb42, h⟩ := h
          obtain ⟨v43, ev43⟩ : ∃ v : Int, v = i6 + 1 := ⟨_, rfl⟩
          replace h := h v43 ev43
          have f44 := ib_add hb42 ev43
          simp [h0, h1, h5, h28, f44, dc12, dc17, dc28, dc37, AmbNode.cells, intC, strC, -intBin]
          refine hk' _ _ _ ?_
          refine Runs.cut (fun ρ H n => ρ 0 = .list false (a.map AmbNode.cells) ∧ ρ 1 = int v40 ∧ ρ 5 = int v43) (by refine ⟨?_, ?_, ?_⟩ <;> simp [h0, h1, h5, h28, f44, dc12, dc17, dc28, dc37, AmbNode.cells, intC, strC, -intBin]) ?_
          clear h0 h1 h5 h28
          rintro ρ H n45 ⟨h0, h1, h5⟩
          refine IH8 (v40, v43) _ _ _ h (by refine ⟨?_, ?_, ?_⟩ <;> simp [h0, h1, h5, dc12, dc17, dc28, dc37, AmbNode.cells, intC, strC])
  · replace h := h.2 dc12
    refine Runs.exit rfl ?_
    refine Runs.seqE Ty_ok (by decide) fun k' hk' => ?_
    simp [h0, h1, h5, dc12, AmbNode.cells, intC, strC]
    refine hk' _ _ _ ?_
    exact Runs.ret1 (v := int k5) Tryz.func29 Tryz.results29 (by simp [h0, h1, h5, dc12, AmbNode.cells, intC, strC]) (hQ _ _ _ _ (.of (.v _)) ⟨k5, h, rfl⟩)

theorem heldAmbS_ok (a : List AmbNode) (k_ : Int) (hp : heldAmbS_pre a k_) : PureC Tryz.prog 29 [.list false (a.map AmbNode.cells), int k_] (fun r => r = int (heldAmbS a k_)) := (heldAmbS_walk a k_ _ (heldAmbS_vc a k_ hp)).mono (by rintro _ ⟨_, rfl, rfl⟩; rfl)

theorem e12 : Ent Tryz.prog 12 := Ent.of Tryz.func12 (by kernel_rfl) rfl
theorem heldProcess_walk (a : Proc) (k_ : Int) (Z : Int → Prop) (h : heldProcess_wp a k_ Z) : PureC Tryz.prog 12 [.agg [.list false (a.map AmbNode.cells)], int k_] (fun r => ∃ y : Int, Z y ∧ r = int y) := by
  unfold heldProcess_wp at h
  refine PureC.of Tryz.func12 rfl Tryz.ntmps12 (by simp) fun Q hQ => ?_
  refine Runs.cut (fun ρ H n => ρ 0 = .agg [.list false (a.map AmbNode.cells)] ∧ ρ 1 = int k_) (by refine ⟨?_, ?_⟩ <;> simp [AmbNode.cells, intC, strC]) ?_
  rintro ρ H n1 ⟨h0, h1⟩
  refine Runs.seqE Ty_ok (by decide) fun k' hk' => ?_
  simp [h0, h1, AmbNode.cells, intC, strC]
  refine hk' _ _ _ ?_
  refine Runs.cut (fun ρ H n => ρ 1 = int k_ ∧ ρ 2 = .ptr (n1, 2) 1 0 0 ∧ H (n1, 2) = some ⟨1, [[.list false (a.map AmbNode.cells)]]⟩) (by refine ⟨?_, ?_, ?_⟩ <;> simp [h0, h1, AmbNode.cells, intC, strC]) ?_
  clear h0 h1
  rintro ρ H n3 ⟨h1, h2, m2_1⟩
  refine Runs.seqE Ty_ok (by decide) fun k' hk' => ?_
  obtain ⟨hb4, h⟩ := h
  obtain ⟨r5, er5⟩ : ∃ v : Int, v = heldAmbS a k_ := ⟨_, rfl⟩
  replace h := h r5 er5
  simp [h1, h2, m2_1, AmbNode.cells, intC, strC]
  refine RunK.callA Ty_ok (heldAmbS_ok a k_ hb4) e29 (.cons (ArgOk.listF (fr := false) (els := a.map AmbNode.cells) (by simp [AmbNode.cells, intC, strC, intC])) (.cons (.v _ _ _) .nil)) (by decide) (by decide) rfl (by simp [h1, h2, m2_1, AmbNode.cells, intC, strC]) ?_
  rintro _ rfl
  rw [← er5]
  simp [h1, h2, m2_1, AmbNode.cells, intC, strC]
  refine hk' _ _ _ ?_
  refine Runs.seq ?_
  refine Runs.seqE Ty_ok (by decide) fun k' hk' => ?_
  obtain ⟨c6, ec6⟩ : ∃ v : Bool, v = decide (r5 < 0) := ⟨_, rfl⟩
  replace h := h c6 ec6
  have f7 := ib_lss (k := .i64) ec6
  simp [h1, h2, m2_1, f7, AmbNode.cells, intC, strC, -intBin]
  refine hk' _ _ _ ?_
  refine Runs.ite (b := c6) (by simp [h1, h2, m2_1, AmbNode.cells, intC, strC]) (fun dc6 => ?_) (fun dc6 => ?_)
  · replace h := h.1 dc6
    refine Runs.seqE Ty_ok (by decide) fun k' hk' => ?_
    simp [h1, h2, m2_1, dc6, AmbNode.cells, intC, strC]
    refine hk' _ _ _ ?_
    exact Runs.ret1 (v := int (-1)) Tryz.func12 Tryz.results12 (by simp [h1, h2, m2_1, dc6, AmbNode.cells, intC, strC]) (hQ _ _ _ _ (.of (.v _)) ⟨(-1), h, rfl⟩)
  · replace h := h.2 dc6
    refine Runs.skip ?_
    refine Runs.seqE Ty_ok (by decide) fun k' hk' => ?_
    simp [h1, h2, m2_1, dc6, AmbNode.cells, intC, strC]
    refine hk' _ _ _ ?_
    exact Runs.ret1 (v := int r5) Tryz.func12 Tryz.results12 (by simp [h1, h2, m2_1, dc6, AmbNode.cells, intC, strC]) (hQ _ _ _ _ (.of (.v _)) ⟨r5, h, rfl⟩)

theorem heldProcess_ok (a : Proc) (k_ : Int) (hp : heldProcess_pre a k_) : PureC Tryz.prog 12 [.agg [.list false (a.map AmbNode.cells)], int k_] (fun r => r = int (heldProcess a k_)) := (heldProcess_walk a k_ _ (heldProcess_vc a k_ hp)).mono (by rintro _ ⟨_, rfl, rfl⟩; rfl)

theorem e42 : Ent Tryz.prog 42 := Ent.of Tryz.func42 (by kernel_rfl) rfl
theorem toAmbNode_walk (a : AmbNode) (Z : AmbNode → Prop) (h : toAmbNode_wp a Z) : PureC Tryz.prog 42 [.agg [int a.kind, str a.name, int a.parent]] (fun r => ∃ y : AmbNode, Z y ∧ r = .agg [int y.kind, str y.name, int y.parent]) := by
  unfold toAmbNode_wp at h
  refine PureC.of Tryz.func42 rfl Tryz.ntmps42 (by simp) fun Q hQ => ?_
  refine Runs.cut (fun ρ H n => ρ 0 = .agg [int a.kind, str a.name, int a.parent]) (by simp []) ?_
  rintro ρ H n1 h0
  refine Runs.seqE Ty_ok (by decide) fun k' hk' => ?_
  simp [h0]
  refine hk' _ _ _ ?_
  refine Runs.cut (fun ρ H n => ρ 1 = .ptr (n1, 1) 1 0 0 ∧ ρ 2 = .ptr (n1 + 1, 2) 1 0 0 ∧ H (n1, 1) = some ⟨3, [[int a.kind, str a.name, int a.parent]]⟩ ∧ H (n1 + 1, 2) = some ⟨3, [[int 0, str [], int 0]]⟩) (by refine ⟨?_, ?_, ?_, ?_⟩ <;> simp [h0]) ?_
  clear h0
  rintro ρ H n4 ⟨h1, h2, m1_1, m2_2⟩
  refine Runs.seqE Ty_ok (by decide) fun k' hk' => ?_
  simp [h1, h2, m1_1, m2_2]
  refine hk' _ _ _ ?_
  refine Runs.cut (fun ρ H n => ρ 1 = .ptr (n1, 1) 1 0 0 ∧ ρ 2 = .ptr (n1 + 1, 2) 1 0 0 ∧ ρ 3 = .ptr (n4, 3) 1 0 0 ∧ H (n1, 1) = some ⟨3, [[int a.kind, str a.name, int a.parent]]⟩ ∧ H (n1 + 1, 2) = some ⟨3, [[int 0, str [], int 0]]⟩ ∧ H (n4, 3) = some ⟨3, [[int 0, str [], int 0]]⟩) (by refine ⟨?_, ?_, ?_, ?_, ?_, ?_⟩ <;> simp [h1, h2, m1_1, m2_2]) ?_
  clear h1 h2 m1_1 m2_2
  rintro ρ H n6 ⟨h1, h2, h3, m1_1, m2_2, m3_4⟩
  refine Runs.seqE Ty_ok (by decide) fun k' hk' => ?_
  simp [h1, h2, h3, m1_1, m2_2, m3_4]
  refine hk' _ _ _ ?_
  refine Runs.cut (fun ρ H n => ρ 1 = .ptr (n1, 1) 1 0 0 ∧ ρ 2 = .ptr (n1 + 1, 2) 1 0 0 ∧ ρ 3 = .ptr (n4, 3) 1 0 0 ∧ H (n1, 1) = some ⟨3, [[int a.kind, str a.name, int a.parent]]⟩ ∧ H (n1 + 1, 2) = some ⟨3, [[int 0, str [], int 0]]⟩ ∧ H (n4, 3) = some ⟨3, [[int a.kind, str [], int 0]]⟩) (by refine ⟨?_, ?_, ?_, ?_, ?_, ?_⟩ <;> simp [h1, h2, h3, m1_1, m2_2, m3_4]) ?_
  clear h1 h2 h3 m1_1 m2_2 m3_4
  rintro ρ H n7 ⟨h1, h2, h3, m1_1, m2_2, m3_4⟩
  refine Runs.seqE Ty_ok (by decide) fun k' hk' => ?_
  simp [h1, h2, h3, m1_1, m2_2, m3_4]
  refine hk' _ _ _ ?_
  refine Runs.cut (fun ρ H n => ρ 1 = .ptr (n1, 1) 1 0 0 ∧ ρ 2 = .ptr (n1 + 1, 2) 1 0 0 ∧ ρ 3 = .ptr (n4, 3) 1 0 0 ∧ H (n1, 1) = some ⟨3, [[int a.kind, str a.name, int a.parent]]⟩ ∧ H (n1 + 1, 2) = some ⟨3, [[int 0, str [], int 0]]⟩ ∧ H (n4, 3) = some ⟨3, [[int a.kind, str a.name, int 0]]⟩) (by refine ⟨?_, ?_, ?_, ?_, ?_, ?_⟩ <;> simp [h1, h2, h3, m1_1, m2_2, m3_4]) ?_
  clear h1 h2 h3 m1_1 m2_2 m3_4
  rintro ρ H n8 ⟨h1, h2, h3, m1_1, m2_2, m3_4⟩
  refine Runs.seqE Ty_ok (by decide) fun k' hk' => ?_
  simp [h1, h2, h3, m1_1, m2_2, m3_4]
  refine hk' _ _ _ ?_
  refine Runs.cut (fun ρ H n => ρ 2 = .ptr (n1 + 1, 2) 1 0 0 ∧ ρ 3 = .ptr (n4, 3) 1 0 0 ∧ H (n1 + 1, 2) = some ⟨3, [[int 0, str [], int 0]]⟩ ∧ H (n4, 3) = some ⟨3, [[int a.kind, str a.name, int a.parent]]⟩) (by refine ⟨?_, ?_, ?_, ?_⟩ <;> simp [h1, h2, h3, m1_1, m2_2, m3_4]) ?_
  clear h1 h2 h3 m1_1 m2_2 m3_4
  rintro ρ H n9 ⟨h2, h3, m2_2, m3_4⟩
  refine Runs.seqE Ty_ok (by decide) fun k' hk' => ?_
  simp [h2, h3, m2_2, m3_4]
  refine hk' _ _ _ ?_
  refine Runs.cut (fun ρ H n => ρ 2 = .ptr (n1 + 1, 2) 1 0 0 ∧ H (n1 + 1, 2) = some ⟨3, [[int a.kind, str a.name, int a.parent]]⟩) (by refine ⟨?_, ?_⟩ <;> simp [h2, h3, m2_2, m3_4]) ?_
  clear h2 h3 m2_2 m3_4
  rintro ρ H n10 ⟨h2, m2_2⟩
  exact Runs.res1 Ty_ok (v := .agg [int a.kind, str a.name, int a.parent]) Tryz.func42 Tryz.results42 (by simp [h2, m2_2, resA]) (hQ _ _ _ _ (.of (.aggL (.cons (.v _) (.cons (.v _) (.cons (.v _) .nil))))) ⟨a, h, rfl⟩)

theorem toAmbNode_ok (a : AmbNode)  : PureC Tryz.prog 42 [.agg [int a.kind, str a.name, int a.parent]] (fun r => r = .agg [int ((toAmbNode a).kind), str ((toAmbNode a).name), int ((toAmbNode a).parent)]) := (toAmbNode_walk a _ (toAmbNode_vc a )).mono (by rintro _ ⟨_, rfl, rfl⟩; rfl)

theorem e24 : Ent Tryz.prog 24 := Ent.of Tryz.func24 (by kernel_rfl) rfl
theorem toAmbNodeS_walk (a : List AmbNode) (Z : (List AmbNode) → Prop) (h : toAmbNodeS_wp a Z) : OwnS Tryz.prog 24 [.list false (a.map AmbNode.cells)] (.s [.c, .c, .c]) (fun r => ∃ y : List AmbNode, Z y ∧ r = .list true (y.map AmbNode.cells)) := by
  unfold toAmbNodeS_wp at h
  have sp : Sep noHeap 0 [] [] := Sep.nil (by simp)
  refine OwnS.of Tryz.func24 rfl Tryz.ntmps24 (by simp) fun Q hQ => ?_
  refine Runs.cut (fun ρ H n => ρ 0 = .list false (a.map AmbNode.cells) ∧ Sep H n [] []) (by refine ⟨?_, sp⟩ <;> simp [AmbNode.cells, intC, strC]) ?_
  rintro ρ H n1 ⟨h0, sp⟩
  refine Runs.seqE Ty_ok (by decide) fun k' hk' => ?_
  simp [h0, AmbNode.cells, intC, strC]
  refine hk' _ _ _ ?_
  refine Runs.seqE Ty_ok (by decide) fun k' hk' => ?_
  obtain ⟨len2, elen2⟩ : ∃ v : Int, v = (a.length : Int) := ⟨_, rfl⟩
  replace h := h len2 elen2
  have f3 := fun H => len_list (H := H) (fr := false) (f := AmbNode.cells) kd_22 elen2
  obtain ⟨hb4, h⟩ := h
  obtain ⟨l5, el5⟩ : ∃ v : List AmbNode, v = List.replicate len2.toNat default := ⟨_, rfl⟩
  replace h := h l5 el5
  simp [h0, f3, hb4, el5, AmbNode.cells, intC, strC, -lenF]
  refine hk' _ _ _ ?_
  refine Runs.cut (fun ρ H n => ∃ (v7 : AVal), ρ 0 = .list false (a.map AmbNode.cells) ∧ ρ 3 = v7 ∧ Sep H n [(.s [.c, .c, .c], v7, .list true (l5.map AmbNode.cells))] []) (by refine ⟨.arr (n1, 7) len2.toNat 0 len2.toNat, ?_, ?_, (by rw [el5]; exact Sep.addRep (z := [int 0, str [], int 0]) (f := AmbNode.cells) (k := len2.toNat) sp (fun H => by show Row H [.c, .c, .c] [int 0, str [], int 0] [int 0, str [], int 0] []; simp [Row, Tr]))⟩ <;> simp [h0, f3, hb4, el5, AmbNode.cells, intC, strC, -lenF]) ?_
  clear h0
  rintro ρ H n8 ⟨v7, h0, h3, sp⟩
  refine Runs.seq ?_
  refine Runs.seqE Ty_ok (by decide) fun k' hk' => ?_
  simp [h0, h3, AmbNode.cells, intC, strC]
  refine hk' _ _ _ ?_
  refine Runs.block ?_
  refine Runs.loopW h (fun (s : Int × (List AmbNode)) ρ H n => match s with | (i16, l17) => ∃ (v18 : AVal), ρ 0 = .list false (a.map AmbNode.cells) ∧ ρ 3 = v18 ∧ ρ 4 = int i16 ∧ Sep H n [(.s [.c, .c, .c], v18, .list true (l17.map AmbNode.cells))] []) (by refine ⟨v7, ?_, ?_, ?_, sp⟩ <;> simp [h0, h3, AmbNode.cells, intC, strC]) ?_
  clear h0 h3
  rintro ⟨i16, l17⟩ ρ H n19 K h ⟨v18, h0, h3, h4, sp⟩ IH20
  refine Runs.seq ?_
  refine Runs.seqE Ty_ok (by decide) fun k' hk' => ?_
  obtain ⟨len22, elen22⟩ : ∃ v : Int, v = (a.length : Int) := ⟨_, rfl⟩
  replace h := h len22 elen22
  have f23 := fun H => len_list (H := H) (fr := false) (f := AmbNode.cells) kd_22 elen22
  obtain ⟨c24, ec24⟩ : ∃ v : Bool, v = decide (i16 < len22) := ⟨_, rfl⟩
  replace h := h c24 ec24
  have f25 := ib_lss (k := .i64) ec24
  simp [h0, h3, h4, f23, f25, AmbNode.cells, intC, strC, -intBin, -lenF]
  refine hk' _ _ _ ?_
  refine Runs.ite (b := c24) (by simp [h0, h3, h4, AmbNode.cells, intC, strC]) (fun dc24 => ?_) (fun dc24 => ?_)
  · replace h := h.1 dc24
    refine Runs.skip ?_
    refine Runs.seq ?_
    refine Runs.block ?_
    refine Runs.evalE Ty_ok (by decide) fun k' hk' => ?_
    obtain ⟨hb26, h⟩ := h
    obtain ⟨x27, ex27⟩ : ∃ v : AmbNode, v = at' a i16 := ⟨_, rfl⟩
    replace h := h x27 ex27
    have f28 := fun H => ix_list (H := H) (fr := false) (f := AmbNode.cells) (k := .i64) kd_22 (fun _ => rfl) hb26 ex27
    obtain ⟨r29, er29⟩ : ∃ v : AmbNode, v = toAmbNode x27 := ⟨_, rfl⟩
    replace h := h r29 er29
    simp [h0, h3, h4, f28, dc24, AmbNode.cells, intC, strC, -indexAddrF]
    refine RunK.callA Ty_ok (toAmbNode_ok x27 ) e42 (.cons (ArgOk.agg (.cons (.v _ _ _) (.cons (.v _ _ _) (.cons (.v _ _ _) .nil)))) .nil) (by decide) (by decide) rfl (by simp [h0, h3, h4, f28, dc24, AmbNode.cells, intC, strC, -indexAddrF]) ?_
    rintro _ rfl
    rw [← er29]
    obtain ⟨hb30, h⟩ := h
    obtain ⟨id31, hv, mo32, ln33, ni34⟩ := Sep.openF sp (by simp) hb30
    subst hv
    obtain ⟨x35, ex35⟩ : ∃ v : AmbNode, v = at' l17 i16 := ⟨_, rfl⟩
    replace h := h x35 ex35
    have f36 := fun H (hm : H id31 = some ⟨3, l17.map AmbNode.cells⟩) => ix_arr (H := H) (k := .i64) (off := 0) (len := l17.length) (g := l17.length) kd_26 hm (by simp) rfl hb30
    have f37 := at_some (q := i16.toNat) hb30 ex35 rfl
    obtain ⟨l38, el38⟩ : ∃ v : List AmbNode, v = l17.set i16.toNat r29 := ⟨_, rfl⟩
    replace h := h l38 el38
    simp [h0, h3, h4, mo32, f28, f36, f37, dc24, AmbNode.cells, intC, strC, -indexAddrF, -storeF]
    refine bind_store (q := i16.toNat) (news := AmbNode.cells r29) [] [] sp (by simp) (by simp; omega) (by simp) (by simp [-one1, o1_int, o1_bool, o1_str, o1_nil, o1_list, o1_arr, o1_ptr]) (Fill.v _ (Fill.v _ (Fill.v _ Fill.nil))) ?_
    rintro H39 sp hfr40
    replace sp : Sep H39 n19 [(.s [.c, .c, .c], .arr id31 l17.length 0 l17.length, .list true (l38.map AmbNode.cells))] [] := by rw [el38, List.map_set]; exact sp
    simp [h0, h3, h4, f28, f36, f37, dc24, AmbNode.cells, intC, strC, -indexAddrF]
    refine hk' _ _ _ ?_
    refine Runs.cut (fun ρ H n => ∃ (v42 : AVal), ρ 0 = .list false (a.map AmbNode.cells) ∧ ρ 3 = v42 ∧ ρ 4 = int i16 ∧ Sep H n [(.s [.c, .c, .c], v42, .list true (l38.map AmbNode.cells))] []) (by refine ⟨.arr id31 l17.length 0 l17.length, ?_, ?_, ?_, sp⟩ <;> simp [h0, h3, h4, f28, f36, f37, dc24, AmbNode.cells, intC, strC, -indexAddrF]) ?_
    clear h0 h3 h4
    rintro ρ H n43 ⟨v42, h0, h3, h4, sp⟩
    refine Runs.inBlock ?_
    refine Runs.evalE Ty_ok (by decide) fun k' hk' => ?_
    obtain ⟨hb44, h⟩ := h
    obtain ⟨v45, ev45⟩ : ∃ v : Int, v = i16 + 1 := ⟨_, rfl⟩
    replace h := h v45 ev45
    have f46 := ib_add hb44 ev45
    simp [h0, h3, h4, f46, dc24, AmbNode.cells, intC, strC, -intBin]
    refine hk' _ _ _ ?_
    refine IH20 (v45, l38) _ _ _ h (by refine ⟨v42, ?_, ?_, ?_, sp⟩ <;> simp [h0, h3, h4, dc24, AmbNode.cells, intC, strC])
  · replace h := h.2 dc24
    refine Runs.exit rfl ?_
    refine Runs.seqE Ty_ok (by decide) fun k' hk' => ?_
    simp [h0, h3, h4, dc24, AmbNode.cells, intC, strC]
    refine hk' _ _ _ ?_
    exact Runs.ret1 (v := v18) Tryz.func24 Tryz.results24 (by simp [h0, h3, h4, dc24, AmbNode.cells, intC, strC]) (hQ _ _ _ _ (Sep.sub (ids' := []) sp (by simp)) ⟨l17, h, rfl⟩)

theorem toAmbNodeS_ok (a : List AmbNode) (hp : toAmbNodeS_pre a) : OwnS Tryz.prog 24 [.list false (a.map AmbNode.cells)] (.s [.c, .c, .c]) (fun r => r = .list true ((toAmbNodeS a).map AmbNode.cells)) := (toAmbNodeS_walk a _ (toAmbNodeS_vc a hp)).mono (by rintro _ ⟨_, rfl, rfl⟩; rfl)

theorem e8 : Ent Tryz.prog 8 := Ent.of Tryz.func8 (by kernel_rfl) rfl
theorem toProcess_walk (a : Proc) (Z : Proc → Prop) (h : toProcess_wp a Z) : OwnS Tryz.prog 8 [.agg [.list false (a.map AmbNode.cells)]] (.a [.s [.c, .c, .c]]) (fun r => ∃ y : Proc, Z y ∧ r = .agg [.list true (y.map AmbNode.cells)]) := by
  unfold toProcess_wp at h
  have sp : Sep noHeap 0 [] [] := Sep.nil (by simp)
  refine OwnS.of Tryz.func8 rfl Tryz.ntmps8 (by simp) fun Q hQ => ?_
  refine Runs.cut (fun ρ H n => ρ 0 = .agg [.list false (a.map AmbNode.cells)] ∧ Sep H n [] []) (by refine ⟨?_, sp⟩ <;> simp [AmbNode.cells, intC, strC]) ?_
  rintro ρ H n1 ⟨h0, sp⟩
  refine Runs.seqE Ty_ok (by decide) fun k' hk' => ?_
  simp [h0, AmbNode.cells, intC, strC]
  refine hk' _ _ _ ?_
  refine Runs.cut (fun ρ H n => ρ 1 = .ptr (n1, 1) 1 0 0 ∧ ρ 2 = .ptr (n1 + 1, 2) 1 0 0 ∧ H (n1, 1) = some ⟨1, [[.list false (a.map AmbNode.cells)]]⟩ ∧ H (n1 + 1, 2) = some ⟨1, [[.v (.slice none 0 0)]]⟩ ∧ Sep H n [] [(n1 + 1, 2), (n1, 1)]) (by refine ⟨?_, ?_, ?_, ?_, (Sep.var (Sep.var sp))⟩ <;> simp [h0, AmbNode.cells, intC, strC]) ?_
  clear h0
  rintro ρ H n4 ⟨h1, h2, m1_1, m2_2, sp⟩
  refine Runs.seqE Ty_ok (by decide) fun k' hk' => ?_
  simp [h1, h2, m1_1, m2_2, AmbNode.cells, intC, strC]
  refine hk' _ _ _ ?_
  refine Runs.cut (fun ρ H n => ρ 1 = .ptr (n1, 1) 1 0 0 ∧ ρ 2 = .ptr (n1 + 1, 2) 1 0 0 ∧ ρ 3 = .ptr (n4, 3) 1 0 0 ∧ H (n1, 1) = some ⟨1, [[.list false (a.map AmbNode.cells)]]⟩ ∧ H (n1 + 1, 2) = some ⟨1, [[.v (.slice none 0 0)]]⟩ ∧ H (n4, 3) = some ⟨1, [[.v (.slice none 0 0)]]⟩ ∧ Sep H n [] [(n4, 3), (n1 + 1, 2), (n1, 1)]) (by refine ⟨?_, ?_, ?_, ?_, ?_, ?_, (Sep.var sp)⟩ <;> simp [h1, h2, m1_1, m2_2, AmbNode.cells, intC, strC]) ?_
  clear h1 h2 m1_1 m2_2
  rintro ρ H n6 ⟨h1, h2, h3, m1_1, m2_2, m3_4, sp⟩
  refine Runs.seqE Ty_ok (by decide) fun k' hk' => ?_
  obtain ⟨hb7, h⟩ := h
  obtain ⟨r8, er8⟩ : ∃ v : List AmbNode, v = toAmbNodeS a := ⟨_, rfl⟩
  replace h := h r8 er8
  simp [h1, h2, h3, m1_1, m2_2, m3_4, AmbNode.cells, intC, strC]
  refine RunK.callW Ty_ok (toAmbNodeS_ok a hb7) e24 (.cons (ArgOk.listF (fr := false) (els := a.map AmbNode.cells) (by simp [AmbNode.cells, intC, strC, intC])) .nil) sp (by decide) (by decide) rfl (by simp [h1, h2, h3, m1_1, m2_2, m3_4, AmbNode.cells, intC, strC]) ?_
  rintro v9 H10 n11 _ sp rfl hle13 hfr12
  rw [← er8] at sp
  have m1_1 : H10 (n1, 1) = some ⟨1, [[.list false (a.map AmbNode.cells)]]⟩ := (hfr12 _ (by simp)).trans (by simp [h1, h2, h3, m1_1, m2_2, m3_4, Heap.get_set])
  have m2_2 : H10 (n1 + 1, 2) = some ⟨1, [[.v (.slice none 0 0)]]⟩ := (hfr12 _ (by simp)).trans (by simp [h1, h2, h3, m1_1, m2_2, m3_4, Heap.get_set])
  have m3_4 : H10 (n4, 3) = some ⟨1, [[.v (.slice none 0 0)]]⟩ := (hfr12 _ (by simp)).trans (by simp [h1, h2, h3, m1_1, m2_2, m3_4, Heap.get_set])
  have f16 := cell_own (Sep.cells sp)
  have f17 := cell_own (Sep.one1 sp)
  simp [h1, h2, h3, m1_1, m2_2, m3_4, f16, f17, AmbNode.cells, intC, strC, -cellsA, -one1, cA_int, cA_bool, cA_str, cA_nil, cA_agg, cA_list, cA_arr, cA_ptr, o1_int, o1_bool, o1_str, o1_nil, o1_list, o1_arr, o1_ptr]
  refine hk' _ _ _ ?_
  refine Runs.cut (fun ρ H n => ∃ (v18 : AVal), ρ 2 = .ptr (n1 + 1, 2) 1 0 0 ∧ ρ 3 = .ptr (n4, 3) 1 0 0 ∧ H (n1 + 1, 2) = some ⟨1, [[.v (.slice none 0 0)]]⟩ ∧ H (n4, 3) = some ⟨1, [[v18]]⟩ ∧ Sep H n [(.s [.c, .c, .c], v18, .list true (r8.map AmbNode.cells))] [(n4, 3), (n1 + 1, 2)]) (by refine ⟨v9, ?_, ?_, ?_, ?_, (Sep.sub (Sep.setVar (w := (n4, 3)) sp (by simp)) (by simp +contextual))⟩ <;> simp [h1, h2, h3, m1_1, m2_2, m3_4, f16, f17, AmbNode.cells, intC, strC, -cellsA, -one1, cA_int, cA_bool, cA_str, cA_nil, cA_agg, cA_list, cA_arr, cA_ptr, o1_int, o1_bool, o1_str, o1_nil, o1_list, o1_arr, o1_ptr]) ?_
  clear h1 h2 h3 m1_1 m2_2 m3_4
  rintro ρ H n19 ⟨v18, h2, h3, m2_2, m3_4, sp⟩
  refine Runs.seqE Ty_ok (by decide) fun k' hk' => ?_
  have f20 := cell_own (Sep.cells sp)
  have f21 := cell_own (Sep.one1 sp)
  simp [h2, h3, m2_2, m3_4, f20, f21, AmbNode.cells, intC, strC, -cellsA, -one1, cA_int, cA_bool, cA_str, cA_nil, cA_agg, cA_list, cA_arr, cA_ptr, o1_int, o1_bool, o1_str, o1_nil, o1_list, o1_arr, o1_ptr]
  refine hk' _ _ _ ?_
  refine Runs.cut (fun ρ H n => ∃ (v22 : AVal), ρ 2 = .ptr (n1 + 1, 2) 1 0 0 ∧ H (n1 + 1, 2) = some ⟨1, [[v22]]⟩ ∧ Sep H n [(.s [.c, .c, .c], v22, .list true (r8.map AmbNode.cells))] [(n1 + 1, 2)]) (by refine ⟨v18, ?_, ?_, (Sep.sub (Sep.setVar (w := (n1 + 1, 2)) sp (by simp)) (by simp +contextual))⟩ <;> simp [h2, h3, m2_2, m3_4, f20, f21, AmbNode.cells, intC, strC, -cellsA, -one1, cA_int, cA_bool, cA_str, cA_nil, cA_agg, cA_list, cA_arr, cA_ptr, o1_int, o1_bool, o1_str, o1_nil, o1_list, o1_arr, o1_ptr]) ?_
  clear h2 h3 m2_2 m3_4
  rintro ρ H n23 ⟨v22, h2, m2_2, sp⟩
  exact Runs.res1 Ty_ok (v := .agg [v22]) Tryz.func8 Tryz.results8 (by simp [h2, m2_2, resA, AmbNode.cells, intC, strC]) (hQ _ _ _ _ (Sep.sub (ids' := []) (Sep.pack (K := []) (Fill.own Fill.nil) sp) (by simp)) ⟨r8, h, rfl⟩)

theorem toProcess_ok (a : Proc) (hp : toProcess_pre a) : OwnS Tryz.prog 8 [.agg [.list false (a.map AmbNode.cells)]] (.a [.s [.c, .c, .c]]) (fun r => r = .agg [.list true ((toProcess a).map AmbNode.cells)]) := (toProcess_walk a _ (toProcess_vc a hp)).mono (by rintro _ ⟨_, rfl, rfl⟩; rfl)
end Go.Ab.Vg

/- Contracts of spec.l12Takes and spec.l12Starts. -/
namespace Go.Ab
open Go.Proofs
set_option linter.unusedSimpArgs false
theorem e74 : Ent Tryz.prog 74 := Ent.of Tryz.func74 (by kernel_rfl) rfl
theorem e73 : Ent Tryz.prog 73 := Ent.of Tryz.func73 (by kernel_rfl) rfl

/-- The reader of the reference: nodes, place, whether all is well. -/
def encR (l : Proc) (a : Nat) (ok : Bool) : AVal := .agg [.list true (l.map AmbNode.cells), int a, bool ok]
def takes (s : Str) (a : Nat) (ok : Bool) (w : Str) : Bool := ok && w.isPrefixOf (s.drop a)

theorem prefix_take (w r : Str) : (r.take w.length == w) = w.isPrefixOf r := by
  rw [Bool.eq_iff_iff, beq_iff_eq, List.isPrefixOf_iff_prefix, List.prefix_iff_eq_take]
  exact eq_comm

theorem bnd_encR (n : Nat) (l : Proc) (a : Nat) (ok : Bool) : Bnd n (encR l a ok) := by
  refine .agg _ fun x hx => ?_
  simp at hx
  rcases hx with rfl | rfl | rfl
  · refine .list _ _ fun e he y hy => ?_
    simp at he
    obtain ⟨z, _, rfl⟩ := he
    simp [AmbNode.cells] at hy
    rcases hy with rfl | rfl | rfl <;> exact .v _
  · exact .v _
  · exact .v _

theorem l12Takes_ok (s : Str) (l : Proc) (a : Nat) (ok : Bool) (w : Str) (hs : s.length ≤ 4294967296) (ha : a ≤ s.length) (hw : w.length ≤ 100) :
    ShareC Tryz.prog 74 [str s, encR l a ok, str w] (fun r => r = if takes s a ok w then encR l (a + w.length) true else encR l a false) := by
  refine ShareC.of Tryz.func74 rfl Tryz.ntmps74 (by simp) fun H n Q _ hQ => ?_
  refine Runs.seqE Ty_ok (by decide) fun k' hk' => ?_
  simp [encR]   -- R0
  refine hk' _ _ _ ?_
  refine Runs.seq ?_
  refine Runs.seqE Ty_ok (by decide) fun k' hk' => ?_
  have fin : ∀ (ρ : Env) (H' : Heap) (n' : Nat), (ρ 2 = str w ∧ ρ 4 = .ptr (n, 4) 1 0 0 ∧ ρ 6 = .ptr (n + 1, 6) 1 0 0 ∧ ρ 32 = bool (!takes s a ok w) ∧
      H' = (H.set (n, 4) ⟨3, [[.list true (l.map AmbNode.cells), int a, bool ok]]⟩).set (n + 1, 6) ⟨3, [[.v (.slice none 0 0), int 0, bool false]]⟩) → Runs Tryz.prog 74 42 k' ρ H' n' Q := by
    rintro ρ H' n' ⟨h2, h4, h6, h32, rfl⟩
    refine hk' _ _ _ ?_
    refine Runs.ite h32 (fun hc1 => ?_) (fun hc1 => ?_)   -- t32
    · simp only [Bool.not_eq_true'] at hc1
      refine Runs.seqE Ty_ok (by decide) fun k' hk' => ?_
      simp [h4]   -- R2
      refine hk' _ _ _ ?_
      refine Runs.seqE Ty_ok (by decide) fun k' hk' => ?_
      simp [h4, h6]   -- R3
      refine hk' _ _ _ ?_
      refine Runs.ret Tryz.func74 (RetOk.cell (cs := [.list true (l.map AmbNode.cells), int a, bool false]) (v := encR l a false) Ty_ok Tryz.results74 Ty_86 (by simp [h6]) (by simp [loadA, encR])) (hQ _ _ _ _ (.bnd (bnd_encR n l a false)) (by repeat (first | exact Frame.refl _ _ | refine Frame.set (by simp) ?_)) (by rw [hc1]; rfl))
    · simp only [Bool.not_eq_false'] at hc1
      have hle : a + w.length ≤ s.length := by
        simp only [takes, Bool.and_eq_true] at hc1
        have := (List.isPrefixOf_iff_prefix.1 hc1.2).length_le
        simp at this
        omega
      have hok : ok = true := by
        simp only [takes, Bool.and_eq_true] at hc1
        exact hc1.1
      subst hok
      refine Runs.skip ?_
      refine Runs.seqE Ty_ok (by decide) fun k' hk' => ?_
      have hw1 : IntKind.i64.wrap ((a : Int) + w.length) = (a : Int) + w.length := by rw [wrap64] <;> omega
      simp [h4, h2, hw1]   -- R4
      refine hk' _ _ _ ?_
      refine Runs.seqE Ty_ok (by decide) fun k' hk' => ?_
      simp [h4, h6]   -- R5
      refine hk' _ _ _ ?_
      refine Runs.ret Tryz.func74 (RetOk.cell (cs := [.list true (l.map AmbNode.cells), int ((a : Int) + w.length), bool true]) (v := encR l (a + w.length) true) Ty_ok Tryz.results74 Ty_86 (by simp [h6]) (by simp [loadA, encR])) (hQ _ _ _ _ (.bnd (bnd_encR n l _ true)) (by repeat (first | exact Frame.refl _ _ | refine Frame.set (by simp) ?_)) (by rw [hc1]; rfl))
  have hx := prefix_take w (s.drop a)
  have hw1 : IntKind.i64.wrap ((a : Int) + w.length) = (a : Int) + w.length := by rw [wrap64] <;> omega
  cases ok
  · simp [guardOf]
    exact fin _ _ _ ⟨by simp, by simp, by simp, by simp [takes], rfl⟩
  · by_cases hb : (s.length : Int) < (a : Int) + w.length
    · simp [hb, hw1, guardOf]
      refine fin _ _ _ ⟨by simp, by simp, by simp, ?_, rfl⟩
      have : w.isPrefixOf (s.drop a) = false := by
        rw [Bool.eq_false_iff]
        intro h
        have := (List.isPrefixOf_iff_prefix.1 h).length_le
        simp at this
        omega
      simp [takes, this]
    · simp [hb, hw1, guardOf, show (0 : Int) ≤ (a : Int) + w.length by omega, show (a : Int) + w.length ≤ s.length by omega, show ((a : Int) + w.length).toNat = a + w.length by omega, show (a : Int) ≤ (a : Int) + w.length by omega]
      refine fin _ _ _ ⟨by simp, by simp, by simp, ?_, rfl⟩
      simp [takes, ← hx]

theorem l12Starts_ok (s : Str) (l : Proc) (a : Nat) (ok : Bool) (w : Str) (hs : s.length ≤ 4294967296) (ha : a ≤ s.length) (hw : w.length ≤ 100) :
    ShareC Tryz.prog 73 [str s, encR l a ok, str w] (fun r => r = bool (takes s a ok w)) := by
  refine ShareC.of Tryz.func73 rfl Tryz.ntmps73 (by simp) fun H n Q _ hQ => ?_
  refine Runs.seqE Ty_ok (by decide) fun k' hk' => ?_
  simp [encR]   -- R0
  refine hk' _ _ _ ?_
  refine Runs.seqE Ty_ok (by decide) fun k' hk' => ?_
  simp   -- R1
  refine RunK.callH Ty_ok (l12Takes_ok s l a ok w hs ha hw) e74 (.refl _) (by decide) (by decide) rfl (by simp [encR]) ?_
  rintro _ rfl
  cases ht : takes s a ok w
  all_goals
    simp [encR]
    refine hk' _ _ _ ?_
    exact Runs.ret Tryz.func73 (RetOk.one Tryz.results73) (hQ _ _ _ _ (.bnd (.v _)) (by repeat (first | exact Frame.refl _ _ | refine Frame.set (by simp) ?_)) (by simp [ht]))
end Go.Ab

/- Contract of spec.l12Kind. -/
namespace Go.Ab
open Go.Proofs
set_option linter.unusedSimpArgs false
theorem e90 : Ent Tryz.prog 90 := Ent.of Tryz.func90 (by kernel_rfl) rfl

def kindA (s : Str) (a : Nat) (ok : Bool) : Nat × Nat :=
  if takes s a ok (word 0) then (1, a + (word 0).length) else if takes s a ok (word 1) then (2, a + (word 1).length) else if takes s a ok (word 2) then (3, a + (word 2).length) else (0, a)

theorem kindA_at {s : Str} {a : Nat} {ok : Bool} {k : Nat} (hk : k < 3) (h0 : ∀ j, j < k → takes s a ok (word j) = false) (h : takes s a ok (word k) = true) : kindA s a ok = (k + 1, a + (word k).length) := by
  match k, hk with
  | 0, _ => simp [kindA, h]
  | 1, _ => simp [kindA, h, h0 0 (by omega)]
  | 2, _ => simp [kindA, h, h0 0 (by omega), h0 1 (by omega)]
theorem kindA_no {s : Str} {a : Nat} {ok : Bool} (h0 : ∀ j, j < 3 → takes s a ok (word j) = false) : kindA s a ok = (0, a) := by
  simp [kindA, h0 0 (by omega), h0 1 (by omega), h0 2 (by omega)]

theorem l12Kind_ok (s : Str) (l : Proc) (a : Nat) (ok : Bool) (hs : s.length ≤ 4294967296) (ha : a ≤ s.length) :
    ShareC Tryz.prog 90 [str s, encR l a ok] (fun r => r = .tup [int (kindA s a ok).1, encR l (kindA s a ok).2 ok]) := by
  have hwl : ∀ k, (word k).length ≤ 100 := fun k => by have := word_len k; omega
  refine ShareC.of Tryz.func90 rfl Tryz.ntmps90 (by simp) fun H n Q _ hQ => ?_
  refine Runs.seqE Ty_ok (by decide) fun k' hk' => ?_
  simp [encR]   -- R0
  refine hk' _ _ _ ?_
  refine Runs.seq ?_
  refine Runs.seqE Ty_ok (by decide) fun k' hk' => ?_
  simp   -- R1
  refine hk' _ _ _ ?_
  refine Runs.block (Runs.loopUp 3 (fun k ρ H' n' => ρ 0 = str s ∧ ρ 3 = .ptr (n, 3) 1 0 0 ∧ ρ 5 = .ptr (n + 1, 5) 1 0 0 ∧ ρ 6 = int ((k + 1 : Nat) : Int) ∧ (∀ j, j < k → takes s a ok (word j) = false) ∧
    H' = (H.set (n, 3) ⟨3, [[.list true (l.map AmbNode.cells), int a, bool ok]]⟩).set (n + 1, 5) ⟨3, [[.v (.slice none 0 0), int 0, bool false]]⟩) ?_ ?_)
  · simp
  · rintro k ρ H' n' hk ⟨h0, h3, h5, h6, hno, rfl⟩ IH
    refine Runs.seq ?_
    refine Runs.seqE Ty_ok (by decide) fun k' hk' => ?_
    simp [h6, -Int.natCast_add]   -- R2
    refine hk' _ _ _ ?_
    refine Runs.ite rfl (fun hc1 => ?_) (fun hc1 => ?_)   -- t8
    · simp only [decide_eq_true_eq] at hc1
      have hk3 : k < 3 := by omega
      refine Runs.skip ?_
      refine Runs.seq ?_
      refine Runs.block ?_
      refine Runs.seqD Ty_ok kindOp_ok draws (by decide) (by kernel_rfl) fun k' hk' => ?_
      simp [h0, h3, h6, -Int.natCast_add]   -- R4
      refine RunDK.callA Ty_ok kindOp_ok (l12Word_ok ((k + 1 : Nat) : Int) (by omega)) e87 (.cons (.v _ _ _) .nil) (by decide) rfl (by simp [h6]) ?_
      simp [show (((k + 1 : Nat) : Int) - 1).toNat = k by omega, -Int.natCast_add]
      refine RunDK.callH Ty_ok kindOp_ok (l12Starts_ok s l a ok (word k) hs ha (hwl k)) e73 (.refl _) (by decide) rfl (by simp [h0, encR]) ?_
      simp
      refine hk' _ _ _ ?_
      refine Runs.ite rfl (fun hc2 => ?_) (fun hc2 => ?_)   -- t15
      · have hc2 : takes s a ok (word k) = true := hc2
        refine Runs.seqD Ty_ok kindOp_ok draws (by decide) (by kernel_rfl) fun k' hk' => ?_
        simp [h0, h3, h6, -Int.natCast_add]   -- R5
        refine RunDK.callA Ty_ok kindOp_ok (l12Word_ok ((k + 1 : Nat) : Int) (by omega)) e87 (.cons (.v _ _ _) .nil) (by decide) rfl (by simp [h6]) ?_
        simp [show (((k + 1 : Nat) : Int) - 1).toNat = k by omega, -Int.natCast_add]
        refine RunDK.callH Ty_ok kindOp_ok (l12Takes_ok s l a ok (word k) hs ha (hwl k)) e74 (.refl _) (by decide) rfl (by simp [h0, encR]) ?_
        simp [hc2, h5, encR, -Int.natCast_add]
        refine hk' _ _ _ ?_
        have hok : ok = true := by simp only [takes, Bool.and_eq_true] at hc2; exact hc2.1
        subst hok
        refine Runs.ret Tryz.func90 (RetOk.mix2 (v1 := int ((k + 1 : Nat) : Int)) (v2 := encR l (a + (word k).length) true) Ty_ok Tryz.results90 (by simp [resA]) (by simp [resA, h5, loadA, encR])) (hQ _ _ _ _ (.bnd (.tup2 (.v _) (bnd_encR _ _ _ _))) (by repeat (first | exact Frame.refl _ _ | refine Frame.set (by simp) ?_)) (by rw [kindA_at hk3 hno hc2]))
      · have hc2 : takes s a ok (word k) = false := hc2
        refine Runs.skip ?_
        refine Runs.inBlock ?_
        refine Runs.evalE Ty_ok (by decide) fun k' hk' => ?_
        simp [h6, wrap_one (a := k + 1) rfl (by omega), -Int.natCast_add]   -- R3
        refine hk' _ _ _ ?_
        refine IH hk3 _ _ _ ⟨by simp [h0], by simp [h3], by simp [h5], by simp, fun j hj => ?_, rfl⟩
        rcases Nat.lt_or_ge j k with h | h
        · exact hno j h
        · rw [show j = k by omega]; exact hc2
    · simp only [decide_eq_false_iff_not] at hc1
      have hk3 : k = 3 := by omega
      subst hk3
      refine Runs.exit rfl ?_
      refine Runs.seqD Ty_ok kindOp_ok draws (by decide) (by kernel_rfl) fun k' hk' => ?_
      simp [h3, h5]   -- R6
      refine hk' _ _ _ ?_
      refine Runs.ret Tryz.func90 (RetOk.mix2 (v1 := int 0) (v2 := encR l a ok) Ty_ok Tryz.results90 (by simp [resA]) (by simp [resA, h5, loadA, encR])) (hQ _ _ _ _ (.bnd (.tup2 (.v _) (bnd_encR _ _ _ _))) (by repeat (first | exact Frame.refl _ _ | refine Frame.set (by simp) ?_)) (by rw [kindA_no hno]; rfl))
end Go.Ab

/- Contract of spec.l12Name. -/
namespace Go.Ab
open Go.Proofs
set_option linter.unusedSimpArgs false
theorem e91 : Ent Tryz.prog 91 := Ent.of Tryz.func91 (by kernel_rfl) rfl

theorem tw_lt {q : UInt8 → Bool} : ∀ {l : Str} {k : Nat}, k < (l.takeWhile q).length → ∃ h : k < l.length, q l[k] = true
  | [], k, h => by simp at h
  | a :: l, k, h => by
    rw [List.takeWhile_cons] at h
    cases ha : q a
    · simp [ha] at h
    · simp only [ha, if_true, List.length_cons] at h
      match k with
      | 0 => exact ⟨by simp, by simpa using ha⟩
      | k + 1 =>
        obtain ⟨h1, h2⟩ := tw_lt (q := q) (l := l) (k := k) (by omega)
        exact ⟨by simpa using h1, by simpa using h2⟩
theorem tw_end {q : UInt8 → Bool} : ∀ {l : Str} (h : (l.takeWhile q).length < l.length), q l[(l.takeWhile q).length] = false
  | [], h => by simp at h
  | a :: l, h => by
    cases ha : q a
    · simp [List.takeWhile_cons, ha]
    · have he : ((a :: l).takeWhile q).length = (l.takeWhile q).length + 1 := by simp [List.takeWhile_cons, ha]
      have := tw_end (l := l) (by rw [he] at h; simpa using h)
      simpa [he] using this
theorem tw_take {q : UInt8 → Bool} : ∀ (l : Str), l.take (l.takeWhile q).length = l.takeWhile q
  | [] => by simp
  | a :: l => by
    cases ha : q a
    · simp [List.takeWhile_cons, ha]
    · simp [List.takeWhile_cons, ha, tw_take l]
theorem tw_drop {q : UInt8 → Bool} : ∀ (l : Str), l.drop (l.takeWhile q).length = l.dropWhile q
  | [] => by simp
  | a :: l => by
    cases ha : q a
    · simp [List.takeWhile_cons, List.dropWhile_cons, ha]
    · simp [List.takeWhile_cons, List.dropWhile_cons, ha, tw_drop l]

def nameAt (s : Str) (a : Nat) : Str := (s.drop a).takeWhile lower

theorem nameAt_len (s : Str) (a : Nat) (ha : a ≤ s.length) : a + (nameAt s a).length ≤ s.length := by
  have := (List.takeWhile_prefix lower (l := s.drop a)).length_le
  simp at this
  simp only [nameAt]
  omega

theorem l12Name_ok (s : Str) (l : Proc) (a : Nat) (ok : Bool) (hs : s.length ≤ 4294967296) (ha : a ≤ s.length) :
    ShareC Tryz.prog 91 [str s, encR l a ok] (fun r => r = .tup [str (nameAt s a), encR l (a + (nameAt s a).length) (ok && isNm (nameAt s a))]) := by
  have hnl := nameAt_len s a ha
  refine ShareC.of Tryz.func91 rfl Tryz.ntmps91 (by simp) fun H n Q _ hQ => ?_
  refine Runs.seqE Ty_ok (by decide) fun k' hk' => ?_
  simp [encR]   -- R0
  refine hk' _ _ _ ?_
  refine Runs.seqE Ty_ok (by decide) fun k' hk' => ?_
  simp   -- R1
  refine hk' _ _ _ ?_
  refine Runs.seq ?_
  refine Runs.block (Runs.loopUp (nameAt s a).length (fun k ρ H' n' => ρ 0 = str s ∧ ρ 3 = .ptr (n, 3) 1 0 0 ∧ ρ 5 = .ptr (n + 1, 5) 1 0 0 ∧ ρ 6 = int a ∧
    H' (n, 3) = some ⟨3, [[.list true (l.map AmbNode.cells), int ((a : Int) + k), bool ok]]⟩ ∧ H' (n + 1, 5) = some ⟨3, [[.v (.slice none 0 0), int 0, bool false]]⟩ ∧ Frame n H H') ?_ ?_)
  · refine ⟨by simp, by simp, by simp, by simp, by simp, by simp, by repeat (first | exact Frame.refl _ _ | refine Frame.set (by simp) ?_)⟩
  · rintro k ρ H' n' hk ⟨h0, h3, h5, h6, hm3, hm5, hfr⟩ IH
    refine Runs.seq ?_
    refine Runs.seqE Ty_ok (by decide) fun k' hk' => ?_
    have fin : ∀ ρ : Env, (ρ 0 = str s ∧ ρ 3 = .ptr (n, 3) 1 0 0 ∧ ρ 5 = .ptr (n + 1, 5) 1 0 0 ∧ ρ 6 = int a ∧ ρ 27 = bool (decide (k < (nameAt s a).length))) → Runs Tryz.prog 91 49 k' ρ H' n' Q := by
      rintro ρ ⟨h0, h3, h5, h6, h27⟩
      refine hk' _ _ _ ?_
      refine Runs.ite h27 (fun hc1 => ?_) (fun hc1 => ?_)   -- t27
      · simp only [decide_eq_true_eq] at hc1
        refine Runs.skip ?_
        refine Runs.block ?_
        refine Runs.evalE Ty_ok (by decide) fun k' hk' => ?_
        have hw : IntKind.i64.wrap ((a : Int) + k + 1) = (a : Int) + (k + 1 : Nat) := by rw [wrap64] <;> omega
        simp [h3, hm3, hw, -Int.natCast_add]   -- R3
        refine hk' _ _ _ ?_
        refine Runs.inBlock ?_
        refine IH hc1 _ _ _ ⟨by simp [h0], by simp [h3], by simp [h5], by simp [h6], by simp, by simp [hm5], Frame.set (by simp) hfr⟩
      · simp only [decide_eq_false_iff_not] at hc1
        have hke : k = (nameAt s a).length := by omega
        subst hke
        refine Runs.exit rfl ?_
        have hsl : (s.drop a).take (nameAt s a).length = nameAt s a := tw_take _
        have g1 : (a : Int) ≤ (a : Int) + (nameAt s a).length := by omega
        have g2 : (a : Int) + (nameAt s a).length ≤ s.length := by omega
        have g3 : ((a : Int) + (nameAt s a).length).toNat = a + (nameAt s a).length := by omega
        refine Runs.seqE Ty_ok (by decide) fun k' hk' => ?_
        have fin2 : ∀ (ρ : Env) (H' : Heap), (ρ 0 = str s ∧ ρ 3 = .ptr (n, 3) 1 0 0 ∧ ρ 5 = .ptr (n + 1, 5) 1 0 0 ∧ ρ 6 = int a ∧
            H' (n, 3) = some ⟨3, [[.list true (l.map AmbNode.cells), int ((a : Int) + (nameAt s a).length), bool (ok && isNm (nameAt s a))]]⟩ ∧ H' (n + 1, 5) = some ⟨3, [[.v (.slice none 0 0), int 0, bool false]]⟩ ∧ Frame n H H') →
            Runs Tryz.prog 91 49 k' ρ H' n' Q := by
          rintro ρ H' ⟨h0, h3, h5, h6, hm3, hm5, hfr⟩
          refine hk' _ _ _ ?_
          refine Runs.seqD Ty_ok kindOp_ok draws (by decide) (by kernel_rfl) fun k' hk' => ?_
          simp [h0, h3, h5, h6, hm3, hm5, g1, g2, g3, hsl]   -- R5
          refine hk' _ _ _ ?_
          refine Runs.ret Tryz.func91 (RetOk.mix2 (v1 := str (nameAt s a)) (v2 := encR l (a + (nameAt s a).length) (ok && isNm (nameAt s a))) Ty_ok Tryz.results91 (by simp [resA]) (by simp [resA, h5, loadA, encR])) (hQ _ _ _ _ (.bnd (.tup2 (.v _) (bnd_encR _ _ _ _))) (Frame.set (by simp) hfr) rfl)
        cases ok
        · simp [h3, hm3, guardOf]   -- R4
          exact fin2 _ _ ⟨by simp [h0], by simp [h3], by simp [h5], by simp [h6], by simp, by simp [hm5], Frame.set (by simp) hfr⟩
        · simp [h0, h3, h6, hm3, guardOf, g1, g2, g3, hsl]   -- R4
          refine RunK.callA Ty_ok (l2Name_ok (nameAt s a) (by omega)) e39 (.cons (.v _ _ _) .nil) (by decide) (by decide) rfl (by simp) ?_
          rintro _ rfl
          simp [h3, hm3]
          exact fin2 _ _ ⟨by simp [h0], by simp [h3], by simp [h5], by simp [h6], by simp, by simp [hm5], Frame.set (by simp) hfr⟩
    by_cases hb : (a : Int) + k < s.length
    · have hb' : a + k < s.length := by omega
      have ht : ((a : Int) + k).toNat = a + k := by omega
      have hp : (0 : Int) ≤ (a : Int) + k := by omega
      have hlow : (decide (k < (nameAt s a).length)) = lower s[a + k] := by
        rcases Nat.lt_or_ge k (nameAt s a).length with h | h
        · obtain ⟨h1, h2⟩ := tw_lt (q := lower) (l := s.drop a) h
          simp only [List.getElem_drop] at h2
          simp [h, h2]
        · have hke : k = (nameAt s a).length := by omega
          have h2 := tw_end (q := lower) (l := s.drop a) (by simp only [nameAt] at hke; rw [← hke]; simp; omega)
          simp only [List.getElem_drop] at h2
          simp only [nameAt] at hke
          have h3 : lower s[a + k] = false := by
            rw [← h2]
            congr 2
            omega
          rw [h3]
          simpa using h
      by_cases h97 : (97 : Int) ≤ (s[a + k].toNat : Int)
      · by_cases h122 : (s[a + k].toNat : Int) ≤ (122 : Int)
        · simp [h0, h3, hm3, hb, hb', ht, hp, h97, h122, guardOf]
          refine fin _ ⟨by simp [h0], by simp [h3], by simp [h5], by simp [h6], ?_⟩
          rw [hlow]
          simp [lower]
          omega
        · simp [h0, h3, hm3, hb, hb', ht, hp, h97, h122, guardOf]
          refine fin _ ⟨by simp [h0], by simp [h3], by simp [h5], by simp [h6], ?_⟩
          rw [hlow]
          simp [lower]
          omega
      · simp [h0, h3, hm3, hb, hb', ht, hp, h97, guardOf]
        refine fin _ ⟨by simp [h0], by simp [h3], by simp [h5], by simp [h6], ?_⟩
        rw [hlow]
        simp [lower]
        omega
    · simp [h0, h3, hm3, hb, guardOf]
      refine fin _ ⟨by simp [h0], by simp [h3], by simp [h5], by simp [h6], ?_⟩
      simp
      omega
end Go.Ab

/- Contracts of spec.l12Node and spec.l12Read. -/
namespace Go.Ab
open Go.Proofs
set_option linter.unusedSimpArgs false
theorem e75 : Ent Tryz.prog 75 := Ent.of Tryz.func75 (by kernel_rfl) rfl
theorem e61 : Ent Tryz.prog 61 := Ent.of Tryz.func61 (by kernel_rfl) rfl

def Res (s : Str) (o : Option (Str × Proc)) (r : AVal) : Prop :=
  match o with
  | some (t, l2) => ∃ a, a ≤ s.length ∧ t = s.drop a ∧ l2.length ≤ 8 ∧ r = encR l2 a true
  | none => ∃ l a, a ≤ s.length ∧ l.length ≤ 8 ∧ r = encR l a false

theorem prefix_le {w s : Str} {a : Nat} (ha : a ≤ s.length) (h : w.isPrefixOf (s.drop a) = true) : a + w.length ≤ s.length := by
  have := (List.isPrefixOf_iff_prefix.1 h).length_le
  simp at this
  omega

theorem kindA_spec (s : Str) (a : Nat) (ha : a ≤ s.length) : (kindA s a true).1 = (kindOf (s.drop a)).1 ∧ s.drop (kindA s a true).2 = (kindOf (s.drop a)).2 ∧ (kindA s a true).2 ≤ s.length := by
  unfold kindA kindOf takes
  simp only [Bool.true_and]
  split
  · rename_i h; exact ⟨rfl, by simp, prefix_le ha h⟩
  · split
    · rename_i h; exact ⟨rfl, by simp, prefix_le ha h⟩
    · split
      · rename_i h; exact ⟨rfl, by simp, prefix_le ha h⟩
      · exact ⟨rfl, rfl, ha⟩

theorem nodes_flat (l : Proc) : ∀ e ∈ l.map AmbNode.cells, ∀ a ∈ e, flat a = true := by simp [AmbNode.cells]

theorem opn_len (k : Nat) : (opn k).length ≤ 100 := by unfold opn; split <;> simp
theorem cls_len (k : Nat) : (cls k).length = 1 := by unfold cls; split <;> simp

/-- The end of l12Node: what is in the node, and the bracket behind it. -/
def nodeEnd (g : Nat) (s : Str) (k a : Nat) (l : Proc) : Option (Str × Proc) :=
  if !(opn k).isPrefixOf (s.drop a) then none else
  match pIn true g (l.length - 1 : Nat) ((s.drop a).drop (opn k).length) l with
  | none => none
  | some (r, l2) => if (cls k).isPrefixOf r then some (r.drop 1, l2) else none

theorem nodeK (g : Nat) (s : Str) (hs : s.length ≤ 4294967296) (l : Proc) (hl : l.length ≤ 8) (a : Nat) (ha : a ≤ s.length) (ok : Bool) (parent : Int)
    (hread : ok = true → ∀ (l : Proc) (a : Nat) (ok' : Bool) (parent : Nat), l.length ≤ 8 → parent + 1 = l.length → a ≤ s.length → (ok' = true → 3 * (8 - l.length) + 2 ≤ g) → ShareC Tryz.prog 61 [str s, encR l a ok', int parent] (Res s (if ok' then pIn true g parent (s.drop a) l else none)))
    (hg : ok = true → 3 * (8 - l.length) ≤ g) :
    ShareC Tryz.prog 75 [str s, encR l a ok, int parent] (Res s (if ok then pNode true (g + 1) parent (s.drop a) l else none)) := by
  refine ShareC.of Tryz.func75 rfl Tryz.ntmps75 (by simp) fun H n Q hB hQ => ?_
  refine Runs.seqE Ty_ok (by decide) fun k' hk' => ?_
  simp [encR]   -- R0
  refine hk' _ _ _ ?_
  refine Runs.seqE Ty_ok (by decide) fun k' hk' => ?_
  simp   -- R1
  refine RunK.callH Ty_ok (l12Kind_ok s l a ok hs ha) e90 (.refl _) (by decide) (by decide) rfl (by simp [encR]) ?_
  rintro _ rfl
  have hkA : (kindA s a ok).2 ≤ s.length := by
    cases ok
    · simpa [kindA, takes] using ha
    · exact (kindA_spec s a ha).2.2
  obtain ⟨k, a1, hka⟩ : ∃ k a1, kindA s a ok = (k, a1) := ⟨_, _, rfl⟩
  rw [hka] at hkA
  rw [hka]
  simp only at hkA
  simp [encR]
  refine hk' _ _ _ ?_
  refine Runs.seqE Ty_ok (by decide) fun k' hk' => ?_
  simp   -- R2
  refine RunK.callH Ty_ok (l12Name_ok s l a1 ok hs hkA) e91 (.refl _) (by decide) (by decide) rfl (by simp [encR]) ?_
  rintro _ rfl
  have hnl := nameAt_len s a1 hkA
  obtain ⟨nm, hnm⟩ : ∃ nm, nameAt s a1 = nm := ⟨_, rfl⟩
  rw [hnm] at hnl
  rw [hnm]
  simp [encR]
  refine hk' _ _ _ ?_
  obtain ⟨a2, ha2⟩ : ∃ a2, a1 + nm.length = a2 := ⟨_, rfl⟩
  rw [ha2] at hnl
  simp only [← Int.natCast_add, ha2]
  refine Runs.cut (fun ρ H' n' => ρ 0 = str s ∧ ρ 2 = int parent ∧ ρ 4 = .ptr (n, 4) 1 0 0 ∧ ρ 6 = .ptr (n + 1, 6) 1 0 0 ∧ ρ 7 = int k ∧ ρ 8 = str nm ∧
    H' (n, 4) = some ⟨3, [[.list true (l.map AmbNode.cells), int a2, bool (ok && isNm nm)]]⟩ ∧ H' (n + 1, 6) = some ⟨3, [[.v (.slice none 0 0), int 0, bool false]]⟩ ∧ Frame n H H' ∧ n' = n + 2) ?_ ?_
  · refine ⟨by simp, by simp, by simp, by simp, by simp, by simp, by simp, by simp, by repeat (first | exact Frame.refl _ _ | refine Frame.set (by simp) ?_), rfl⟩
  clear hk'
  rintro ρ H1 n1 ⟨h0, h2, h4, h6, h7, h8, hm4, hm6, hfr, rfl⟩
  refine Runs.seq ?_
  refine Runs.seqE Ty_ok (by decide) fun k' hk' => ?_
  have fin : ∀ ρ : Env, (ρ 0 = str s ∧ ρ 2 = int parent ∧ ρ 4 = .ptr (n, 4) 1 0 0 ∧ ρ 6 = .ptr (n + 1, 6) 1 0 0 ∧ ρ 7 = int k ∧ ρ 8 = str nm ∧ ρ 31 = bool (!(ok && isNm nm && decide (l.length < 8)))) → Runs Tryz.prog 75 69 k' ρ H1 (n + 2) Q := by
    rintro ρ ⟨h0, h2, h4, h6, h7, h8, h31⟩
    refine hk' _ _ _ ?_
    refine Runs.ite h31 (fun hc1 => ?_) (fun hc1 => ?_)   -- t31
    · refine Runs.seqE Ty_ok (by decide) fun k' hk' => ?_
      simp [h4, hm4]   -- R4
      refine hk' _ _ _ ?_
      refine Runs.seqE Ty_ok (by decide) fun k' hk' => ?_
      simp [h4, h6, hm6]   -- R5
      refine hk' _ _ _ ?_
      refine Runs.ret Tryz.func75 (RetOk.cell (cs := [.list true (l.map AmbNode.cells), int a2, bool false]) (v := encR l a2 false) Ty_ok Tryz.results75 Ty_86 (by simp [h6]) (by simp [loadA, encR])) (hQ _ _ _ _ (.bnd (bnd_encR n l a2 false)) (Frame.set (by simp) (Frame.set (by simp) hfr)) ?_)
      have hno : (if ok = true then pNode true (g + 1) parent (s.drop a) l else none) = none := by
        cases ok
        · rfl
        · obtain ⟨e1, e2, _⟩ := kindA_spec s a ha
          rw [hka] at e1 e2
          simp only at e1 e2
          have hn2 : nm = (kindOf (s.drop a)).2.takeWhile lower := by rw [← hnm, nameAt, e2]
          rw [if_pos rfl, pNode, ← hn2, if_pos]
          have hl8 : (l.length == 8) = !decide (l.length < 8) := by
            by_cases h : l.length < 8
            · simp [h]; omega
            · simp [h]; omega
          rw [hl8]
          cases hn : isNm nm
          · simp
          · simp [hn] at hc1
            simp [hc1]
      rw [hno]
      exact ⟨l, a2, hnl, hl, rfl⟩
    · simp only [Bool.not_eq_false', Bool.and_eq_true, decide_eq_true_eq] at hc1
      obtain ⟨⟨hok, hisn⟩, hl8⟩ := hc1
      subst hok
      refine Runs.skip ?_
      rw [hisn] at hm4
      simp only [Bool.and_self] at hm4
      refine Runs.seqE Ty_ok (by decide) fun k' hk' => ?_
      simp [h4, hm4]   -- R6
      refine hk' _ _ _ ?_
      refine Runs.seqE Ty_ok (by decide) fun k' hk' => ?_
      simp [h2, h4, h7, h8, hm4, show l.length ≤ 1073741824 by omega, show l.length + 1 ≤ 1073741824 by omega, AmbNode.cells]   -- R7
      refine hk' _ _ _ ?_
      obtain ⟨e1, e2, _⟩ := kindA_spec s a ha
      rw [hka] at e1 e2
      simp only at e1 e2
      have hn2 : nm = (kindOf (s.drop a)).2.takeWhile lower := by rw [← hnm, nameAt, e2]
      have hd2 : s.drop a2 = (kindOf (s.drop a)).2.dropWhile lower := by rw [← tw_drop, ← e2, List.drop_drop, ← ha2, ← hnm]; rfl
      have hk3 : k ≤ 3 := by rw [e1]; exact kindOf_le _
      obtain ⟨x, hx⟩ : ∃ x : AmbNode, x = ⟨k, nm, parent⟩ := ⟨_, rfl⟩
      have hxc : x.cells = [int k, str nm, int parent] := by rw [hx]; rfl
      refine Runs.freeze1 (n + 2, 38) (o := ⟨3, (l ++ [x]).map AmbNode.cells⟩) (by simp [hx, AmbNode.cells]) (nodes_flat _) ?_
      refine Runs.cut (fun ρ H' n' => ρ 0 = str s ∧ ρ 4 = .ptr (n, 4) 1 0 0 ∧ ρ 6 = .ptr (n + 1, 6) 1 0 0 ∧ ρ 7 = int k ∧ ρ 9 = int l.length ∧
        H' (n, 4) = some ⟨3, [[.list true ((l ++ [x]).map AmbNode.cells), int a2, bool true]]⟩ ∧ H' (n + 1, 6) = some ⟨3, [[.v (.slice none 0 0), int 0, bool false]]⟩ ∧ Frame n H H') ?_ ?_
      · refine ⟨by simp [h0, fz_v], by simp [h4, fz_ptr], by simp [h6, fz_ptr], by simp [h7, fz_v], by simp [fz_v], ?_, ?_, ?_⟩
        · rw [fzH_ne (by simp)]
          simp [fz_v]
          exact fz_own (by simp [hx, AmbNode.cells]; exact rfl) (by simp)
        · rw [fzH_ne (by simp)]
          simp [fz_v, hm6]
        · exact Frame.fz hB (by simp) (Frame.set (by simp) (Frame.set (by simp) hfr))
      clear hk' h0 h2 h4 h6 h7 h8 hm4 hm6 hfr
      rintro ρ H1 n1 ⟨h0, h4, h6, h7, h9, hm4, hm6, hfr⟩
      refine Runs.seq ?_
      refine Runs.seqE Ty_ok (by decide) fun k' hk' => ?_
      simp [h7]   -- R8
      refine hk' _ _ _ ?_
      have hgg := hg rfl
      refine Runs.ite rfl (fun hk0 => ?_) (fun hk0 => ?_)
      · simp at hk0
        have ho : opn k = [91] := by simp [opn, hk0]
        have hc : cls k = [93] := by simp [cls, hk0]
        refine Runs.seqE Ty_ok (by decide) fun k' hk' => ?_
        simp [h0, h4, hm4]   -- R9
        refine RunK.callH Ty_ok (l12Takes_ok s (l ++ [x]) a2 true [91] hs hnl (by simp)) e74 (.refl _) (by decide) (by decide) rfl (by simp [encR, h0]) ?_
        intro r1 hr1
        have hR : ∀ r, r = (if takes s a2 true [91] then encR (l ++ [x]) (a2 + (List.length ([91] : Str))) true else encR (l ++ [x]) a2 false) →
            ∃ a3 ok3, r = encR (l ++ [x]) a3 ok3 ∧ a3 ≤ s.length ∧ ((ok3 = true ∧ (opn k).isPrefixOf (s.drop a2) = true ∧ s.drop a3 = (s.drop a2).drop (opn k).length) ∨ (ok3 = false ∧ (opn k).isPrefixOf (s.drop a2) = false)) := by
          rintro _ rfl
          rw [ho]
          cases ht : List.isPrefixOf [91] (s.drop a2)
          · exact ⟨a2, false, by simp [takes, ht], hnl, .inr ⟨rfl, rfl⟩⟩
          · exact ⟨a2 + List.length ([91] : Str), true, by simp only [takes, ht, Bool.true_and, if_true], prefix_le hnl ht, .inl ⟨rfl, rfl, by simp⟩⟩
        obtain ⟨a3, ok3, rfl, ha3, h3⟩ := hR _ hr1
        simp [h0, h9, encR]
        refine RunK.callH Ty_ok (hread rfl (l ++ [x]) a3 ok3 l.length (by simp; omega) (by simp) ha3 (fun _ => by simp; omega)) e61 (.refl _) (by decide) (by decide) rfl (by simp [encR, h0, h9]) ?_
        intro r hr
        obtain ⟨l4, a4, ok4, rfl, hl4, ha4, h4'⟩ : ∃ l4 a4 ok4, r = encR l4 a4 ok4 ∧ l4.length ≤ 8 ∧ a4 ≤ s.length ∧ (if ok3 = true then pIn true g l.length (s.drop a3) (l ++ [x]) else none) = (if ok4 then some (s.drop a4, l4) else none) := by
          cases hp : (if ok3 = true then pIn true g l.length (s.drop a3) (l ++ [x]) else none) with
          | none =>
            rw [hp] at hr
            obtain ⟨l', a', q1, q2, q3⟩ := hr
            exact ⟨l', a', false, q3, q2, q1, by simp⟩
          | some t =>
            rw [hp] at hr
            obtain ⟨a', q1, q2, q3, q4⟩ := hr
            exact ⟨t.2, a', true, q4, q3, q1, by simp [← q2]⟩
        simp [h0, encR]
        refine RunK.callH Ty_ok (l12Takes_ok s l4 a4 ok4 [93] hs ha4 (by simp)) e74 (.refl _) (by decide) (by decide) rfl (by simp [encR, h0]) ?_
        intro r2 hr2
        have hfin : ∀ r, r = (if takes s a4 ok4 [93] then encR l4 (a4 + (List.length ([93] : Str))) true else encR l4 a4 false) → ∃ a5 ok5, r = encR l4 a5 ok5 ∧ Res s (pNode true (g + 1) parent (s.drop a) l) (encR l4 a5 ok5) := by
          rintro _ rfl
          rw [pNode, ← hn2, ← hd2, ← e1, hisn, ← hx]
          cases ht : takes s a4 ok4 [93]
          · refine ⟨a4, false, by simp, ?_⟩
            have hnone : ∀ o : Option (Str × Proc), o = none → Res s o (encR l4 a4 false) := by
              rintro _ rfl
              exact ⟨l4, a4, ha4, hl4, rfl⟩
            refine hnone _ ?_
            rcases h3 with ⟨rfl, q1, q2⟩ | ⟨rfl, q1⟩
            · rw [q1, ← q2]
              simp only [if_true] at h4'
              rw [h4']
              cases ok4
              · simp
              · simp only [takes, Bool.true_and] at ht
                simp [hc, ht]
            · simp [q1]
          · refine ⟨a4 + 1, true, by simp, ?_⟩
            simp only [takes, Bool.and_eq_true] at ht
            obtain ⟨rfl, ht⟩ := ht
            have hok3 : ok3 = true := by
              cases ok3
              · simp at h4'
              · rfl
            subst hok3
            rcases h3 with ⟨_, q1, q2⟩ | ⟨h, _⟩
            · simp only [if_true] at h4'
              have h8 : (l.length == 8) = false := by simp; omega
              rw [q1, ← q2, h4', hc, h8]
              simp only [if_true, ht]
              refine ⟨a4 + 1, prefix_le ha4 ht, by simp, hl4, rfl⟩
            · cases h
        obtain ⟨a5, ok5, rfl, hres⟩ := hfin _ hr2
        simp [h6, hm6, encR]
        refine hk' _ _ _ ?_
        exact Runs.ret Tryz.func75 (RetOk.cell (cs := [.list true (l4.map AmbNode.cells), int a5, bool ok5]) (v := encR l4 a5 ok5) Ty_ok Tryz.results75 Ty_86 (by simp [h6]) (by simp [loadA, encR])) (hQ _ _ _ _ (.bnd (bnd_encR n l4 a5 ok5)) (Frame.set (by simp) hfr) (by simpa using hres))
      · simp at hk0
        refine Runs.skip ?_
        have ho : opn k = [46, 40] := by simp [opn, hk0]
        have hc : cls k = [41] := by simp [cls, hk0]
        refine Runs.seqE Ty_ok (by decide) fun k' hk' => ?_
        simp [h0, h4, hm4]   -- R10
        refine RunK.callH Ty_ok (l12Takes_ok s (l ++ [x]) a2 true [46, 40] hs hnl (by simp)) e74 (.refl _) (by decide) (by decide) rfl (by simp [encR, h0]) ?_
        intro r1 hr1
        have hR : ∀ r, r = (if takes s a2 true [46, 40] then encR (l ++ [x]) (a2 + (List.length ([46, 40] : Str))) true else encR (l ++ [x]) a2 false) →
            ∃ a3 ok3, r = encR (l ++ [x]) a3 ok3 ∧ a3 ≤ s.length ∧ ((ok3 = true ∧ (opn k).isPrefixOf (s.drop a2) = true ∧ s.drop a3 = (s.drop a2).drop (opn k).length) ∨ (ok3 = false ∧ (opn k).isPrefixOf (s.drop a2) = false)) := by
          rintro _ rfl
          rw [ho]
          cases ht : List.isPrefixOf [46, 40] (s.drop a2)
          · exact ⟨a2, false, by simp [takes, ht], hnl, .inr ⟨rfl, rfl⟩⟩
          · exact ⟨a2 + List.length ([46, 40] : Str), true, by simp only [takes, ht, Bool.true_and, if_true], prefix_le hnl ht, .inl ⟨rfl, rfl, by simp⟩⟩
        obtain ⟨a3, ok3, rfl, ha3, h3⟩ := hR _ hr1
        simp [h0, h9, encR]
        refine RunK.callH Ty_ok (hread rfl (l ++ [x]) a3 ok3 l.length (by simp; omega) (by simp) ha3 (fun _ => by simp; omega)) e61 (.refl _) (by decide) (by decide) rfl (by simp [encR, h0, h9]) ?_
        intro r hr
        obtain ⟨l4, a4, ok4, rfl, hl4, ha4, h4'⟩ : ∃ l4 a4 ok4, r = encR l4 a4 ok4 ∧ l4.length ≤ 8 ∧ a4 ≤ s.length ∧ (if ok3 = true then pIn true g l.length (s.drop a3) (l ++ [x]) else none) = (if ok4 then some (s.drop a4, l4) else none) := by
          cases hp : (if ok3 = true then pIn true g l.length (s.drop a3) (l ++ [x]) else none) with
          | none =>
            rw [hp] at hr
            obtain ⟨l', a', q1, q2, q3⟩ := hr
            exact ⟨l', a', false, q3, q2, q1, by simp⟩
          | some t =>
            rw [hp] at hr
            obtain ⟨a', q1, q2, q3, q4⟩ := hr
            exact ⟨t.2, a', true, q4, q3, q1, by simp [← q2]⟩
        simp [h0, encR]
        refine RunK.callH Ty_ok (l12Takes_ok s l4 a4 ok4 [41] hs ha4 (by simp)) e74 (.refl _) (by decide) (by decide) rfl (by simp [encR, h0]) ?_
        intro r2 hr2
        have hfin : ∀ r, r = (if takes s a4 ok4 [41] then encR l4 (a4 + (List.length ([41] : Str))) true else encR l4 a4 false) → ∃ a5 ok5, r = encR l4 a5 ok5 ∧ Res s (pNode true (g + 1) parent (s.drop a) l) (encR l4 a5 ok5) := by
          rintro _ rfl
          rw [pNode, ← hn2, ← hd2, ← e1, hisn, ← hx]
          cases ht : takes s a4 ok4 [41]
          · refine ⟨a4, false, by simp, ?_⟩
            have hnone : ∀ o : Option (Str × Proc), o = none → Res s o (encR l4 a4 false) := by
              rintro _ rfl
              exact ⟨l4, a4, ha4, hl4, rfl⟩
            refine hnone _ ?_
            rcases h3 with ⟨rfl, q1, q2⟩ | ⟨rfl, q1⟩
            · rw [q1, ← q2]
              simp only [if_true] at h4'
              rw [h4']
              cases ok4
              · simp
              · simp only [takes, Bool.true_and] at ht
                simp [hc, ht]
            · simp [q1]
          · refine ⟨a4 + 1, true, by simp, ?_⟩
            simp only [takes, Bool.and_eq_true] at ht
            obtain ⟨rfl, ht⟩ := ht
            have hok3 : ok3 = true := by
              cases ok3
              · simp at h4'
              · rfl
            subst hok3
            rcases h3 with ⟨_, q1, q2⟩ | ⟨h, _⟩
            · simp only [if_true] at h4'
              have h8 : (l.length == 8) = false := by simp; omega
              rw [q1, ← q2, h4', hc, h8]
              simp only [if_true, ht]
              refine ⟨a4 + 1, prefix_le ha4 ht, by simp, hl4, rfl⟩
            · cases h
        obtain ⟨a5, ok5, rfl, hres⟩ := hfin _ hr2
        simp [h6, hm6, encR]
        refine hk' _ _ _ ?_
        exact Runs.ret Tryz.func75 (RetOk.cell (cs := [.list true (l4.map AmbNode.cells), int a5, bool ok5]) (v := encR l4 a5 ok5) Ty_ok Tryz.results75 Ty_86 (by simp [h6]) (by simp [loadA, encR])) (hQ _ _ _ _ (.bnd (bnd_encR n l4 a5 ok5)) (Frame.set (by simp) hfr) (by simpa using hres))
  cases ok
  · simp [h4, hm4, guardOf]
    exact fin _ ⟨by simp [h0], by simp [h2], by simp [h4], by simp [h6], by simp [h7], by simp [h8], by simp⟩
  · cases hn : isNm nm
    · simp [hn] at hm4
      simp [h4, hm4, guardOf]
      exact fin _ ⟨by simp [h0], by simp [h2], by simp [h4], by simp [h6], by simp [h7], by simp [h8], by simp [hn]⟩
    · simp [hn] at hm4
      simp [h4, hm4, guardOf]
      refine fin _ ⟨by simp [h0], by simp [h2], by simp [h4], by simp [h6], by simp [h7], by simp [h8], ?_⟩
      by_cases h : l.length < 8
      · simp [h, hn]; omega
      · simp [h, hn]; omega
end Go.Ab

/- Contracts of spec.l12Read, spec.l12Node and spec.ParseProcess. -/
namespace Go.Ab
open Go.Proofs
set_option linter.unusedSimpArgs false
theorem e40 : Ent Tryz.prog 40 := Ent.of Tryz.func40 (by kernel_rfl) rfl

theorem Res.get {s : Str} {o : Option (Str × Proc)} {r : AVal} (h : Res s o r) : ∃ l a ok, r = encR l a ok ∧ a ≤ s.length ∧ l.length ≤ 8 ∧ o = if ok then some (s.drop a, l) else none := by
  cases o with
  | none => obtain ⟨l, a, h1, h2, h3⟩ := h; exact ⟨l, a, false, h3, h1, h2, rfl⟩
  | some x => obtain ⟨a, h1, h2, h3, h4⟩ := h; exact ⟨x.2, a, true, h4, h1, h3, by simp [← h2]⟩
theorem Res.of {s : Str} {o : Option (Str × Proc)} {l : Proc} {a : Nat} {ok : Bool} (ha : a ≤ s.length) (hl : l.length ≤ 8) (h : o = if ok then some (s.drop a, l) else none) : Res s o (encR l a ok) := by
  subst h
  cases ok
  · exact ⟨l, a, ha, hl, rfl⟩
  · exact ⟨a, ha, rfl, hl, rfl⟩

theorem l12Read_ok (s : Str) (hs : s.length ≤ 4294967296) : ∀ (G : Nat) (l : Proc) (a : Nat) (ok : Bool) (parent : Int), l.length ≤ 8 → a ≤ s.length → (ok = true → 3 * (8 - l.length) + 2 ≤ G) →
    ShareC Tryz.prog 61 [str s, encR l a ok, int parent] (Res s (if ok then pIn true G parent (s.drop a) l else none)) := by
  intro G
  induction G using Nat.strongRecOn with
  | _ G IHG =>
  intro l a ok parent hl ha hG
  have node : ∀ (g : Nat) (l : Proc) (a : Nat) (ok : Bool), g + 1 ≤ G ∨ ok = false → l.length ≤ 8 → a ≤ s.length → (ok = true → 3 * (8 - l.length) ≤ g) →
      ShareC Tryz.prog 75 [str s, encR l a ok, int parent] (Res s (if ok then pNode true (g + 1) parent (s.drop a) l else none)) := fun g l a ok hgG hl ha hg =>
    nodeK g s hs l hl a ha ok parent (fun hok l a ok' parent h1 h2 h3 h4 => by
      rcases hgG with h | h
      · exact IHG g (by omega) l a ok' parent h1 h3 h4
      · rw [hok] at h; cases h) hg
  refine ShareC.of Tryz.func61 rfl Tryz.ntmps61 (by simp) fun H n Q hB hQ => ?_
  refine Runs.seqE Ty_ok (by decide) fun k' hk' => ?_
  simp [encR]   -- R0
  refine hk' _ _ _ ?_
  refine Runs.seq ?_
  refine Runs.seqE Ty_ok (by decide) fun k' hk' => ?_
  simp   -- R1
  refine RunK.callH Ty_ok (l12Starts_ok s l a ok [48] hs ha (by simp)) e73 (.refl _) (by decide) (by decide) rfl (by simp [encR]) ?_
  rintro _ rfl
  simp
  refine hk' _ _ _ ?_
  refine Runs.ite rfl (fun hc1 => ?_) (fun hc1 => ?_)   -- t9
  · have hc1 : takes s a ok [48] = true := by simpa using hc1
    refine Runs.seqE Ty_ok (by decide) fun k' hk' => ?_
    simp   -- R2
    refine RunK.callH Ty_ok (l12Takes_ok s l a ok [48] hs ha (by simp)) e74 (.refl _) (by decide) (by decide) rfl (by simp [encR]) ?_
    rintro _ rfl
    simp [hc1, encR]
    refine hk' _ _ _ ?_
    simp only [takes, Bool.and_eq_true] at hc1
    obtain ⟨rfl, hp⟩ := hc1
    have hG' := hG rfl
    refine Runs.ret Tryz.func61 (RetOk.cell (cs := [.list true (l.map AmbNode.cells), int ((a + 1 : Nat) : Int), bool true]) (v := encR l (a + 1) true) Ty_ok Tryz.results61 Ty_86 (by simp) (by simp [loadA, encR])) (hQ _ _ _ _ (.bnd (bnd_encR n l (a + 1) true)) (by repeat (first | exact Frame.refl _ _ | refine Frame.set (by simp) ?_)) ?_)
    refine Res.of (prefix_le ha hp) hl ?_
    obtain ⟨g, rfl⟩ : ∃ g, G = g + 1 := ⟨G - 1, by omega⟩
    rw [if_pos rfl, pIn, if_pos hp]
    simp
  · have hc1 : takes s a ok [48] = false := by simpa using hc1
    refine Runs.skip ?_
    refine Runs.seqE Ty_ok (by decide) fun k' hk' => ?_
    simp   -- R3
    refine RunK.callH Ty_ok (node (G - 2) l a ok (by cases ok <;> simp_all; omega) hl ha (fun h => by have := hG h; omega)) e75 (.refl _) (by decide) (by decide) rfl (by simp [encR]) ?_
    intro r hr
    obtain ⟨l1, a1, ok1, rfl, ha1, hl1, he1⟩ := hr.get
    simp [encR]
    refine hk' _ _ _ ?_
    refine Runs.seq ?_
    refine Runs.block (Runs.loopM (fun m ρ H' n' => ρ 0 = str s ∧ ρ 2 = int parent ∧ ρ 4 = .ptr (n, 4) 1 0 0 ∧ ρ 6 = .ptr (n + 1, 6) 1 0 0 ∧ H' (n + 1, 6) = some ⟨3, [[.v (.slice none 0 0), int 0, bool false]]⟩ ∧ Frame n H H' ∧ m ≤ G ∧
      ∃ (l1 : Proc) (a1 : Nat) (ok1 : Bool), H' (n, 4) = some ⟨3, [[.list true (l1.map AmbNode.cells), int a1, bool ok1]]⟩ ∧ a1 ≤ s.length ∧ l1.length ≤ 8 ∧ (ok1 = true → 3 * (8 - l1.length) + 3 ≤ m) ∧
        (if ok then pIn true G parent (s.drop a) l else none) = (if ok1 then pLoop true m parent (s.drop a1) l1 else none)) (G - 1) ?_ ?_)
    · refine ⟨by simp, by simp, by simp, by simp, by simp, by repeat (first | exact Frame.refl _ _ | refine Frame.set (by simp) ?_), by omega, l1, a1, ok1, by simp, ha1, hl1, fun h => ?_, ?_⟩
      · subst h
        cases ok
        · simp at he1
        · have hG' := hG rfl
          have := ((p_adds true _ _ _ _ _ _ hl).1 he1).2.1
          omega
      · cases ok
        · simp at he1
          subst he1
          rfl
        · have hG' := hG rfl
          obtain ⟨g, rfl⟩ : ∃ g, G = g + 2 := ⟨G - 2, by omega⟩
          have hp : List.isPrefixOf [48] (s.drop a) = false := by simpa [takes] using hc1
          rw [if_pos rfl, pIn, if_neg (by simp [hp])]
          rw [if_pos rfl, show g + 2 - 2 + 1 = g + 1 by omega] at he1
          rw [he1]
          cases ok1 <;> rfl
    · rintro m ρ H' n' ⟨h0, h2, h4, h6, hm6, hfr, hmG, l1, a1, ok1, hm4, ha1, hl1, hm, htot⟩ IH
      refine Runs.seq ?_
      refine Runs.seqE Ty_ok (by decide) fun k' hk' => ?_
      have fin : ∀ ρ : Env, (ρ 0 = str s ∧ ρ 2 = int parent ∧ ρ 4 = .ptr (n, 4) 1 0 0 ∧ ρ 6 = .ptr (n + 1, 6) 1 0 0 ∧ ρ 23 = bool (takes s a1 ok1 [124])) → Runs Tryz.prog 61 31 k' ρ H' n' Q := by
        rintro ρ ⟨h0, h2, h4, h6, h23⟩
        refine hk' _ _ _ ?_
        refine Runs.ite h23 (fun hc2 => ?_) (fun hc2 => ?_)   -- t23
        · refine Runs.skip ?_
          refine Runs.block ?_
          refine Runs.evalE Ty_ok (by decide) fun k' hk' => ?_
          simp [h0, h4, hm4]   -- R5
          refine RunK.callH Ty_ok (l12Takes_ok s l1 a1 ok1 [124] hs ha1 (by simp)) e74 (.refl _) (by decide) (by decide) rfl (by simp [encR, h0]) ?_
          rintro _ rfl
          simp [hc2, h0, h2, encR]
          simp only [takes, Bool.and_eq_true] at hc2
          obtain ⟨rfl, hp⟩ := hc2
          have hm' := hm rfl
          refine RunK.callH Ty_ok (node (m - 2) l1 (a1 + 1) true (.inl (by omega)) hl1 (prefix_le ha1 hp) (fun _ => by omega)) e75 (.refl _) (by decide) (by decide) rfl (by simp [encR, h0, h2]) ?_
          intro r hr
          obtain ⟨l2, a2, ok2, rfl, ha2, hl2, he2⟩ := hr.get
          simp [encR, h4, hm4]
          refine hk' _ _ _ ?_
          refine Runs.inBlock ?_
          refine IH (m - 1) _ _ _ (by omega) ⟨by simp [h0], by simp [h2], by simp [h4], by simp [h6], by simp [hm6], Frame.set (by simp) hfr, by omega, l2, a2, ok2, by simp, ha2, hl2, fun h => ?_, ?_⟩
          · subst h
            have := ((p_adds true _ _ _ _ _ _ hl1).1 he2).2.1
            omega
          · obtain ⟨g, rfl⟩ : ∃ g, m = g + 2 := ⟨m - 2, by omega⟩
            rw [htot, if_pos rfl, pLoop, if_pos hp]
            rw [if_pos rfl, show g + 2 - 2 + 1 = g + 1 by omega] at he2
            rw [show (s.drop a1).drop 1 = s.drop (a1 + 1) by simp, he2]
            cases ok2 <;> rfl
        · refine Runs.exit rfl ?_
          refine Runs.seqE Ty_ok (by decide) fun k' hk' => ?_
          simp [h4, h6, hm4, hm6]   -- R6
          refine hk' _ _ _ ?_
          refine Runs.ret Tryz.func61 (RetOk.cell (cs := [.list true (l1.map AmbNode.cells), int a1, bool ok1]) (v := encR l1 a1 ok1) Ty_ok Tryz.results61 Ty_86 (by simp [h6]) (by simp [loadA, encR])) (hQ _ _ _ _ (.bnd (bnd_encR n l1 a1 ok1)) (Frame.set (by simp) hfr) ?_)
          refine Res.of ha1 hl1 ?_
          rw [htot]
          cases ok1
          · rfl
          · have hm' := hm rfl
            obtain ⟨g, rfl⟩ : ∃ g, m = g + 1 := ⟨m - 1, by omega⟩
            simp only [takes, Bool.true_and] at hc2
            rw [if_pos rfl, if_pos rfl, pLoop, if_neg (by simp [hc2])]
      cases ok1
      · simp [h4, hm4, guardOf]
        exact fin _ ⟨by simp [h0], by simp [h2], by simp [h4], by simp [h6], by simp [takes]⟩
      · simp [h0, h4, hm4, guardOf]
        refine RunK.callH Ty_ok (l12Starts_ok s l1 a1 true [124] hs ha1 (by simp)) e73 (.refl _) (by decide) (by decide) rfl (by simp [encR, h0]) ?_
        rintro _ rfl
        simp
        exact fin _ ⟨by simp [h0], by simp [h2], by simp [h4], by simp [h6], by simp⟩

theorem specParseProcess_ok (s : Str) (hs : s.length ≤ 4294967296) : PureC Tryz.prog 40 [str s] (fun r => r = .tup [encP true (parse s).1, bool (parse s).2]) := by
  refine PureC.of Tryz.func40 rfl Tryz.ntmps40 (by simp) fun Q hQ => ?_
  refine Runs.seqE Ty_ok (by decide) fun k' hk' => ?_
  simp   -- R0
  refine hk' _ _ _ ?_
  refine Runs.seqE Ty_ok (by decide) fun k' hk' => ?_
  simp   -- R1
  refine RunK.callH Ty_ok (l12Read_ok s hs 40 [] 0 true (-1) (by simp) (by omega) (by simp)) e61 (.cons (.refl _) (.cons (Sub.agg (.cons (Sub.nil true) (.refl _))) (.refl _))) (by decide) (by decide) rfl (by simp) ?_
  intro r hr
  obtain ⟨l, a, ok, rfl, ha, hl, he⟩ := hr.get
  rw [if_pos rfl, List.drop_zero] at he
  have hpc := parse_chk s
  rw [he] at hpc
  simp [encR]
  refine hk' _ _ _ ?_
  refine Runs.seq ?_
  refine Runs.seqE Ty_ok (by decide) fun k' hk' => ?_
  have fin : ∀ ρ : Env, ρ 2 = .ptr (0, 2) 1 0 0 → ρ 4 = .ptr (1, 4) 1 0 0 → ρ 24 = bool (!(parse s).2) → ((parse s).2 = true → (parse s).1 = l) → ((parse s).2 = false → (parse s).1 = []) → ∀ H : Heap, H (0, 2) = some ⟨1, [[.v (.slice none 0 0)]]⟩ → H (1, 4) = some ⟨3, [[.list true (l.map AmbNode.cells), int a, bool ok]]⟩ → ∀ n, Runs Tryz.prog 40 28 k' ρ H n Q := by
    intro ρ h2 h4 h24 hp1 hp2 H hm2 hm4 n
    refine hk' _ _ _ ?_
    refine Runs.ite h24 (fun hc1 => ?_) (fun hc1 => ?_)   -- t24
    · have hc1 : (parse s).2 = false := by simpa using hc1
      refine Runs.seqE Ty_ok (by decide) fun k' hk' => ?_
      simp [h2, hm2]   -- R3
      refine hk' _ _ _ ?_
      refine Runs.ret Tryz.func40 (RetOk.mix2 (v1 := .agg [.v (.slice none 0 0)]) (v2 := bool false) Ty_ok Tryz.results40 (by simp [resA, h2, loadA]) (by simp [resA])) (hQ _ _ _ (.tup [encP true [], bool false]) (.of (Own.tup2 (Own.agg1 (Own.nilS (d := 0))) _).ret) (by rw [hp2 hc1, hc1]))
    · have hc1 : (parse s).2 = true := by simpa using hc1
      refine Runs.skip ?_
      refine Runs.seqE Ty_ok (by decide) fun k' hk' => ?_
      simp [h2, h4, hm2, hm4]   -- R4
      refine hk' _ _ _ ?_
      refine Runs.ret Tryz.func40 (RetOk.mix2 (v1 := encP true l) (v2 := bool true) Ty_ok Tryz.results40 (by simp [resA, h2, loadA, encP]) (by simp [resA])) (hQ _ _ _ _ (.of (Ret.fresh (by simp [encP, AmbNode.cells]))) (by rw [hp1 hc1, hc1]))
  cases ok
  · simp [guardOf]
    simp at hpc
    exact fin _ (by simp) (by simp) (by simp [hpc]) (by simp [hpc]) (by simp [hpc]) _ (by simp) (by simp) _
  · simp only [if_true] at hpc
    by_cases hal : a = s.length
    · subst hal
      have hg := good_of_adds ((p_adds true 40 (-1) s [] _ _ (by simp)).2.1 he).1
      have hv := goodP_valid hg
      simp [guardOf]
      refine RunK.callA Ty_ok (l12In_ok hv (l.length + 1) (-1) (by omega) (by omega) (by omega) (by omega)) e56 (.cons (ArgOk.encP true l) (.cons (.v _ _ _) .nil)) (by decide) (by decide) rfl (by simp [encP]) ?_
      rintro _ rfl
      simp [guardOf]
      by_cases ht : s = textIn l (l.length + 1) (-1)
      · have ht' : textIn l (l.length + 1) (-1) = s := ht.symm
        simp [ht'] at hpc
        exact fin _ (by simp) (by simp) (by simp [hpc, ← ht]) (by simp [hpc]) (by simp [hpc]) _ (by simp) (by simp) _
      · have ht' : ¬ textIn l (l.length + 1) (-1) = s := fun h => ht h.symm
        simp [ht'] at hpc
        exact fin _ (by simp) (by simp) (by simp [hpc]; exact fun h => ht h.symm) (by simp [hpc]) (by simp [hpc]) _ (by simp) (by simp) _
    · have hd : ¬ s.drop a = [] := by simp; omega
      simp only [hd, false_and, if_false] at hpc
      have hal' : ((a : Int) != (s.length : Int)) = true := by simp; omega
      simp [guardOf, hal']
      exact fin _ (by simp) (by simp) (by simp [hpc]) (by simp [hpc]) (by simp [hpc]) _ (by simp) (by simp) _
end Go.Ab

/- Contracts of (*impl.scanner).take and (*impl.scanner).name. -/
namespace Go.Ab
open Go.Proofs Go.RowKit
set_option linter.unusedSimpArgs false
theorem e71 : Ent Tryz.prog 71 := Ent.of Tryz.func71 (by kernel_rfl) rfl
theorem e88 : Ent Tryz.prog 88 := Ent.of Tryz.func88 (by kernel_rfl) rfl
theorem e89 : Ent Tryz.prog 89 := Ent.of Tryz.func89 (by kernel_rfl) rfl
theorem e111 : Ent Tryz.prog 111 := Ent.of Tryz.func111 (by kernel_rfl) rfl

theorem cutPrefix_ok (s p : Str) : PureC Tryz.prog 88 [str s, str p] (fun r => r = .tup [str (if p.isPrefixOf s then s.drop p.length else s), bool (p.isPrefixOf s)]) := by
  refine PureC.of_below fun c xs _ r => ?_
  obtain ⟨x, y, rfl, hx, hy⟩ := r.two2
  rw [hx.v_inv, hy.v_inv]
  refine (Tryz.strings_CutPrefix ⟨s.toArray⟩ ⟨p.toArray⟩ c.w).mono ?_
  rintro e w' ⟨he, rfl⟩
  refine ⟨_, .tup [str (if p.isPrefixOf s then s.drop p.length else s), bool (p.isPrefixOf s)], he, rfl, by simp, fun c' => ?_, Below.refl _ _⟩
  refine .tup _ [.string ⟨(if p.isPrefixOf s then s.drop p.length else s).toArray⟩, .bool (p.isPrefixOf s)] rfl fun i b x hb hx => ?_
  match i with
  | 0 => simp at hb hx; rw [← hb, ← hx]; exact .v _
  | 1 => simp at hb hx; rw [← hb, ← hx]; exact .v _
  | i + 2 => simp at hb

/-- The scanner in memory. -/
def scan (s : Str) (nv : AVal) (bad : Bool) : Ob := ⟨3, [[str s, nv, bool bad]]⟩

theorem take_ok {X : Id} {H : Heap} {n : Nat} {s : Str} {nv : AVal} {bad : Bool} (w : Str) (hX : H X = some (scan s nv bad)) :
    CallsA Tryz.prog 71 [.ptr X 1 0 0, str w] H n (fun r H1 n1 => r = bool (w.isPrefixOf s) ∧ n1 = n ∧ H1 = if w.isPrefixOf s then H.set X (scan (s.drop w.length) nv bad) else H) := by
  unfold scan at hX ⊢
  refine CallsA.of Tryz.func71 rfl Tryz.ntmps71 (by simp) fun Q hQ => ?_
  refine Runs.seqE Ty_ok (by decide) fun k' hk' => ?_
  simp   -- R0
  refine hk' _ _ _ ?_
  refine Runs.seqE Ty_ok (by decide) fun k' hk' => ?_
  simp [hX]   -- R1
  refine RunK.callA Ty_ok (cutPrefix_ok s w) e88 (.cons (.v _ _ _) (.cons (.v _ _ _) .nil)) (by decide) (by decide) rfl (by simp) ?_
  rintro _ rfl
  simp
  refine hk' _ _ _ ?_
  refine Runs.seq ?_
  refine Runs.seqE Ty_ok (by decide) fun k' hk' => ?_
  simp   -- R2
  refine hk' _ _ _ ?_
  refine Runs.ite rfl (fun hc1 => ?_) (fun hc1 => ?_)   -- t16
  · have hc1 : w.isPrefixOf s = true := by simpa using hc1
    refine Runs.evalE Ty_ok (by decide) fun k' hk' => ?_
    have hp : w <+: s := List.isPrefixOf_iff_prefix.1 hc1
    simp [hX, hc1, hp]   -- R3
    refine hk' _ _ _ ?_
    refine Runs.seqE Ty_ok (by decide) fun k' hk' => ?_
    simp   -- R4
    refine hk' _ _ _ ?_
    exact Runs.ret Tryz.func71 (RetOk.one Tryz.results71) (hQ _ _ _ ⟨by simp [hc1], rfl, by simp [hc1]⟩)
  · have hc1 : w.isPrefixOf s = false := by simpa using hc1
    refine Runs.skip ?_
    refine Runs.seqE Ty_ok (by decide) fun k' hk' => ?_
    simp   -- R4
    refine hk' _ _ _ ?_
    exact Runs.ret Tryz.func71 (RetOk.one Tryz.results71) (hQ _ _ _ ⟨by simp [hc1], rfl, by simp [hc1]⟩)

theorem trimLeft_alpha (s : Str) : Lib.trimLeftS s alpha = s.dropWhile lower := by
  have he : (fun c => alpha.contains c) = lower := funext alpha_lower
  unfold Lib.trimLeftS
  rw [he]

theorem tw_len (s : Str) : (s.takeWhile lower).length + (s.dropWhile lower).length = s.length := by
  rw [← List.length_append, List.takeWhile_append_dropWhile]

theorem name_ok {X : Id} {H : Heap} {n : Nat} {s : Str} {nv : AVal} {bad : Bool} (hs : s.length ≤ 4294967296) (hX : H X = some (scan s nv bad)) :
    CallsA Tryz.prog 89 [.ptr X 1 0 0] H n (fun r H1 n1 => r = str (s.takeWhile lower) ∧ n1 = n ∧ H1 = H.set X (scan (s.dropWhile lower) nv bad)) := by
  have hl := tw_len s
  unfold scan at hX ⊢
  refine CallsA.of Tryz.func89 rfl Tryz.ntmps89 (by simp) fun Q hQ => ?_
  refine Runs.seqE Ty_ok (by decide) fun k' hk' => ?_
  simp   -- R0
  refine hk' _ _ _ ?_
  refine Runs.seqD Ty_ok kindOp_ok draws (by decide) (by kernel_rfl) fun k' hk' => ?_
  simp [hX]   -- R1
  refine RunDK.callA Ty_ok kindOp_ok (trimLeft_ok s alpha (by decide) (by decide)) e111 (.cons (.v _ _ _) (.cons (.v _ _ _) .nil)) (by decide) rfl (by simp [alpha]) ?_
  have hw : IntKind.i64.wrap ((s.length : Int) - (s.dropWhile lower).length) = ((s.takeWhile lower).length : Int) := by rw [wrap64] <;> omega
  simp [trimLeft_alpha, hw]
  refine hk' _ _ _ ?_
  refine Runs.seqE Ty_ok (by decide) fun k' hk' => ?_
  simp [hX, show ((s.takeWhile lower).length : Int) ≤ s.length by omega, tw_take]   -- R2
  refine hk' _ _ _ ?_
  refine Runs.seqE Ty_ok (by decide) fun k' hk' => ?_
  have hdt : (s.drop (s.takeWhile lower).length).take (s.length - (s.takeWhile lower).length) = s.dropWhile lower := by rw [tw_drop, List.take_of_length_le (by omega)]
  simp [hX, show ((s.takeWhile lower).length : Int) ≤ s.length by omega, hdt]   -- R3
  refine hk' _ _ _ ?_
  refine Runs.seqE Ty_ok (by decide) fun k' hk' => ?_
  simp   -- R4
  refine hk' _ _ _ ?_
  exact Runs.ret Tryz.func89 (RetOk.one Tryz.results89) (hQ _ _ _ ⟨by simp, rfl, rfl⟩)
end Go.Ab

/- Contract of (*impl.scanner).node. -/
namespace Go.Ab
open Go.Proofs
set_option linter.unusedSimpArgs false
theorem e60 : Ent Tryz.prog 60 := Ent.of Tryz.func60 (by kernel_rfl) rfl
theorem e72 : Ent Tryz.prog 72 := Ent.of Tryz.func72 (by kernel_rfl) rfl

/-- The nodes that are read, in memory. -/
def NV (X : Id) (m n : Nat) (H : Heap) (nv : AVal) (l : Proc) : Prop :=
  (nv = .v (.slice none 0 0) ∧ l = []) ∨ ∃ Y : Id, nv = .arr Y l.length 0 l.length ∧ H Y = some ⟨3, l.map AmbNode.cells⟩ ∧ Y ≠ X ∧ m ≤ Y.1 ∧ Y.1 < n

theorem NV.mono {X : Id} {m n n' : Nat} {H H' : Heap} {nv : AVal} {l : Proc} (h : NV X m n H nv l) (hn : n ≤ n') (hH : ∀ Y : Id, Y ≠ X → m ≤ Y.1 → Y.1 < n → H' Y = H Y) : NV X m n' H' nv l := by
  rcases h with h | ⟨Y, h1, h2, h3, h4, h5⟩
  · exact .inl h
  · exact .inr ⟨Y, h1, by rw [hH Y h3 h4 h5]; exact h2, h3, h4, by omega⟩

/-- What reading leaves. -/
def PostIn (X : Id) (m : Nat) (s : Str) (H : Heap) (n : Nat) (o : Option (Str × Proc)) (H1 : Heap) (n1 : Nat) : Prop :=
  n ≤ n1 ∧ (∀ i : Id, i.1 < m → i ≠ X → H1 i = H i) ∧ ∃ s' l' nv' bad, H1 X = some (scan s' nv' bad) ∧ NV X m n1 H1 nv' l' ∧ s'.length ≤ s.length ∧ l'.length ≤ 8 ∧
    (match o with | some (t, l2) => bad = false ∧ s' = t ∧ l' = l2 | none => bad = true)

theorem drop_word_len (s : Str) (k : Nat) : (s.drop k).length ≤ s.length := by simp

theorem kindOf_at {s : Str} {j : Nat} (hj : j < 3) (hno : ∀ i, i < j → (word i).isPrefixOf s = false) (h : (word j).isPrefixOf s = true) : kindOf s = (j + 1, s.drop (word j).length) := by
  unfold kindOf
  match j, hj with
  | 0, _ => rw [if_pos h]
  | 1, _ => rw [if_neg (by rw [hno 0 (by omega)]; simp), if_pos h]
  | 2, _ => rw [if_neg (by rw [hno 0 (by omega)]; simp), if_neg (by rw [hno 1 (by omega)]; simp), if_pos h]

theorem nodeI {X : Id} {m n : Nat} {H : Heap} {s : Str} {l : Proc} {nv : AVal} (g : Nat) (parent : Int) (hs : s.length ≤ 4294967296) (hl : l.length ≤ 8) (hX : H X = some (scan s nv false)) (hNV : NV X m n H nv l) (hmn : m ≤ n) (hXn : X.1 < n)
    (hin : ∀ (H : Heap) (n : Nat) (s : Str) (l : Proc) (nv : AVal) (parent : Nat), s.length ≤ 4294967296 → l.length ≤ 8 → parent + 1 = l.length → H X = some (scan s nv false) → NV X m n H nv l → m ≤ n → X.1 < n → 3 * (8 - l.length) + 2 ≤ g →
      CallsA Tryz.prog 60 [.ptr X 1 0 0, int parent] H n (fun r H1 n1 => r = .tup [] ∧ PostIn X m s H n (pIn false g parent s l) H1 n1))
    (hg : 3 * (8 - l.length) ≤ g) :
    CallsA Tryz.prog 72 [.ptr X 1 0 0, int parent] H n (fun r H1 n1 => r = .tup [] ∧ PostIn X m s H n (pNode false (g + 1) parent s l) H1 n1) := by
  have hX4 : ¬ X = (n, 4) := by rintro rfl; simp at hXn
  have h4X : ¬ (n, 4) = X := fun h => hX4 h.symm
  refine CallsA.of Tryz.func72 rfl Tryz.ntmps72 (by simp) fun Q hQ => ?_
  refine Runs.seqE Ty_ok (by decide) fun k' hk' => ?_
  simp   -- R0
  refine hk' _ _ _ ?_
  refine Runs.seqE Ty_ok (by decide) fun k' hk' => ?_
  simp   -- R1
  refine hk' _ _ _ ?_
  refine Runs.seq_cut (fun ρ H' n' => ρ 0 = .ptr X 1 0 0 ∧ ρ 4 = .ptr (n, 4) 1 0 0 ∧ ρ 5 = str (opn (kindOf s).1) ∧ ρ 6 = str (cls (kindOf s).1) ∧
    H' (n, 4) = some ⟨3, [[int (kindOf s).1, str [], int parent]]⟩ ∧ H' X = some (scan (kindOf s).2 nv false) ∧ NV X m n H' nv l ∧ n' = n + 1 ∧ ∀ i : Id, i.1 < m → i ≠ X → H' i = H i) (fun after => ?_) ?_
  · refine Runs.seqE Ty_ok (by decide) fun k' hk' => ?_
    simp   -- R2
    refine RunK.callA Ty_ok prefixWords_ok e83 .nil (by decide) (by decide) rfl (by simp) ?_
    rintro _ rfl
    simp [encStrs]
    refine hk' _ _ _ ?_
    refine Runs.block (Runs.loopUp 3 (fun j ρ H' n' => ρ 0 = .ptr X 1 0 0 ∧ ρ 4 = .ptr (n, 4) 1 0 0 ∧ ρ 5 = str [91] ∧ ρ 6 = str [93] ∧ ρ 12 = .list true [[str (word 0)], [str (word 1)], [str (word 2)]] ∧ ρ 13 = int 3 ∧ ρ 14 = int j ∧
      H' (n, 4) = some ⟨3, [[int 0, str [], int parent]]⟩ ∧ H' X = some (scan s nv false) ∧ (∀ i, i < j → (word i).isPrefixOf s = false) ∧ n' = n + 1 ∧ ∀ i : Id, i.1 < n → i ≠ X → H' i = H i) ?_ ?_)
    · refine ⟨by simp, by simp, by simp, by simp, by simp, by simp, by simp, by simp, by simp [hX4, hX], by simp, rfl, fun i h1 h2 => ?_⟩
      have h3 : ¬ i = (n, 4) := by rintro rfl; simp at h1
      simp [h3]
    · rintro j ρ H' n' hj ⟨h0, h4, h5, h6, h12, h13, h14, hm4, hmX, hno, rfl, hfr⟩ IH
      have hw : ∀ j, j < 3 → ([[str (word 0)], [str (word 1)], [str (word 2)]] : List (List AVal))[j]? = some [str (word j)] := by
        intro j hj
        match j, hj with
        | 0, _ => rfl
        | 1, _ => rfl
        | 2, _ => rfl
      have hNV' : ∀ H2 : Heap, (∀ i : Id, i.1 < n → i ≠ X → H2 i = H i) → NV X m n H2 nv l := fun H2 h => hNV.mono (Nat.le_refl _) fun Y h1 _ h3 => h Y h3 h1
      refine Runs.seqE Ty_ok (by decide) fun k' hk' => ?_
      simp [h13, h14]   -- R3
      refine hk' _ _ _ ?_
      refine Runs.seq ?_
      refine Runs.ite rfl (fun hc1 => ?_) (fun hc1 => ?_)   -- t15
      · simp only [decide_eq_true_eq] at hc1
        have hj3 : j < 3 := by omega
        refine Runs.skip ?_
        refine Runs.seq ?_
        refine Runs.block ?_
        refine Runs.seqE Ty_ok (by decide) fun k' hk' => ?_
        have hwj : ∀ h : j < ([[str (word 0)], [str (word 1)], [str (word 2)]] : List (List AVal)).length, ([[str (word 0)], [str (word 1)], [str (word 2)]] : List (List AVal))[j] = [str (word j)] := fun h => by
          have := hw j hj3
          rw [List.getElem?_eq_getElem h] at this
          exact Option.some.inj this
        have hj3' : (j : Int) < 3 := by omega
        simp [h12, h14, hwj, hj3, hj3']   -- R4
        refine hk' _ _ _ ?_
        refine Runs.seqE Ty_ok (by decide) fun k' hk' => ?_
        simp [h0]   -- R5
        refine RunK.callS Ty_ok (take_ok (word j) hmX) e71 (by decide) (by decide) rfl (by simp [h0]) ?_
        rintro v H2 n2 ⟨rfl, rfl, rfl⟩
        simp
        refine hk' _ _ _ ?_
        refine Runs.ite rfl (fun hc2 => ?_) (fun hc2 => ?_)   -- t21
        · have hc2 : (word j).isPrefixOf s = true := by simpa using hc2
          have hko := kindOf_at hj3 hno hc2
          have hp : word j <+: s := List.isPrefixOf_iff_prefix.1 hc2
          refine Runs.seqE Ty_ok (by decide) fun k' hk' => ?_
          have hw1 : IntKind.i64.wrap (1 + (j : Int)) = ((j + 1 : Nat) : Int) := by rw [wrap64] <;> omega
          simp [h4, hm4, h4X, hp, hw1, -Int.natCast_add]   -- R6
          refine hk' _ _ _ ?_
          refine Runs.seqE Ty_ok (by decide) fun k' hk' => ?_
          simp   -- R7
          refine hk' _ _ _ ?_
          refine Runs.exit rfl ?_
          refine after _ _ _ ⟨by simp [h0], by simp [h4], by simp [hko, opn], by simp [hko, cls], by simp [hko], by simp [hX4, hko], hNV' _ fun i h1 h2 => ?_, rfl, fun i h1 h2 => ?_⟩
          · rw [Heap.get_set_ne _ _ (by rintro rfl; simp at h1), Heap.get_set_ne _ _ h2, hfr i h1 h2]
          · rw [Heap.get_set_ne _ _ (by rintro rfl; simp at h1; omega), Heap.get_set_ne _ _ h2, hfr i (by omega) h2]
        · have hc2 : (word j).isPrefixOf s = false := by simpa using hc2
          have hp : ¬ word j <+: s := fun h => by rw [List.isPrefixOf_iff_prefix.2 h] at hc2; cases hc2
          rw [if_neg hp]
          refine Runs.skip ?_
          refine Runs.inBlock ?_
          refine Runs.evalE Ty_ok (by decide) fun k' hk' => ?_
          simp [h14, wrap_succ (show j < 4611686018427387904 by omega)]   -- R8
          refine hk' _ _ _ ?_
          refine IH hj3 _ _ _ ⟨by simp [h0], by simp [h4], by simp [h5], by simp [h6], by simp [h12], by simp [h13], by simp, hm4, hmX, fun i hi => ?_, rfl, hfr⟩
          rcases Nat.lt_or_ge i j with h | h
          · exact hno i h
          · rw [show i = j by omega]; exact hc2
      · simp only [decide_eq_false_iff_not] at hc1
        have hj3 : j = 3 := by omega
        subst hj3
        have hko : kindOf s = (0, s) := by simp [kindOf, hno 0 (by omega), hno 1 (by omega), hno 2 (by omega)]
        refine Runs.exit rfl ?_
        exact after _ _ _ ⟨by simp [h0], by simp [h4], by simp [h5, hko, opn], by simp [h6, hko, cls], by simp [hm4, hko], by simp [hmX, hko], hNV' _ hfr, rfl, fun i h1 h2 => hfr i (by omega) h2⟩
  rintro ρ H1 n1 ⟨h0, h4, h5, h6, hm4, hmX, hNV, rfl, hfr⟩
  obtain ⟨k, hk⟩ : ∃ k, (kindOf s).1 = k := ⟨_, rfl⟩
  obtain ⟨s1, hs1⟩ : ∃ s1, (kindOf s).2 = s1 := ⟨_, rfl⟩
  have hsl : s1.length ≤ s.length := by rw [← hs1]; exact kindOf_len s
  rw [hk] at h5 h6 hm4
  rw [hs1] at hmX
  refine Runs.seqE Ty_ok (by decide) fun k' hk' => ?_
  simp [h0]   -- R9
  refine RunK.callS Ty_ok (name_ok (by omega) hmX) e89 (by decide) (by decide) rfl (by simp [h0]) ?_
  rintro v H2 n2 ⟨rfl, rfl, rfl⟩
  simp [h4, hm4, h4X]
  refine hk' _ _ _ ?_
  obtain ⟨nm, hnm⟩ : ∃ nm, s1.takeWhile lower = nm := ⟨_, rfl⟩
  obtain ⟨s2, hs2⟩ : ∃ s2, s1.dropWhile lower = s2 := ⟨_, rfl⟩
  have hs2l : s2.length ≤ s1.length := by rw [← hs2]; exact (List.dropWhile_suffix _).length_le
  rw [hnm, hs2]
  refine Runs.cut (fun ρ H' n' => ρ 0 = .ptr X 1 0 0 ∧ ρ 4 = .ptr (n, 4) 1 0 0 ∧ ρ 5 = str (opn k) ∧ ρ 6 = str (cls k) ∧
    H' (n, 4) = some ⟨3, [[int k, str nm, int parent]]⟩ ∧ H' X = some (scan s2 nv false) ∧ NV X m n H' nv l ∧ n' = n + 1 ∧ ∀ i : Id, i.1 < m → i ≠ X → H' i = H i) ?_ ?_
  · refine ⟨by simp [h0], by simp [h4], by simp [h5], by simp [h6], by simp, by simp [hX4], hNV.mono (Nat.le_refl _) fun Y h1 h2 h3 => ?_, rfl, fun i h1 h2 => ?_⟩
    · rw [Heap.get_set_ne _ _ (by rintro rfl; simp at h3), Heap.get_set_ne _ _ h1]
    · rw [Heap.get_set_ne _ _ (by rintro rfl; simp at h1; omega), Heap.get_set_ne _ _ h2]
      exact hfr i h1 h2
  clear hk' hfr hNV hmX hm4 h6 h5 h4 h0
  rintro ρ H1 n1 ⟨h0, h4, h5, h6, hm4, hmX, hNV, rfl, hfr⟩
  refine Runs.seqE Ty_ok (by decide) fun k' hk' => ?_
  have mid : ∀ ρ : Env, ρ 0 = .ptr X 1 0 0 → ρ 4 = .ptr (n, 4) 1 0 0 → ρ 5 = str (opn k) → ρ 6 = str (cls k) → ρ 9 = int l.length → Runs Tryz.prog 72 84 k' ρ H1 (n + 1) Q := by
    intro ρ h0 h4 h5 h6 h9
    refine hk' _ _ _ ?_
    refine Runs.seq ?_
    refine Runs.seqE Ty_ok (by decide) fun k' hk' => ?_
    have hmX' := hmX
    unfold scan at hmX'
    simp [h0, h5, hmX', guardOf]   -- R11
    refine RunK.callS Ty_ok (take_ok (opn k) hmX) e71 (by decide) (by decide) rfl (by simp [h0, h5]) ?_
    rintro v H2 n2 ⟨rfl, rfl, rfl⟩
    have fin : ∀ (ρ : Env) (s3 : Str) (bad : Bool), ρ 0 = .ptr X 1 0 0 → ρ 4 = .ptr (n, 4) 1 0 0 → ρ 6 = str (cls k) → ρ 9 = int l.length → s3.length ≤ s2.length → bad = (!(opn k).isPrefixOf s2 || l.length == 8) → (bad = false → s3 = s2.drop (opn k).length) →
        Runs Tryz.prog 72 84 k' ρ (H1.set X (scan s3 nv bad)) (n + 1) Q := by
      intro ρ s3 bad h0 h4 h6 h9 hs3 hbad hs3'
      refine hk' _ _ _ ?_
      refine Runs.seqE Ty_ok (by decide) fun k' hk' => ?_
      simp [h0, scan]   -- R12
      refine hk' _ _ _ ?_
      have hpn1 : bad = true → pNode false (g + 1) parent s l = none := by
        intro h
        rw [hbad] at h
        rw [pNode, hk, hs1, hnm, hs2, if_pos (by simpa using h)]
      have hpn2 : bad = false → pIn false g l.length (s2.drop (opn k).length) (l ++ [⟨k, nm, parent⟩]) = none → pNode false (g + 1) parent s l = none := by
        intro h h'
        rw [hbad] at h
        rw [pNode, hk, hs1, hnm, hs2, if_neg (by simpa using h), h']
      have hpn3 : bad = false → ∀ r l2, pIn false g l.length (s2.drop (opn k).length) (l ++ [⟨k, nm, parent⟩]) = some (r, l2) → pNode false (g + 1) parent s l = if (cls k).isPrefixOf r then some (r.drop 1, l2) else none := by
        intro h r l2 h'
        rw [hbad] at h
        rw [pNode, hk, hs1, hnm, hs2, if_neg (by simpa using h), h']
      refine Runs.ite rfl (fun hc3 => ?_) (fun hc3 => ?_)   -- t55
      · have hb : bad = true := by simpa using hc3
        refine Runs.ret Tryz.func72 (RetOk.zero Tryz.results72) (hQ _ _ _ ⟨rfl, by omega, fun i h1 h2 => ?_, s3, l, nv, true, ?_, ?_, by omega, hl, ?_⟩)
        · rw [Heap.get_set_ne _ _ h2]; exact hfr i h1 h2
        · simp [hb, scan]
        · exact hNV.mono (by omega) fun Y h1 _ _ => Heap.get_set_ne _ _ h1
        · rw [hpn1 hb]
      · have hb : bad = false := by simpa using hc3
        subst hb
        have hs3e := hs3' rfl
        have hpn2 := hpn2 rfl
        have hpn3 := hpn3 rfl
        have hl8 : l.length < 8 := by
          simp at hbad
          omega
        obtain ⟨x, hx⟩ : ∃ x : AmbNode, x = ⟨k, nm, parent⟩ := ⟨_, rfl⟩
        rw [← hx] at hpn2 hpn3
        refine Runs.skip ?_
        refine Runs.seqD Ty_ok kindOp_ok draws (by decide) (by kernel_rfl) fun k' hk' => ?_
        have mid2 : ∀ (ρ : Env) (H' : Heap) (n' : Nat) (nv' : AVal), ρ 0 = .ptr X 1 0 0 → ρ 6 = str (cls k) → ρ 9 = int l.length → H' X = some (scan s3 nv' false) → NV X m n' H' nv' (l ++ [x]) → n + 1 ≤ n' → (∀ i : Id, i.1 < m → i ≠ X → H' i = H i) →
            Runs Tryz.prog 72 84 k' ρ H' n' Q := by
          intro ρ H' n' nv' h0 h6 h9 hmX hNV hn' hfr
          refine hk' _ _ _ ?_
          refine Runs.seqE Ty_ok (by decide) fun k' hk' => ?_
          simp [h0, h9]   -- R14
          refine RunK.callS Ty_ok (hin H' n' s3 (l ++ [x]) nv' l.length (by omega) (by simp; omega) (by simp) hmX hNV (by omega) (by omega) (by simp; omega)) e60 (by decide) (by decide) rfl (by simp [h0, h9]) ?_
          rintro v H2 n2 ⟨rfl, hn2, hfr2, s', l', nv2, bad, hX2, hNV2, hs', hl', hres⟩
          simp
          refine hk' _ _ _ ?_
          rw [← hs3e] at hpn2 hpn3
          have hX2' := hX2
          unfold scan at hX2'
          refine Runs.evalE Ty_ok (by decide) fun k' hk' => ?_
          have hs2d : (s2.drop (opn k).length).length ≤ s2.length := by simp
          cases hpi : pIn false g l.length s3 (l ++ [x]) with
          | none =>
            rw [hpi] at hres
            subst hres
            simp [h0, h6, hX2', guardOf]   -- R15
            refine hk' _ _ _ ?_
            refine Runs.fin Tryz.func72 (RetOk.zero Tryz.results72) (hQ _ _ _ ⟨rfl, by omega, fun i h1 h2 => ?_, s', l', nv2, true, by simp [scan], hNV2.mono (Nat.le_refl _) fun Y h1 _ _ => Heap.get_set_ne _ _ h1, by omega, hl', ?_⟩)
            · rw [Heap.get_set_ne _ _ h2, hfr2 i h1 h2, hfr i h1 h2]
            · rw [hpn2 hpi]
          | some y =>
            obtain ⟨r, l2⟩ := y
            rw [hpi] at hres
            obtain ⟨rfl, rfl, rfl⟩ := hres
            have hp3 := hpn3 _ _ hpi
            simp [h0, h6, hX2', guardOf]   -- R15
            refine RunK.callS Ty_ok (take_ok (cls k) hX2) e71 (by decide) (by decide) rfl (by simp [h0, h6]) ?_
            rintro v H3 n3 ⟨rfl, rfl, rfl⟩
            cases hcl : (cls k).isPrefixOf s'
            · rw [hcl] at hp3
              simp [h0, hX2', guardOf]
              refine hk' _ _ _ ?_
              refine Runs.fin Tryz.func72 (RetOk.zero Tryz.results72) (hQ _ _ _ ⟨rfl, by omega, fun i h1 h2 => ?_, s', l', nv2, true, by simp [scan], hNV2.mono (Nat.le_refl _) fun Y h1 _ _ => Heap.get_set_ne _ _ h1, by omega, hl', ?_⟩)
              · rw [Heap.get_set_ne _ _ h2, hfr2 i h1 h2, hfr i h1 h2]
              · rw [hp3]; rfl
            · rw [hcl] at hp3
              simp [h0, scan, guardOf]
              refine hk' _ _ _ ?_
              refine Runs.fin Tryz.func72 (RetOk.zero Tryz.results72) (hQ _ _ _ ⟨rfl, by omega, fun i h1 h2 => ?_, s'.drop (cls k).length, l', nv2, false, by simp [scan], hNV2.mono (Nat.le_refl _) fun Y h1 _ _ => Heap.get_set_ne _ _ h1, by simp; omega, hl', ?_⟩)
              · rw [Heap.get_set_ne _ _ h2, hfr2 i h1 h2, hfr i h1 h2]
              · rw [hp3, cls_len]; exact ⟨rfl, rfl, rfl⟩
        have hm4' : (H1.set X (scan s3 nv false)) (n, 4) = some ⟨3, [[int k, str nm, int parent]]⟩ := by rw [Heap.get_set_ne _ _ h4X]; exact hm4
        have hxc : x.cells = [int k, str nm, int parent] := by rw [hx]; rfl
        rcases id hNV with ⟨rfl, rfl⟩ | ⟨Y, rfl, hY, hYX, hmY, hYn⟩
        · have hXn1 : ¬ X = (n + 1, 64) := by rintro rfl; simp at hXn; omega
          have hXn2 : ¬ (n + 1, 64) = X := fun h => hXn1 h.symm
          simp [h0, h4, hm4, h4X, hXn1, scan]   -- R13
          refine mid2 _ _ _ (.arr (n + 1, 64) 1 0 1) (by simp [h0]) (by simp [h6]) (by simp [h9]) (by simp [scan]) (.inr ⟨(n + 1, 64), by simp, by simp [hXn2, hxc], hXn2, by simp; omega, by simp⟩) (by omega) fun i h1 h2 => ?_
          rw [Heap.get_set_ne _ _ h2, Heap.get_set_ne _ _ (by rintro rfl; simp at h1; omega), Heap.get_set_ne _ _ h2, hfr i h1 h2]
        · have hY' : (H1.set X (scan s3 (.arr Y l.length 0 l.length) false)) Y = some ⟨3, l.map AmbNode.cells⟩ := by rw [Heap.get_set_ne _ _ hYX]; exact hY
          have hXY : ¬ X = Y := fun h => hYX h.symm
          simp [h0, h4, hm4, h4X, hY, hYX, hXY, scan, live, show l.length ≤ 1073741823 by omega]   -- R13
          refine mid2 _ _ _ (.arr Y (l.length + 1) 0 (l.length + 1)) (by simp [h0]) (by simp [h6]) (by simp [h9]) (by simp [scan]) (.inr ⟨Y, by simp, by simp [hYX, hxc], hYX, hmY, by omega⟩) (by omega) fun i h1 h2 => ?_
          rw [Heap.get_set_ne _ _ h2, Heap.get_set_ne _ _ (by rintro rfl; omega), Heap.get_set_ne _ _ h2, hfr i h1 h2]
    cases hop : (opn k).isPrefixOf s2
    · simp [h0, hmX', guardOf]
      exact fin _ s2 true (by simp [h0]) (by simp [h4]) (by simp [h6]) (by simp [h9]) (by omega) (by simp [hop]) (by simp)
    · by_cases h8 : l.length = 8
      · simp [h0, h9, h8, scan, guardOf]
        exact fin _ (s2.drop (opn k).length) true (by simp [h0]) (by simp [h4]) (by simp [h6]) (by simp [h9]) (by simp) (by simp [h8]) (by simp)
      · have h8' : ((l.length : Int) == 8) = false := by simp; omega
        simp [h0, h9, h8', scan, guardOf]
        exact fin _ (s2.drop (opn k).length) false (by simp [h0]) (by simp [h4]) (by simp [h6]) (by simp [h9]) (by simp) (by simp [hop, h8]) (by simp)
  rcases id hNV with ⟨rfl, hl0⟩ | ⟨Y, rfl, hY, hYX, hmY, hYn⟩
  · unfold scan at hmX
    simp [h0, hmX]   -- R10
    exact mid _ (by simp [h0]) (by simp [h4]) (by simp [h5]) (by simp [h6]) (by simp [hl0])
  · unfold scan at hmX
    simp [h0, hmX, hY, live]   -- R10
    exact mid _ (by simp [h0]) (by simp [h4]) (by simp [h5]) (by simp [h6]) (by simp)
end Go.Ab

/- Contract of (*impl.scanner).inside. -/
namespace Go.Ab
open Go.Proofs
set_option linter.unusedSimpArgs false

theorem insideI {X : Id} {m : Nat} : ∀ (G : Nat) (H : Heap) (n : Nat) (s : Str) (l : Proc) (nv : AVal) (parent : Int), s.length ≤ 4294967296 → l.length ≤ 8 → H X = some (scan s nv false) → NV X m n H nv l → m ≤ n → X.1 < n → 3 * (8 - l.length) + 2 ≤ G →
    CallsA Tryz.prog 60 [.ptr X 1 0 0, int parent] H n (fun r H1 n1 => r = .tup [] ∧ PostIn X m s H n (pIn false G parent s l) H1 n1) := by
  intro G
  induction G using Nat.strongRecOn with
  | _ G IHG =>
  intro H n s l nv parent hs hl hX hNV hmn hXn hG
  have node : ∀ (g : Nat) (H : Heap) (n : Nat) (s : Str) (l : Proc) (nv : AVal), g + 1 ≤ G → s.length ≤ 4294967296 → l.length ≤ 8 → H X = some (scan s nv false) → NV X m n H nv l → m ≤ n → X.1 < n → 3 * (8 - l.length) ≤ g →
      CallsA Tryz.prog 72 [.ptr X 1 0 0, int parent] H n (fun r H1 n1 => r = .tup [] ∧ PostIn X m s H n (pNode false (g + 1) parent s l) H1 n1) := fun g H n s l nv hgG hs hl hX hNV hmn hXn hg =>
    nodeI g parent hs hl hX hNV hmn hXn (fun H n s l nv parent h1 h2 _ h4 h5 h6 h7 h8 => IHG g (by omega) H n s l nv parent h1 h2 h4 h5 h6 h7 h8) hg
  have hX' := hX
  unfold scan at hX'
  refine CallsA.of Tryz.func60 rfl Tryz.ntmps60 (by simp) fun Q hQ => ?_
  refine Runs.seq ?_
  refine Runs.seqE Ty_ok (by decide) fun k' hk' => ?_
  simp   -- R0
  refine RunK.callS Ty_ok (take_ok [48] hX) e71 (by decide) (by decide) rfl (by simp) ?_
  rintro v H2 n2 ⟨rfl, rfl, rfl⟩
  simp
  refine hk' _ _ _ ?_
  obtain ⟨G', rfl⟩ : ∃ G', G = G' + 2 := ⟨G - 2, by omega⟩
  refine Runs.ite rfl (fun hc1 => ?_) (fun hc1 => ?_)   -- t5
  · have hp : List.isPrefixOf [48] s = true := by simpa using hc1
    have hp' : [48] <+: s := List.isPrefixOf_iff_prefix.1 hp
    rw [if_pos hp']
    refine Runs.ret Tryz.func60 (RetOk.zero Tryz.results60) (hQ _ _ _ ⟨rfl, by omega, fun i h1 h2 => Heap.get_set_ne _ _ h2, _, l, nv, false, by simp; rfl, hNV.mono (Nat.le_refl _) fun Y h1 _ _ => Heap.get_set_ne _ _ h1, by simp, hl, ?_⟩)
    rw [pIn, if_pos hp]
    exact ⟨rfl, by simp, rfl⟩
  · have hp : List.isPrefixOf [48] s = false := by simpa using hc1
    have hp' : ¬ [48] <+: s := fun h => by rw [List.isPrefixOf_iff_prefix.2 h] at hp; cases hp
    rw [if_neg hp']
    refine Runs.skip ?_
    refine Runs.seqE Ty_ok (by decide) fun k' hk' => ?_
    simp   -- R1
    refine RunK.callS Ty_ok (node G' H n2 s l nv (by omega) hs hl hX hNV hmn hXn (by omega)) e72 (by decide) (by decide) rfl (by simp) ?_
    rintro v H1 n1 ⟨rfl, hn1, hfr1, s1, l1, nv1, bad1, hX1, hNV1, hs1, hl1, hres1⟩
    simp
    refine hk' _ _ _ ?_
    refine Runs.block (Runs.loopM (fun q ρ H' n' => ρ 0 = .ptr X 1 0 0 ∧ ρ 1 = int parent ∧ n2 ≤ n' ∧ q ≤ G' + 1 ∧ (∀ i : Id, i.1 < m → i ≠ X → H' i = H i) ∧
      ∃ (s1 : Str) (l1 : Proc) (nv1 : AVal) (bad1 : Bool), H' X = some (scan s1 nv1 bad1) ∧ NV X m n' H' nv1 l1 ∧ s1.length ≤ s.length ∧ l1.length ≤ 8 ∧ (bad1 = false → 3 * (8 - l1.length) + 3 ≤ q) ∧
        (pIn false (G' + 2) parent s l) = (if bad1 then none else pLoop false q parent s1 l1)) (G' + 1) ?_ ?_)
    · refine ⟨by simp, by simp, hn1, Nat.le_refl _, hfr1, s1, l1, nv1, bad1, hX1, hNV1, hs1, hl1, fun h => ?_, ?_⟩
      · cases hpn : pNode false (G' + 1) parent s l with
        | none => rw [hpn] at hres1; simp only at hres1; rw [h] at hres1; cases hres1
        | some y =>
          rw [hpn] at hres1
          obtain ⟨_, rfl, rfl⟩ := hres1
          have := ((p_adds false _ _ _ _ _ _ hl).1 hpn).2.1
          omega
      · rw [pIn, if_neg (by simpa using hp')]
        cases hpn : pNode false (G' + 1) parent s l with
        | none => rw [hpn] at hres1; simp only at hres1; rw [hres1]; rfl
        | some y =>
          rw [hpn] at hres1
          obtain ⟨rfl, rfl, rfl⟩ := hres1
          rfl
    · clear hX1 hNV1 hs1 hl1 hres1 hfr1 hk' hn1
      rintro q ρ H' n' ⟨h0, h1, hn', hq, hfr, s1, l1, nv1, bad1, hX1, hNV1, hs1, hl1, hgas, htot⟩ IH
      have hX1' := hX1
      unfold scan at hX1'
      refine Runs.seq ?_
      refine Runs.seqE Ty_ok (by decide) fun k' hk' => ?_
      have stop : ∀ (ρ : Env), ρ 17 = bool false → bad1 = true ∨ List.isPrefixOf [124] s1 = false → Runs Tryz.prog 60 21 k' ρ H' n' Q := by
        intro ρ h17 hb
        refine hk' _ _ _ ?_
        refine Runs.ite h17 (fun h => by simp at h) (fun _ => ?_)
        refine Runs.exit rfl ?_
        refine Runs.fin Tryz.func60 (RetOk.zero Tryz.results60) (hQ _ _ _ ⟨rfl, hn', hfr, s1, l1, nv1, bad1, hX1, hNV1, hs1, hl1, ?_⟩)
        rw [htot]
        cases bad1
        · have hg := hgas rfl
          obtain ⟨g, rfl⟩ : ∃ g, q = g + 1 := ⟨q - 1, by omega⟩
          have hb' : List.isPrefixOf [124] s1 = false := by simpa using hb
          rw [if_neg (by simp), pLoop, if_neg (by simp [hb'])]
          exact ⟨rfl, rfl, rfl⟩
        · rfl
      cases bad1
      · simp [h0, hX1', guardOf]   -- R2
        refine RunK.callS Ty_ok (take_ok [124] hX1) e71 (by decide) (by decide) rfl (by simp [h0]) ?_
        rintro v H3 n3 ⟨rfl, rfl, rfl⟩
        cases hp2 : List.isPrefixOf [124] s1
        · simp
          exact stop _ (by simp [hp2]) (.inr hp2)
        · simp
          refine hk' _ _ _ ?_
          refine Runs.ite rfl (fun _ => ?_) (fun h => by simp [hp2] at h)
          refine Runs.skip ?_
          refine Runs.block ?_
          refine Runs.evalE Ty_ok (by decide) fun k' hk' => ?_
          simp [h0, h1]   -- R3
          have hg := hgas rfl
          obtain ⟨q', rfl⟩ : ∃ q', q = q' + 2 := ⟨q - 2, by omega⟩
          refine RunK.callS Ty_ok (node q' (H'.set X (scan s1.tail nv1 false)) n3 s1.tail l1 nv1 (by omega) (by simp; omega) hl1 (by simp) (hNV1.mono (Nat.le_refl _) fun Y h1 _ _ => Heap.get_set_ne _ _ h1) (by omega) (by omega) (by omega)) e72 (by decide) (by decide) rfl (by simp [h0, h1]) ?_
          rintro v H4 n4 ⟨rfl, hn4, hfr4, s2, l2, nv2, bad2, hX2, hNV2, hs2, hl2, hres2⟩
          simp
          refine hk' _ _ _ ?_
          refine Runs.inBlock ?_
          refine IH (q' + 1) _ _ _ (by omega) ⟨by simp [h0], by simp [h1], by omega, by omega, fun i h1 h2 => ?_, s2, l2, nv2, bad2, hX2, hNV2, by simp at hs2; omega, hl2, fun h => ?_, ?_⟩
          · rw [hfr4 i h1 h2, Heap.get_set_ne _ _ h2, hfr i h1 h2]
          · cases hpn : pNode false (q' + 1) parent s1.tail l1 with
            | none => rw [hpn] at hres2; simp only at hres2; rw [h] at hres2; cases hres2
            | some y =>
              rw [hpn] at hres2
              obtain ⟨_, rfl, rfl⟩ := hres2
              have := ((p_adds false _ _ _ _ _ _ hl1).1 hpn).2.1
              omega
          · rw [htot, if_neg (by simp), pLoop, if_pos hp2, List.drop_one]
            cases hpn : pNode false (q' + 1) parent s1.tail l1 with
            | none => rw [hpn] at hres2; simp only at hres2; rw [hres2]; rfl
            | some y =>
              rw [hpn] at hres2
              obtain ⟨rfl, rfl, rfl⟩ := hres2
              rfl
      · simp [h0, hX1', guardOf]   -- R2
        exact stop _ (by simp) (.inl rfl)
end Go.Ab

/- Contract of impl.ParseProcess. -/
namespace Go.Ab
open Go.Proofs
set_option linter.unusedSimpArgs false
theorem e36 : Ent Tryz.prog 36 := Ent.of Tryz.func36 (by kernel_rfl) rfl

theorem p_names (chk : Bool) (B : Nat) : ∀ g parent s l s2 l2, l.length ≤ 8 → s.length ≤ B → (∀ x ∈ l, x.name.length ≤ B) →
    (pNode chk g parent s l = some (s2, l2) → ∀ x ∈ l2, x.name.length ≤ B) ∧ (pIn chk g parent s l = some (s2, l2) → ∀ x ∈ l2, x.name.length ≤ B) ∧ (pLoop chk g parent s l = some (s2, l2) → ∀ x ∈ l2, x.name.length ≤ B)
  | 0, parent, s, l, s2, l2, _, _, _ => by simp [pNode, pIn, pLoop]
  | g + 1, parent, s, l, s2, l2, hl, hs, hn => by
    refine ⟨fun h => ?_, fun h => ?_, fun h => ?_⟩
    · rw [pNode] at h
      split at h
      · cases h
      · rename_i hc
        simp only [Bool.or_eq_true, not_or, Bool.and_eq_true, not_and, beq_iff_eq, Bool.not_eq_true', Bool.not_eq_true] at hc
        split at h
        · cases h
        · rename_i r l3 hr
          split at h
          · cases h
            have h8 := hc.2
            have h4 := kindOf_len s
            have h5 : ((kindOf s).2.dropWhile lower).length ≤ (kindOf s).2.length := (List.dropWhile_suffix _).length_le
            have h6 : ((kindOf s).2.takeWhile lower).length ≤ (kindOf s).2.length := (List.takeWhile_prefix _).length_le
            refine (p_names chk B g _ _ _ _ _ (by simp; omega) (by simp; omega) (fun x hx => ?_)).2.1 hr
            rcases List.mem_append.1 hx with hx | hx
            · exact hn x hx
            · simp at hx
              subst hx
              simp
              omega
          · cases h
    · rw [pIn] at h
      split at h
      · cases h
        exact hn
      · split at h
        · cases h
        · rename_i r l3 hr
          have ha := (p_adds chk g _ _ _ _ _ hl).1 hr
          exact (p_names chk B g _ _ _ _ _ ha.1.choose_spec.2.1 (by omega) ((p_names chk B g _ _ _ _ _ hl hs hn).1 hr)).2.2 h
    · rw [pLoop] at h
      split at h
      · split at h
        · cases h
        · rename_i r l3 hr
          have ha := (p_adds chk g _ _ _ _ _ hl).1 hr
          have hd : (s.drop 1).length ≤ s.length := by simp
          exact (p_names chk B g _ _ _ _ _ ha.1.choose_spec.2.1 (by omega) ((p_names chk B g _ _ _ _ _ hl (by omega) hn).1 hr)).2.2 h
      · cases h
        exact hn

theorem NV.own {X : Id} {m n : Nat} {H : Heap} {nv : AVal} {l : Proc} (h : NV X m n H nv l) : ∃ S, Own H 1 nv (.list true (l.map AmbNode.cells)) S ∧ (∀ i ∈ S, i ≠ X ∧ m ≤ i.1 ∧ i.1 < n) := by
  rcases h with ⟨rfl, rfl⟩ | ⟨Y, rfl, hY, h1, h2, h3⟩
  · exact ⟨[], Own.nilS, by simp⟩
  · exact ⟨[Y], Own.arrF hY (by simp) (by simp [AmbNode.cells]), by simpa using ⟨h1, h2, h3⟩⟩

theorem ParseProcess_ok (s : Str) (hs : s.length ≤ 4294967296) : OwnC Tryz.prog 36 [str s] 3 (fun r => r = .tup [encP true (parse s).1, bool (parse s).2]) := by
  refine OwnC.of Tryz.func36 rfl Tryz.ntmps36 (by simp) fun Q hQ => ?_
  refine Runs.seqE Ty_ok (by decide) fun k' hk' => ?_
  simp   -- R0
  refine hk' _ _ _ ?_
  refine Runs.seqE Ty_ok (by decide) fun k' hk' => ?_
  simp   -- R1
  refine hk' _ _ _ ?_
  refine Runs.seqE Ty_ok (by decide) fun k' hk' => ?_
  simp   -- R2
  refine RunK.callS Ty_ok (insideI (X := (1, 7)) (m := 1) 40 _ 2 s [] (.v (.slice none 0 0)) (-1) hs (by simp) (by simp [scan]) (.inl ⟨rfl, rfl⟩) (by omega) (by simp) (by simp)) e60 (by decide) (by decide) rfl (by simp) ?_
  rintro v H1 n1 ⟨rfl, hn1, hfr, s', l, nv, bad, hX, hNV, hs', hl, hres⟩
  simp
  refine hk' _ _ _ ?_
  have hm2 := hfr (0, 2) (by simp) (by simp)
  simp at hm2
  obtain ⟨S, hO, hS⟩ := hNV.own
  have hO2 : Own H1 2 (.agg [nv]) (encP true l) S := Own.agg1 hO
  have hone := hO.one1
  unfold scan at hX
  refine Runs.cut (fun ρ H n => ρ 0 = str s ∧ ρ 2 = .ptr (0, 2) 1 0 0 ∧ ρ 4 = .ptr (1, 7) 1 0 0 ∧ H = H1) ⟨by simp, by simp, by simp, rfl⟩ ?_
  clear hk'
  rintro ρ H n ⟨h0, h2, h4, rfl⟩
  refine Runs.seq ?_
  refine Runs.seqE Ty_ok (by decide) fun k' hk' => ?_
  have fin : ∀ (ρ : Env) (ok : Bool), ρ 2 = .ptr (0, 2) 1 0 0 → ρ 4 = .ptr (1, 7) 1 0 0 → ρ 37 = bool (!ok) → parse s = (if ok then (l, true) else ([], false)) → Runs Tryz.prog 36 43 k' ρ H n Q := by
    intro ρ ok h2 h4 h37 hp
    refine hk' _ _ _ ?_
    refine Runs.ite h37 (fun hc1 => ?_) (fun hc1 => ?_)   -- t37
    · have hok : ok = false := by simpa using hc1
      subst hok
      refine Runs.seqE Ty_ok (by decide) fun k' hk' => ?_
      simp [h2, hm2]   -- R4
      refine hk' _ _ _ ?_
      exact Runs.ret Tryz.func36 (RetOk.mix2 (v1 := .agg [.v (.slice none 0 0)]) (v2 := bool false) Ty_ok Tryz.results36 (by simp [resA, h2, loadA]) (by simp [resA])) (hQ _ _ _ (.tup [encP true [], bool false]) _ (Own.tup2 (Own.agg1 (Own.nilS (d := 0))) _) (by rw [hp]; rfl))
    · have hok : ok = true := by simpa using hc1
      subst hok
      refine Runs.skip ?_
      refine Runs.seqE Ty_ok (by decide) fun k' hk' => ?_
      simp [h2, h4, hm2, hX, hone, -Ab.one1]   -- R5
      refine hk' _ _ _ ?_
      refine Runs.ret Tryz.func36 (RetOk.mix2 (v1 := .agg [nv]) (v2 := bool true) Ty_ok Tryz.results36 (by simp [resA, h2, loadA]) (by simp [resA])) (hQ _ _ _ (.tup [encP true l, bool true]) S (Own.tup2 (hO2.frame fun i hi => ?_) _) (by rw [hp]; rfl))
      exact Heap.get_set_ne _ _ (by rintro rfl; have := (hS _ hi).2.1; simp at this)
  have hpd : parse s = match pIn false 40 (-1) s [] with | none => ([], false) | some (r, l) => if r = [] ∧ goodP l = true ∧ textIn l (l.length + 1) (-1) = s then (l, true) else ([], false) := rfl
  cases hpi : pIn false 40 (-1) s [] with
  | none =>
    rw [hpi] at hres hpd
    subst hres
    simp [h4, hX, guardOf]
    exact fin _ false (by simp [h2]) (by simp [h4]) (by simp) hpd
  | some y =>
    obtain ⟨r, l2⟩ := y
    rw [hpi] at hres hpd
    obtain ⟨rfl, rfl, rfl⟩ := hres
    simp only at hpd
    have hnames := (p_names false 4294967296 40 (-1) s [] _ _ (by simp) hs (by simp)).2.1 hpi
    by_cases hs0 : s' = []
    · subst hs0
      simp [h0, h4, hX, guardOf]   -- R3
      refine RunK.callA Ty_ok (IsProcess_ok l (by omega) (fun i hi => ?_)) e25 (.cons (ArgOk.own' hO2 (old_encP _ _)) .nil) (by decide) (by decide) rfl (by simp) ?_
      · have hg : l.getD i default = l[i] := by simp [hi]
        rw [hg]
        exact hnames _ (List.getElem_mem hi)
      rintro _ rfl
      cases hg : goodP l
      · simp [guardOf]
        exact fin _ false (by simp [h2]) (by simp [h4]) (by simp) (by rw [hpd, if_neg (by simp [hg])]; rfl)
      · have hv := goodP_valid hg
        simp [h0, h4, hX, guardOf]
        refine RunK.callA Ty_ok (textIn_ok hv (l.length + 1) (-1) (by omega) (by omega) (by omega) (by omega)) e58 (.cons (ArgOk.own' hO2 (old_encP _ _)) (.cons (.v _ _ _) .nil)) (by decide) (by decide) rfl (by simp) ?_
        rintro _ rfl
        simp [h0, guardOf]
        by_cases ht : textIn l (l.length + 1) (-1) = s
        · exact fin _ true (by simp [h2]) (by simp [h4]) (by simp [ht]) (by rw [hpd, if_pos ⟨rfl, hg, ht⟩]; rfl)
        · exact fin _ false (by simp [h2]) (by simp [h4]) (by simp [ht]) (by rw [hpd, if_neg (by simp [ht])]; rfl)
    · have hs0' : (s' == []) = false := by simpa using hs0
      simp [h4, hX, hs0', hs0, guardOf]   -- R3
      exact fin _ false (by simp [h2]) (by simp [h4]) (by simp) (by rw [hpd, if_neg (by simp [hs0])]; rfl)
end Go.Ab

/- The program's ParseProcess: the caller owns the result. -/
namespace Go.Ab
open Go.Proofs
set_option linter.unusedSimpArgs false
theorem Sep.proc {H : Heap} {n : Nat} {nv : AVal} {l : Proc} {b : Bool} (h : (nv = .v (.slice none 0 0) ∧ l = []) ∨ ∃ Y : Id, nv = .arr Y l.length 0 l.length ∧ H Y = some ⟨3, l.map AmbNode.cells⟩ ∧ Y.1 < n) :
    Sep H n [(.t [.a [.s [.c, .c, .c]], .c], .tup [.agg [nv], bool b], .tup [encP true l, bool b])] [] := by
  have key : ∀ S : List Id, Tr H (.s [.c, .c, .c]) nv (.list true (l.map AmbNode.cells)) S → (∀ i ∈ S, i.1 < n) → Sep H n [(.t [.a [.s [.c, .c, .c]], .c], .tup [.agg [nv], bool b], .tup [encP true l, bool b])] [] := fun S h1 h2 => by
    refine ⟨by simp, S, ?_, fun i hi => ⟨h2 i hi, by simp⟩⟩
    simp only [List.map_cons, List.map_nil, Row]
    refine ⟨S, [], ?_, rfl, by simp, by simp⟩
    rw [Tr]
    refine ⟨_, _, rfl, rfl, ?_⟩
    simp only [Row]
    refine ⟨S, [], ?_, ⟨[], [], by rw [Tr]; exact ⟨_, rfl, rfl, rfl⟩, rfl, rfl, by simp⟩, by simp, by simp⟩
    rw [Tr]
    refine ⟨_, _, rfl, rfl, ?_⟩
    simp only [Row]
    exact ⟨S, [], h1, rfl, by simp, by simp⟩
  rcases h with ⟨rfl, rfl⟩ | ⟨Y, rfl, hY, hn⟩
  · exact key [] (by rw [Tr]; exact .inl ⟨rfl, rfl, rfl⟩) (by simp)
  · refine key [Y] ?_ (by simpa using hn)
    rw [Tr]
    refine .inr ⟨Y, l.map AmbNode.cells, l.map AmbNode.cells, [], by simp, rfl, hY, rowsP.flats (by simp [AmbNode.cells]) (by simp), by simp, rfl⟩
theorem ParseProcess_own (s : Str) (hs : s.length ≤ 4294967296) : OwnS Tryz.prog 36 [str s] (.t [.a [.s [.c, .c, .c]], .c]) (fun r => r = .tup [encP true (parse s).1, bool (parse s).2]) := by
  refine OwnS.of Tryz.func36 rfl Tryz.ntmps36 (by simp) fun Q hQ => ?_
  refine Runs.seqE Ty_ok (by decide) fun k' hk' => ?_
  simp   -- R0
  refine hk' _ _ _ ?_
  refine Runs.seqE Ty_ok (by decide) fun k' hk' => ?_
  simp   -- R1
  refine hk' _ _ _ ?_
  refine Runs.seqE Ty_ok (by decide) fun k' hk' => ?_
  simp   -- R2
  refine RunK.callS Ty_ok (insideI (X := (1, 7)) (m := 1) 40 _ 2 s [] (.v (.slice none 0 0)) (-1) hs (by simp) (by simp [scan]) (.inl ⟨rfl, rfl⟩) (by omega) (by simp) (by simp)) e60 (by decide) (by decide) rfl (by simp) ?_
  rintro v H1 n1 ⟨rfl, hn1, hfr, s', l, nv, bad, hX, hNV, hs', hl, hres⟩
  simp
  refine hk' _ _ _ ?_
  have hm2 := hfr (0, 2) (by simp) (by simp)
  simp at hm2
  obtain ⟨S, hO, hS⟩ := hNV.own
  have hO2 : Own H1 2 (.agg [nv]) (encP true l) S := Own.agg1 hO
  have hone := hO.one1
  unfold scan at hX
  refine Runs.cut (fun ρ H n => ρ 0 = str s ∧ ρ 2 = .ptr (0, 2) 1 0 0 ∧ ρ 4 = .ptr (1, 7) 1 0 0 ∧ H = H1 ∧ n1 ≤ n) ⟨by simp, by simp, by simp, rfl, by omega⟩ ?_
  clear hk'
  rintro ρ H n ⟨h0, h2, h4, rfl, hnn⟩
  refine Runs.seq ?_
  refine Runs.seqE Ty_ok (by decide) fun k' hk' => ?_
  have fin : ∀ (ρ : Env) (ok : Bool), ρ 2 = .ptr (0, 2) 1 0 0 → ρ 4 = .ptr (1, 7) 1 0 0 → ρ 37 = bool (!ok) → parse s = (if ok then (l, true) else ([], false)) → Runs Tryz.prog 36 43 k' ρ H n Q := by
    intro ρ ok h2 h4 h37 hp
    refine hk' _ _ _ ?_
    refine Runs.ite h37 (fun hc1 => ?_) (fun hc1 => ?_)   -- t37
    · have hok : ok = false := by simpa using hc1
      subst hok
      refine Runs.seqE Ty_ok (by decide) fun k' hk' => ?_
      simp [h2, hm2]   -- R4
      refine hk' _ _ _ ?_
      exact Runs.ret Tryz.func36 (RetOk.mix2 (v1 := .agg [.v (.slice none 0 0)]) (v2 := bool false) Ty_ok Tryz.results36 (by simp [resA, h2, loadA]) (by simp [resA])) (hQ _ _ _ (.tup [encP true [], bool false]) (Sep.proc (.inl ⟨rfl, rfl⟩)) (by rw [hp]; rfl))
    · have hok : ok = true := by simpa using hc1
      subst hok
      refine Runs.skip ?_
      refine Runs.seqE Ty_ok (by decide) fun k' hk' => ?_
      simp [h2, h4, hm2, hX, hone, -Ab.one1]   -- R5
      refine hk' _ _ _ ?_
      refine Runs.ret Tryz.func36 (RetOk.mix2 (v1 := .agg [nv]) (v2 := bool true) Ty_ok Tryz.results36 (by simp [resA, h2, loadA]) (by simp [resA])) (hQ _ _ _ (.tup [encP true l, bool true]) (Sep.proc ?_) (by rw [hp]; rfl))
      rcases hNV with h | ⟨Y, e1, e2, e3, e4, e5⟩
      · exact .inl h
      · refine .inr ⟨Y, e1, ?_, Nat.lt_of_lt_of_le e5 hnn⟩
        rw [Heap.get_set_ne _ _ (by rintro rfl; simp at e4)]
        exact e2
  have hpd : parse s = match pIn false 40 (-1) s [] with | none => ([], false) | some (r, l) => if r = [] ∧ goodP l = true ∧ textIn l (l.length + 1) (-1) = s then (l, true) else ([], false) := rfl
  cases hpi : pIn false 40 (-1) s [] with
  | none =>
    rw [hpi] at hres hpd
    subst hres
    simp [h4, hX, guardOf]
    exact fin _ false (by simp [h2]) (by simp [h4]) (by simp) hpd
  | some y =>
    obtain ⟨r, l2⟩ := y
    rw [hpi] at hres hpd
    obtain ⟨rfl, rfl, rfl⟩ := hres
    simp only at hpd
    have hnames := (p_names false 4294967296 40 (-1) s [] _ _ (by simp) hs (by simp)).2.1 hpi
    by_cases hs0 : s' = []
    · subst hs0
      simp [h0, h4, hX, guardOf]   -- R3
      refine RunK.callA Ty_ok (IsProcess_ok l (by omega) (fun i hi => ?_)) e25 (.cons (ArgOk.own' hO2 (old_encP _ _)) .nil) (by decide) (by decide) rfl (by simp) ?_
      · have hg : l.getD i default = l[i] := by simp [hi]
        rw [hg]
        exact hnames _ (List.getElem_mem hi)
      rintro _ rfl
      cases hg : goodP l
      · simp [guardOf]
        exact fin _ false (by simp [h2]) (by simp [h4]) (by simp) (by rw [hpd, if_neg (by simp [hg])]; rfl)
      · have hv := goodP_valid hg
        simp [h0, h4, hX, guardOf]
        refine RunK.callA Ty_ok (textIn_ok hv (l.length + 1) (-1) (by omega) (by omega) (by omega) (by omega)) e58 (.cons (ArgOk.own' hO2 (old_encP _ _)) (.cons (.v _ _ _) .nil)) (by decide) (by decide) rfl (by simp) ?_
        rintro _ rfl
        simp [h0, guardOf]
        by_cases ht : textIn l (l.length + 1) (-1) = s
        · exact fin _ true (by simp [h2]) (by simp [h4]) (by simp [ht]) (by rw [hpd, if_pos ⟨rfl, hg, ht⟩]; rfl)
        · exact fin _ false (by simp [h2]) (by simp [h4]) (by simp [ht]) (by rw [hpd, if_neg (by simp [ht])]; rfl)
    · have hs0' : (s' == []) = false := by simpa using hs0
      simp [h4, hX, hs0', hs0, guardOf]   -- R3
      exact fin _ false (by simp [h2]) (by simp [h4]) (by simp) (by rw [hpd, if_neg (by simp [hs0])]; rfl)
end Go.Ab

/- Walks by program for YtkhhalniblpkcaaGreatDoorAbCa. -/
namespace Go.Ab.Vg
open Go.Proofs
set_option maxRecDepth 100000
set_option linter.unusedSimpArgs false
set_option linter.unusedVariables false
theorem parseI_ok (s : Str) (h : s.length ≤ 4294967296) : OwnS Tryz.prog 36 [str s] (.t [.a [.s [.c, .c, .c]], .c]) (fun r => r = .tup [.agg [.list true ((parse s).1.map AmbNode.cells)], bool (parse s).2]) := ParseProcess_own s h

theorem parseS_ok (s : Str) (h : s.length ≤ 4294967296) : PureC Tryz.prog 40 [str s] (fun r => r = .tup [.agg [.list true ((parse s).1.map AmbNode.cells)], bool (parse s).2]) := specParseProcess_ok s h

theorem e26 : Ent Tryz.prog 26 := Ent.of Tryz.func26 (by kernel_rfl) rfl
theorem canonicalProcess_walk (p : Proc) (Z : Proc → Prop) (h : canonicalProcess_wp p Z) : OwnS Tryz.prog 26 [.agg [.list false (p.map AmbNode.cells)]] (.a [.s [.c, .c, .c]]) (fun r => ∃ y : Proc, Z y ∧ r = .agg [.list true (y.map AmbNode.cells)]) := by
  unfold canonicalProcess_wp at h
  have sp : Sep noHeap 0 [] [] := Sep.nil (by simp)
  refine OwnS.of Tryz.func26 rfl Tryz.ntmps26 (by simp) fun Q hQ => ?_
  refine Runs.cut (fun ρ H n => ρ 0 = .agg [.list false (p.map AmbNode.cells)] ∧ Sep H n [] []) (by refine ⟨?_, sp⟩ <;> simp [AmbNode.cells, intC, strC]) ?_
  rintro ρ H n1 ⟨h0, sp⟩
  refine Runs.seqE Ty_ok (by decide) fun k' hk' => ?_
  simp [h0, AmbNode.cells, intC, strC]
  refine hk' _ _ _ ?_
  refine Runs.cut (fun ρ H n => ρ 1 = .ptr (n1, 1) 1 0 0 ∧ ρ 2 = .ptr (n1 + 1, 2) 1 0 0 ∧ H (n1, 1) = some ⟨1, [[.list false (p.map AmbNode.cells)]]⟩ ∧ H (n1 + 1, 2) = some ⟨1, [[.v (.slice none 0 0)]]⟩ ∧ Sep H n [] [(n1 + 1, 2), (n1, 1)]) (by refine ⟨?_, ?_, ?_, ?_, (Sep.var (Sep.var sp))⟩ <;> simp [h0, AmbNode.cells, intC, strC]) ?_
  clear h0
  rintro ρ H n4 ⟨h1, h2, m1_1, m2_2, sp⟩
  refine Runs.seqE Ty_ok (by decide) fun k' hk' => ?_
  obtain ⟨hb5, h⟩ := h
  obtain ⟨r6, er6⟩ : ∃ v : Str, v = sortedIn p (-1) := ⟨_, rfl⟩
  replace h := h r6 er6
  simp [h1, h2, m1_1, m2_2, AmbNode.cells, intC, strC]
  refine RunK.callA Ty_ok (sortedIn_ok p (-1) hb5) e45 (.cons (ArgOk.agg (.cons (ArgOk.listF (fr := false) (els := p.map AmbNode.cells) (by simp [AmbNode.cells, intC, strC, intC])) .nil)) (.cons (.v _ _ _) .nil)) (by decide) (by decide) rfl (by simp [h1, h2, m1_1, m2_2, AmbNode.cells, intC, strC]) ?_
  rintro _ rfl
  rw [← er6]
  obtain ⟨hb7, h⟩ := h
  obtain ⟨r8, er8⟩ : ∃ v : Proc × Bool, v = parse r6 := ⟨_, rfl⟩
  replace h := h r8 er8
  simp [h1, h2, m1_1, m2_2, AmbNode.cells, intC, strC]
  refine RunK.callW Ty_ok (parseI_ok r6 hb7) e36 (.cons (.v _ _ _) .nil) sp (by decide) (by decide) rfl (by simp [h1, h2, m1_1, m2_2, AmbNode.cells, intC, strC]) ?_
  rintro v9 H10 n11 _ sp rfl hle13 hfr12
  rw [← er8] at sp
  have m1_1 : H10 (n1, 1) = some ⟨1, [[.list false (p.map AmbNode.cells)]]⟩ := (hfr12 _ (by simp)).trans (by simp [h1, h2, m1_1, m2_2, Heap.get_set])
  have m2_2 : H10 (n1 + 1, 2) = some ⟨1, [[.v (.slice none 0 0)]]⟩ := (hfr12 _ (by simp)).trans (by simp [h1, h2, m1_1, m2_2, Heap.get_set])
  replace sp := Sep.unpackT sp
  obtain ⟨L17, hv, hl18, sp⟩ := sp
  subst hv
  obtain ⟨v15, v16, hv⟩ := len2 (by simpa using hl18)
  subst hv
  simp only [zip3, List.cons_append, List.nil_append] at sp
  replace sp := Sep.unpack sp
  obtain ⟨L20, hv, hl21, sp⟩ := sp
  subst hv
  obtain ⟨v19, hv⟩ := len1 (by simpa using hl21)
  subst hv
  simp only [zip3, List.cons_append, List.nil_append] at sp
  replace sp := Sep.rot sp
  try simp only [List.cons_append, List.nil_append, List.append_assoc] at sp
  replace sp := Sep.scalar sp
  obtain ⟨hv, sp⟩ := sp
  subst hv
  replace sp : Sep H10 n11 [(.s [.c, .c, .c], v19, .list true (r8.1.map AmbNode.cells))] [(n1 + 1, 2), (n1, 1)] := sp
  have f24 := cell_own (Sep.cells sp)
  have f25 := cell_own (Sep.one1 sp)
  simp [h1, h2, m1_1, m2_2, f24, f25, AmbNode.cells, intC, strC, -cellsA, -one1, cA_int, cA_bool, cA_str, cA_nil, cA_agg, cA_list, cA_arr, cA_ptr, o1_int, o1_bool, o1_str, o1_nil, o1_list, o1_arr, o1_ptr]
  refine hk' _ _ _ ?_
  refine Runs.cut (fun ρ H n => ∃ (v26 : AVal), ρ 2 = .ptr (n1 + 1, 2) 1 0 0 ∧ ρ 3 = .ptr (n11, 3) 1 0 0 ∧ H (n1 + 1, 2) = some ⟨1, [[.v (.slice none 0 0)]]⟩ ∧ H (n11, 3) = some ⟨1, [[v26]]⟩ ∧ Sep H n [(.s [.c, .c, .c], v26, .list true (r8.1.map AmbNode.cells))] [(n11, 3), (n1 + 1, 2)]) (by refine ⟨v19, ?_, ?_, ?_, ?_, (Sep.sub (Sep.var sp) (by simp +contextual))⟩ <;> simp [h1, h2, m1_1, m2_2, f24, f25, AmbNode.cells, intC, strC, -cellsA, -one1, cA_int, cA_bool, cA_str, cA_nil, cA_agg, cA_list, cA_arr, cA_ptr, o1_int, o1_bool, o1_str, o1_nil, o1_list, o1_arr, o1_ptr]) ?_
  clear h1 h2 m1_1 m2_2
  rintro ρ H n27 ⟨v26, h2, h3, m2_2, m3_22, sp⟩
  refine Runs.seqE Ty_ok (by decide) fun k' hk' => ?_
  have f28 := cell_own (Sep.cells sp)
  have f29 := cell_own (Sep.one1 sp)
  simp [h2, h3, m2_2, m3_22, f28, f29, AmbNode.cells, intC, strC, -cellsA, -one1, cA_int, cA_bool, cA_str, cA_nil, cA_agg, cA_list, cA_arr, cA_ptr, o1_int, o1_bool, o1_str, o1_nil, o1_list, o1_arr, o1_ptr]
  refine hk' _ _ _ ?_
  refine Runs.cut (fun ρ H n => ∃ (v30 : AVal), ρ 2 = .ptr (n1 + 1, 2) 1 0 0 ∧ H (n1 + 1, 2) = some ⟨1, [[v30]]⟩ ∧ Sep H n [(.s [.c, .c, .c], v30, .list true (r8.1.map AmbNode.cells))] [(n1 + 1, 2)]) (by refine ⟨v26, ?_, ?_, (Sep.sub (Sep.setVar (w := (n1 + 1, 2)) sp (by simp)) (by simp +contextual))⟩ <;> simp [h2, h3, m2_2, m3_22, f28, f29, AmbNode.cells, intC, strC, -cellsA, -one1, cA_int, cA_bool, cA_str, cA_nil, cA_agg, cA_list, cA_arr, cA_ptr, o1_int, o1_bool, o1_str, o1_nil, o1_list, o1_arr, o1_ptr]) ?_
  clear h2 h3 m2_2 m3_22
  rintro ρ H n31 ⟨v30, h2, m2_2, sp⟩
  exact Runs.res1 Ty_ok (v := .agg [v30]) Tryz.func26 Tryz.results26 (by simp [h2, m2_2, resA, AmbNode.cells, intC, strC]) (hQ _ _ _ _ (Sep.sub (ids' := []) (Sep.pack (K := []) (Fill.own Fill.nil) sp) (by simp)) ⟨r8.1, h, rfl⟩)

theorem canonicalProcess_ok (p : Proc) (hp : canonicalProcess_pre p) : OwnS Tryz.prog 26 [.agg [.list false (p.map AmbNode.cells)]] (.a [.s [.c, .c, .c]]) (fun r => r = .agg [.list true ((canonicalProcess p).map AmbNode.cells)]) := (canonicalProcess_walk p _ (canonicalProcess_vc p hp)).mono (by rintro _ ⟨_, rfl, rfl⟩; rfl)

theorem e9 : Ent Tryz.prog 9 := Ent.of Tryz.func9 (by kernel_rfl) rfl
theorem e23 : Ent Tryz.prog 23 := Ent.of Tryz.func23 (by kernel_rfl) rfl
theorem l12Canon_walk (p : Proc) (Z : Proc → Prop) (h : l12Canon_wp p Z) : PureC Tryz.prog 23 [.agg [.list false (p.map AmbNode.cells)]] (fun r => ∃ y : Proc, Z y ∧ r = .agg [.list true (y.map AmbNode.cells)]) := by
  unfold l12Canon_wp at h
  refine PureC.of Tryz.func23 rfl Tryz.ntmps23 (by simp) fun Q hQ => ?_
  refine Runs.cut (fun ρ H n => ρ 0 = .agg [.list false (p.map AmbNode.cells)]) (by simp [AmbNode.cells, intC, strC]) ?_
  rintro ρ H n1 h0
  refine Runs.seqE Ty_ok (by decide) fun k' hk' => ?_
  simp [h0, AmbNode.cells, intC, strC]
  refine hk' _ _ _ ?_
  refine Runs.cut (fun ρ H n => ρ 1 = .ptr (n1, 1) 1 0 0 ∧ ρ 2 = .ptr (n1 + 1, 2) 1 0 0 ∧ H (n1, 1) = some ⟨1, [[.list false (p.map AmbNode.cells)]]⟩ ∧ H (n1 + 1, 2) = some ⟨1, [[.v (.slice none 0 0)]]⟩) (by refine ⟨?_, ?_, ?_, ?_⟩ <;> simp [h0, AmbNode.cells, intC, strC]) ?_
  clear h0
  rintro ρ H n4 ⟨h1, h2, m1_1, m2_2⟩
  refine Runs.seqE Ty_ok (by decide) fun k' hk' => ?_
  obtain ⟨hb5, h⟩ := h
  obtain ⟨r6, er6⟩ : ∃ v : Str, v = l12Best p (-1) := ⟨_, rfl⟩
  replace h := h r6 er6
  simp [h1, h2, m1_1, m2_2, AmbNode.cells, intC, strC]
  refine RunK.callA Ty_ok (hb5) e41 (.cons (ArgOk.agg (.cons (ArgOk.listF (fr := false) (els := p.map AmbNode.cells) (by simp [AmbNode.cells, intC, strC, intC])) .nil)) (.cons (.v _ _ _) .nil)) (by decide) (by decide) rfl (by simp [h1, h2, m1_1, m2_2, AmbNode.cells, intC, strC]) ?_
  rintro _ rfl
  rw [← er6]
  obtain ⟨hb7, h⟩ := h
  obtain ⟨r8, er8⟩ : ∃ v : Proc × Bool, v = parse r6 := ⟨_, rfl⟩
  replace h := h r8 er8
  simp [h1, h2, m1_1, m2_2, AmbNode.cells, intC, strC]
  refine RunK.callA Ty_ok (parseS_ok r6 hb7) e40 (.cons (.v _ _ _) .nil) (by decide) (by decide) rfl (by simp [h1, h2, m1_1, m2_2, AmbNode.cells, intC, strC]) ?_
  rintro _ rfl
  rw [← er8]
  simp [h1, h2, m1_1, m2_2, AmbNode.cells, intC, strC]
  refine hk' _ _ _ ?_
  refine Runs.cut (fun ρ H n => ρ 2 = .ptr (n1 + 1, 2) 1 0 0 ∧ ρ 3 = .ptr (n4, 3) 1 0 0 ∧ H (n1 + 1, 2) = some ⟨1, [[.v (.slice none 0 0)]]⟩ ∧ H (n4, 3) = some ⟨1, [[.list true (r8.1.map AmbNode.cells)]]⟩) (by refine ⟨?_, ?_, ?_, ?_⟩ <;> simp [h1, h2, m1_1, m2_2, AmbNode.cells, intC, strC]) ?_
  clear h1 h2 m1_1 m2_2
  rintro ρ H n10 ⟨h2, h3, m2_2, m3_8⟩
  refine Runs.seqE Ty_ok (by decide) fun k' hk' => ?_
  simp [h2, h3, m2_2, m3_8, AmbNode.cells, intC, strC]
  refine hk' _ _ _ ?_
  refine Runs.cut (fun ρ H n => ρ 2 = .ptr (n1 + 1, 2) 1 0 0 ∧ H (n1 + 1, 2) = some ⟨1, [[.list true (r8.1.map AmbNode.cells)]]⟩) (by refine ⟨?_, ?_⟩ <;> simp [h2, h3, m2_2, m3_8, AmbNode.cells, intC, strC]) ?_
  clear h2 h3 m2_2 m3_8
  rintro ρ H n11 ⟨h2, m2_2⟩
  exact Runs.res1 Ty_ok (v := .agg [.list true (r8.1.map AmbNode.cells)]) Tryz.func23 Tryz.results23 (by simp [h2, m2_2, resA, AmbNode.cells, intC, strC]) (hQ _ _ _ _ (.of (.aggL (.cons (.fresh (by simp [AmbNode.cells, intC, strC, intC])) .nil))) ⟨r8.1, h, rfl⟩)

theorem l12Canon_ok (p : Proc) (hp : l12Canon_pre p) : PureC Tryz.prog 23 [.agg [.list false (p.map AmbNode.cells)]] (fun r => r = .agg [.list true ((l12Canon p).map AmbNode.cells)]) := (l12Canon_walk p _ (l12Canon_vc p hp)).mono (by rintro _ ⟨_, rfl, rfl⟩; rfl)

theorem e7 : Ent Tryz.prog 7 := Ent.of Tryz.func7 (by kernel_rfl) rfl
end Go.Ab.Vg

/- Walks by program for YtkhhalniblpkcaaGreatDoorAbCg. -/
namespace Go.Ab.Vg
open Go.Proofs
set_option maxRecDepth 100000
set_option linter.unusedSimpArgs false
set_option linter.unusedVariables false
theorem sortedG_walk (p : Proc) (parent : Int) (Z : Str → Prop) (ih : ∀ pr parentr, sortedG_pre pr parentr → sortedG_ms pr parentr < sortedG_ms p parent → PureC Tryz.prog 45 [.agg [.list false (pr.map AmbNode.cells)], int parentr] (fun r => r = str (sortedG pr parentr))) (h : sortedG_wp p parent Z) : PureC Tryz.prog 45 [.agg [.list false (p.map AmbNode.cells)], int parent] (fun r => ∃ y : Str, Z y ∧ r = str y) := by
  unfold sortedG_wp at h
  have sp : Sep noHeap 0 [] [] := Sep.nil (by simp)
  refine PureC.of Tryz.func45 rfl Tryz.ntmps45 (by simp) fun Q hQ => ?_
  refine Runs.cut (fun ρ H n => ρ 0 = .agg [.list false (p.map AmbNode.cells)] ∧ ρ 1 = int parent ∧ Sep H n [] []) (by refine ⟨?_, ?_, sp⟩ <;> simp [AmbNode.cells, intC, strC]) ?_
  rintro ρ H n1 ⟨h0, h1, sp⟩
  refine Runs.seqE Ty_ok (by decide) fun k' hk' => ?_
  simp [h0, h1, AmbNode.cells, intC, strC]
  refine hk' _ _ _ ?_
  refine Runs.cut (fun ρ H n => ρ 1 = int parent ∧ ρ 2 = .ptr (n1, 2) 1 0 0 ∧ H (n1, 2) = some ⟨1, [[.list false (p.map AmbNode.cells)]]⟩ ∧ Sep H n [] [(n1, 2)]) (by refine ⟨?_, ?_, ?_, (Sep.var sp)⟩ <;> simp [h0, h1, AmbNode.cells, intC, strC]) ?_
  clear h0 h1
  rintro ρ H n3 ⟨h1, h2, m2_1, sp⟩
  refine Runs.seqE Ty_ok (by decide) fun k' hk' => ?_
  simp [h1, h2, m2_1, AmbNode.cells, intC, strC]
  refine hk' _ _ _ ?_
  refine Runs.cut (fun ρ H n => ∃ (v5 : AVal), ρ 1 = int parent ∧ ρ 2 = .ptr (n1, 2) 1 0 0 ∧ ρ 5 = v5 ∧ H (n1, 2) = some ⟨1, [[.list false (p.map AmbNode.cells)]]⟩ ∧ Sep H n [(.s [.c], v5, .list true (([] : List Str).map strC))] [(n1, 2)]) (by refine ⟨.arr (n3, 8) 0 0 0, ?_, ?_, ?_, ?_, (Sep.addEmpty (l := [.c]) sp)⟩ <;> simp [h1, h2, m2_1, AmbNode.cells, intC, strC]) ?_
  clear h1 h2 m2_1
  rintro ρ H n6 ⟨v5, h1, h2, h5, m2_1, sp⟩
  refine Runs.seq ?_
  refine Runs.seqE Ty_ok (by decide) fun k' hk' => ?_
  obtain ⟨hb7, h⟩ := h
  obtain ⟨r8, er8⟩ : ∃ v : List Int, v = kids p parent := ⟨_, rfl⟩
  replace h := h r8 er8
  simp [h1, h2, h5, m2_1, AmbNode.cells, intC, strC]
  refine RunK.callW Ty_ok (kids_ok p parent hb7) e54 (.cons (ArgOk.agg (.cons (ArgOk.listF (fr := false) (els := p.map AmbNode.cells) (by simp [AmbNode.cells, intC, strC, intC])) .nil)) (.cons (.v _ _ _) .nil)) sp (by decide) (by decide) rfl (by simp [h1, h2, h5, m2_1, AmbNode.cells, intC, strC]) ?_
  rintro v9 H10 n11 _ sp rfl hle13 hfr12
  rw [← er8] at sp
  have m2_1 : H10 (n1, 2) = some ⟨1, [[.list false (p.map AmbNode.cells)]]⟩ := (hfr12 _ (by simp)).trans (by simp [h1, h2, h5, m2_1, Heap.get_set])
  obtain ⟨len16, elen16⟩ : ∃ v : Int, v = (r8.length : Int) := ⟨_, rfl⟩
  replace h := h len16 elen16
  have f17 := len_own (Sep.len (m := len16) sp kd_71 (by rw [elen16, List.length_map]))
  simp [h1, h2, h5, m2_1, f17, AmbNode.cells, intC, strC, -lenF]
  refine hk' _ _ _ ?_
  refine Runs.cut (fun ρ H n => ∃ (v18 : AVal) (v19 : AVal), ρ 2 = .ptr (n1, 2) 1 0 0 ∧ ρ 5 = v19 ∧ ρ 11 = v18 ∧ ρ 12 = int len16 ∧ ρ 13 = int 0 ∧ H (n1, 2) = some ⟨1, [[.list false (p.map AmbNode.cells)]]⟩ ∧ Sep H n [(.s [.c], v18, .list true (r8.map intC)), (.s [.c], v19, .list true (([] : List Str).map strC))] [(n1, 2)]) (by refine ⟨v9, v5, ?_, ?_, ?_, ?_, ?_, ?_, (Sep.front (K1 := [(.s [.c], v5, .list true (([] : List Str).map strC))]) (K2 := []) (Sep.front (K1 := [(.s [.c], v9, .list true (r8.map intC))]) (K2 := []) sp))⟩ <;> simp [h1, h2, h5, m2_1, f17, AmbNode.cells, intC, strC, -lenF]) ?_
  clear h1 h2 h5 m2_1
  rintro ρ H n20 ⟨v18, v19, h2, h5, h11, h12, h13, m2_1, sp⟩
  refine Runs.block ?_
  refine Runs.loopW h (fun (sJ : Int × (List Str)) ρ H n => match sJ with | (v30, l31) => ∃ (v32 : AVal) (v33 : AVal), ρ 2 = .ptr (n1, 2) 1 0 0 ∧ ρ 5 = v33 ∧ ρ 11 = v32 ∧ ρ 12 = int len16 ∧ ρ 13 = int v30 ∧ H (n1, 2) = some ⟨1, [[.list false (p.map AmbNode.cells)]]⟩ ∧ Sep H n [(.s [.c], v32, .list true (r8.map intC)), (.s [.c], v33, .list true (l31.map strC))] [(n1, 2)]) (by refine ⟨v18, v19, ?_, ?_, ?_, ?_, ?_, ?_, (Sep.front (K1 := [(.s [.c], v19, .list true (([] : List Str).map strC))]) (K2 := []) (Sep.front (K1 := [(.s [.c], v18, .list true (r8.map intC))]) (K2 := []) sp))⟩ <;> simp [h2, h5, h11, h12, h13, m2_1, AmbNode.cells, intC, strC]) ?_
  clear h2 h5 h11 h12 h13 m2_1
  rintro ⟨v30, l31⟩ ρ H n34 K h ⟨v32, v33, h2, h5, h11, h12, h13, m2_1, sp⟩ IH35
  refine Runs.seqE Ty_ok (by decide) fun k' hk' => ?_
  obtain ⟨c37, ec37⟩ : ∃ v : Bool, v = decide (v30 < len16) := ⟨_, rfl⟩
  replace h := h c37 ec37
  have f38 := ib_lss (k := .i64) ec37
  simp [h2, h5, h11, h12, h13, m2_1, f38, AmbNode.cells, intC, strC, -intBin]
  refine hk' _ _ _ ?_
  refine Runs.seq ?_
  refine Runs.ite (b := c37) (by simp [h2, h5, h11, h12, h13, m2_1, AmbNode.cells, intC, strC]) (fun dc37 => ?_) (fun dc37 => ?_)
  · replace h := h.1 dc37
    refine Runs.skip ?_
    refine Runs.seq ?_
    refine Runs.block ?_
    refine Runs.seqE Ty_ok (by decide) fun k' hk' => ?_
    obtain ⟨hb39, h⟩ := h
    obtain ⟨id40, hv, mo41, ln42, ni43⟩ := Sep.openF sp (by simp) hb39
    subst hv
    simp at ni43
    obtain ⟨x44, ex44⟩ : ∃ v : Int, v = at' r8 v30 := ⟨_, rfl⟩
    replace h := h x44 ex44
    have f45 := fun H (hm : H id40 = some ⟨1, r8.map intC⟩) => ix_arr (H := H) (k := .i64) (off := 0) (len := r8.length) (g := r8.length) kd_71 hm (by simp) rfl hb39
    have f46 := at_some (q := v30.toNat) hb39 ex44 rfl
    simp [h2, h5, h11, h12, h13, m2_1, mo41, ni43, f45, f46, dc37, AmbNode.cells, intC, strC, -indexAddrF]
    refine hk' _ _ _ ?_
    refine Runs.evalDE Ty_ok kindOp_ok draws (by decide) (by kernel_rfl) fun k' hk' => ?_
    obtain ⟨hb47, h⟩ := h
    obtain ⟨x48, ex48⟩ : ∃ v : AmbNode, v = at' p x44 := ⟨_, rfl⟩
    replace h := h x48 ex48
    have f49 := fun H => ix_list (H := H) (fr := false) (f := AmbNode.cells) (k := .i64) kd_26 (fun _ => rfl) hb47 ex48
    obtain ⟨hb50, h⟩ := h
    obtain ⟨r51, er51⟩ : ∃ v : Str, v = sortedG p x44 := ⟨_, rfl⟩
    replace h := h r51 er51
    simp [h2, h5, h11, h12, h13, m2_1, mo41, ni43, f49, dc37, AmbNode.cells, intC, strC, -indexAddrF]
    refine RunDK.callA Ty_ok kindOp_ok (ih p x44 hb50.1 hb50.2) e45 (.cons (ArgOk.agg (.cons (ArgOk.listF (fr := false) (els := p.map AmbNode.cells) (by simp [AmbNode.cells, intC, strC, intC])) .nil)) (.cons (.v _ _ _) .nil)) (by decide) rfl (by simp [h2, h5, h11, h12, h13, m2_1, mo41, ni43, f49, dc37, AmbNode.cells, intC, strC, -indexAddrF]) ?_
    rw [← er51]
    obtain ⟨hb52, h⟩ := h
    obtain ⟨r53, er53⟩ : ∃ v : Str, v = nodeText x48 r51 := ⟨_, rfl⟩
    replace h := h r53 er53
    simp [h2, h5, h11, h12, h13, m2_1, mo41, ni43, f49, dc37, AmbNode.cells, intC, strC, -indexAddrF]
    refine RunDK.callA Ty_ok kindOp_ok (nodeText_ok x48 r51 hb52.1 hb52.2.1 hb52.2.2) e64 (.cons (ArgOk.agg (.cons (.v _ _ _) (.cons (.v _ _ _) (.cons (.v _ _ _) .nil)))) (.cons (.v _ _ _) .nil)) (by decide) rfl (by simp [h2, h5, h11, h12, h13, m2_1, mo41, ni43, f49, dc37, AmbNode.cells, intC, strC, -indexAddrF]) ?_
    rw [← er53]
    obtain ⟨hb54, h⟩ := h
    obtain ⟨l55, el55⟩ : ∃ v : List Str, v = l31 ++ [r53] := ⟨_, rfl⟩
    replace h := h l55 el55
    simp [h2, h5, h11, h12, h13, m2_1, mo41, ni43, f49, dc37, AmbNode.cells, intC, strC, -indexAddrF, -appendF]
    refine bindD_append [] [(.s [.c], .arr id40 r8.length 0 r8.length, .list true (r8.map intC))] [[str r53]] [strC r53] (Sep.front (K1 := [(.s [.c], .arr id40 r8.length 0 r8.length, .list true (r8.map intC))]) (K2 := []) sp) kd_57 (by simp) (by simp) (by simp [AmbNode.cells, intC, strC]) (by simp [-one1, o1_int, o1_bool, o1_str, o1_nil, o1_list, o1_arr, o1_ptr]) (rows_one (Fill.v _ Fill.nil)) (by simp) (by simpa using hb54) ?_
    rintro v56 H57 n58 sp hfr59 hle60
    replace sp : Sep H57 n58 [(.s [.c], v56, .list true (l55.map strC)), (.s [.c], .arr id40 r8.length 0 r8.length, .list true (r8.map intC))] [(n1, 2)] := by rw [el55, List.map_append]; exact sp
    have m2_1 : H57 (n1, 2) = some ⟨1, [[.list false (p.map AmbNode.cells)]]⟩ := (hfr59 _ (by simp)).trans (by simp [h2, h5, h11, h12, h13, m2_1, mo41, ni43, Heap.get_set])
    simp [h2, h5, h11, h12, h13, m2_1, ni43, f49, dc37, AmbNode.cells, intC, strC, -indexAddrF]
    refine hk' _ _ _ ?_
    refine Runs.cut (fun ρ H n => ∃ (v62 : AVal) (v63 : AVal), ρ 2 = .ptr (n1, 2) 1 0 0 ∧ ρ 5 = v62 ∧ ρ 11 = v63 ∧ ρ 12 = int len16 ∧ ρ 13 = int v30 ∧ H (n1, 2) = some ⟨1, [[.list false (p.map AmbNode.cells)]]⟩ ∧ Sep H n [(.s [.c], v62, .list true (l55.map strC)), (.s [.c], v63, .list true (r8.map intC))] [(n1, 2)]) (by refine ⟨v56, .arr id40 r8.length 0 r8.length, ?_, ?_, ?_, ?_, ?_, ?_, (Sep.front (K1 := [(.s [.c], .arr id40 r8.length 0 r8.length, .list true (r8.map intC))]) (K2 := []) (Sep.front (K1 := [(.s [.c], v56, .list true (l55.map strC))]) (K2 := []) sp))⟩ <;> simp [h2, h5, h11, h12, h13, m2_1, ni43, f49, dc37, AmbNode.cells, intC, strC, -indexAddrF]) ?_
    clear h2 h5 h11 h12 h13 m2_1 ni43
    rintro ρ H n64 ⟨v62, v63, h2, h5, h11, h12, h13, m2_1, sp⟩
    refine Runs.inBlock ?_
    refine Runs.evalE Ty_ok (by decide) fun k' hk' => ?_
    obtain ⟨hb65, h⟩ := h
    obtain ⟨v66, ev66⟩ : ∃ v : Int, v = v30 + 1 := ⟨_, rfl⟩
    replace h := h v66 ev66
    have f67 := ib_add hb65 ev66
    simp [h2, h5, h11, h12, h13, m2_1, f67, dc37, AmbNode.cells, intC, strC, -intBin]
    refine hk' _ _ _ ?_
    refine IH35 (v66, l55) _ _ _ h (by refine ⟨v63, v62, ?_, ?_, ?_, ?_, ?_, ?_, (Sep.front (K1 := [(.s [.c], v62, .list true (l55.map strC))]) (K2 := []) sp)⟩ <;> simp [h2, h5, h11, h12, h13, m2_1, dc37, AmbNode.cells, intC, strC])
  · replace h := h.2 dc37
    refine Runs.exit rfl ?_
    refine Runs.seqE Ty_ok (by decide) fun k' hk' => ?_
    obtain ⟨hb68, h⟩ := h
    obtain ⟨r69, er69⟩ : ∃ v : (List Str) × Unit, v = sortT l31 := ⟨_, rfl⟩
    replace h := h r69 er69
    have f70 := cell_own (Sep.cells (Sep.front (K1 := [(.s [.c], v32, .list true (r8.map intC))]) (K2 := []) sp))
    have f71 := cell_own (Sep.one1 (Sep.front (K1 := [(.s [.c], v32, .list true (r8.map intC))]) (K2 := []) sp))
    simp [h2, h5, h11, h12, h13, m2_1, f70, f71, dc37, AmbNode.cells, intC, strC, -cellsA, -one1, cA_int, cA_bool, cA_str, cA_nil, cA_agg, cA_list, cA_arr, cA_ptr, o1_int, o1_bool, o1_str, o1_nil, o1_list, o1_arr, o1_ptr]
    refine RunK.callM (v := v33) Ty_ok (sortStr_ok l31 hb68) e65 (Sep.front (K1 := [(.s [.c], v32, .list true (r8.map intC))]) (K2 := []) sp) (by decide) (by decide) rfl (by simp [h2, h5, h11, h12, h13, m2_1, f70, f71, dc37, AmbNode.cells, intC, strC, -cellsA, -one1, cA_int, cA_bool, cA_str, cA_nil, cA_agg, cA_list, cA_arr, cA_ptr, o1_int, o1_bool, o1_str, o1_nil, o1_list, o1_arr, o1_ptr]) ?_
    rintro _ H72 n73 _ ⟨rfl, rfl⟩ sp hle75 hfr74
    rw [← er69] at sp
    replace sp : Sep H72 n73 [(.s [.c], v33, .list true (r69.1.map strC)), (.s [.c], v32, .list true (r8.map intC))] [(n1, 2)] := sp
    have m2_1 : H72 (n1, 2) = some ⟨1, [[.list false (p.map AmbNode.cells)]]⟩ := (hfr74 _ (by simp)).trans (by simp [h2, h5, h11, h12, h13, m2_1, Heap.get_set])
    simp [h2, h5, h11, h12, h13, m2_1, f70, f71, dc37, AmbNode.cells, intC, strC, -cellsA, -one1, cA_int, cA_bool, cA_str, cA_nil, cA_agg, cA_list, cA_arr, cA_ptr, o1_int, o1_bool, o1_str, o1_nil, o1_list, o1_arr, o1_ptr]
    refine hk' _ _ _ ?_
    refine Runs.cut (fun ρ H n => ∃ (v77 : AVal), ρ 5 = v77 ∧ Sep H n [(.s [.c], v77, .list true (r69.1.map strC))] []) (by refine ⟨v33, ?_, (Sep.sub (Sep.right (K1 := [(.s [.c], v32, .list true (r8.map intC))]) (K2 := [(.s [.c], v33, .list true (r69.1.map strC))]) (Sep.front (K1 := [(.s [.c], v33, .list true (r69.1.map strC))]) (K2 := []) sp)) (by simp +contextual))⟩ <;> simp [h2, h5, h11, h12, h13, m2_1, f70, f71, dc37, AmbNode.cells, intC, strC, -cellsA, -one1, cA_int, cA_bool, cA_str, cA_nil, cA_agg, cA_list, cA_arr, cA_ptr, o1_int, o1_bool, o1_str, o1_nil, o1_list, o1_arr, o1_ptr]) ?_
    clear h2 h5 h11 h12 h13 m2_1
    rintro ρ H n78 ⟨v77, h5, sp⟩
    refine Runs.seqE Ty_ok (by decide) fun k' hk' => ?_
    obtain ⟨hb79, h⟩ := h
    obtain ⟨r80, er80⟩ : ∃ v : Str, v = joinTexts r69.1 := ⟨_, rfl⟩
    replace h := h r80 er80
    simp [h5, dc37, AmbNode.cells, intC, strC]
    refine RunK.callA Ty_ok (joinTexts_ok r69.1 hb79.1 hb79.2) e66 (.cons (Sep.argOk' sp (old_listF (by simp [strC]))) .nil) (by decide) (by decide) rfl (by simp [h5, dc37, AmbNode.cells, intC, strC]) ?_
    rintro _ rfl
    rw [← er80]
    simp [h5, dc37, AmbNode.cells, intC, strC]
    refine hk' _ _ _ ?_
    exact Runs.ret1 (v := str r80) Tryz.func45 Tryz.results45 (by simp [h5, dc37, AmbNode.cells, intC, strC]) (hQ _ _ _ _ (.of (.v _)) ⟨r80, h, rfl⟩)

theorem sortedG_okm (m : Nat) : ∀ (p : Proc) (parent : Int), sortedG_ms p parent = m → sortedG_pre p parent → PureC Tryz.prog 45 [.agg [.list false (p.map AmbNode.cells)], int parent] (fun r => r = str (sortedG p parent)) := by
  induction m using Nat.strongRecOn with
  | _ m ih =>
    rintro p parent rfl hp
    exact (sortedG_walk p parent _ (fun pr parentr hp' hl => ih _ hl pr parentr rfl hp') (sortedG_vc p parent hp)).mono (by rintro _ ⟨_, rfl, rfl⟩; rfl)
theorem sortedG_ok (p : Proc) (parent : Int) (hp : sortedG_pre p parent) : PureC Tryz.prog 45 [.agg [.list false (p.map AmbNode.cells)], int parent] (fun r => r = str (sortedG p parent)) := sortedG_okm _ p parent rfl hp
end Go.Ab.Vg
