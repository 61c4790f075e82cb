/- Merged texts (8 of 10) of the proof that ends in Dy: Dcw Dz. -/
import Derived.Test.YthoblfcjmhppiaaDoorAbQd7
/- Walks by program for YthoblfcjmhppiaaDoorAbDc. -/
namespace Go.Ab.Vg
open Go.Proofs
set_option linter.unusedSimpArgs false
set_option linter.unusedVariables false
theorem e34 : Ent Tryd.prog 34 := Ent.of Tryd.func34 (by kernel_rfl) rfl
theorem ambientSig_walk  (Z : (List Control) → Prop) (h : ambientSig_wp  Z) : PureC Tryd.prog 34 [] (fun r => ∃ y : List Control, Z y ∧ r = .list true (y.map Control.cells)) := by
  unfold ambientSig_wp at h
  refine PureC.of Tryd.func34 rfl Tryd.ntmps34 (by simp) fun Q hQ => ?_
  refine Runs.cut (fun ρ H n => True) (by trivial) ?_
  rintro ρ H n1 -
  refine Runs.seqE Ty_ok (by decide) fun k' hk' => ?_
  simp []
  refine hk' _ _ _ ?_
  refine Runs.seqE Ty_ok (by decide) fun k' hk' => ?_
  simp [Control.cells, List.range_succ, intC, strC]
  refine hk' _ _ _ ?_
  exact Runs.ret1 (v := .list true ([(Control.mk [97, 109, 98] 1 0), (Control.mk [105, 110] 1 1), (Control.mk [111, 117, 116] 1 1), (Control.mk [111, 112, 101, 110] 1 1)].map Control.cells)) Tryd.func34 Tryd.results34 (by simp [Control.cells, List.range_succ, intC, strC]) (hQ _ _ _ _ (.of (.fresh (by simp [Control.cells, strC, intC, intC]))) ⟨[(Control.mk [97, 109, 98] 1 0), (Control.mk [105, 110] 1 1), (Control.mk [111, 117, 116] 1 1), (Control.mk [111, 112, 101, 110] 1 1)], h, rfl⟩)

theorem ambientSig_ok   : PureC Tryd.prog 34 [] (fun r => r = .list true ((ambientSig ).map Control.cells)) := (ambientSig_walk  _ (ambientSig_vc  )).mono (by rintro _ ⟨_, rfl, rfl⟩; rfl)

theorem e27 : Ent Tryd.prog 27 := Ent.of Tryd.func27 (by kernel_rfl) rfl
theorem l12Sig_walk  (Z : (List Control) → Prop) (h : l12Sig_wp  Z) : PureC Tryd.prog 27 [] (fun r => ∃ y : List Control, Z y ∧ r = .list true (y.map Control.cells)) := by
  unfold l12Sig_wp at h
  refine PureC.of Tryd.func27 rfl Tryd.ntmps27 (by simp) fun Q hQ => ?_
  refine Runs.cut (fun ρ H n => True) (by trivial) ?_
  rintro ρ H n1 -
  refine Runs.seqE Ty_ok (by decide) fun k' hk' => ?_
  simp []
  refine hk' _ _ _ ?_
  refine Runs.seqE Ty_ok (by decide) fun k' hk' => ?_
  simp [Control.cells, List.range_succ, intC, strC]
  refine hk' _ _ _ ?_
  exact Runs.ret1 (v := .list true ([(Control.mk [97, 109, 98] 1 0), (Control.mk [105, 110] 1 1), (Control.mk [111, 117, 116] 1 1), (Control.mk [111, 112, 101, 110] 1 1)].map Control.cells)) Tryd.func27 Tryd.results27 (by simp [Control.cells, List.range_succ, intC, strC]) (hQ _ _ _ _ (.of (.fresh (by simp [Control.cells, strC, intC, intC]))) ⟨[(Control.mk [97, 109, 98] 1 0), (Control.mk [105, 110] 1 1), (Control.mk [111, 117, 116] 1 1), (Control.mk [111, 112, 101, 110] 1 1)], h, rfl⟩)

theorem l12Sig_ok   : PureC Tryd.prog 27 [] (fun r => r = .list true ((l12Sig ).map Control.cells)) := (l12Sig_walk  _ (l12Sig_vc  )).mono (by rintro _ ⟨_, rfl, rfl⟩; rfl)

theorem e64 : Ent Tryd.prog 64 := Ent.of Tryd.func64 (by kernel_rfl) rfl
theorem isClosed_walk (b : Big) (Z : Bool → Prop) (h : isClosed_wp b Z) : PureC Tryd.prog 64 [.agg [int b.roots, .list false (b.nodes.map (GNode.cells false)), .list false (b.sites.map intC), int b.edges, .list false (b.outer.map strC), .list false (b.inner.map Wire.cells)]] (fun r => ∃ y : Bool, Z y ∧ r = bool y) := by
  unfold isClosed_wp at h
  refine PureC.of Tryd.func64 rfl Tryd.ntmps64 (by simp) fun Q hQ => ?_
  refine Runs.cut (fun ρ H n => ρ 0 = .agg [int b.roots, .list false (b.nodes.map (GNode.cells false)), .list false (b.sites.map intC), int b.edges, .list false (b.outer.map strC), .list false (b.inner.map Wire.cells)]) (by simp [GNode.cells, Wire.cells, intC, sliceC, strC]) ?_
  rintro ρ H n1 h0
  refine Runs.seqE Ty_ok (by decide) fun k' hk' => ?_
  simp [h0, GNode.cells, Wire.cells, intC, sliceC, strC]
  refine hk' _ _ _ ?_
  refine Runs.cut (fun ρ H n => ρ 1 = .ptr (n1, 1) 1 0 0 ∧ H (n1, 1) = some ⟨6, [[int b.roots, .list false (b.nodes.map (GNode.cells false)), .list false (b.sites.map intC), int b.edges, .list false (b.outer.map strC), .list false (b.inner.map Wire.cells)]]⟩) (by refine ⟨?_, ?_⟩ <;> simp [h0, GNode.cells, Wire.cells, intC, sliceC, strC]) ?_
  clear h0
  rintro ρ H n3 ⟨h1, m1_1⟩
  refine Runs.seqE Ty_ok (by decide) fun k' hk' => ?_
  obtain ⟨J4, hJ5, hr6⟩ := h
  have fin8 : ∀ (s : Bool) (ρ : Env) (H : Heap) (n : Nat), J4 s → (match s with | b7 => ρ 2 = bool b7) → Runs Tryd.prog 64 13 k' ρ H n Q := by
    rintro b7 ρ H n9 h h2
    replace h := hr6 _ h
    refine hk' _ _ _ ?_
    exact Runs.ret1 (v := bool b7) Tryd.func64 Tryd.results64 (by simp [h2, GNode.cells, Wire.cells, intC, sliceC, strC]) (hQ _ _ _ _ (.of (.v _)) ⟨b7, h, rfl⟩)
  replace h := hJ5
  obtain ⟨len10, elen10⟩ : ∃ v : Int, v = (b.sites.length : Int) := ⟨_, rfl⟩
  replace h := h len10 elen10
  have f11 := fun H => len_list (H := H) (fr := false) (f := intC) kd_23 elen10
  obtain ⟨c12, ec12⟩ : ∃ v : Bool, v = decide (len10 = 0) := ⟨_, rfl⟩
  replace h := h c12 ec12
  have f13 := ib_eql (k := .i64) ec12
  rcases Bool.eq_false_or_eq_true c12 with dc12 | dc12
  · replace h := h.1 dc12
    obtain ⟨len14, elen14⟩ : ∃ v : Int, v = (b.inner.length : Int) := ⟨_, rfl⟩
    replace h := h len14 elen14
    have f15 := fun H => len_list (H := H) (fr := false) (f := Wire.cells) kd_35 elen14
    obtain ⟨c16, ec16⟩ : ∃ v : Bool, v = decide (len14 = 0) := ⟨_, rfl⟩
    replace h := h c16 ec16
    have f17 := ib_eql (k := .i64) ec16
    simp [h1, m1_1, f11, f13, f15, f17, dc12, GNode.cells, Wire.cells, intC, sliceC, strC, -intBin, -lenF]
    exact fin8 (c16) _ _ _ h (by simp [h1, m1_1, f11, f13, f15, f17, dc12, GNode.cells, Wire.cells, intC, sliceC, strC, -intBin, -lenF])
  · replace h := h.2 dc12
    simp [h1, m1_1, f11, f13, dc12, GNode.cells, Wire.cells, intC, sliceC, strC, -intBin, -lenF]
    exact fin8 (false) _ _ _ h (by simp [h1, m1_1, f11, f13, dc12, GNode.cells, Wire.cells, intC, sliceC, strC, -intBin, -lenF])

theorem isClosed_ok (b : Big)  : PureC Tryd.prog 64 [.agg [int b.roots, .list false (b.nodes.map (GNode.cells false)), .list false (b.sites.map intC), int b.edges, .list false (b.outer.map strC), .list false (b.inner.map Wire.cells)]] (fun r => r = bool (isClosed b)) := (isClosed_walk b _ (isClosed_vc b )).mono (by rintro _ ⟨_, rfl, rfl⟩; rfl)

theorem e33 : Ent Tryd.prog 33 := Ent.of Tryd.func33 (by kernel_rfl) rfl
theorem isAgent_walk (sig : List Control) (b : Big) (Z : Bool → Prop) (h : isAgent_wp sig b Z) : PureC Tryd.prog 33 [.list false (sig.map Control.cells), .agg [int b.roots, .list false (b.nodes.map (GNode.cells false)), .list false (b.sites.map intC), int b.edges, .list false (b.outer.map strC), .list false (b.inner.map Wire.cells)]] (fun r => ∃ y : Bool, Z y ∧ r = bool y) := by
  unfold isAgent_wp at h
  refine PureC.of Tryd.func33 rfl Tryd.ntmps33 (by simp) fun Q hQ => ?_
  refine Runs.cut (fun ρ H n => ρ 0 = .list false (sig.map Control.cells) ∧ ρ 1 = .agg [int b.roots, .list false (b.nodes.map (GNode.cells false)), .list false (b.sites.map intC), int b.edges, .list false (b.outer.map strC), .list false (b.inner.map Wire.cells)]) (by refine ⟨?_, ?_⟩ <;> simp [Control.cells, GNode.cells, Wire.cells, intC, sliceC, strC]) ?_
  rintro ρ H n1 ⟨h0, h1⟩
  refine Runs.seqE Ty_ok (by decide) fun k' hk' => ?_
  simp [h0, h1, Control.cells, GNode.cells, Wire.cells, intC, sliceC, strC]
  refine hk' _ _ _ ?_
  refine Runs.cut (fun ρ H n => ρ 0 = .list false (sig.map Control.cells) ∧ ρ 3 = .ptr (n1, 3) 1 0 0 ∧ H (n1, 3) = some ⟨6, [[int b.roots, .list false (b.nodes.map (GNode.cells false)), .list false (b.sites.map intC), int b.edges, .list false (b.outer.map strC), .list false (b.inner.map Wire.cells)]]⟩) (by refine ⟨?_, ?_, ?_⟩ <;> simp [h0, h1, Control.cells, GNode.cells, Wire.cells, intC, sliceC, strC]) ?_
  clear h0 h1
  rintro ρ H n3 ⟨h0, h3, m3_1⟩
  refine Runs.seqE Ty_ok (by decide) fun k' hk' => ?_
  obtain ⟨J4, hJ5, hr6⟩ := h
  have fin8 : ∀ (s : Bool) (ρ : Env) (H : Heap) (n : Nat), J4 s → (match s with | b7 => ρ 4 = bool b7) → Runs Tryd.prog 33 12 k' ρ H n Q := by
    rintro b7 ρ H n9 h h4
    replace h := hr6 _ h
    refine hk' _ _ _ ?_
    exact Runs.ret1 (v := bool b7) Tryd.func33 Tryd.results33 (by simp [h4, Control.cells, GNode.cells, Wire.cells, intC, sliceC, strC]) (hQ _ _ _ _ (.of (.v _)) ⟨b7, h, rfl⟩)
  replace h := hJ5
  obtain ⟨hb10, h⟩ := h
  obtain ⟨r11, er11⟩ : ∃ v : Bool, v = goodB sig b := ⟨_, rfl⟩
  replace h := h r11 er11
  simp [h0, h3, m3_1, Control.cells, GNode.cells, Wire.cells, intC, sliceC, strC]
  refine RunK.callA Ty_ok (IsBigraph_ok sig b hb10) e63 (.cons (ArgOk.listF (fr := false) (els := sig.map Control.cells) (by simp [Control.cells, strC, intC, intC])) (.cons (ArgOk.agg (.cons (.v _ _ _) (.cons (ArgOk.nest_Node false b.nodes) (.cons (ArgOk.listF (fr := false) (els := b.sites.map intC) (by simp [intC])) (.cons (.v _ _ _) (.cons (ArgOk.listF (fr := false) (els := b.outer.map strC) (by simp [strC])) (.cons (ArgOk.listF (fr := false) (els := b.inner.map Wire.cells) (by simp [Wire.cells, strC, intC])) .nil))))))) .nil)) (by decide) (by decide) rfl (by simp [h0, h3, m3_1, Control.cells, GNode.cells, Wire.cells, intC, sliceC, strC]) ?_
  rintro _ rfl
  rw [← er11]
  rcases Bool.eq_false_or_eq_true r11 with dr11 | dr11
  · replace h := h.1 dr11
    obtain ⟨r12, er12⟩ : ∃ v : Bool, v = isClosed b := ⟨_, rfl⟩
    replace h := h r12 er12
    simp [h0, h3, m3_1, dr11, Control.cells, GNode.cells, Wire.cells, intC, sliceC, strC]
    refine RunK.callA Ty_ok (isClosed_ok b ) e64 (.cons (ArgOk.agg (.cons (.v _ _ _) (.cons (ArgOk.nest_Node false b.nodes) (.cons (ArgOk.listF (fr := false) (els := b.sites.map intC) (by simp [intC])) (.cons (.v _ _ _) (.cons (ArgOk.listF (fr := false) (els := b.outer.map strC) (by simp [strC])) (.cons (ArgOk.listF (fr := false) (els := b.inner.map Wire.cells) (by simp [Wire.cells, strC, intC])) .nil))))))) .nil) (by decide) (by decide) rfl (by simp [h0, h3, m3_1, dr11, Control.cells, GNode.cells, Wire.cells, intC, sliceC, strC]) ?_
    rintro _ rfl
    rw [← er12]
    simp [h0, h3, m3_1, dr11, Control.cells, GNode.cells, Wire.cells, intC, sliceC, strC]
    exact fin8 (r12) _ _ _ h (by simp [h0, h3, m3_1, dr11, Control.cells, GNode.cells, Wire.cells, intC, sliceC, strC])
  · replace h := h.2 dr11
    simp [h0, h3, m3_1, dr11, Control.cells, GNode.cells, Wire.cells, intC, sliceC, strC]
    exact fin8 (false) _ _ _ h (by simp [h0, h3, m3_1, dr11, Control.cells, GNode.cells, Wire.cells, intC, sliceC, strC])

theorem isAgent_ok (sig : List Control) (b : Big) (hp : isAgent_pre sig b) : PureC Tryd.prog 33 [.list false (sig.map Control.cells), .agg [int b.roots, .list false (b.nodes.map (GNode.cells false)), .list false (b.sites.map intC), int b.edges, .list false (b.outer.map strC), .list false (b.inner.map Wire.cells)]] (fun r => r = bool (isAgent sig b)) := (isAgent_walk sig b _ (isAgent_vc sig b hp)).mono (by rintro _ ⟨_, rfl, rfl⟩; rfl)

theorem e26 : Ent Tryd.prog 26 := Ent.of Tryd.func26 (by kernel_rfl) rfl
theorem l2Agent_walk (sig : List Control) (b : Big) (Z : Bool → Prop) (h : l2Agent_wp sig b Z) : PureC Tryd.prog 26 [.list false (sig.map Control.cells), .agg [int b.roots, .list false (b.nodes.map (GNode.cells false)), .list false (b.sites.map intC), int b.edges, .list false (b.outer.map strC), .list false (b.inner.map Wire.cells)]] (fun r => ∃ y : Bool, Z y ∧ r = bool y) := by
  unfold l2Agent_wp at h
  refine PureC.of Tryd.func26 rfl Tryd.ntmps26 (by simp) fun Q hQ => ?_
  refine Runs.cut (fun ρ H n => ρ 0 = .list false (sig.map Control.cells) ∧ ρ 1 = .agg [int b.roots, .list false (b.nodes.map (GNode.cells false)), .list false (b.sites.map intC), int b.edges, .list false (b.outer.map strC), .list false (b.inner.map Wire.cells)]) (by refine ⟨?_, ?_⟩ <;> simp [Control.cells, GNode.cells, Wire.cells, intC, sliceC, strC]) ?_
  rintro ρ H n1 ⟨h0, h1⟩
  refine Runs.seqE Ty_ok (by decide) fun k' hk' => ?_
  simp [h0, h1, Control.cells, GNode.cells, Wire.cells, intC, sliceC, strC]
  refine hk' _ _ _ ?_
  refine Runs.cut (fun ρ H n => ρ 0 = .list false (sig.map Control.cells) ∧ ρ 3 = .ptr (n1, 3) 1 0 0 ∧ H (n1, 3) = some ⟨6, [[int b.roots, .list false (b.nodes.map (GNode.cells false)), .list false (b.sites.map intC), int b.edges, .list false (b.outer.map strC), .list false (b.inner.map Wire.cells)]]⟩) (by refine ⟨?_, ?_, ?_⟩ <;> simp [h0, h1, Control.cells, GNode.cells, Wire.cells, intC, sliceC, strC]) ?_
  clear h0 h1
  rintro ρ H n3 ⟨h0, h3, m3_1⟩
  refine Runs.seqE Ty_ok (by decide) fun k' hk' => ?_
  obtain ⟨J4, hJ5, hr6⟩ := h
  have fin8 : ∀ (s : Bool) (ρ : Env) (H : Heap) (n : Nat), J4 s → (match s with | b7 => ρ 4 = bool b7) → Runs Tryd.prog 26 20 k' ρ H n Q := by
    rintro b7 ρ H n9 h h4
    replace h := hr6 _ h
    refine hk' _ _ _ ?_
    exact Runs.ret1 (v := bool b7) Tryd.func26 Tryd.results26 (by simp [h4, Control.cells, GNode.cells, Wire.cells, intC, sliceC, strC]) (hQ _ _ _ _ (.of (.v _)) ⟨b7, h, rfl⟩)
  replace h := hJ5
  obtain ⟨hb10, h⟩ := h
  obtain ⟨r11, er11⟩ : ∃ v : Bool, v = goodB sig b := ⟨_, rfl⟩
  replace h := h r11 er11
  simp [h0, h3, m3_1, Control.cells, GNode.cells, Wire.cells, intC, sliceC, strC]
  refine RunK.callA Ty_ok (l2Good_ok sig b hb10) e60 (.cons (ArgOk.listF (fr := false) (els := sig.map Control.cells) (by simp [Control.cells, strC, intC, intC])) (.cons (ArgOk.agg (.cons (.v _ _ _) (.cons (ArgOk.nest_Node false b.nodes) (.cons (ArgOk.listF (fr := false) (els := b.sites.map intC) (by simp [intC])) (.cons (.v _ _ _) (.cons (ArgOk.listF (fr := false) (els := b.outer.map strC) (by simp [strC])) (.cons (ArgOk.listF (fr := false) (els := b.inner.map Wire.cells) (by simp [Wire.cells, strC, intC])) .nil))))))) .nil)) (by decide) (by decide) rfl (by simp [h0, h3, m3_1, Control.cells, GNode.cells, Wire.cells, intC, sliceC, strC]) ?_
  rintro _ rfl
  rw [← er11]
  rcases Bool.eq_false_or_eq_true r11 with dr11 | dr11
  · replace h := h.1 dr11
    obtain ⟨len12, elen12⟩ : ∃ v : Int, v = (b.sites.length : Int) := ⟨_, rfl⟩
    replace h := h len12 elen12
    have f13 := fun H => len_list (H := H) (fr := false) (f := intC) kd_23 elen12
    obtain ⟨c14, ec14⟩ : ∃ v : Bool, v = decide (len12 = 0) := ⟨_, rfl⟩
    replace h := h c14 ec14
    have f15 := ib_eql (k := .i64) ec14
    rcases Bool.eq_false_or_eq_true c14 with dc14 | dc14
    · replace h := h.1 dc14
      obtain ⟨len16, elen16⟩ : ∃ v : Int, v = (b.inner.length : Int) := ⟨_, rfl⟩
      replace h := h len16 elen16
      have f17 := fun H => len_list (H := H) (fr := false) (f := Wire.cells) kd_35 elen16
      obtain ⟨c18, ec18⟩ : ∃ v : Bool, v = decide (len16 = 0) := ⟨_, rfl⟩
      replace h := h c18 ec18
      have f19 := ib_eql (k := .i64) ec18
      simp [h0, h3, m3_1, f13, f15, f17, f19, dr11, dc14, Control.cells, GNode.cells, Wire.cells, intC, sliceC, strC, -intBin, -lenF]
      exact fin8 (c18) _ _ _ h (by simp [h0, h3, m3_1, f13, f15, f17, f19, dr11, dc14, Control.cells, GNode.cells, Wire.cells, intC, sliceC, strC, -intBin, -lenF])
    · replace h := h.2 dc14
      simp [h0, h3, m3_1, f13, f15, dr11, dc14, Control.cells, GNode.cells, Wire.cells, intC, sliceC, strC, -intBin, -lenF]
      exact fin8 (false) _ _ _ h (by simp [h0, h3, m3_1, f13, f15, dr11, dc14, Control.cells, GNode.cells, Wire.cells, intC, sliceC, strC, -intBin, -lenF])
  · replace h := h.2 dr11
    simp [h0, h3, m3_1, dr11, Control.cells, GNode.cells, Wire.cells, intC, sliceC, strC]
    exact fin8 (false) _ _ _ h (by simp [h0, h3, m3_1, dr11, Control.cells, GNode.cells, Wire.cells, intC, sliceC, strC])

theorem l2Agent_ok (sig : List Control) (b : Big) (hp : l2Agent_pre sig b) : PureC Tryd.prog 26 [.list false (sig.map Control.cells), .agg [int b.roots, .list false (b.nodes.map (GNode.cells false)), .list false (b.sites.map intC), int b.edges, .list false (b.outer.map strC), .list false (b.inner.map Wire.cells)]] (fun r => r = bool (l2Agent sig b)) := (l2Agent_walk sig b _ (l2Agent_vc sig b hp)).mono (by rintro _ ⟨_, rfl, rfl⟩; rfl)

theorem e28 : Ent Tryd.prog 28 := Ent.of Tryd.func28 (by kernel_rfl) rfl
theorem l12Decode_walk (b : Big) (Z : Proc → Prop) (h : l12Decode_wp b Z) : OwnS Tryd.prog 28 [.agg [int b.roots, .list false (b.nodes.map (GNode.cells false)), .list false (b.sites.map intC), int b.edges, .list false (b.outer.map strC), .list false (b.inner.map Wire.cells)]] (.a [.s [.c, .c, .c]]) (fun r => ∃ y : Proc, Z y ∧ r = .agg [.list true (y.map AmbNode.cells)]) := by
  unfold l12Decode_wp at h
  have sp : Sep noHeap 0 [] [] := Sep.nil (by simp)
  refine OwnS.of Tryd.func28 rfl Tryd.ntmps28 (by simp) fun Q hQ => ?_
  refine Runs.cut (fun ρ H n => ρ 0 = .agg [int b.roots, .list false (b.nodes.map (GNode.cells false)), .list false (b.sites.map intC), int b.edges, .list false (b.outer.map strC), .list false (b.inner.map Wire.cells)] ∧ Sep H n [] []) (by refine ⟨?_, sp⟩ <;> simp [GNode.cells, Wire.cells, intC, sliceC, strC]) ?_
  rintro ρ H n1 ⟨h0, sp⟩
  refine Runs.seqE Ty_ok (by decide) fun k' hk' => ?_
  simp [h0, GNode.cells, Wire.cells, intC, sliceC, strC]
  refine hk' _ _ _ ?_
  refine Runs.cut (fun ρ H n => ρ 1 = .ptr (n1, 1) 1 0 0 ∧ ρ 2 = .ptr (n1 + 1, 2) 1 0 0 ∧ H (n1, 1) = some ⟨6, [[int b.roots, .list false (b.nodes.map (GNode.cells false)), .list false (b.sites.map intC), int b.edges, .list false (b.outer.map strC), .list false (b.inner.map Wire.cells)]]⟩ ∧ H (n1 + 1, 2) = some ⟨1, [[.v (.slice none 0 0)]]⟩ ∧ Sep H n [] [(n1 + 1, 2), (n1, 1)]) (by refine ⟨?_, ?_, ?_, ?_, (Sep.var (Sep.var sp))⟩ <;> simp [h0, GNode.cells, Wire.cells, intC, sliceC, strC]) ?_
  clear h0
  rintro ρ H n4 ⟨h1, h2, m1_1, m2_2, sp⟩
  refine Runs.seqE Ty_ok (by decide) fun k' hk' => ?_
  simp [h1, h2, m1_1, m2_2, AmbNode.cells, GNode.cells, Wire.cells, intC, sliceC, strC]
  refine hk' _ _ _ ?_
  refine Runs.cut (fun ρ H n => ∃ (v7 : AVal), ρ 1 = .ptr (n1, 1) 1 0 0 ∧ ρ 2 = .ptr (n1 + 1, 2) 1 0 0 ∧ ρ 3 = .ptr (n4 + 1, 3) 1 0 0 ∧ H (n1, 1) = some ⟨6, [[int b.roots, .list false (b.nodes.map (GNode.cells false)), .list false (b.sites.map intC), int b.edges, .list false (b.outer.map strC), .list false (b.inner.map Wire.cells)]]⟩ ∧ H (n1 + 1, 2) = some ⟨1, [[.v (.slice none 0 0)]]⟩ ∧ H (n4 + 1, 3) = some ⟨1, [[v7]]⟩ ∧ Sep H n [(.s [.c, .c, .c], v7, .list true (([] : List AmbNode).map AmbNode.cells))] [(n4 + 1, 3), (n1 + 1, 2), (n1, 1)]) (by refine ⟨.arr (n4, 5) 0 0 0, ?_, ?_, ?_, ?_, ?_, ?_, (Sep.var (Sep.addEmpty (l := [.c, .c, .c]) sp))⟩ <;> simp [h1, h2, m1_1, m2_2, AmbNode.cells, GNode.cells, Wire.cells, intC, sliceC, strC]) ?_
  clear h1 h2 m1_1 m2_2
  rintro ρ H n8 ⟨v7, h1, h2, h3, m1_1, m2_2, m3_5, sp⟩
  refine Runs.seq ?_
  refine Runs.seqE Ty_ok (by decide) fun k' hk' => ?_
  simp [h1, h2, h3, m1_1, m2_2, m3_5, AmbNode.cells, GNode.cells, Wire.cells, intC, sliceC, strC]
  refine hk' _ _ _ ?_
  refine Runs.block ?_
  refine Runs.loopW h (fun (s : Int × (List AmbNode)) ρ H n => match s with | (i19, l20) => ∃ (v21 : AVal) (v22 : AVal), ρ 1 = .ptr (n1, 1) 1 0 0 ∧ ρ 2 = .ptr (n1 + 1, 2) 1 0 0 ∧ ρ 3 = .ptr (n4 + 1, 3) 1 0 0 ∧ ρ 4 = int i19 ∧ H (n1, 1) = some ⟨6, [[int b.roots, .list false (b.nodes.map (GNode.cells false)), .list false (b.sites.map intC), int b.edges, .list false (b.outer.map strC), .list false (b.inner.map Wire.cells)]]⟩ ∧ H (n1 + 1, 2) = some ⟨1, [[v21]]⟩ ∧ H (n4 + 1, 3) = some ⟨1, [[v22]]⟩ ∧ Sep H n [(.s [.c, .c, .c], v21, .list true (([] : List AmbNode).map AmbNode.cells)), (.s [.c, .c, .c], v22, .list true (l20.map AmbNode.cells))] [(n4 + 1, 3), (n1 + 1, 2), (n1, 1)]) (by refine ⟨.v (.slice none 0 0), v7, ?_, ?_, ?_, ?_, ?_, ?_, ?_, (Sep.front (K1 := [(.s [.c, .c, .c], v7, .list true (([] : List AmbNode).map AmbNode.cells))]) (K2 := []) (Sep.front (K1 := [(.s [.c, .c, .c], .v (.slice none 0 0), .list true (([] : List AmbNode).map AmbNode.cells))]) (K2 := []) (Sep.addNil sp)))⟩ <;> simp [h1, h2, h3, m1_1, m2_2, m3_5, AmbNode.cells, GNode.cells, Wire.cells, intC, sliceC, strC]) ?_
  clear h1 h2 h3 m1_1 m2_2 m3_5
  rintro ⟨i19, l20⟩ ρ H n23 K h ⟨v21, v22, h1, h2, h3, h4, m1_1, m2_2, m3_5, sp⟩ IH24
  refine Runs.seq ?_
  refine Runs.seqE Ty_ok (by decide) fun k' hk' => ?_
  obtain ⟨len26, elen26⟩ : ∃ v : Int, v = (b.nodes.length : Int) := ⟨_, rfl⟩
  replace h := h len26 elen26
  have f27 := fun H => len_list (H := H) (fr := false) (f := (GNode.cells false)) kd_34 elen26
  obtain ⟨c28, ec28⟩ : ∃ v : Bool, v = decide (i19 < len26) := ⟨_, rfl⟩
  replace h := h c28 ec28
  have f29 := ib_lss (k := .i64) ec28
  simp [h1, h2, h3, h4, m1_1, m2_2, m3_5, f27, f29, AmbNode.cells, GNode.cells, Wire.cells, intC, sliceC, strC, -intBin, -lenF]
  refine hk' _ _ _ ?_
  refine Runs.ite (b := c28) (by simp [h1, h2, h3, h4, m1_1, m2_2, m3_5, AmbNode.cells, GNode.cells, Wire.cells, intC, sliceC, strC]) (fun dc28 => ?_) (fun dc28 => ?_)
  · replace h := h.1 dc28
    refine Runs.skip ?_
    refine Runs.seq ?_
    refine Runs.block ?_
    refine Runs.evalDE Ty_ok kindOp_ok draws (by decide) (by kernel_rfl) fun k' hk' => ?_
    obtain ⟨hb30, h⟩ := h
    obtain ⟨x31, ex31⟩ : ∃ v : GNode, v = at' b.nodes i19 := ⟨_, rfl⟩
    replace h := h x31 ex31
    have f32 := fun H => ix_list (H := H) (fr := false) (f := (GNode.cells false)) (k := .i64) kd_34 (fun _ => rfl) hb30 ex31
    obtain ⟨hb33, h⟩ := h
    obtain ⟨x34, ex34⟩ : ∃ v : GNode, v = at' b.nodes i19 := ⟨_, rfl⟩
    replace h := h x34 ex34
    have hq35 := ex31.trans ex34.symm
    subst hq35
    have f36 := fun H => ix_list (H := H) (fr := false) (f := (GNode.cells false)) (k := .i64) kd_34 (fun _ => rfl) hb33 ex31
    obtain ⟨hb37, h⟩ := h
    obtain ⟨x38, ex38⟩ : ∃ v : Int, v = at' x31.links 0 := ⟨_, rfl⟩
    replace h := h x38 ex38
    have f39 := fun H => ix_list (H := H) (fr := false) (f := intC) (k := .i64) kd_23 (fun _ => rfl) hb37 ex38
    obtain ⟨hb40, h⟩ := h
    obtain ⟨x41, ex41⟩ : ∃ v : Str, v = at' b.outer x38 := ⟨_, rfl⟩
    replace h := h x41 ex41
    have f42 := fun H => ix_list (H := H) (fr := false) (f := strC) (k := .i64) kd_24 (fun _ => rfl) hb40 ex41
    obtain ⟨hb43, h⟩ := h
    obtain ⟨x44, ex44⟩ : ∃ v : GNode, v = at' b.nodes i19 := ⟨_, rfl⟩
    replace h := h x44 ex44
    have hq45 := ex31.trans ex44.symm
    subst hq45
    have f46 := fun H => ix_list (H := H) (fr := false) (f := (GNode.cells false)) (k := .i64) kd_34 (fun _ => rfl) hb43 ex31
    obtain ⟨hb47, h⟩ := h
    obtain ⟨l48, el48⟩ : ∃ v : List AmbNode, v = l20 ++ [(AmbNode.mk x31.control x41 x31.parent)] := ⟨_, rfl⟩
    replace h := h l48 el48
    simp [h1, h2, h3, h4, m1_1, m2_2, m3_5, f32, f36, f39, f42, f46, dc28, AmbNode.cells, GNode.cells, Wire.cells, intC, sliceC, strC, -indexAddrF, -appendF]
    refine bindD_append [] [(.s [.c, .c, .c], v21, .list true (([] : List AmbNode).map AmbNode.cells))] [[int x31.control, str x41, int x31.parent]] [AmbNode.cells (AmbNode.mk x31.control x41 x31.parent)] (Sep.front (K1 := [(.s [.c, .c, .c], v21, .list true (([] : List AmbNode).map AmbNode.cells))]) (K2 := []) sp) kd_29 (by simp) (by simp) (by simp [AmbNode.cells, GNode.cells, Wire.cells, intC, sliceC, strC]) (by simp [-one1, o1_int, o1_bool, o1_str, o1_nil, o1_list, o1_arr, o1_ptr]) (rows_one (Fill.v _ (Fill.v _ (Fill.v _ Fill.nil)))) (by simp) (by simpa using hb47) ?_
    rintro v49 H50 n51 sp hfr52 hle53
    replace sp : Sep H50 n51 [(.s [.c, .c, .c], v49, .list true (l48.map AmbNode.cells)), (.s [.c, .c, .c], v21, .list true (([] : List AmbNode).map AmbNode.cells))] [(n4 + 1, 3), (n1 + 1, 2), (n1, 1)] := by rw [el48, List.map_append]; exact sp
    have m1_1 : H50 (n1, 1) = some ⟨6, [[int b.roots, .list false (b.nodes.map (GNode.cells false)), .list false (b.sites.map intC), int b.edges, .list false (b.outer.map strC), .list false (b.inner.map Wire.cells)]]⟩ := (hfr52 _ (by simp)).trans (by simp [h1, h2, h3, h4, m1_1, m2_2, m3_5, Heap.get_set])
    have m2_2 : H50 (n1 + 1, 2) = some ⟨1, [[v21]]⟩ := (hfr52 _ (by simp)).trans (by simp [h1, h2, h3, h4, m1_1, m2_2, m3_5, Heap.get_set])
    have m3_5 : H50 (n4 + 1, 3) = some ⟨1, [[v22]]⟩ := (hfr52 _ (by simp)).trans (by simp [h1, h2, h3, h4, m1_1, m2_2, m3_5, Heap.get_set])
    have f55 := cell_own (Sep.cells sp)
    have f56 := cell_own (Sep.one1 sp)
    simp [h1, h2, h3, h4, m1_1, m2_2, m3_5, f32, f36, f39, f42, f46, f55, f56, dc28, AmbNode.cells, GNode.cells, Wire.cells, intC, sliceC, strC, -cellsA, -indexAddrF, -one1, cA_int, cA_bool, cA_str, cA_nil, cA_agg, cA_list, cA_arr, cA_ptr, o1_int, o1_bool, o1_str, o1_nil, o1_list, o1_arr, o1_ptr]
    refine hk' _ _ _ ?_
    refine Runs.cut (fun ρ H n => ∃ (v57 : AVal) (v58 : AVal), ρ 1 = .ptr (n1, 1) 1 0 0 ∧ ρ 2 = .ptr (n1 + 1, 2) 1 0 0 ∧ ρ 3 = .ptr (n4 + 1, 3) 1 0 0 ∧ ρ 4 = int i19 ∧ H (n1, 1) = some ⟨6, [[int b.roots, .list false (b.nodes.map (GNode.cells false)), .list false (b.sites.map intC), int b.edges, .list false (b.outer.map strC), .list false (b.inner.map Wire.cells)]]⟩ ∧ H (n1 + 1, 2) = some ⟨1, [[v58]]⟩ ∧ H (n4 + 1, 3) = some ⟨1, [[v57]]⟩ ∧ Sep H n [(.s [.c, .c, .c], v57, .list true (l48.map AmbNode.cells)), (.s [.c, .c, .c], v58, .list true (([] : List AmbNode).map AmbNode.cells))] [(n4 + 1, 3), (n1 + 1, 2), (n1, 1)]) (by refine ⟨v49, v21, ?_, ?_, ?_, ?_, ?_, ?_, ?_, (Sep.front (K1 := [(.s [.c, .c, .c], v21, .list true (([] : List AmbNode).map AmbNode.cells))]) (K2 := []) (Sep.front (K1 := [(.s [.c, .c, .c], v49, .list true (l48.map AmbNode.cells))]) (K2 := []) (Sep.setVar (w := (n4 + 1, 3)) sp (by simp))))⟩ <;> simp [h1, h2, h3, h4, m1_1, m2_2, m3_5, f32, f36, f39, f42, f46, f55, f56, dc28, AmbNode.cells, GNode.cells, Wire.cells, intC, sliceC, strC, -cellsA, -indexAddrF, -one1, cA_int, cA_bool, cA_str, cA_nil, cA_agg, cA_list, cA_arr, cA_ptr, o1_int, o1_bool, o1_str, o1_nil, o1_list, o1_arr, o1_ptr]) ?_
    clear h1 h2 h3 h4 m1_1 m2_2 m3_5
    rintro ρ H n59 ⟨v57, v58, h1, h2, h3, h4, m1_1, m2_2, m3_5, sp⟩
    refine Runs.inBlock ?_
    refine Runs.evalE Ty_ok (by decide) fun k' hk' => ?_
    obtain ⟨hb60, h⟩ := h
    obtain ⟨v61, ev61⟩ : ∃ v : Int, v = i19 + 1 := ⟨_, rfl⟩
    replace h := h v61 ev61
    have f62 := ib_add hb60 ev61
    simp [h1, h2, h3, h4, m1_1, m2_2, m3_5, f62, dc28, AmbNode.cells, GNode.cells, Wire.cells, intC, sliceC, strC, -intBin]
    refine hk' _ _ _ ?_
    refine IH24 (v61, l48) _ _ _ h (by refine ⟨v58, v57, ?_, ?_, ?_, ?_, ?_, ?_, ?_, (Sep.front (K1 := [(.s [.c, .c, .c], v57, .list true (l48.map AmbNode.cells))]) (K2 := []) sp)⟩ <;> simp [h1, h2, h3, h4, m1_1, m2_2, m3_5, dc28, AmbNode.cells, GNode.cells, Wire.cells, intC, sliceC, strC])
  · replace h := h.2 dc28
    refine Runs.exit rfl ?_
    refine Runs.seqE Ty_ok (by decide) fun k' hk' => ?_
    have f63 := cell_own (Sep.cells (Sep.front (K1 := [(.s [.c, .c, .c], v21, .list true (([] : List AmbNode).map AmbNode.cells))]) (K2 := []) sp))
    have f64 := cell_own (Sep.one1 (Sep.front (K1 := [(.s [.c, .c, .c], v21, .list true (([] : List AmbNode).map AmbNode.cells))]) (K2 := []) sp))
    simp [h1, h2, h3, h4, m1_1, m2_2, m3_5, f63, f64, dc28, AmbNode.cells, GNode.cells, Wire.cells, intC, sliceC, strC, -cellsA, -one1, cA_int, cA_bool, cA_str, cA_nil, cA_agg, cA_list, cA_arr, cA_ptr, o1_int, o1_bool, o1_str, o1_nil, o1_list, o1_arr, o1_ptr]
    refine hk' _ _ _ ?_
    refine Runs.cut (fun ρ H n => ∃ (v65 : AVal), ρ 2 = .ptr (n1 + 1, 2) 1 0 0 ∧ H (n1 + 1, 2) = some ⟨1, [[v65]]⟩ ∧ Sep H n [(.s [.c, .c, .c], v65, .list true (l20.map AmbNode.cells))] [(n1 + 1, 2)]) (by refine ⟨v22, ?_, ?_, (Sep.sub (Sep.right (K1 := [(.s [.c, .c, .c], v21, .list true (([] : List AmbNode).map AmbNode.cells))]) (K2 := [(.s [.c, .c, .c], v22, .list true (l20.map AmbNode.cells))]) (Sep.setVar (w := (n1 + 1, 2)) sp (by simp))) (by simp +contextual))⟩ <;> simp [h1, h2, h3, h4, m1_1, m2_2, m3_5, f63, f64, dc28, AmbNode.cells, GNode.cells, Wire.cells, intC, sliceC, strC, -cellsA, -one1, cA_int, cA_bool, cA_str, cA_nil, cA_agg, cA_list, cA_arr, cA_ptr, o1_int, o1_bool, o1_str, o1_nil, o1_list, o1_arr, o1_ptr]) ?_
    clear h1 h2 h3 h4 m1_1 m2_2 m3_5
    rintro ρ H n66 ⟨v65, h2, m2_2, sp⟩
    exact Runs.res1 Ty_ok (v := .agg [v65]) Tryd.func28 Tryd.results28 (by simp [h2, m2_2, dc28, resA, AmbNode.cells, GNode.cells, Wire.cells, intC, sliceC, strC]) (hQ _ _ _ _ (Sep.sub (ids' := []) (Sep.pack (K := []) (Fill.own Fill.nil) sp) (by simp)) ⟨l20, h, rfl⟩)

theorem l12Decode_ok (b : Big) (hp : l12Decode_pre b) : OwnS Tryd.prog 28 [.agg [int b.roots, .list false (b.nodes.map (GNode.cells false)), .list false (b.sites.map intC), int b.edges, .list false (b.outer.map strC), .list false (b.inner.map Wire.cells)]] (.a [.s [.c, .c, .c]]) (fun r => r = .agg [.list true ((l12Decode b).map AmbNode.cells)]) := (l12Decode_walk b _ (l12Decode_vc b hp)).mono (by rintro _ ⟨_, rfl, rfl⟩; rfl)

theorem e9 : Ent Tryd.prog 9 := Ent.of Tryd.func9 (by kernel_rfl) rfl
theorem DecodeProcess_walk (b : Big) (Z : (Proc × Bool) → Prop) (h : DecodeProcess_wp b Z) : OwnS Tryd.prog 9 [.agg [int b.roots, .list false (b.nodes.map (GNode.cells false)), .list false (b.sites.map intC), int b.edges, .list false (b.outer.map strC), .list false (b.inner.map Wire.cells)]] (.t [.a [.s [.c, .c, .c]], .c]) (fun r => ∃ y : Proc × Bool, Z y ∧ r = .tup [.agg [.list true (y.1.map AmbNode.cells)], bool y.2]) := by
  unfold DecodeProcess_wp at h
  have sp : Sep noHeap 0 [] [] := Sep.nil (by simp)
  refine OwnS.of Tryd.func9 rfl Tryd.ntmps9 (by simp) fun Q hQ => ?_
  refine Runs.cut (fun ρ H n => ρ 0 = .agg [int b.roots, .list false (b.nodes.map (GNode.cells false)), .list false (b.sites.map intC), int b.edges, .list false (b.outer.map strC), .list false (b.inner.map Wire.cells)] ∧ Sep H n [] []) (by refine ⟨?_, sp⟩ <;> simp [GNode.cells, Wire.cells, intC, sliceC, strC]) ?_
  rintro ρ H n1 ⟨h0, sp⟩
  refine Runs.seqE Ty_ok (by decide) fun k' hk' => ?_
  simp [h0, GNode.cells, Wire.cells, intC, sliceC, strC]
  refine hk' _ _ _ ?_
  refine Runs.cut (fun ρ H n => ρ 1 = .ptr (n1, 1) 1 0 0 ∧ ρ 2 = .ptr (n1 + 1, 2) 1 0 0 ∧ H (n1, 1) = some ⟨6, [[int b.roots, .list false (b.nodes.map (GNode.cells false)), .list false (b.sites.map intC), int b.edges, .list false (b.outer.map strC), .list false (b.inner.map Wire.cells)]]⟩ ∧ H (n1 + 1, 2) = some ⟨1, [[.v (.slice none 0 0)]]⟩ ∧ Sep H n [] [(n1 + 1, 2), (n1, 1)]) (by refine ⟨?_, ?_, ?_, ?_, (Sep.var (Sep.var sp))⟩ <;> simp [h0, GNode.cells, Wire.cells, intC, sliceC, strC]) ?_
  clear h0
  rintro ρ H n4 ⟨h1, h2, m1_1, m2_2, sp⟩
  refine Runs.seq ?_
  refine Runs.seqD Ty_ok kindOp_ok draws (by decide) (by kernel_rfl) fun k' hk' => ?_
  obtain ⟨J5, hJ6, hr7⟩ := h
  have fin9 : ∀ (s : Bool) (ρ : Env) (H : Heap) (n : Nat), J5 s → (match s with | b8 => ρ 1 = .ptr (n1, 1) 1 0 0 ∧ ρ 2 = .ptr (n1 + 1, 2) 1 0 0 ∧ ρ 20 = bool b8 ∧ H (n1, 1) = some ⟨6, [[int b.roots, .list false (b.nodes.map (GNode.cells false)), .list false (b.sites.map intC), int b.edges, .list false (b.outer.map strC), .list false (b.inner.map Wire.cells)]]⟩ ∧ H (n1 + 1, 2) = some ⟨1, [[.v (.slice none 0 0)]]⟩ ∧ Sep H n [] [(n1 + 1, 2), (n1, 1)]) → Runs Tryd.prog 9 51 k' ρ H n Q := by
    rintro b8 ρ H n10 h ⟨h1, h2, h20, m1_1, m2_2, sp⟩
    replace h := hr7 _ h
    refine hk' _ _ _ ?_
    refine Runs.ite (b := b8) (by simp [h1, h2, h20, m1_1, m2_2, GNode.cells, Wire.cells, intC, sliceC, strC]) (fun db8 => ?_) (fun db8 => ?_)
    · replace h := h.1 db8
      refine Runs.seqE Ty_ok (by decide) fun k' hk' => ?_
      simp [h1, h2, h20, m1_1, m2_2, db8, GNode.cells, Wire.cells, intC, sliceC, strC]
      refine hk' _ _ _ ?_
      refine Runs.cut (fun ρ H n => ρ 2 = .ptr (n1 + 1, 2) 1 0 0 ∧ ρ 3 = bool false ∧ H (n1 + 1, 2) = some ⟨1, [[.v (.slice none 0 0)]]⟩ ∧ Sep H n [] [(n1 + 1, 2)]) (by refine ⟨?_, ?_, ?_, (Sep.sub (Sep.setVar (w := (n1 + 1, 2)) sp (by simp)) (by simp +contextual))⟩ <;> simp [h1, h2, h20, m1_1, m2_2, db8, GNode.cells, Wire.cells, intC, sliceC, strC]) ?_
      clear h1 h2 h20 m1_1 m2_2
      rintro ρ H n11 ⟨h2, h3, m2_2, sp⟩
      exact Runs.res2 Ty_ok (v := .agg [.v (.slice none 0 0)]) (w := bool false) Tryd.func9 Tryd.results9 (by simp [h2, h3, m2_2, db8, resA, GNode.cells, Wire.cells, intC, sliceC, strC]) (by simp [h2, h3, m2_2, db8, resA, GNode.cells, Wire.cells, intC, sliceC, strC]) (hQ _ _ _ _ (Sep.sub (ids' := []) (Sep.packT (K := []) (Fill.own (Fill.v _ Fill.nil)) (Sep.pack (K := []) (Fill.own Fill.nil) (Sep.addNil sp))) (by simp)) ⟨([], false), h, rfl⟩)
    · replace h := h.2 db8
      refine Runs.skip ?_
      refine Runs.seqE Ty_ok (by decide) fun k' hk' => ?_
      simp [h1, h2, h20, m1_1, m2_2, db8, GNode.cells, Wire.cells, intC, sliceC, strC]
      refine hk' _ _ _ ?_
      refine Runs.cut (fun ρ H n => ρ 1 = .ptr (n1, 1) 1 0 0 ∧ ρ 2 = .ptr (n1 + 1, 2) 1 0 0 ∧ ρ 4 = .ptr (n10, 4) 1 0 0 ∧ H (n1, 1) = some ⟨6, [[int b.roots, .list false (b.nodes.map (GNode.cells false)), .list false (b.sites.map intC), int b.edges, .list false (b.outer.map strC), .list false (b.inner.map Wire.cells)]]⟩ ∧ H (n1 + 1, 2) = some ⟨1, [[.v (.slice none 0 0)]]⟩ ∧ H (n10, 4) = some ⟨1, [[.v (.slice none 0 0)]]⟩ ∧ Sep H n [] [(n10, 4), (n1 + 1, 2), (n1, 1)]) (by refine ⟨?_, ?_, ?_, ?_, ?_, ?_, (Sep.var sp)⟩ <;> simp [h1, h2, h20, m1_1, m2_2, db8, GNode.cells, Wire.cells, intC, sliceC, strC]) ?_
      clear h1 h2 h20 m1_1 m2_2
      rintro ρ H n16 ⟨h1, h2, h4, m1_1, m2_2, m4_14, sp⟩
      refine Runs.seq ?_
      refine Runs.seqE Ty_ok (by decide) fun k' hk' => ?_
      obtain ⟨len17, elen17⟩ : ∃ v : Int, v = (b.nodes.length : Int) := ⟨_, rfl⟩
      replace h := h len17 elen17
      have f18 := fun H => len_list (H := H) (fr := false) (f := (GNode.cells false)) kd_34 elen17
      simp [h1, h2, h4, m1_1, m2_2, m4_14, f18, db8, GNode.cells, Wire.cells, intC, sliceC, strC, -lenF]
      refine hk' _ _ _ ?_
      refine Runs.block ?_
      refine Runs.loopW h (fun (s : Int × (List AmbNode)) ρ H n => match s with | (v30, l31) => ∃ (v32 : AVal) (v33 : AVal), ρ 1 = .ptr (n1, 1) 1 0 0 ∧ ρ 2 = .ptr (n1 + 1, 2) 1 0 0 ∧ ρ 4 = .ptr (n10, 4) 1 0 0 ∧ ρ 24 = .list false (b.nodes.map (GNode.cells false)) ∧ ρ 25 = int len17 ∧ ρ 26 = int v30 ∧ H (n1, 1) = some ⟨6, [[int b.roots, .list false (b.nodes.map (GNode.cells false)), .list false (b.sites.map intC), int b.edges, .list false (b.outer.map strC), .list false (b.inner.map Wire.cells)]]⟩ ∧ H (n1 + 1, 2) = some ⟨1, [[v33]]⟩ ∧ H (n10, 4) = some ⟨1, [[v32]]⟩ ∧ Sep H n [(.s [.c, .c, .c], v32, .list true (l31.map AmbNode.cells)), (.s [.c, .c, .c], v33, .list true (([] : List AmbNode).map AmbNode.cells))] [(n10, 4), (n1 + 1, 2), (n1, 1)]) (by refine ⟨.v (.slice none 0 0), .v (.slice none 0 0), ?_, ?_, ?_, ?_, ?_, ?_, ?_, ?_, ?_, (Sep.front (K1 := [(.s [.c, .c, .c], .v (.slice none 0 0), .list true (([] : List AmbNode).map AmbNode.cells))]) (K2 := []) (Sep.front (K1 := [(.s [.c, .c, .c], .v (.slice none 0 0), .list true (([] : List AmbNode).map AmbNode.cells))]) (K2 := []) (Sep.addNil (Sep.addNil sp))))⟩ <;> simp [h1, h2, h4, m1_1, m2_2, m4_14, db8, GNode.cells, Wire.cells, intC, sliceC, strC]) ?_
      clear h1 h2 h4 m1_1 m2_2 m4_14
      rintro ⟨v30, l31⟩ ρ H n34 K h ⟨v32, v33, h1, h2, h4, h24, h25, h26, m1_1, m2_2, m4_14, sp⟩ IH35
      refine Runs.seqE Ty_ok (by decide) fun k' hk' => ?_
      obtain ⟨c37, ec37⟩ : ∃ v : Bool, v = decide (v30 < len17) := ⟨_, rfl⟩
      replace h := h c37 ec37
      have f38 := ib_lss (k := .i64) ec37
      simp [h1, h2, h4, h24, h25, h26, m1_1, m2_2, m4_14, f38, db8, GNode.cells, Wire.cells, intC, sliceC, strC, -intBin]
      refine hk' _ _ _ ?_
      refine Runs.seq ?_
      refine Runs.ite (b := c37) (by simp [h1, h2, h4, h24, h25, h26, m1_1, m2_2, m4_14, db8, GNode.cells, Wire.cells, intC, sliceC, strC]) (fun dc37 => ?_) (fun dc37 => ?_)
      · replace h := h.1 dc37
        refine Runs.skip ?_
        refine Runs.seq ?_
        refine Runs.block ?_
        refine Runs.seqE Ty_ok (by decide) fun k' hk' => ?_
        obtain ⟨hb39, h⟩ := h
        obtain ⟨x40, ex40⟩ : ∃ v : GNode, v = at' b.nodes v30 := ⟨_, rfl⟩
        replace h := h x40 ex40
        have f41 := fun H => ix_list (H := H) (fr := false) (f := (GNode.cells false)) (k := .i64) kd_34 (fun _ => rfl) hb39 ex40
        simp [h1, h2, h4, h24, h25, h26, m1_1, m2_2, m4_14, f41, db8, dc37, GNode.cells, Wire.cells, intC, sliceC, strC, -indexAddrF]
        refine hk' _ _ _ ?_
        refine Runs.cut (fun ρ H n => ∃ (v43 : AVal) (v44 : AVal), ρ 1 = .ptr (n1, 1) 1 0 0 ∧ ρ 2 = .ptr (n1 + 1, 2) 1 0 0 ∧ ρ 4 = .ptr (n10, 4) 1 0 0 ∧ ρ 6 = .ptr (n34, 6) 1 0 0 ∧ ρ 24 = .list false (b.nodes.map (GNode.cells false)) ∧ ρ 25 = int len17 ∧ ρ 26 = int v30 ∧ H (n1, 1) = some ⟨6, [[int b.roots, .list false (b.nodes.map (GNode.cells false)), .list false (b.sites.map intC), int b.edges, .list false (b.outer.map strC), .list false (b.inner.map Wire.cells)]]⟩ ∧ H (n1 + 1, 2) = some ⟨1, [[v44]]⟩ ∧ H (n10, 4) = some ⟨1, [[v43]]⟩ ∧ H (n34, 6) = some ⟨3, [[int x40.control, int x40.parent, .list false (x40.links.map intC)]]⟩ ∧ Sep H n [(.s [.c, .c, .c], v43, .list true (l31.map AmbNode.cells)), (.s [.c, .c, .c], v44, .list true (([] : List AmbNode).map AmbNode.cells))] [(n34, 6), (n10, 4), (n1 + 1, 2), (n1, 1)]) (by refine ⟨v32, v33, ?_, ?_, ?_, ?_, ?_, ?_, ?_, ?_, ?_, ?_, ?_, (Sep.front (K1 := [(.s [.c, .c, .c], v33, .list true (([] : List AmbNode).map AmbNode.cells))]) (K2 := []) (Sep.front (K1 := [(.s [.c, .c, .c], v32, .list true (l31.map AmbNode.cells))]) (K2 := []) (Sep.var sp)))⟩ <;> simp [h1, h2, h4, h24, h25, h26, m1_1, m2_2, m4_14, f41, db8, dc37, GNode.cells, Wire.cells, intC, sliceC, strC, -indexAddrF]) ?_
        clear h1 h2 h4 h24 h25 h26 m1_1 m2_2 m4_14
        rintro ρ H n45 ⟨v43, v44, h1, h2, h4, h6, h24, h25, h26, m1_1, m2_2, m4_14, m6_41, sp⟩
        refine Runs.evalDE Ty_ok kindOp_ok draws (by decide) (by kernel_rfl) fun k' hk' => ?_
        obtain ⟨hb46, h⟩ := h
        obtain ⟨v47, ev47⟩ : ∃ v : Int, v = 0 + x40.control := ⟨_, rfl⟩
        replace h := h v47 ev47
        have f48 := ib_add hb46 ev47
        obtain ⟨hb49, h⟩ := h
        obtain ⟨x50, ex50⟩ : ∃ v : Int, v = at' x40.links 0 := ⟨_, rfl⟩
        replace h := h x50 ex50
        have f51 := fun H => ix_list (H := H) (fr := false) (f := intC) (k := .i64) kd_23 (fun _ => rfl) hb49 ex50
        obtain ⟨hb52, h⟩ := h
        obtain ⟨x53, ex53⟩ : ∃ v : Str, v = at' b.outer x50 := ⟨_, rfl⟩
        replace h := h x53 ex53
        have f54 := fun H => ix_list (H := H) (fr := false) (f := strC) (k := .i64) kd_24 (fun _ => rfl) hb52 ex53
        obtain ⟨hb55, h⟩ := h
        obtain ⟨l56, el56⟩ : ∃ v : List AmbNode, v = l31 ++ [(AmbNode.mk v47 x53 x40.parent)] := ⟨_, rfl⟩
        replace h := h l56 el56
        simp [h1, h2, h4, h6, h24, h25, h26, m1_1, m2_2, m4_14, m6_41, f48, f51, f54, db8, dc37, AmbNode.cells, GNode.cells, Wire.cells, intC, sliceC, strC, -indexAddrF, -intBin, -appendF]
        refine bindD_append [] [(.s [.c, .c, .c], v44, .list true (([] : List AmbNode).map AmbNode.cells))] [[int v47, str x53, int x40.parent]] [AmbNode.cells (AmbNode.mk v47 x53 x40.parent)] sp kd_29 (by simp) (by simp) (by simp [AmbNode.cells, GNode.cells, Wire.cells, intC, sliceC, strC]) (by simp [-one1, o1_int, o1_bool, o1_str, o1_nil, o1_list, o1_arr, o1_ptr]) (rows_one (Fill.v _ (Fill.v _ (Fill.v _ Fill.nil)))) (by simp) (by simpa using hb55) ?_
        rintro v57 H58 n59 sp hfr60 hle61
        replace sp : Sep H58 n59 [(.s [.c, .c, .c], v57, .list true (l56.map AmbNode.cells)), (.s [.c, .c, .c], v44, .list true (([] : List AmbNode).map AmbNode.cells))] [(n34, 6), (n10, 4), (n1 + 1, 2), (n1, 1)] := by rw [el56, List.map_append]; exact sp
        have m1_1 : H58 (n1, 1) = some ⟨6, [[int b.roots, .list false (b.nodes.map (GNode.cells false)), .list false (b.sites.map intC), int b.edges, .list false (b.outer.map strC), .list false (b.inner.map Wire.cells)]]⟩ := (hfr60 _ (by simp)).trans (by simp [h1, h2, h4, h6, h24, h25, h26, m1_1, m2_2, m4_14, m6_41, Heap.get_set])
        have m2_2 : H58 (n1 + 1, 2) = some ⟨1, [[v44]]⟩ := (hfr60 _ (by simp)).trans (by simp [h1, h2, h4, h6, h24, h25, h26, m1_1, m2_2, m4_14, m6_41, Heap.get_set])
        have m4_14 : H58 (n10, 4) = some ⟨1, [[v43]]⟩ := (hfr60 _ (by simp)).trans (by simp [h1, h2, h4, h6, h24, h25, h26, m1_1, m2_2, m4_14, m6_41, Heap.get_set])
        have m6_41 : H58 (n34, 6) = some ⟨3, [[int x40.control, int x40.parent, .list false (x40.links.map intC)]]⟩ := (hfr60 _ (by simp)).trans (by simp [h1, h2, h4, h6, h24, h25, h26, m1_1, m2_2, m4_14, m6_41, Heap.get_set])
        have f63 := cell_own (Sep.cells sp)
        have f64 := cell_own (Sep.one1 sp)
        simp [h1, h2, h4, h6, h24, h25, h26, m1_1, m2_2, m4_14, m6_41, f48, f51, f54, f63, f64, db8, dc37, AmbNode.cells, GNode.cells, Wire.cells, intC, sliceC, strC, -cellsA, -indexAddrF, -intBin, -one1, cA_int, cA_bool, cA_str, cA_nil, cA_agg, cA_list, cA_arr, cA_ptr, o1_int, o1_bool, o1_str, o1_nil, o1_list, o1_arr, o1_ptr]
        refine hk' _ _ _ ?_
        refine Runs.cut (fun ρ H n => ∃ (v65 : AVal) (v66 : AVal), ρ 1 = .ptr (n1, 1) 1 0 0 ∧ ρ 2 = .ptr (n1 + 1, 2) 1 0 0 ∧ ρ 4 = .ptr (n10, 4) 1 0 0 ∧ ρ 24 = .list false (b.nodes.map (GNode.cells false)) ∧ ρ 25 = int len17 ∧ ρ 26 = int v30 ∧ H (n1, 1) = some ⟨6, [[int b.roots, .list false (b.nodes.map (GNode.cells false)), .list false (b.sites.map intC), int b.edges, .list false (b.outer.map strC), .list false (b.inner.map Wire.cells)]]⟩ ∧ H (n1 + 1, 2) = some ⟨1, [[v66]]⟩ ∧ H (n10, 4) = some ⟨1, [[v65]]⟩ ∧ Sep H n [(.s [.c, .c, .c], v65, .list true (l56.map AmbNode.cells)), (.s [.c, .c, .c], v66, .list true (([] : List AmbNode).map AmbNode.cells))] [(n10, 4), (n1 + 1, 2), (n1, 1)]) (by refine ⟨v57, v44, ?_, ?_, ?_, ?_, ?_, ?_, ?_, ?_, ?_, (Sep.sub (Sep.front (K1 := [(.s [.c, .c, .c], v44, .list true (([] : List AmbNode).map AmbNode.cells))]) (K2 := []) (Sep.front (K1 := [(.s [.c, .c, .c], v57, .list true (l56.map AmbNode.cells))]) (K2 := []) (Sep.setVar (w := (n10, 4)) sp (by simp)))) (by simp +contextual))⟩ <;> simp [h1, h2, h4, h6, h24, h25, h26, m1_1, m2_2, m4_14, m6_41, f48, f51, f54, f63, f64, db8, dc37, AmbNode.cells, GNode.cells, Wire.cells, intC, sliceC, strC, -cellsA, -indexAddrF, -intBin, -one1, cA_int, cA_bool, cA_str, cA_nil, cA_agg, cA_list, cA_arr, cA_ptr, o1_int, o1_bool, o1_str, o1_nil, o1_list, o1_arr, o1_ptr]) ?_
        clear h1 h2 h4 h6 h24 h25 h26 m1_1 m2_2 m4_14 m6_41
        rintro ρ H n67 ⟨v65, v66, h1, h2, h4, h24, h25, h26, m1_1, m2_2, m4_14, sp⟩
        refine Runs.inBlock ?_
        refine Runs.evalE Ty_ok (by decide) fun k' hk' => ?_
        obtain ⟨hb68, h⟩ := h
        obtain ⟨v69, ev69⟩ : ∃ v : Int, v = v30 + 1 := ⟨_, rfl⟩
        replace h := h v69 ev69
        have f70 := ib_add hb68 ev69
        simp [h1, h2, h4, h24, h25, h26, m1_1, m2_2, m4_14, f70, db8, dc37, AmbNode.cells, GNode.cells, Wire.cells, intC, sliceC, strC, -intBin]
        refine hk' _ _ _ ?_
        refine IH35 (v69, l56) _ _ _ h (by refine ⟨v65, v66, ?_, ?_, ?_, ?_, ?_, ?_, ?_, ?_, ?_, (Sep.front (K1 := [(.s [.c, .c, .c], v66, .list true (([] : List AmbNode).map AmbNode.cells))]) (K2 := []) (Sep.front (K1 := [(.s [.c, .c, .c], v65, .list true (l56.map AmbNode.cells))]) (K2 := []) sp))⟩ <;> simp [h1, h2, h4, h24, h25, h26, m1_1, m2_2, m4_14, db8, dc37, AmbNode.cells, GNode.cells, Wire.cells, intC, sliceC, strC])
      · replace h := h.2 dc37
        refine Runs.exit rfl ?_
        refine Runs.seqE Ty_ok (by decide) fun k' hk' => ?_
        have f71 := cell_own (Sep.cells sp)
        have f72 := cell_own (Sep.one1 sp)
        simp [h1, h2, h4, h24, h25, h26, m1_1, m2_2, m4_14, f71, f72, db8, dc37, AmbNode.cells, GNode.cells, Wire.cells, intC, sliceC, strC, -cellsA, -one1, cA_int, cA_bool, cA_str, cA_nil, cA_agg, cA_list, cA_arr, cA_ptr, o1_int, o1_bool, o1_str, o1_nil, o1_list, o1_arr, o1_ptr]
        refine hk' _ _ _ ?_
        refine Runs.cut (fun ρ H n => ∃ (v73 : AVal), ρ 2 = .ptr (n1 + 1, 2) 1 0 0 ∧ ρ 3 = bool true ∧ H (n1 + 1, 2) = some ⟨1, [[v73]]⟩ ∧ Sep H n [(.s [.c, .c, .c], v73, .list true (l31.map AmbNode.cells))] [(n1 + 1, 2)]) (by refine ⟨v32, ?_, ?_, ?_, (Sep.sub (Sep.right (K1 := [(.s [.c, .c, .c], v33, .list true (([] : List AmbNode).map AmbNode.cells))]) (K2 := [(.s [.c, .c, .c], v32, .list true (l31.map AmbNode.cells))]) (Sep.front (K1 := [(.s [.c, .c, .c], v32, .list true (l31.map AmbNode.cells))]) (K2 := []) (Sep.setVar (w := (n1 + 1, 2)) sp (by simp)))) (by simp +contextual))⟩ <;> simp [h1, h2, h4, h24, h25, h26, m1_1, m2_2, m4_14, f71, f72, db8, dc37, AmbNode.cells, GNode.cells, Wire.cells, intC, sliceC, strC, -cellsA, -one1, cA_int, cA_bool, cA_str, cA_nil, cA_agg, cA_list, cA_arr, cA_ptr, o1_int, o1_bool, o1_str, o1_nil, o1_list, o1_arr, o1_ptr]) ?_
        clear h1 h2 h4 h24 h25 h26 m1_1 m2_2 m4_14
        rintro ρ H n74 ⟨v73, h2, h3, m2_2, sp⟩
        exact Runs.res2 Ty_ok (v := .agg [v73]) (w := bool true) Tryd.func9 Tryd.results9 (by simp [h2, h3, m2_2, db8, dc37, resA, AmbNode.cells, GNode.cells, Wire.cells, intC, sliceC, strC]) (by simp [h2, h3, m2_2, db8, dc37, resA, AmbNode.cells, GNode.cells, Wire.cells, intC, sliceC, strC]) (hQ _ _ _ _ (Sep.sub (ids' := []) (Sep.packT (K := []) (Fill.own (Fill.v _ Fill.nil)) (Sep.pack (K := []) (Fill.own Fill.nil) sp)) (by simp)) ⟨(l31, true), h, rfl⟩)
  replace h := hJ6
  obtain ⟨r77, er77⟩ : ∃ v : List Control, v = ambientSig  := ⟨_, rfl⟩
  replace h := h r77 er77
  simp [h1, h2, m1_1, m2_2, AmbNode.cells, GNode.cells, Wire.cells, intC, sliceC, strC]
  refine RunDK.callA Ty_ok kindOp_ok (ambientSig_ok  ) e34 .nil (by decide) rfl (by simp [h1, h2, m1_1, m2_2, AmbNode.cells, GNode.cells, Wire.cells, intC, sliceC, strC]) ?_
  rw [← er77]
  obtain ⟨hb78, h⟩ := h
  obtain ⟨r79, er79⟩ : ∃ v : Bool, v = isAgent r77 b := ⟨_, rfl⟩
  replace h := h r79 er79
  simp [h1, h2, m1_1, m2_2, AmbNode.cells, Control.cells, GNode.cells, Wire.cells, intC, sliceC, strC]
  refine RunDK.callA Ty_ok kindOp_ok (isAgent_ok r77 b hb78) e33 (.cons (ArgOk.listF (fr := true) (els := r77.map Control.cells) (by simp [Control.cells, strC, intC, intC])) (.cons (ArgOk.agg (.cons (.v _ _ _) (.cons (ArgOk.nest_Node false b.nodes) (.cons (ArgOk.listF (fr := false) (els := b.sites.map intC) (by simp [intC])) (.cons (.v _ _ _) (.cons (ArgOk.listF (fr := false) (els := b.outer.map strC) (by simp [strC])) (.cons (ArgOk.listF (fr := false) (els := b.inner.map Wire.cells) (by simp [Wire.cells, strC, intC])) .nil))))))) .nil)) (by decide) rfl (by simp [h1, h2, m1_1, m2_2, AmbNode.cells, Control.cells, GNode.cells, Wire.cells, intC, sliceC, strC]) ?_
  rw [← er79]
  rcases Bool.eq_false_or_eq_true r79 with dr79 | dr79
  · replace h := h.1 dr79
    obtain ⟨c80, ec80⟩ : ∃ v : Bool, v = decide (b.roots ≠ 1) := ⟨_, rfl⟩
    replace h := h c80 ec80
    have f81 := ib_neq (k := .i64) ec80
    rcases Bool.eq_false_or_eq_true c80 with dc80 | dc80
    · replace h := h.1 dc80
      simp [h1, h2, m1_1, m2_2, f81, dr79, dc80, AmbNode.cells, Control.cells, GNode.cells, Wire.cells, intC, sliceC, strC, -intBin]
      exact fin9 (true) _ _ _ h (by refine ⟨?_, ?_, ?_, ?_, ?_, sp⟩ <;> simp [h1, h2, m1_1, m2_2, f81, dr79, dc80, AmbNode.cells, Control.cells, GNode.cells, Wire.cells, intC, sliceC, strC, -intBin])
    · replace h := h.2 dc80
      obtain ⟨c82, ec82⟩ : ∃ v : Bool, v = decide (0 < b.edges) := ⟨_, rfl⟩
      replace h := h c82 ec82
      have f83 := ib_gtr (k := .i64) ec82
      simp [h1, h2, m1_1, m2_2, f81, f83, dr79, dc80, AmbNode.cells, Control.cells, GNode.cells, Wire.cells, intC, sliceC, strC, -intBin]
      exact fin9 (c82) _ _ _ h (by refine ⟨?_, ?_, ?_, ?_, ?_, sp⟩ <;> simp [h1, h2, m1_1, m2_2, f81, f83, dr79, dc80, AmbNode.cells, Control.cells, GNode.cells, Wire.cells, intC, sliceC, strC, -intBin])
  · replace h := h.2 dr79
    simp [h1, h2, m1_1, m2_2, dr79, AmbNode.cells, Control.cells, GNode.cells, Wire.cells, intC, sliceC, strC]
    exact fin9 (true) _ _ _ h (by refine ⟨?_, ?_, ?_, ?_, ?_, sp⟩ <;> simp [h1, h2, m1_1, m2_2, dr79, AmbNode.cells, Control.cells, GNode.cells, Wire.cells, intC, sliceC, strC])

theorem DecodeProcess_ok (b : Big) (hp : DecodeProcess_pre b) : OwnS Tryd.prog 9 [.agg [int b.roots, .list false (b.nodes.map (GNode.cells false)), .list false (b.sites.map intC), int b.edges, .list false (b.outer.map strC), .list false (b.inner.map Wire.cells)]] (.t [.a [.s [.c, .c, .c]], .c]) (fun r => r = .tup [.agg [.list true (((DecodeProcess b).1).map AmbNode.cells)], bool ((DecodeProcess b).2)]) := (DecodeProcess_walk b _ (DecodeProcess_vc b hp)).mono (by rintro _ ⟨_, rfl, rfl⟩; rfl)

theorem e7 : Ent Tryd.prog 7 := Ent.of Tryd.func7 (by kernel_rfl) rfl
theorem sDecodeProcess_walk (b : Big) (Z : (Proc × Bool) → Prop) (h : sDecodeProcess_wp b Z) : OwnS Tryd.prog 7 [.agg [int b.roots, .list false (b.nodes.map (GNode.cells false)), .list false (b.sites.map intC), int b.edges, .list false (b.outer.map strC), .list false (b.inner.map Wire.cells)]] (.t [.a [.s [.c, .c, .c]], .c]) (fun r => ∃ y : Proc × Bool, Z y ∧ r = .tup [.agg [.list true (y.1.map AmbNode.cells)], bool y.2]) := by
  unfold sDecodeProcess_wp at h
  have sp : Sep noHeap 0 [] [] := Sep.nil (by simp)
  refine OwnS.of Tryd.func7 rfl Tryd.ntmps7 (by simp) fun Q hQ => ?_
  refine Runs.cut (fun ρ H n => ρ 0 = .agg [int b.roots, .list false (b.nodes.map (GNode.cells false)), .list false (b.sites.map intC), int b.edges, .list false (b.outer.map strC), .list false (b.inner.map Wire.cells)] ∧ Sep H n [] []) (by refine ⟨?_, sp⟩ <;> simp [GNode.cells, Wire.cells, intC, sliceC, strC]) ?_
  rintro ρ H n1 ⟨h0, sp⟩
  refine Runs.seqE Ty_ok (by decide) fun k' hk' => ?_
  simp [h0, GNode.cells, Wire.cells, intC, sliceC, strC]
  refine hk' _ _ _ ?_
  refine Runs.cut (fun ρ H n => ρ 1 = .ptr (n1, 1) 1 0 0 ∧ ρ 2 = .ptr (n1 + 1, 2) 1 0 0 ∧ H (n1, 1) = some ⟨6, [[int b.roots, .list false (b.nodes.map (GNode.cells false)), .list false (b.sites.map intC), int b.edges, .list false (b.outer.map strC), .list false (b.inner.map Wire.cells)]]⟩ ∧ H (n1 + 1, 2) = some ⟨1, [[.v (.slice none 0 0)]]⟩ ∧ Sep H n [] [(n1 + 1, 2), (n1, 1)]) (by refine ⟨?_, ?_, ?_, ?_, (Sep.var (Sep.var sp))⟩ <;> simp [h0, GNode.cells, Wire.cells, intC, sliceC, strC]) ?_
  clear h0
  rintro ρ H n4 ⟨h1, h2, m1_1, m2_2, sp⟩
  refine Runs.seq ?_
  refine Runs.seqD Ty_ok kindOp_ok draws (by decide) (by kernel_rfl) fun k' hk' => ?_
  obtain ⟨J5, hJ6, hr7⟩ := h
  have fin9 : ∀ (s : Bool) (ρ : Env) (H : Heap) (n : Nat), J5 s → (match s with | b8 => ρ 1 = .ptr (n1, 1) 1 0 0 ∧ ρ 2 = .ptr (n1 + 1, 2) 1 0 0 ∧ ρ 17 = bool b8 ∧ H (n1, 1) = some ⟨6, [[int b.roots, .list false (b.nodes.map (GNode.cells false)), .list false (b.sites.map intC), int b.edges, .list false (b.outer.map strC), .list false (b.inner.map Wire.cells)]]⟩ ∧ H (n1 + 1, 2) = some ⟨1, [[.v (.slice none 0 0)]]⟩ ∧ Sep H n [] [(n1 + 1, 2), (n1, 1)]) → Runs Tryd.prog 7 21 k' ρ H n Q := by
    rintro b8 ρ H n10 h ⟨h1, h2, h17, m1_1, m2_2, sp⟩
    replace h := hr7 _ h
    refine hk' _ _ _ ?_
    refine Runs.ite (b := b8) (by simp [h1, h2, h17, m1_1, m2_2, GNode.cells, Wire.cells, intC, sliceC, strC]) (fun db8 => ?_) (fun db8 => ?_)
    · replace h := h.1 db8
      refine Runs.seqE Ty_ok (by decide) fun k' hk' => ?_
      simp [h1, h2, h17, m1_1, m2_2, db8, GNode.cells, Wire.cells, intC, sliceC, strC]
      refine hk' _ _ _ ?_
      refine Runs.cut (fun ρ H n => ρ 2 = .ptr (n1 + 1, 2) 1 0 0 ∧ ρ 3 = bool false ∧ H (n1 + 1, 2) = some ⟨1, [[.v (.slice none 0 0)]]⟩ ∧ Sep H n [] [(n1 + 1, 2)]) (by refine ⟨?_, ?_, ?_, (Sep.sub (Sep.setVar (w := (n1 + 1, 2)) sp (by simp)) (by simp +contextual))⟩ <;> simp [h1, h2, h17, m1_1, m2_2, db8, GNode.cells, Wire.cells, intC, sliceC, strC]) ?_
      clear h1 h2 h17 m1_1 m2_2
      rintro ρ H n11 ⟨h2, h3, m2_2, sp⟩
      exact Runs.res2 Ty_ok (v := .agg [.v (.slice none 0 0)]) (w := bool false) Tryd.func7 Tryd.results7 (by simp [h2, h3, m2_2, db8, resA, GNode.cells, Wire.cells, intC, sliceC, strC]) (by simp [h2, h3, m2_2, db8, resA, GNode.cells, Wire.cells, intC, sliceC, strC]) (hQ _ _ _ _ (Sep.sub (ids' := []) (Sep.packT (K := []) (Fill.own (Fill.v _ Fill.nil)) (Sep.pack (K := []) (Fill.own Fill.nil) (Sep.addNil sp))) (by simp)) ⟨([], false), h, rfl⟩)
    · replace h := h.2 db8
      refine Runs.skip ?_
      refine Runs.seqE Ty_ok (by decide) fun k' hk' => ?_
      obtain ⟨hb15, h⟩ := h
      obtain ⟨r16, er16⟩ : ∃ v : Proc, v = l12Decode b := ⟨_, rfl⟩
      replace h := h r16 er16
      simp [h1, h2, h17, m1_1, m2_2, db8, GNode.cells, Wire.cells, intC, sliceC, strC]
      refine RunK.callW Ty_ok (l12Decode_ok b hb15) e28 (.cons (ArgOk.agg (.cons (.v _ _ _) (.cons (ArgOk.nest_Node false b.nodes) (.cons (ArgOk.listF (fr := false) (els := b.sites.map intC) (by simp [intC])) (.cons (.v _ _ _) (.cons (ArgOk.listF (fr := false) (els := b.outer.map strC) (by simp [strC])) (.cons (ArgOk.listF (fr := false) (els := b.inner.map Wire.cells) (by simp [Wire.cells, strC, intC])) .nil))))))) .nil) sp (by decide) (by decide) rfl (by simp [h1, h2, h17, m1_1, m2_2, db8, GNode.cells, Wire.cells, intC, sliceC, strC]) ?_
      rintro v17 H18 n19 _ sp rfl hle21 hfr20
      rw [← er16] at sp
      have m1_1 : H18 (n1, 1) = some ⟨6, [[int b.roots, .list false (b.nodes.map (GNode.cells false)), .list false (b.sites.map intC), int b.edges, .list false (b.outer.map strC), .list false (b.inner.map Wire.cells)]]⟩ := (hfr20 _ (by simp)).trans (by simp [h1, h2, h17, m1_1, m2_2, Heap.get_set])
      have m2_2 : H18 (n1 + 1, 2) = some ⟨1, [[.v (.slice none 0 0)]]⟩ := (hfr20 _ (by simp)).trans (by simp [h1, h2, h17, m1_1, m2_2, Heap.get_set])
      replace sp := Sep.unpack sp
      obtain ⟨L24, hv, hl25, sp⟩ := sp
      subst hv
      obtain ⟨v23, hv⟩ := len1 (by simpa using hl25)
      subst hv
      simp only [zip3, List.cons_append, List.nil_append] at sp
      replace sp := Sep.rot sp
      try simp only [List.cons_append, List.nil_append, List.append_assoc] at sp
      replace sp : Sep H18 n19 [(.s [.c, .c, .c], v23, .list true (r16.map AmbNode.cells))] [(n1 + 1, 2), (n1, 1)] := sp
      have f27 := cell_own (Sep.cells sp)
      have f28 := cell_own (Sep.one1 sp)
      simp [h1, h2, h17, m1_1, m2_2, f27, f28, db8, GNode.cells, Wire.cells, intC, sliceC, strC, -cellsA, -one1, cA_int, cA_bool, cA_str, cA_nil, cA_agg, cA_list, cA_arr, cA_ptr, o1_int, o1_bool, o1_str, o1_nil, o1_list, o1_arr, o1_ptr]
      refine hk' _ _ _ ?_
      refine Runs.cut (fun ρ H n => ∃ (v29 : AVal), ρ 2 = .ptr (n1 + 1, 2) 1 0 0 ∧ ρ 3 = bool true ∧ H (n1 + 1, 2) = some ⟨1, [[v29]]⟩ ∧ Sep H n [(.s [.c, .c, .c], v29, .list true (r16.map AmbNode.cells))] [(n1 + 1, 2)]) (by refine ⟨v23, ?_, ?_, ?_, (Sep.sub (Sep.setVar (w := (n1 + 1, 2)) sp (by simp)) (by simp +contextual))⟩ <;> simp [h1, h2, h17, m1_1, m2_2, f27, f28, db8, GNode.cells, Wire.cells, intC, sliceC, strC, -cellsA, -one1, cA_int, cA_bool, cA_str, cA_nil, cA_agg, cA_list, cA_arr, cA_ptr, o1_int, o1_bool, o1_str, o1_nil, o1_list, o1_arr, o1_ptr]) ?_
      clear h1 h2 h17 m1_1 m2_2
      rintro ρ H n30 ⟨v29, h2, h3, m2_2, sp⟩
      exact Runs.res2 Ty_ok (v := .agg [v29]) (w := bool true) Tryd.func7 Tryd.results7 (by simp [h2, h3, m2_2, db8, resA, GNode.cells, Wire.cells, intC, sliceC, strC]) (by simp [h2, h3, m2_2, db8, resA, GNode.cells, Wire.cells, intC, sliceC, strC]) (hQ _ _ _ _ (Sep.sub (ids' := []) (Sep.packT (K := []) (Fill.own (Fill.v _ Fill.nil)) (Sep.pack (K := []) (Fill.own Fill.nil) sp)) (by simp)) ⟨(r16, true), h, rfl⟩)
  replace h := hJ6
  obtain ⟨r33, er33⟩ : ∃ v : List Control, v = l12Sig  := ⟨_, rfl⟩
  replace h := h r33 er33
  simp [h1, h2, m1_1, m2_2, GNode.cells, Wire.cells, intC, sliceC, strC]
  refine RunDK.callA Ty_ok kindOp_ok (l12Sig_ok  ) e27 .nil (by decide) rfl (by simp [h1, h2, m1_1, m2_2, GNode.cells, Wire.cells, intC, sliceC, strC]) ?_
  rw [← er33]
  obtain ⟨hb34, h⟩ := h
  obtain ⟨r35, er35⟩ : ∃ v : Bool, v = l2Agent r33 b := ⟨_, rfl⟩
  replace h := h r35 er35
  simp [h1, h2, m1_1, m2_2, Control.cells, GNode.cells, Wire.cells, intC, sliceC, strC]
  refine RunDK.callA Ty_ok kindOp_ok (l2Agent_ok r33 b hb34) e26 (.cons (ArgOk.listF (fr := true) (els := r33.map Control.cells) (by simp [Control.cells, strC, intC, intC])) (.cons (ArgOk.agg (.cons (.v _ _ _) (.cons (ArgOk.nest_Node false b.nodes) (.cons (ArgOk.listF (fr := false) (els := b.sites.map intC) (by simp [intC])) (.cons (.v _ _ _) (.cons (ArgOk.listF (fr := false) (els := b.outer.map strC) (by simp [strC])) (.cons (ArgOk.listF (fr := false) (els := b.inner.map Wire.cells) (by simp [Wire.cells, strC, intC])) .nil))))))) .nil)) (by decide) rfl (by simp [h1, h2, m1_1, m2_2, Control.cells, GNode.cells, Wire.cells, intC, sliceC, strC]) ?_
  rw [← er35]
  rcases Bool.eq_false_or_eq_true r35 with dr35 | dr35
  · replace h := h.1 dr35
    obtain ⟨c36, ec36⟩ : ∃ v : Bool, v = decide (b.roots ≠ 1) := ⟨_, rfl⟩
    replace h := h c36 ec36
    have f37 := ib_neq (k := .i64) ec36
    rcases Bool.eq_false_or_eq_true c36 with dc36 | dc36
    · replace h := h.1 dc36
      simp [h1, h2, m1_1, m2_2, f37, dr35, dc36, Control.cells, GNode.cells, Wire.cells, intC, sliceC, strC, -intBin]
      exact fin9 (true) _ _ _ h (by refine ⟨?_, ?_, ?_, ?_, ?_, sp⟩ <;> simp [h1, h2, m1_1, m2_2, f37, dr35, dc36, Control.cells, GNode.cells, Wire.cells, intC, sliceC, strC, -intBin])
    · replace h := h.2 dc36
      obtain ⟨c38, ec38⟩ : ∃ v : Bool, v = decide (b.edges ≠ 0) := ⟨_, rfl⟩
      replace h := h c38 ec38
      have f39 := ib_neq (k := .i64) ec38
      simp [h1, h2, m1_1, m2_2, f37, f39, dr35, dc36, Control.cells, GNode.cells, Wire.cells, intC, sliceC, strC, -intBin]
      exact fin9 (c38) _ _ _ h (by refine ⟨?_, ?_, ?_, ?_, ?_, sp⟩ <;> simp [h1, h2, m1_1, m2_2, f37, f39, dr35, dc36, Control.cells, GNode.cells, Wire.cells, intC, sliceC, strC, -intBin])
  · replace h := h.2 dr35
    simp [h1, h2, m1_1, m2_2, dr35, Control.cells, GNode.cells, Wire.cells, intC, sliceC, strC]
    exact fin9 (true) _ _ _ h (by refine ⟨?_, ?_, ?_, ?_, ?_, sp⟩ <;> simp [h1, h2, m1_1, m2_2, dr35, Control.cells, GNode.cells, Wire.cells, intC, sliceC, strC])

theorem sDecodeProcess_ok (b : Big) (hp : sDecodeProcess_pre b) : OwnS Tryd.prog 7 [.agg [int b.roots, .list false (b.nodes.map (GNode.cells false)), .list false (b.sites.map intC), int b.edges, .list false (b.outer.map strC), .list false (b.inner.map Wire.cells)]] (.t [.a [.s [.c, .c, .c]], .c]) (fun r => r = .tup [.agg [.list true (((sDecodeProcess b).1).map AmbNode.cells)], bool ((sDecodeProcess b).2)]) := (sDecodeProcess_walk b _ (sDecodeProcess_vc b hp)).mono (by rintro _ ⟨_, rfl, rfl⟩; rfl)

theorem e12 : Ent Tryd.prog 12 := Ent.of Tryd.func12 (by kernel_rfl) rfl
theorem markBigraph_walk (a : Big) (k_ : Int) (Z : Int → Prop) (h : markBigraph_wp a k_ Z) : EatS Tryd.prog 12 (fun v => [v, int k_]) (.a [.c, .s [.c, .c, .s [.c]], .s [.c], .c, .s [.c], .s [.c, .c]]) (.agg [int a.roots, .list true (a.nodes.map (GNode.cells true)), .list true (a.sites.map intC), int a.edges, .list true (a.outer.map strC), .list true (a.inner.map Wire.cells)]) (fun r => ∃ y : Int, Z y ∧ r = int y) := by
  unfold markBigraph_wp at h
  refine EatS.of Tryd.func12 rfl Tryd.ntmps12 (fun _ => by simp) fun H0 n0 v0 K0 ids0 sp Q hQ => ?_
  have h00 := sp.1
  have hid : ∀ i ∈ ids0, H0 i = H0 i := fun _ _ => rfl
  have hnn : n0 ≤ n0 := Nat.le_refl _
  replace sp := Sep.unpack sp
  obtain ⟨L0, hv, hl0, sp⟩ := sp
  subst hv
  obtain ⟨a0_, a1_, a2_, a3_, a4_, a5_, hv⟩ := len6 (by simpa using hl0)
  subst hv
  simp only [zip3, List.cons_append, List.nil_append] at sp
  replace sp := Sep.scalar sp
  obtain ⟨hv, sp⟩ := sp
  subst hv
  replace sp := Sep.rot sp
  try simp only [List.cons_append, List.nil_append, List.append_assoc] at sp
  replace sp := Sep.rot sp
  try simp only [List.cons_append, List.nil_append, List.append_assoc] at sp
  replace sp := Sep.scalar sp
  obtain ⟨hv, sp⟩ := sp
  subst hv
  replace sp := Sep.rot sp
  try simp only [List.cons_append, List.nil_append, List.append_assoc] at sp
  replace sp := Sep.rot sp
  try simp only [List.cons_append, List.nil_append, List.append_assoc] at sp
  replace sp := Sep.swap (K1 := K0) sp
  simp only [List.cons_append, List.nil_append] at sp
  refine Runs.cut (fun ρ H n => ∃ (v5 : AVal) (v6 : AVal) (v7 : AVal) (v8 : AVal), ρ 0 = .agg [int a.roots, v5, v6, int a.edges, v7, v8] ∧ ρ 1 = int k_ ∧ n0 ≤ n ∧ (∀ i ∈ ids0, H i = H0 i) ∧ Sep H n ((.s [.c, .c, .s [.c]], v5, .list true (a.nodes.map (GNode.cells true))) :: (.s [.c], v6, .list true (a.sites.map intC)) :: (.s [.c], v7, .list true (a.outer.map strC)) :: (.s [.c, .c], v8, .list true (a.inner.map Wire.cells)) :: K0) (ids0)) (by refine ⟨a1_, a2_, a4_, a5_, ?_, ?_, (by omega), hid, (Sep.front (K1 := [(.s [.c], a2_, .list true (a.sites.map intC)), (.s [.c], a4_, .list true (a.outer.map strC)), (.s [.c, .c], a5_, .list true (a.inner.map Wire.cells))]) (K2 := (K0)) (Sep.front (K1 := [(.s [.c], a4_, .list true (a.outer.map strC)), (.s [.c, .c], a5_, .list true (a.inner.map Wire.cells)), (.s [.c, .c, .s [.c]], a1_, .list true (a.nodes.map (GNode.cells true)))]) (K2 := (K0)) (Sep.front (K1 := [(.s [.c, .c], a5_, .list true (a.inner.map Wire.cells)), (.s [.c, .c, .s [.c]], a1_, .list true (a.nodes.map (GNode.cells true))), (.s [.c], a2_, .list true (a.sites.map intC))]) (K2 := (K0)) (Sep.front (K1 := [(.s [.c, .c, .s [.c]], a1_, .list true (a.nodes.map (GNode.cells true))), (.s [.c], a2_, .list true (a.sites.map intC)), (.s [.c], a4_, .list true (a.outer.map strC))]) (K2 := (K0)) sp))))⟩ <;> simp [GNode.cells, Wire.cells, intC, sliceC, strC]) ?_
  rintro ρ H n9 ⟨v5, v6, v7, v8, h0, h1, hnn, hid, sp⟩
  have hq_n9 := hnn
  refine Runs.seqE Ty_ok (by decide) fun k' hk' => ?_
  have f10 := cell_own (Sep.cells sp)
  have f11 := cell_own (Sep.one1 sp)
  have f12 := cell_own (Sep.cells (Sep.front (K1 := [(.s [.c, .c, .s [.c]], v5, .list true (a.nodes.map (GNode.cells true)))]) (K2 := ((.s [.c], v7, .list true (a.outer.map strC)) :: (.s [.c, .c], v8, .list true (a.inner.map Wire.cells)) :: K0)) sp))
  have f13 := cell_own (Sep.one1 (Sep.front (K1 := [(.s [.c, .c, .s [.c]], v5, .list true (a.nodes.map (GNode.cells true)))]) (K2 := ((.s [.c], v7, .list true (a.outer.map strC)) :: (.s [.c, .c], v8, .list true (a.inner.map Wire.cells)) :: K0)) sp))
  have f14 := cell_own (Sep.cells (Sep.front (K1 := [(.s [.c, .c, .s [.c]], v5, .list true (a.nodes.map (GNode.cells true))), (.s [.c], v6, .list true (a.sites.map intC))]) (K2 := ((.s [.c, .c], v8, .list true (a.inner.map Wire.cells)) :: K0)) sp))
  have f15 := cell_own (Sep.one1 (Sep.front (K1 := [(.s [.c, .c, .s [.c]], v5, .list true (a.nodes.map (GNode.cells true))), (.s [.c], v6, .list true (a.sites.map intC))]) (K2 := ((.s [.c, .c], v8, .list true (a.inner.map Wire.cells)) :: K0)) sp))
  have f16 := cell_own (Sep.cells (Sep.front (K1 := [(.s [.c, .c, .s [.c]], v5, .list true (a.nodes.map (GNode.cells true))), (.s [.c], v6, .list true (a.sites.map intC)), (.s [.c], v7, .list true (a.outer.map strC))]) (K2 := (K0)) sp))
  have f17 := cell_own (Sep.one1 (Sep.front (K1 := [(.s [.c, .c, .s [.c]], v5, .list true (a.nodes.map (GNode.cells true))), (.s [.c], v6, .list true (a.sites.map intC)), (.s [.c], v7, .list true (a.outer.map strC))]) (K2 := (K0)) sp))
  simp [h0, h1, f10, f11, f12, f13, f14, f15, f16, f17, GNode.cells, Wire.cells, intC, sliceC, strC, -cellsA, -one1, cA_int, cA_bool, cA_str, cA_nil, cA_agg, cA_list, cA_arr, cA_ptr, o1_int, o1_bool, o1_str, o1_nil, o1_list, o1_arr, o1_ptr]
  refine hk' _ _ _ ?_
  refine Runs.cut (fun ρ H n => ∃ (v19 : AVal) (v20 : AVal) (v21 : AVal) (v22 : AVal), ρ 1 = int k_ ∧ ρ 2 = .ptr (n9, 2) 1 0 0 ∧ H (n9, 2) = some ⟨6, [[int a.roots, v19, v20, int a.edges, v21, v22]]⟩ ∧ n0 ≤ n ∧ (∀ i ∈ ids0, H i = H0 i) ∧ Sep H n ((.s [.c, .c, .s [.c]], v19, .list true (a.nodes.map (GNode.cells true))) :: (.s [.c], v20, .list true (a.sites.map intC)) :: (.s [.c], v21, .list true (a.outer.map strC)) :: (.s [.c, .c], v22, .list true (a.inner.map Wire.cells)) :: K0) ((n9, 2) :: ids0)) (by refine ⟨v5, v6, v7, v8, ?_, ?_, ?_, (by omega), (by intro i hi; have hlt := h00 i hi; repeat (first | exact hid i hi | rw [Heap.get_set_ne _ _ (by rintro rfl; simp at hlt; omega)])), (Sep.front (K1 := [(.s [.c], v6, .list true (a.sites.map intC)), (.s [.c], v7, .list true (a.outer.map strC)), (.s [.c, .c], v8, .list true (a.inner.map Wire.cells))]) (K2 := (K0)) (Sep.front (K1 := [(.s [.c], v7, .list true (a.outer.map strC)), (.s [.c, .c], v8, .list true (a.inner.map Wire.cells)), (.s [.c, .c, .s [.c]], v5, .list true (a.nodes.map (GNode.cells true)))]) (K2 := (K0)) (Sep.front (K1 := [(.s [.c, .c], v8, .list true (a.inner.map Wire.cells)), (.s [.c, .c, .s [.c]], v5, .list true (a.nodes.map (GNode.cells true))), (.s [.c], v6, .list true (a.sites.map intC))]) (K2 := (K0)) (Sep.front (K1 := [(.s [.c, .c, .s [.c]], v5, .list true (a.nodes.map (GNode.cells true))), (.s [.c], v6, .list true (a.sites.map intC)), (.s [.c], v7, .list true (a.outer.map strC))]) (K2 := (K0)) (Sep.var sp)))))⟩ <;> simp [h0, h1, f10, f11, f12, f13, f14, f15, f16, f17, GNode.cells, Wire.cells, intC, sliceC, strC, -cellsA, -one1, cA_int, cA_bool, cA_str, cA_nil, cA_agg, cA_list, cA_arr, cA_ptr, o1_int, o1_bool, o1_str, o1_nil, o1_list, o1_arr, o1_ptr]) ?_
  clear h0 h1
  rintro ρ H n23 ⟨v19, v20, v21, v22, h1, h2, m2_17, hnn, hid, sp⟩
  have hq_n23 := hnn
  refine Runs.seqE Ty_ok (by decide) fun k' hk' => ?_
  obtain ⟨hb24, h⟩ := h
  obtain ⟨r25, er25⟩ : ∃ v : Int, v = markNn a.nodes k_ := ⟨_, rfl⟩
  replace h := h r25 er25
  have f26 := cell_own (Sep.cells sp)
  have f27 := cell_own (Sep.one1 sp)
  simp [h1, h2, m2_17, f26, f27, GNode.cells, Wire.cells, intC, sliceC, strC, -cellsA, -one1, cA_int, cA_bool, cA_str, cA_nil, cA_agg, cA_list, cA_arr, cA_ptr, o1_int, o1_bool, o1_str, o1_nil, o1_list, o1_arr, o1_ptr]
  refine RunK.callE (v := v19) Ty_ok (markNodeS_eat a.nodes k_ hb24) e40 sp (by decide) (by decide) rfl (by simp [h1, h2, m2_17, f26, f27, GNode.cells, Wire.cells, intC, sliceC, strC, -cellsA, -one1, cA_int, cA_bool, cA_str, cA_nil, cA_agg, cA_list, cA_arr, cA_ptr, o1_int, o1_bool, o1_str, o1_nil, o1_list, o1_arr, o1_ptr]) ?_
  rintro _ H28 n29 rfl sp hle31 hfr30
  rw [← er25]
  replace sp : Sep H28 n29 ((.s [.c], v20, .list true (a.sites.map intC)) :: (.s [.c], v21, .list true (a.outer.map strC)) :: (.s [.c, .c], v22, .list true (a.inner.map Wire.cells)) :: K0) ((n9, 2) :: ids0) := sp
  have hid : ∀ i ∈ ids0, H28 i = H0 i := fun i hi => (hfr30 i (by simp [hi])).trans (hid i hi)
  have hnn : n0 ≤ n29 := by omega
  have hq_n29 := hnn
  have m2_17 : H28 (n9, 2) = some ⟨6, [[int a.roots, v19, v20, int a.edges, v21, v22]]⟩ := (hfr30 _ (by simp)).trans (by simp [h1, h2, m2_17, Heap.get_set])
  simp [h1, h2, m2_17, f26, f27, GNode.cells, Wire.cells, intC, sliceC, strC, -cellsA, -one1, cA_int, cA_bool, cA_str, cA_nil, cA_agg, cA_list, cA_arr, cA_ptr, o1_int, o1_bool, o1_str, o1_nil, o1_list, o1_arr, o1_ptr]
  refine hk' _ _ _ ?_
  refine Runs.cut (fun ρ H n => ∃ (v33 : AVal) (v34 : AVal) (v35 : AVal), ρ 1 = int r25 ∧ ρ 2 = .ptr (n9, 2) 1 0 0 ∧ H (n9, 2) = some ⟨6, [[int a.roots, v19, v33, int a.edges, v34, v35]]⟩ ∧ n0 ≤ n ∧ (∀ i ∈ ids0, H i = H0 i) ∧ Sep H n ((.s [.c], v33, .list true (a.sites.map intC)) :: (.s [.c], v34, .list true (a.outer.map strC)) :: (.s [.c, .c], v35, .list true (a.inner.map Wire.cells)) :: K0) ((n9, 2) :: ids0)) (by refine ⟨v20, v21, v22, ?_, ?_, ?_, (by omega), hid, (Sep.front (K1 := [(.s [.c], v21, .list true (a.outer.map strC)), (.s [.c, .c], v22, .list true (a.inner.map Wire.cells))]) (K2 := (K0)) (Sep.front (K1 := [(.s [.c, .c], v22, .list true (a.inner.map Wire.cells)), (.s [.c], v20, .list true (a.sites.map intC))]) (K2 := (K0)) (Sep.front (K1 := [(.s [.c], v20, .list true (a.sites.map intC)), (.s [.c], v21, .list true (a.outer.map strC))]) (K2 := (K0)) sp)))⟩ <;> simp [h1, h2, m2_17, f26, f27, GNode.cells, Wire.cells, intC, sliceC, strC, -cellsA, -one1, cA_int, cA_bool, cA_str, cA_nil, cA_agg, cA_list, cA_arr, cA_ptr, o1_int, o1_bool, o1_str, o1_nil, o1_list, o1_arr, o1_ptr]) ?_
  clear h1 h2 m2_17
  rintro ρ H n36 ⟨v33, v34, v35, h1, h2, m2_17, hnn, hid, sp⟩
  have hq_n36 := hnn
  refine Runs.seqE Ty_ok (by decide) fun k' hk' => ?_
  obtain ⟨hb37, h⟩ := h
  obtain ⟨r38, er38⟩ : ∃ v : (List Int) × Int, v = markIntS a.sites r25 := ⟨_, rfl⟩
  replace h := h r38 er38
  have f39 := cell_own (Sep.cells sp)
  have f40 := cell_own (Sep.one1 sp)
  simp [h1, h2, m2_17, f39, f40, GNode.cells, Wire.cells, intC, sliceC, strC, -cellsA, -one1, cA_int, cA_bool, cA_str, cA_nil, cA_agg, cA_list, cA_arr, cA_ptr, o1_int, o1_bool, o1_str, o1_nil, o1_list, o1_arr, o1_ptr]
  refine RunK.callM (v := v33) Ty_ok (markIntS_ok a.sites r25 hb37) e41 sp (by decide) (by decide) rfl (by simp [h1, h2, m2_17, f39, f40, GNode.cells, Wire.cells, intC, sliceC, strC, -cellsA, -one1, cA_int, cA_bool, cA_str, cA_nil, cA_agg, cA_list, cA_arr, cA_ptr, o1_int, o1_bool, o1_str, o1_nil, o1_list, o1_arr, o1_ptr]) ?_
  rintro _ H41 n42 _ ⟨rfl, rfl⟩ sp hle44 hfr43
  rw [← er38] at sp
  rw [← er38]
  replace sp : Sep H41 n42 ((.s [.c], v33, .list true (r38.1.map intC)) :: (.s [.c], v34, .list true (a.outer.map strC)) :: (.s [.c, .c], v35, .list true (a.inner.map Wire.cells)) :: K0) ((n9, 2) :: ids0) := sp
  have hid : ∀ i ∈ ids0, H41 i = H0 i := fun i hi => (hfr43 i (by simp [hi])).trans (hid i hi)
  have hnn : n0 ≤ n42 := by omega
  have hq_n42 := hnn
  have m2_17 : H41 (n9, 2) = some ⟨6, [[int a.roots, v19, v33, int a.edges, v34, v35]]⟩ := (hfr43 _ (by simp)).trans (by simp [h1, h2, m2_17, Heap.get_set])
  simp [h1, h2, m2_17, f39, f40, GNode.cells, Wire.cells, intC, sliceC, strC, -cellsA, -one1, cA_int, cA_bool, cA_str, cA_nil, cA_agg, cA_list, cA_arr, cA_ptr, o1_int, o1_bool, o1_str, o1_nil, o1_list, o1_arr, o1_ptr]
  refine hk' _ _ _ ?_
  refine Runs.cut (fun ρ H n => ∃ (v46 : AVal) (v47 : AVal) (v48 : AVal), ρ 1 = int r38.2 ∧ ρ 2 = .ptr (n9, 2) 1 0 0 ∧ H (n9, 2) = some ⟨6, [[int a.roots, v19, v46, int a.edges, v47, v48]]⟩ ∧ n0 ≤ n ∧ (∀ i ∈ ids0, H i = H0 i) ∧ Sep H n ((.s [.c], v46, .list true (r38.1.map intC)) :: (.s [.c], v47, .list true (a.outer.map strC)) :: (.s [.c, .c], v48, .list true (a.inner.map Wire.cells)) :: K0) ((n9, 2) :: ids0)) (by refine ⟨v33, v34, v35, ?_, ?_, ?_, (by omega), hid, (Sep.front (K1 := [(.s [.c], v34, .list true (a.outer.map strC)), (.s [.c, .c], v35, .list true (a.inner.map Wire.cells))]) (K2 := (K0)) (Sep.front (K1 := [(.s [.c, .c], v35, .list true (a.inner.map Wire.cells)), (.s [.c], v33, .list true (r38.1.map intC))]) (K2 := (K0)) (Sep.front (K1 := [(.s [.c], v33, .list true (r38.1.map intC)), (.s [.c], v34, .list true (a.outer.map strC))]) (K2 := (K0)) sp)))⟩ <;> simp [h1, h2, m2_17, f39, f40, GNode.cells, Wire.cells, intC, sliceC, strC, -cellsA, -one1, cA_int, cA_bool, cA_str, cA_nil, cA_agg, cA_list, cA_arr, cA_ptr, o1_int, o1_bool, o1_str, o1_nil, o1_list, o1_arr, o1_ptr]) ?_
  clear h1 h2 m2_17
  rintro ρ H n49 ⟨v46, v47, v48, h1, h2, m2_17, hnn, hid, sp⟩
  have hq_n49 := hnn
  refine Runs.seqE Ty_ok (by decide) fun k' hk' => ?_
  obtain ⟨hb50, h⟩ := h
  obtain ⟨r51, er51⟩ : ∃ v : (List Str) × Int, v = markStringS a.outer r38.2 := ⟨_, rfl⟩
  replace h := h r51 er51
  have f52 := cell_own (Sep.cells (Sep.front (K1 := [(.s [.c], v46, .list true (r38.1.map intC))]) (K2 := ((.s [.c, .c], v48, .list true (a.inner.map Wire.cells)) :: K0)) sp))
  have f53 := cell_own (Sep.one1 (Sep.front (K1 := [(.s [.c], v46, .list true (r38.1.map intC))]) (K2 := ((.s [.c, .c], v48, .list true (a.inner.map Wire.cells)) :: K0)) sp))
  simp [h1, h2, m2_17, f52, f53, GNode.cells, Wire.cells, intC, sliceC, strC, -cellsA, -one1, cA_int, cA_bool, cA_str, cA_nil, cA_agg, cA_list, cA_arr, cA_ptr, o1_int, o1_bool, o1_str, o1_nil, o1_list, o1_arr, o1_ptr]
  refine RunK.callM (v := v47) Ty_ok (markStringS_ok a.outer r38.2 hb50) e42 (Sep.front (K1 := [(.s [.c], v46, .list true (r38.1.map intC))]) (K2 := ((.s [.c, .c], v48, .list true (a.inner.map Wire.cells)) :: K0)) sp) (by decide) (by decide) rfl (by simp [h1, h2, m2_17, f52, f53, GNode.cells, Wire.cells, intC, sliceC, strC, -cellsA, -one1, cA_int, cA_bool, cA_str, cA_nil, cA_agg, cA_list, cA_arr, cA_ptr, o1_int, o1_bool, o1_str, o1_nil, o1_list, o1_arr, o1_ptr]) ?_
  rintro _ H54 n55 _ ⟨rfl, rfl⟩ sp hle57 hfr56
  rw [← er51] at sp
  rw [← er51]
  replace sp : Sep H54 n55 ((.s [.c], v47, .list true (r51.1.map strC)) :: (.s [.c], v46, .list true (r38.1.map intC)) :: (.s [.c, .c], v48, .list true (a.inner.map Wire.cells)) :: K0) ((n9, 2) :: ids0) := sp
  have hid : ∀ i ∈ ids0, H54 i = H0 i := fun i hi => (hfr56 i (by simp [hi])).trans (hid i hi)
  have hnn : n0 ≤ n55 := by omega
  have hq_n55 := hnn
  have m2_17 : H54 (n9, 2) = some ⟨6, [[int a.roots, v19, v46, int a.edges, v47, v48]]⟩ := (hfr56 _ (by simp)).trans (by simp [h1, h2, m2_17, Heap.get_set])
  simp [h1, h2, m2_17, f52, f53, GNode.cells, Wire.cells, intC, sliceC, strC, -cellsA, -one1, cA_int, cA_bool, cA_str, cA_nil, cA_agg, cA_list, cA_arr, cA_ptr, o1_int, o1_bool, o1_str, o1_nil, o1_list, o1_arr, o1_ptr]
  refine hk' _ _ _ ?_
  refine Runs.cut (fun ρ H n => ∃ (v59 : AVal) (v60 : AVal) (v61 : AVal), ρ 1 = int r51.2 ∧ ρ 2 = .ptr (n9, 2) 1 0 0 ∧ H (n9, 2) = some ⟨6, [[int a.roots, v19, v60, int a.edges, v59, v61]]⟩ ∧ n0 ≤ n ∧ (∀ i ∈ ids0, H i = H0 i) ∧ Sep H n ((.s [.c], v59, .list true (r51.1.map strC)) :: (.s [.c], v60, .list true (r38.1.map intC)) :: (.s [.c, .c], v61, .list true (a.inner.map Wire.cells)) :: K0) ((n9, 2) :: ids0)) (by refine ⟨v47, v46, v48, ?_, ?_, ?_, (by omega), hid, (Sep.front (K1 := [(.s [.c], v46, .list true (r38.1.map intC)), (.s [.c, .c], v48, .list true (a.inner.map Wire.cells))]) (K2 := (K0)) (Sep.front (K1 := [(.s [.c, .c], v48, .list true (a.inner.map Wire.cells)), (.s [.c], v47, .list true (r51.1.map strC))]) (K2 := (K0)) (Sep.front (K1 := [(.s [.c], v47, .list true (r51.1.map strC)), (.s [.c], v46, .list true (r38.1.map intC))]) (K2 := (K0)) sp)))⟩ <;> simp [h1, h2, m2_17, f52, f53, GNode.cells, Wire.cells, intC, sliceC, strC, -cellsA, -one1, cA_int, cA_bool, cA_str, cA_nil, cA_agg, cA_list, cA_arr, cA_ptr, o1_int, o1_bool, o1_str, o1_nil, o1_list, o1_arr, o1_ptr]) ?_
  clear h1 h2 m2_17
  rintro ρ H n62 ⟨v59, v60, v61, h1, h2, m2_17, hnn, hid, sp⟩
  have hq_n62 := hnn
  refine Runs.seqE Ty_ok (by decide) fun k' hk' => ?_
  obtain ⟨hb63, h⟩ := h
  obtain ⟨r64, er64⟩ : ∃ v : (List Wire) × Int, v = markWireS a.inner r51.2 := ⟨_, rfl⟩
  replace h := h r64 er64
  have f65 := cell_own (Sep.cells (Sep.front (K1 := [(.s [.c], v59, .list true (r51.1.map strC)), (.s [.c], v60, .list true (r38.1.map intC))]) (K2 := (K0)) sp))
  have f66 := cell_own (Sep.one1 (Sep.front (K1 := [(.s [.c], v59, .list true (r51.1.map strC)), (.s [.c], v60, .list true (r38.1.map intC))]) (K2 := (K0)) sp))
  simp [h1, h2, m2_17, f65, f66, GNode.cells, Wire.cells, intC, sliceC, strC, -cellsA, -one1, cA_int, cA_bool, cA_str, cA_nil, cA_agg, cA_list, cA_arr, cA_ptr, o1_int, o1_bool, o1_str, o1_nil, o1_list, o1_arr, o1_ptr]
  refine RunK.callM (v := v61) Ty_ok (markWireS_ok a.inner r51.2 hb63) e43 (Sep.front (K1 := [(.s [.c], v59, .list true (r51.1.map strC)), (.s [.c], v60, .list true (r38.1.map intC))]) (K2 := (K0)) sp) (by decide) (by decide) rfl (by simp [h1, h2, m2_17, f65, f66, GNode.cells, Wire.cells, intC, sliceC, strC, -cellsA, -one1, cA_int, cA_bool, cA_str, cA_nil, cA_agg, cA_list, cA_arr, cA_ptr, o1_int, o1_bool, o1_str, o1_nil, o1_list, o1_arr, o1_ptr]) ?_
  rintro _ H67 n68 _ ⟨rfl, rfl⟩ sp hle70 hfr69
  rw [← er64] at sp
  rw [← er64]
  replace sp : Sep H67 n68 ((.s [.c, .c], v61, .list true (r64.1.map Wire.cells)) :: (.s [.c], v59, .list true (r51.1.map strC)) :: (.s [.c], v60, .list true (r38.1.map intC)) :: K0) ((n9, 2) :: ids0) := sp
  have hid : ∀ i ∈ ids0, H67 i = H0 i := fun i hi => (hfr69 i (by simp [hi])).trans (hid i hi)
  have hnn : n0 ≤ n68 := by omega
  have hq_n68 := hnn
  have m2_17 : H67 (n9, 2) = some ⟨6, [[int a.roots, v19, v60, int a.edges, v59, v61]]⟩ := (hfr69 _ (by simp)).trans (by simp [h1, h2, m2_17, Heap.get_set])
  simp [h1, h2, m2_17, f65, f66, GNode.cells, Wire.cells, intC, sliceC, strC, -cellsA, -one1, cA_int, cA_bool, cA_str, cA_nil, cA_agg, cA_list, cA_arr, cA_ptr, o1_int, o1_bool, o1_str, o1_nil, o1_list, o1_arr, o1_ptr]
  refine hk' _ _ _ ?_
  refine Runs.cut (fun ρ H n => ρ 1 = int r64.2 ∧ n0 ≤ n ∧ (∀ i ∈ ids0, H i = H0 i) ∧ Sep H n (K0) (ids0)) (by refine ⟨?_, (by omega), hid, (Sep.sub (Sep.right (K1 := [(.s [.c], v60, .list true (r38.1.map intC))]) (K2 := (K0)) (Sep.right (K1 := [(.s [.c], v59, .list true (r51.1.map strC))]) (K2 := ((.s [.c], v60, .list true (r38.1.map intC)) :: K0)) (Sep.right (K1 := [(.s [.c, .c], v61, .list true (r64.1.map Wire.cells))]) (K2 := ((.s [.c], v59, .list true (r51.1.map strC)) :: (.s [.c], v60, .list true (r38.1.map intC)) :: K0)) sp))) (by simp +contextual))⟩ <;> simp [h1, h2, m2_17, f65, f66, GNode.cells, Wire.cells, intC, sliceC, strC, -cellsA, -one1, cA_int, cA_bool, cA_str, cA_nil, cA_agg, cA_list, cA_arr, cA_ptr, o1_int, o1_bool, o1_str, o1_nil, o1_list, o1_arr, o1_ptr]) ?_
  clear h1 h2 m2_17
  rintro ρ H n72 ⟨h1, hnn, hid, sp⟩
  have hq_n72 := hnn
  refine Runs.seqE Ty_ok (by decide) fun k' hk' => ?_
  simp [h1, GNode.cells, Wire.cells, intC, sliceC, strC]
  refine hk' _ _ _ ?_
  exact Runs.ret1 (v := int r64.2) Tryd.func12 Tryd.results12 (by simp [h1, GNode.cells, Wire.cells, intC, sliceC, strC]) (hQ _ _ _ (Sep.sub sp (by simp +contextual)) hid (by omega) ⟨r64.2, h, rfl⟩)

theorem markBigraph_ok (a : Big) (k_ : Int) (hp : markBigraph_pre a k_) : EatS Tryd.prog 12 (fun v => [v, int k_]) (.a [.c, .s [.c, .c, .s [.c]], .s [.c], .c, .s [.c], .s [.c, .c]]) (.agg [int a.roots, .list true (a.nodes.map (GNode.cells true)), .list true (a.sites.map intC), int a.edges, .list true (a.outer.map strC), .list true (a.inner.map Wire.cells)]) (fun r => r = int (markBigraph a k_)) := (markBigraph_walk a k_ _ (markBigraph_vc a k_ hp)).mono (by rintro _ ⟨_, rfl, rfl⟩; rfl)

theorem e3 : Ent Tryd.prog 3 := Ent.of Tryd.func3 (by kernel_rfl) rfl
theorem lawDecode_walk (aB : Big) (Z : Bool → Prop) (h : lawDecode_wp aB Z) : PureC Tryd.prog 3 [.agg [int aB.roots, .list false (aB.nodes.map (GNode.cells false)), .list false (aB.sites.map intC), int aB.edges, .list false (aB.outer.map strC), .list false (aB.inner.map Wire.cells)]] (fun r => ∃ y : Bool, Z y ∧ r = bool y) := by
  unfold lawDecode_wp at h
  have sp : Sep noHeap 0 [] [] := Sep.nil (by simp)
  refine PureC.of Tryd.func3 rfl Tryd.ntmps3 (by simp) fun Q hQ => ?_
  refine Runs.cut (fun ρ H n => ρ 0 = .agg [int aB.roots, .list false (aB.nodes.map (GNode.cells false)), .list false (aB.sites.map intC), int aB.edges, .list false (aB.outer.map strC), .list false (aB.inner.map Wire.cells)] ∧ Sep H n [] []) (by refine ⟨?_, sp⟩ <;> simp [GNode.cells, Wire.cells, intC, sliceC, strC]) ?_
  rintro ρ H n1 ⟨h0, sp⟩
  refine Runs.seqE Ty_ok (by decide) fun k' hk' => ?_
  simp [h0, GNode.cells, Wire.cells, intC, sliceC, strC]
  refine hk' _ _ _ ?_
  refine Runs.cut (fun ρ H n => ρ 1 = .ptr (n1, 1) 1 0 0 ∧ H (n1, 1) = some ⟨6, [[int aB.roots, .list false (aB.nodes.map (GNode.cells false)), .list false (aB.sites.map intC), int aB.edges, .list false (aB.outer.map strC), .list false (aB.inner.map Wire.cells)]]⟩ ∧ Sep H n [] [(n1, 1)]) (by refine ⟨?_, ?_, (Sep.var sp)⟩ <;> simp [h0, GNode.cells, Wire.cells, intC, sliceC, strC]) ?_
  clear h0
  rintro ρ H n3 ⟨h1, m1_1, sp⟩
  refine Runs.seqE Ty_ok (by decide) fun k' hk' => ?_
  simp [h1, m1_1, GNode.cells, Wire.cells, intC, sliceC, strC]
  refine hk' _ _ _ ?_
  refine Runs.seqE Ty_ok (by decide) fun k' hk' => ?_
  obtain ⟨hb4, h⟩ := h
  obtain ⟨r5, er5⟩ : ∃ v : Int, v = szB aB 1048576 := ⟨_, rfl⟩
  replace h := h r5 er5
  simp [h1, m1_1, GNode.cells, Wire.cells, intC, sliceC, strC]
  refine RunK.callA Ty_ok (szBigraph_ok aB 1048576 hb4.1.1 hb4.1.2 hb4.2) e6 (.cons (ArgOk.agg (.cons (.v _ _ _) (.cons (ArgOk.nest_Node false aB.nodes) (.cons (ArgOk.listF (fr := false) (els := aB.sites.map intC) (by simp [intC])) (.cons (.v _ _ _) (.cons (ArgOk.listF (fr := false) (els := aB.outer.map strC) (by simp [strC])) (.cons (ArgOk.listF (fr := false) (els := aB.inner.map Wire.cells) (by simp [Wire.cells, strC, intC])) .nil))))))) (.cons (.v _ _ _) .nil)) (by decide) (by decide) rfl (by simp [h1, m1_1, GNode.cells, Wire.cells, intC, sliceC, strC]) ?_
  rintro _ rfl
  rw [← er5]
  simp [h1, m1_1, GNode.cells, Wire.cells, intC, sliceC, strC]
  refine hk' _ _ _ ?_
  refine Runs.seq ?_
  refine Runs.seqE Ty_ok (by decide) fun k' hk' => ?_
  obtain ⟨c6, ec6⟩ : ∃ v : Bool, v = decide (r5 < 0) := ⟨_, rfl⟩
  replace h := h c6 ec6
  have f7 := ib_lss (k := .i64) ec6
  simp [h1, m1_1, f7, GNode.cells, Wire.cells, intC, sliceC, strC, -intBin]
  refine hk' _ _ _ ?_
  refine Runs.ite (b := c6) (by simp [h1, m1_1, GNode.cells, Wire.cells, intC, sliceC, strC]) (fun dc6 => ?_) (fun dc6 => ?_)
  · replace h := h.1 dc6
    refine Runs.seqE Ty_ok (by decide) fun k' hk' => ?_
    simp [h1, m1_1, dc6, GNode.cells, Wire.cells, intC, sliceC, strC]
    refine hk' _ _ _ ?_
    exact Runs.ret1 (v := bool true) Tryd.func3 Tryd.results3 (by simp [h1, m1_1, dc6, GNode.cells, Wire.cells, intC, sliceC, strC]) (hQ _ _ _ _ (.of (.v _)) ⟨true, h, rfl⟩)
  · replace h := h.2 dc6
    refine Runs.skip ?_
    refine Runs.seqE Ty_ok (by decide) fun k' hk' => ?_
    obtain ⟨hb8, h⟩ := h
    obtain ⟨r9, er9⟩ : ∃ v : Big, v = toBigraph aB := ⟨_, rfl⟩
    replace h := h r9 er9
    simp [h1, m1_1, dc6, GNode.cells, Wire.cells, intC, sliceC, strC]
    refine RunK.callW Ty_ok (toBigraph_ok aB hb8) e8 (.cons (ArgOk.agg (.cons (.v _ _ _) (.cons (ArgOk.nest_Node false aB.nodes) (.cons (ArgOk.listF (fr := false) (els := aB.sites.map intC) (by simp [intC])) (.cons (.v _ _ _) (.cons (ArgOk.listF (fr := false) (els := aB.outer.map strC) (by simp [strC])) (.cons (ArgOk.listF (fr := false) (els := aB.inner.map Wire.cells) (by simp [Wire.cells, strC, intC])) .nil))))))) .nil) sp (by decide) (by decide) rfl (by simp [h1, m1_1, dc6, GNode.cells, Wire.cells, intC, sliceC, strC]) ?_
    rintro v10 H11 n12 _ sp rfl hle14 hfr13
    rw [← er9] at sp
    have m1_1 : H11 (n1, 1) = some ⟨6, [[int aB.roots, .list false (aB.nodes.map (GNode.cells false)), .list false (aB.sites.map intC), int aB.edges, .list false (aB.outer.map strC), .list false (aB.inner.map Wire.cells)]]⟩ := (hfr13 _ (by simp)).trans (by simp [h1, m1_1, Heap.get_set])
    replace sp := Sep.unpack sp
    obtain ⟨L22, hv, hl23, sp⟩ := sp
    subst hv
    obtain ⟨v16, v17, v18, v19, v20, v21, hv⟩ := len6 (by simpa using hl23)
    subst hv
    simp only [zip3, List.cons_append, List.nil_append] at sp
    replace sp := Sep.scalar sp
    obtain ⟨hv, sp⟩ := sp
    subst hv
    replace sp := Sep.rot sp
    try simp only [List.cons_append, List.nil_append, List.append_assoc] at sp
    replace sp := Sep.rot sp
    try simp only [List.cons_append, List.nil_append, List.append_assoc] at sp
    replace sp := Sep.scalar sp
    obtain ⟨hv, sp⟩ := sp
    subst hv
    replace sp := Sep.rot sp
    try simp only [List.cons_append, List.nil_append, List.append_assoc] at sp
    replace sp := Sep.rot sp
    try simp only [List.cons_append, List.nil_append, List.append_assoc] at sp
    replace sp : Sep H11 n12 [(.s [.c, .c, .s [.c]], v17, .list true (r9.nodes.map (GNode.cells true))), (.s [.c], v18, .list true (r9.sites.map intC)), (.s [.c], v20, .list true (r9.outer.map strC)), (.s [.c, .c], v21, .list true (r9.inner.map Wire.cells))] [(n1, 1)] := sp
    obtain ⟨hb28, h⟩ := h
    obtain ⟨r29, er29⟩ : ∃ v : Proc × Bool, v = sDecodeProcess r9 := ⟨_, rfl⟩
    replace h := h r29 er29
    simp [h1, m1_1, dc6, GNode.cells, Wire.cells, intC, sliceC, strC]
    refine RunK.callW Ty_ok (sDecodeProcess_ok r9 hb28) e7 (.cons (ArgOk.agg (.cons (.v _ _ _) (.cons (Sep.argOk' sp (old_nest_Node true r9.nodes)) (.cons (Sep.argOk' (Sep.front (K1 := [(.s [.c, .c, .s [.c]], v17, .list true (r9.nodes.map (GNode.cells true)))]) (K2 := [(.s [.c], v20, .list true (r9.outer.map strC)), (.s [.c, .c], v21, .list true (r9.inner.map Wire.cells))]) sp) (old_listF (by simp [intC]))) (.cons (.v _ _ _) (.cons (Sep.argOk' (Sep.front (K1 := [(.s [.c, .c, .s [.c]], v17, .list true (r9.nodes.map (GNode.cells true))), (.s [.c], v18, .list true (r9.sites.map intC))]) (K2 := [(.s [.c, .c], v21, .list true (r9.inner.map Wire.cells))]) sp) (old_listF (by simp [strC]))) (.cons (Sep.argOk' (Sep.front (K1 := [(.s [.c, .c, .s [.c]], v17, .list true (r9.nodes.map (GNode.cells true))), (.s [.c], v18, .list true (r9.sites.map intC)), (.s [.c], v20, .list true (r9.outer.map strC))]) (K2 := []) sp) (old_listF (by simp [Wire.cells, strC, intC]))) .nil))))))) .nil) sp (by decide) (by decide) rfl (by simp [h1, m1_1, dc6, GNode.cells, Wire.cells, intC, sliceC, strC]) ?_
    rintro v30 H31 n32 _ sp rfl hle34 hfr33
    rw [← er29] at sp
    have m1_1 : H31 (n1, 1) = some ⟨6, [[int aB.roots, .list false (aB.nodes.map (GNode.cells false)), .list false (aB.sites.map intC), int aB.edges, .list false (aB.outer.map strC), .list false (aB.inner.map Wire.cells)]]⟩ := (hfr33 _ (by simp)).trans (by simp [h1, m1_1, Heap.get_set])
    replace sp := Sep.unpackT sp
    obtain ⟨L38, hv, hl39, sp⟩ := sp
    subst hv
    obtain ⟨v36, v37, hv⟩ := len2 (by simpa using hl39)
    subst hv
    simp only [zip3, List.cons_append, List.nil_append] at sp
    replace sp := Sep.unpack sp
    obtain ⟨L41, hv, hl42, sp⟩ := sp
    subst hv
    obtain ⟨v40, hv⟩ := len1 (by simpa using hl42)
    subst hv
    simp only [zip3, List.cons_append, List.nil_append] at sp
    replace sp := Sep.rot sp
    try simp only [List.cons_append, List.nil_append, List.append_assoc] at sp
    replace sp := Sep.scalar sp
    obtain ⟨hv, sp⟩ := sp
    subst hv
    replace sp : Sep H31 n32 [(.s [.c, .c, .s [.c]], v17, .list true (r9.nodes.map (GNode.cells true))), (.s [.c], v18, .list true (r9.sites.map intC)), (.s [.c], v20, .list true (r9.outer.map strC)), (.s [.c, .c], v21, .list true (r9.inner.map Wire.cells)), (.s [.c, .c, .c], v40, .list true (r29.1.map AmbNode.cells))] [(n1, 1)] := sp
    have f45 := cell_own (Sep.cells (Sep.front (K1 := [(.s [.c, .c, .s [.c]], v17, .list true (r9.nodes.map (GNode.cells true))), (.s [.c], v18, .list true (r9.sites.map intC)), (.s [.c], v20, .list true (r9.outer.map strC)), (.s [.c, .c], v21, .list true (r9.inner.map Wire.cells))]) (K2 := []) sp))
    have f46 := cell_own (Sep.one1 (Sep.front (K1 := [(.s [.c, .c, .s [.c]], v17, .list true (r9.nodes.map (GNode.cells true))), (.s [.c], v18, .list true (r9.sites.map intC)), (.s [.c], v20, .list true (r9.outer.map strC)), (.s [.c, .c], v21, .list true (r9.inner.map Wire.cells))]) (K2 := []) sp))
    simp [h1, m1_1, f45, f46, dc6, GNode.cells, Wire.cells, intC, sliceC, strC, -cellsA, -one1, cA_int, cA_bool, cA_str, cA_nil, cA_agg, cA_list, cA_arr, cA_ptr, o1_int, o1_bool, o1_str, o1_nil, o1_list, o1_arr, o1_ptr]
    refine hk' _ _ _ ?_
    refine Runs.cut (fun ρ H n => ∃ (v47 : AVal), ρ 1 = .ptr (n1, 1) 1 0 0 ∧ ρ 4 = .ptr (n32, 4) 1 0 0 ∧ ρ 5 = bool r29.2 ∧ H (n1, 1) = some ⟨6, [[int aB.roots, .list false (aB.nodes.map (GNode.cells false)), .list false (aB.sites.map intC), int aB.edges, .list false (aB.outer.map strC), .list false (aB.inner.map Wire.cells)]]⟩ ∧ H (n32, 4) = some ⟨1, [[v47]]⟩ ∧ Sep H n [(.s [.c, .c, .c], v47, .list true (r29.1.map AmbNode.cells))] [(n32, 4), (n1, 1)]) (by refine ⟨v40, ?_, ?_, ?_, ?_, ?_, (Sep.right (K1 := [(.s [.c, .c], v21, .list true (r9.inner.map Wire.cells))]) (K2 := [(.s [.c, .c, .c], v40, .list true (r29.1.map AmbNode.cells))]) (Sep.right (K1 := [(.s [.c], v20, .list true (r9.outer.map strC))]) (K2 := [(.s [.c, .c], v21, .list true (r9.inner.map Wire.cells)), (.s [.c, .c, .c], v40, .list true (r29.1.map AmbNode.cells))]) (Sep.right (K1 := [(.s [.c], v18, .list true (r9.sites.map intC))]) (K2 := [(.s [.c], v20, .list true (r9.outer.map strC)), (.s [.c, .c], v21, .list true (r9.inner.map Wire.cells)), (.s [.c, .c, .c], v40, .list true (r29.1.map AmbNode.cells))]) (Sep.right (K1 := [(.s [.c, .c, .s [.c]], v17, .list true (r9.nodes.map (GNode.cells true)))]) (K2 := [(.s [.c], v18, .list true (r9.sites.map intC)), (.s [.c], v20, .list true (r9.outer.map strC)), (.s [.c, .c], v21, .list true (r9.inner.map Wire.cells)), (.s [.c, .c, .c], v40, .list true (r29.1.map AmbNode.cells))]) (Sep.var sp)))))⟩ <;> simp [h1, m1_1, f45, f46, dc6, GNode.cells, Wire.cells, intC, sliceC, strC, -cellsA, -one1, cA_int, cA_bool, cA_str, cA_nil, cA_agg, cA_list, cA_arr, cA_ptr, o1_int, o1_bool, o1_str, o1_nil, o1_list, o1_arr, o1_ptr]) ?_
    clear h1 m1_1
    rintro ρ H n48 ⟨v47, h1, h4, h5, m1_1, m4_43, sp⟩
    refine Runs.seqE Ty_ok (by decide) fun k' hk' => ?_
    obtain ⟨hb49, h⟩ := h
    obtain ⟨r50, er50⟩ : ∃ v : Big, v = toBigraph aB := ⟨_, rfl⟩
    replace h := h r50 er50
    simp [h1, h4, h5, m1_1, m4_43, dc6, GNode.cells, Wire.cells, intC, sliceC, strC]
    refine RunK.callW Ty_ok (toBigraph_ok aB hb49) e8 (.cons (ArgOk.agg (.cons (.v _ _ _) (.cons (ArgOk.nest_Node false aB.nodes) (.cons (ArgOk.listF (fr := false) (els := aB.sites.map intC) (by simp [intC])) (.cons (.v _ _ _) (.cons (ArgOk.listF (fr := false) (els := aB.outer.map strC) (by simp [strC])) (.cons (ArgOk.listF (fr := false) (els := aB.inner.map Wire.cells) (by simp [Wire.cells, strC, intC])) .nil))))))) .nil) sp (by decide) (by decide) rfl (by simp [h1, h4, h5, m1_1, m4_43, dc6, GNode.cells, Wire.cells, intC, sliceC, strC]) ?_
    rintro v51 H52 n53 _ sp rfl hle55 hfr54
    rw [← er50] at sp
    have m1_1 : H52 (n1, 1) = some ⟨6, [[int aB.roots, .list false (aB.nodes.map (GNode.cells false)), .list false (aB.sites.map intC), int aB.edges, .list false (aB.outer.map strC), .list false (aB.inner.map Wire.cells)]]⟩ := (hfr54 _ (by simp)).trans (by simp [h1, h4, h5, m1_1, m4_43, Heap.get_set])
    have m4_43 : H52 (n32, 4) = some ⟨1, [[v47]]⟩ := (hfr54 _ (by simp)).trans (by simp [h1, h4, h5, m1_1, m4_43, Heap.get_set])
    replace sp := Sep.unpack sp
    obtain ⟨L63, hv, hl64, sp⟩ := sp
    subst hv
    obtain ⟨v57, v58, v59, v60, v61, v62, hv⟩ := len6 (by simpa using hl64)
    subst hv
    simp only [zip3, List.cons_append, List.nil_append] at sp
    replace sp := Sep.scalar sp
    obtain ⟨hv, sp⟩ := sp
    subst hv
    replace sp := Sep.rot sp
    try simp only [List.cons_append, List.nil_append, List.append_assoc] at sp
    replace sp := Sep.rot sp
    try simp only [List.cons_append, List.nil_append, List.append_assoc] at sp
    replace sp := Sep.scalar sp
    obtain ⟨hv, sp⟩ := sp
    subst hv
    replace sp := Sep.rot sp
    try simp only [List.cons_append, List.nil_append, List.append_assoc] at sp
    replace sp := Sep.rot sp
    try simp only [List.cons_append, List.nil_append, List.append_assoc] at sp
    replace sp : Sep H52 n53 [(.s [.c, .c, .c], v47, .list true (r29.1.map AmbNode.cells)), (.s [.c, .c, .s [.c]], v58, .list true (r50.nodes.map (GNode.cells true))), (.s [.c], v59, .list true (r50.sites.map intC)), (.s [.c], v61, .list true (r50.outer.map strC)), (.s [.c, .c], v62, .list true (r50.inner.map Wire.cells))] [(n32, 4), (n1, 1)] := sp
    have f70 := cell_own (Sep.cells (Sep.front (K1 := [(.s [.c, .c, .c], v47, .list true (r29.1.map AmbNode.cells))]) (K2 := [(.s [.c], v59, .list true (r50.sites.map intC)), (.s [.c], v61, .list true (r50.outer.map strC)), (.s [.c, .c], v62, .list true (r50.inner.map Wire.cells))]) sp))
    have f71 := cell_own (Sep.one1 (Sep.front (K1 := [(.s [.c, .c, .c], v47, .list true (r29.1.map AmbNode.cells))]) (K2 := [(.s [.c], v59, .list true (r50.sites.map intC)), (.s [.c], v61, .list true (r50.outer.map strC)), (.s [.c, .c], v62, .list true (r50.inner.map Wire.cells))]) sp))
    have f72 := cell_own (Sep.cells (Sep.front (K1 := [(.s [.c, .c, .c], v47, .list true (r29.1.map AmbNode.cells)), (.s [.c, .c, .s [.c]], v58, .list true (r50.nodes.map (GNode.cells true)))]) (K2 := [(.s [.c], v61, .list true (r50.outer.map strC)), (.s [.c, .c], v62, .list true (r50.inner.map Wire.cells))]) sp))
    have f73 := cell_own (Sep.one1 (Sep.front (K1 := [(.s [.c, .c, .c], v47, .list true (r29.1.map AmbNode.cells)), (.s [.c, .c, .s [.c]], v58, .list true (r50.nodes.map (GNode.cells true)))]) (K2 := [(.s [.c], v61, .list true (r50.outer.map strC)), (.s [.c, .c], v62, .list true (r50.inner.map Wire.cells))]) sp))
    have f74 := cell_own (Sep.cells (Sep.front (K1 := [(.s [.c, .c, .c], v47, .list true (r29.1.map AmbNode.cells)), (.s [.c, .c, .s [.c]], v58, .list true (r50.nodes.map (GNode.cells true))), (.s [.c], v59, .list true (r50.sites.map intC))]) (K2 := [(.s [.c, .c], v62, .list true (r50.inner.map Wire.cells))]) sp))
    have f75 := cell_own (Sep.one1 (Sep.front (K1 := [(.s [.c, .c, .c], v47, .list true (r29.1.map AmbNode.cells)), (.s [.c, .c, .s [.c]], v58, .list true (r50.nodes.map (GNode.cells true))), (.s [.c], v59, .list true (r50.sites.map intC))]) (K2 := [(.s [.c, .c], v62, .list true (r50.inner.map Wire.cells))]) sp))
    have f76 := cell_own (Sep.cells (Sep.front (K1 := [(.s [.c, .c, .c], v47, .list true (r29.1.map AmbNode.cells)), (.s [.c, .c, .s [.c]], v58, .list true (r50.nodes.map (GNode.cells true))), (.s [.c], v59, .list true (r50.sites.map intC)), (.s [.c], v61, .list true (r50.outer.map strC))]) (K2 := []) sp))
    have f77 := cell_own (Sep.one1 (Sep.front (K1 := [(.s [.c, .c, .c], v47, .list true (r29.1.map AmbNode.cells)), (.s [.c, .c, .s [.c]], v58, .list true (r50.nodes.map (GNode.cells true))), (.s [.c], v59, .list true (r50.sites.map intC)), (.s [.c], v61, .list true (r50.outer.map strC))]) (K2 := []) sp))
    simp [h1, h4, h5, m1_1, m4_43, f70, f71, f72, f73, f74, f75, f76, f77, dc6, GNode.cells, Wire.cells, intC, sliceC, strC, -cellsA, -one1, cA_int, cA_bool, cA_str, cA_nil, cA_agg, cA_list, cA_arr, cA_ptr, o1_int, o1_bool, o1_str, o1_nil, o1_list, o1_arr, o1_ptr]
    refine hk' _ _ _ ?_
    refine Runs.cut (fun ρ H n => ∃ (v78 : AVal) (v79 : AVal) (v80 : AVal) (v81 : AVal) (v82 : AVal), ρ 1 = .ptr (n1, 1) 1 0 0 ∧ ρ 4 = .ptr (n32, 4) 1 0 0 ∧ ρ 5 = bool r29.2 ∧ ρ 6 = .ptr (n53, 6) 1 0 0 ∧ H (n1, 1) = some ⟨6, [[int aB.roots, .list false (aB.nodes.map (GNode.cells false)), .list false (aB.sites.map intC), int aB.edges, .list false (aB.outer.map strC), .list false (aB.inner.map Wire.cells)]]⟩ ∧ H (n32, 4) = some ⟨1, [[v78]]⟩ ∧ H (n53, 6) = some ⟨6, [[int r50.roots, v79, v80, int r50.edges, v81, v82]]⟩ ∧ Sep H n [(.s [.c, .c, .c], v78, .list true (r29.1.map AmbNode.cells)), (.s [.c, .c, .s [.c]], v79, .list true (r50.nodes.map (GNode.cells true))), (.s [.c], v80, .list true (r50.sites.map intC)), (.s [.c], v81, .list true (r50.outer.map strC)), (.s [.c, .c], v82, .list true (r50.inner.map Wire.cells))] [(n53, 6), (n32, 4), (n1, 1)]) (by refine ⟨v47, v58, v59, v61, v62, ?_, ?_, ?_, ?_, ?_, ?_, ?_, (Sep.front (K1 := [(.s [.c, .c, .s [.c]], v58, .list true (r50.nodes.map (GNode.cells true))), (.s [.c], v59, .list true (r50.sites.map intC)), (.s [.c], v61, .list true (r50.outer.map strC)), (.s [.c, .c], v62, .list true (r50.inner.map Wire.cells))]) (K2 := []) (Sep.front (K1 := [(.s [.c], v59, .list true (r50.sites.map intC)), (.s [.c], v61, .list true (r50.outer.map strC)), (.s [.c, .c], v62, .list true (r50.inner.map Wire.cells)), (.s [.c, .c, .c], v47, .list true (r29.1.map AmbNode.cells))]) (K2 := []) (Sep.front (K1 := [(.s [.c], v61, .list true (r50.outer.map strC)), (.s [.c, .c], v62, .list true (r50.inner.map Wire.cells)), (.s [.c, .c, .c], v47, .list true (r29.1.map AmbNode.cells)), (.s [.c, .c, .s [.c]], v58, .list true (r50.nodes.map (GNode.cells true)))]) (K2 := []) (Sep.front (K1 := [(.s [.c, .c], v62, .list true (r50.inner.map Wire.cells)), (.s [.c, .c, .c], v47, .list true (r29.1.map AmbNode.cells)), (.s [.c, .c, .s [.c]], v58, .list true (r50.nodes.map (GNode.cells true))), (.s [.c], v59, .list true (r50.sites.map intC))]) (K2 := []) (Sep.front (K1 := [(.s [.c, .c, .c], v47, .list true (r29.1.map AmbNode.cells)), (.s [.c, .c, .s [.c]], v58, .list true (r50.nodes.map (GNode.cells true))), (.s [.c], v59, .list true (r50.sites.map intC)), (.s [.c], v61, .list true (r50.outer.map strC))]) (K2 := []) (Sep.var sp))))))⟩ <;> simp [h1, h4, h5, m1_1, m4_43, f70, f71, f72, f73, f74, f75, f76, f77, dc6, GNode.cells, Wire.cells, intC, sliceC, strC, -cellsA, -one1, cA_int, cA_bool, cA_str, cA_nil, cA_agg, cA_list, cA_arr, cA_ptr, o1_int, o1_bool, o1_str, o1_nil, o1_list, o1_arr, o1_ptr]) ?_
    clear h1 h4 h5 m1_1 m4_43
    rintro ρ H n83 ⟨v78, v79, v80, v81, v82, h1, h4, h5, h6, m1_1, m4_43, m6_68, sp⟩
    refine Runs.seqE Ty_ok (by decide) fun k' hk' => ?_
    obtain ⟨hb84, h⟩ := h
    obtain ⟨r85, er85⟩ : ∃ v : Proc × Bool, v = DecodeProcess r50 := ⟨_, rfl⟩
    replace h := h r85 er85
    simp [h1, h4, h5, h6, m1_1, m4_43, m6_68, dc6, GNode.cells, Wire.cells, intC, sliceC, strC]
    refine RunK.callW Ty_ok (DecodeProcess_ok r50 hb84) e9 (.cons (ArgOk.agg (.cons (.v _ _ _) (.cons (Sep.argOk' (Sep.front (K1 := [(.s [.c, .c, .c], v78, .list true (r29.1.map AmbNode.cells))]) (K2 := [(.s [.c], v80, .list true (r50.sites.map intC)), (.s [.c], v81, .list true (r50.outer.map strC)), (.s [.c, .c], v82, .list true (r50.inner.map Wire.cells))]) sp) (old_nest_Node true r50.nodes)) (.cons (Sep.argOk' (Sep.front (K1 := [(.s [.c, .c, .c], v78, .list true (r29.1.map AmbNode.cells)), (.s [.c, .c, .s [.c]], v79, .list true (r50.nodes.map (GNode.cells true)))]) (K2 := [(.s [.c], v81, .list true (r50.outer.map strC)), (.s [.c, .c], v82, .list true (r50.inner.map Wire.cells))]) sp) (old_listF (by simp [intC]))) (.cons (.v _ _ _) (.cons (Sep.argOk' (Sep.front (K1 := [(.s [.c, .c, .c], v78, .list true (r29.1.map AmbNode.cells)), (.s [.c, .c, .s [.c]], v79, .list true (r50.nodes.map (GNode.cells true))), (.s [.c], v80, .list true (r50.sites.map intC))]) (K2 := [(.s [.c, .c], v82, .list true (r50.inner.map Wire.cells))]) sp) (old_listF (by simp [strC]))) (.cons (Sep.argOk' (Sep.front (K1 := [(.s [.c, .c, .c], v78, .list true (r29.1.map AmbNode.cells)), (.s [.c, .c, .s [.c]], v79, .list true (r50.nodes.map (GNode.cells true))), (.s [.c], v80, .list true (r50.sites.map intC)), (.s [.c], v81, .list true (r50.outer.map strC))]) (K2 := []) sp) (old_listF (by simp [Wire.cells, strC, intC]))) .nil))))))) .nil) sp (by decide) (by decide) rfl (by simp [h1, h4, h5, h6, m1_1, m4_43, m6_68, dc6, GNode.cells, Wire.cells, intC, sliceC, strC]) ?_
    rintro v86 H87 n88 _ sp rfl hle90 hfr89
    rw [← er85] at sp
    have m1_1 : H87 (n1, 1) = some ⟨6, [[int aB.roots, .list false (aB.nodes.map (GNode.cells false)), .list false (aB.sites.map intC), int aB.edges, .list false (aB.outer.map strC), .list false (aB.inner.map Wire.cells)]]⟩ := (hfr89 _ (by simp)).trans (by simp [h1, h4, h5, h6, m1_1, m4_43, m6_68, Heap.get_set])
    have m4_43 : H87 (n32, 4) = some ⟨1, [[v78]]⟩ := (hfr89 _ (by simp)).trans (by simp [h1, h4, h5, h6, m1_1, m4_43, m6_68, Heap.get_set])
    have m6_68 : H87 (n53, 6) = some ⟨6, [[int r50.roots, v79, v80, int r50.edges, v81, v82]]⟩ := (hfr89 _ (by simp)).trans (by simp [h1, h4, h5, h6, m1_1, m4_43, m6_68, Heap.get_set])
    replace sp := Sep.unpackT sp
    obtain ⟨L94, hv, hl95, sp⟩ := sp
    subst hv
    obtain ⟨v92, v93, hv⟩ := len2 (by simpa using hl95)
    subst hv
    simp only [zip3, List.cons_append, List.nil_append] at sp
    replace sp := Sep.unpack sp
    obtain ⟨L97, hv, hl98, sp⟩ := sp
    subst hv
    obtain ⟨v96, hv⟩ := len1 (by simpa using hl98)
    subst hv
    simp only [zip3, List.cons_append, List.nil_append] at sp
    replace sp := Sep.rot sp
    try simp only [List.cons_append, List.nil_append, List.append_assoc] at sp
    replace sp := Sep.scalar sp
    obtain ⟨hv, sp⟩ := sp
    subst hv
    replace sp : Sep H87 n88 [(.s [.c, .c, .c], v78, .list true (r29.1.map AmbNode.cells)), (.s [.c, .c, .s [.c]], v79, .list true (r50.nodes.map (GNode.cells true))), (.s [.c], v80, .list true (r50.sites.map intC)), (.s [.c], v81, .list true (r50.outer.map strC)), (.s [.c, .c], v82, .list true (r50.inner.map Wire.cells)), (.s [.c, .c, .c], v96, .list true (r85.1.map AmbNode.cells))] [(n53, 6), (n32, 4), (n1, 1)] := sp
    have f101 := cell_own (Sep.cells (Sep.front (K1 := [(.s [.c, .c, .c], v78, .list true (r29.1.map AmbNode.cells)), (.s [.c, .c, .s [.c]], v79, .list true (r50.nodes.map (GNode.cells true))), (.s [.c], v80, .list true (r50.sites.map intC)), (.s [.c], v81, .list true (r50.outer.map strC)), (.s [.c, .c], v82, .list true (r50.inner.map Wire.cells))]) (K2 := []) sp))
    have f102 := cell_own (Sep.one1 (Sep.front (K1 := [(.s [.c, .c, .c], v78, .list true (r29.1.map AmbNode.cells)), (.s [.c, .c, .s [.c]], v79, .list true (r50.nodes.map (GNode.cells true))), (.s [.c], v80, .list true (r50.sites.map intC)), (.s [.c], v81, .list true (r50.outer.map strC)), (.s [.c, .c], v82, .list true (r50.inner.map Wire.cells))]) (K2 := []) sp))
    simp [h1, h4, h5, h6, m1_1, m4_43, m6_68, f101, f102, dc6, GNode.cells, Wire.cells, intC, sliceC, strC, -cellsA, -one1, cA_int, cA_bool, cA_str, cA_nil, cA_agg, cA_list, cA_arr, cA_ptr, o1_int, o1_bool, o1_str, o1_nil, o1_list, o1_arr, o1_ptr]
    refine hk' _ _ _ ?_
    refine Runs.cut (fun ρ H n => ∃ (v103 : AVal) (v104 : AVal) (v105 : AVal) (v106 : AVal) (v107 : AVal) (v108 : AVal), ρ 1 = .ptr (n1, 1) 1 0 0 ∧ ρ 4 = .ptr (n32, 4) 1 0 0 ∧ ρ 5 = bool r29.2 ∧ ρ 6 = .ptr (n53, 6) 1 0 0 ∧ ρ 7 = .ptr (n88, 7) 1 0 0 ∧ ρ 8 = bool r85.2 ∧ H (n1, 1) = some ⟨6, [[int aB.roots, .list false (aB.nodes.map (GNode.cells false)), .list false (aB.sites.map intC), int aB.edges, .list false (aB.outer.map strC), .list false (aB.inner.map Wire.cells)]]⟩ ∧ H (n32, 4) = some ⟨1, [[v103]]⟩ ∧ H (n53, 6) = some ⟨6, [[int r50.roots, v104, v105, int r50.edges, v106, v107]]⟩ ∧ H (n88, 7) = some ⟨1, [[v108]]⟩ ∧ Sep H n [(.s [.c, .c, .c], v103, .list true (r29.1.map AmbNode.cells)), (.s [.c, .c, .s [.c]], v104, .list true (r50.nodes.map (GNode.cells true))), (.s [.c], v105, .list true (r50.sites.map intC)), (.s [.c], v106, .list true (r50.outer.map strC)), (.s [.c, .c], v107, .list true (r50.inner.map Wire.cells)), (.s [.c, .c, .c], v108, .list true (r85.1.map AmbNode.cells))] [(n88, 7), (n53, 6), (n32, 4), (n1, 1)]) (by refine ⟨v78, v79, v80, v81, v82, v96, ?_, ?_, ?_, ?_, ?_, ?_, ?_, ?_, ?_, ?_, (Sep.front (K1 := [(.s [.c, .c, .s [.c]], v79, .list true (r50.nodes.map (GNode.cells true))), (.s [.c], v80, .list true (r50.sites.map intC)), (.s [.c], v81, .list true (r50.outer.map strC)), (.s [.c, .c], v82, .list true (r50.inner.map Wire.cells)), (.s [.c, .c, .c], v96, .list true (r85.1.map AmbNode.cells))]) (K2 := []) (Sep.front (K1 := [(.s [.c], v80, .list true (r50.sites.map intC)), (.s [.c], v81, .list true (r50.outer.map strC)), (.s [.c, .c], v82, .list true (r50.inner.map Wire.cells)), (.s [.c, .c, .c], v96, .list true (r85.1.map AmbNode.cells)), (.s [.c, .c, .c], v78, .list true (r29.1.map AmbNode.cells))]) (K2 := []) (Sep.front (K1 := [(.s [.c], v81, .list true (r50.outer.map strC)), (.s [.c, .c], v82, .list true (r50.inner.map Wire.cells)), (.s [.c, .c, .c], v96, .list true (r85.1.map AmbNode.cells)), (.s [.c, .c, .c], v78, .list true (r29.1.map AmbNode.cells)), (.s [.c, .c, .s [.c]], v79, .list true (r50.nodes.map (GNode.cells true)))]) (K2 := []) (Sep.front (K1 := [(.s [.c, .c], v82, .list true (r50.inner.map Wire.cells)), (.s [.c, .c, .c], v96, .list true (r85.1.map AmbNode.cells)), (.s [.c, .c, .c], v78, .list true (r29.1.map AmbNode.cells)), (.s [.c, .c, .s [.c]], v79, .list true (r50.nodes.map (GNode.cells true))), (.s [.c], v80, .list true (r50.sites.map intC))]) (K2 := []) (Sep.front (K1 := [(.s [.c, .c, .c], v96, .list true (r85.1.map AmbNode.cells)), (.s [.c, .c, .c], v78, .list true (r29.1.map AmbNode.cells)), (.s [.c, .c, .s [.c]], v79, .list true (r50.nodes.map (GNode.cells true))), (.s [.c], v80, .list true (r50.sites.map intC)), (.s [.c], v81, .list true (r50.outer.map strC))]) (K2 := []) (Sep.front (K1 := [(.s [.c, .c, .c], v78, .list true (r29.1.map AmbNode.cells)), (.s [.c, .c, .s [.c]], v79, .list true (r50.nodes.map (GNode.cells true))), (.s [.c], v80, .list true (r50.sites.map intC)), (.s [.c], v81, .list true (r50.outer.map strC)), (.s [.c, .c], v82, .list true (r50.inner.map Wire.cells))]) (K2 := []) (Sep.var sp)))))))⟩ <;> simp [h1, h4, h5, h6, m1_1, m4_43, m6_68, f101, f102, dc6, GNode.cells, Wire.cells, intC, sliceC, strC, -cellsA, -one1, cA_int, cA_bool, cA_str, cA_nil, cA_agg, cA_list, cA_arr, cA_ptr, o1_int, o1_bool, o1_str, o1_nil, o1_list, o1_arr, o1_ptr]) ?_
    clear h1 h4 h5 h6 m1_1 m4_43 m6_68
    rintro ρ H n109 ⟨v103, v104, v105, v106, v107, v108, h1, h4, h5, h6, h7, h8, m1_1, m4_43, m6_68, m7_99, sp⟩
    refine Runs.seq ?_
    refine Runs.seqE Ty_ok (by decide) fun k' hk' => ?_
    obtain ⟨J110, hJ111, hr112⟩ := h
    have fin120 : ∀ (s : Bool) (ρ : Env) (H : Heap) (n : Nat), J110 s → (match s with | b113 => ∃ (v114 : AVal) (v115 : AVal) (v116 : AVal) (v117 : AVal) (v118 : AVal) (v119 : AVal), ρ 1 = .ptr (n1, 1) 1 0 0 ∧ ρ 4 = .ptr (n32, 4) 1 0 0 ∧ ρ 5 = bool r29.2 ∧ ρ 6 = .ptr (n53, 6) 1 0 0 ∧ ρ 7 = .ptr (n88, 7) 1 0 0 ∧ ρ 8 = bool r85.2 ∧ ρ 40 = bool b113 ∧ H (n1, 1) = some ⟨6, [[int aB.roots, .list false (aB.nodes.map (GNode.cells false)), .list false (aB.sites.map intC), int aB.edges, .list false (aB.outer.map strC), .list false (aB.inner.map Wire.cells)]]⟩ ∧ H (n32, 4) = some ⟨1, [[v114]]⟩ ∧ H (n53, 6) = some ⟨6, [[int r50.roots, v115, v116, int r50.edges, v117, v118]]⟩ ∧ H (n88, 7) = some ⟨1, [[v119]]⟩ ∧ Sep H n [(.s [.c, .c, .c], v114, .list true (r29.1.map AmbNode.cells)), (.s [.c, .c, .s [.c]], v115, .list true (r50.nodes.map (GNode.cells true))), (.s [.c], v116, .list true (r50.sites.map intC)), (.s [.c], v117, .list true (r50.outer.map strC)), (.s [.c, .c], v118, .list true (r50.inner.map Wire.cells)), (.s [.c, .c, .c], v119, .list true (r85.1.map AmbNode.cells))] [(n88, 7), (n53, 6), (n32, 4), (n1, 1)]) → Runs Tryd.prog 3 96 k' ρ H n Q := by
      rintro b113 ρ H n121 h ⟨v114, v115, v116, v117, v118, v119, h1, h4, h5, h6, h7, h8, h40, m1_1, m4_43, m6_68, m7_99, sp⟩
      replace h := hr112 _ h
      refine hk' _ _ _ ?_
      refine Runs.ite (b := b113) (by simp [h1, h4, h5, h6, h7, h8, h40, m1_1, m4_43, m6_68, m7_99, dc6, GNode.cells, Wire.cells, intC, sliceC, strC]) (fun db113 => ?_) (fun db113 => ?_)
      · replace h := h.1 db113
        refine Runs.seqE Ty_ok (by decide) fun k' hk' => ?_
        simp [h1, h4, h5, h6, h7, h8, h40, m1_1, m4_43, m6_68, m7_99, dc6, db113, GNode.cells, Wire.cells, intC, sliceC, strC]
        refine hk' _ _ _ ?_
        exact Runs.ret1 (v := bool false) Tryd.func3 Tryd.results3 (by simp [h1, h4, h5, h6, h7, h8, h40, m1_1, m4_43, m6_68, m7_99, dc6, db113, GNode.cells, Wire.cells, intC, sliceC, strC]) (hQ _ _ _ _ (.of (.v _)) ⟨false, h, rfl⟩)
      · replace h := h.2 db113
        refine Runs.skip ?_
        refine Runs.seq ?_
        refine Runs.seqD Ty_ok kindOp_ok draws (by decide) (by kernel_rfl) fun k' hk' => ?_
        obtain ⟨hb122, h⟩ := h
        obtain ⟨r123, er123⟩ : ∃ v : Big, v = toBigraph aB := ⟨_, rfl⟩
        replace h := h r123 er123
        simp [h1, h4, h5, h6, h7, h8, h40, m1_1, m4_43, m6_68, m7_99, dc6, db113, GNode.cells, Wire.cells, intC, sliceC, strC]
        refine RunDK.callA Ty_ok kindOp_ok ((toBigraph_ok aB hb122).pure) e8 (.cons (ArgOk.agg (.cons (.v _ _ _) (.cons (ArgOk.nest_Node false aB.nodes) (.cons (ArgOk.listF (fr := false) (els := aB.sites.map intC) (by simp [intC])) (.cons (.v _ _ _) (.cons (ArgOk.listF (fr := false) (els := aB.outer.map strC) (by simp [strC])) (.cons (ArgOk.listF (fr := false) (els := aB.inner.map Wire.cells) (by simp [Wire.cells, strC, intC])) .nil))))))) .nil) (by decide) rfl (by simp [h1, h4, h5, h6, h7, h8, h40, m1_1, m4_43, m6_68, m7_99, dc6, db113, GNode.cells, Wire.cells, intC, sliceC, strC]) ?_
        rw [← er123]
        obtain ⟨hb124, h⟩ := h
        obtain ⟨r125, er125⟩ : ∃ v : Bool, v = decide (r50 = r123) := ⟨_, rfl⟩
        replace h := h r125 er125
        simp [h1, h4, h5, h6, h7, h8, h40, m1_1, m4_43, m6_68, m7_99, dc6, db113, GNode.cells, Wire.cells, intC, sliceC, strC]
        refine RunDK.callA Ty_ok kindOp_ok (eqBigraph_ok r50 r123 hb124) e11 (.cons (ArgOk.agg (.cons (.v _ _ _) (.cons (Sep.argOk' (Sep.front (K1 := [(.s [.c, .c, .c], v114, .list true (r29.1.map AmbNode.cells))]) (K2 := [(.s [.c], v116, .list true (r50.sites.map intC)), (.s [.c], v117, .list true (r50.outer.map strC)), (.s [.c, .c], v118, .list true (r50.inner.map Wire.cells)), (.s [.c, .c, .c], v119, .list true (r85.1.map AmbNode.cells))]) sp) (old_nest_Node true r50.nodes)) (.cons (Sep.argOk' (Sep.front (K1 := [(.s [.c, .c, .c], v114, .list true (r29.1.map AmbNode.cells)), (.s [.c, .c, .s [.c]], v115, .list true (r50.nodes.map (GNode.cells true)))]) (K2 := [(.s [.c], v117, .list true (r50.outer.map strC)), (.s [.c, .c], v118, .list true (r50.inner.map Wire.cells)), (.s [.c, .c, .c], v119, .list true (r85.1.map AmbNode.cells))]) sp) (old_listF (by simp [intC]))) (.cons (.v _ _ _) (.cons (Sep.argOk' (Sep.front (K1 := [(.s [.c, .c, .c], v114, .list true (r29.1.map AmbNode.cells)), (.s [.c, .c, .s [.c]], v115, .list true (r50.nodes.map (GNode.cells true))), (.s [.c], v116, .list true (r50.sites.map intC))]) (K2 := [(.s [.c, .c], v118, .list true (r50.inner.map Wire.cells)), (.s [.c, .c, .c], v119, .list true (r85.1.map AmbNode.cells))]) sp) (old_listF (by simp [strC]))) (.cons (Sep.argOk' (Sep.front (K1 := [(.s [.c, .c, .c], v114, .list true (r29.1.map AmbNode.cells)), (.s [.c, .c, .s [.c]], v115, .list true (r50.nodes.map (GNode.cells true))), (.s [.c], v116, .list true (r50.sites.map intC)), (.s [.c], v117, .list true (r50.outer.map strC))]) (K2 := [(.s [.c, .c, .c], v119, .list true (r85.1.map AmbNode.cells))]) sp) (old_listF (by simp [Wire.cells, strC, intC]))) .nil))))))) (.cons (ArgOk.agg (.cons (.v _ _ _) (.cons (ArgOk.nest_Node true r123.nodes) (.cons (ArgOk.listF (fr := true) (els := r123.sites.map intC) (by simp [intC])) (.cons (.v _ _ _) (.cons (ArgOk.listF (fr := true) (els := r123.outer.map strC) (by simp [strC])) (.cons (ArgOk.listF (fr := true) (els := r123.inner.map Wire.cells) (by simp [Wire.cells, strC, intC])) .nil))))))) .nil)) (by decide) rfl (by simp [h1, h4, h5, h6, h7, h8, h40, m1_1, m4_43, m6_68, m7_99, dc6, db113, GNode.cells, Wire.cells, intC, sliceC, strC]) ?_
        rw [← er125]
        simp [h1, h4, h5, h6, h7, h8, h40, m1_1, m4_43, m6_68, m7_99, dc6, db113, GNode.cells, Wire.cells, intC, sliceC, strC]
        refine hk' _ _ _ ?_
        refine Runs.ite (b := (!r125)) (by simp [h1, h4, h5, h6, h7, h8, h40, m1_1, m4_43, m6_68, m7_99, dc6, db113, GNode.cells, Wire.cells, intC, sliceC, strC]) (fun dr125 => ?_) (fun dr125 => ?_)
        · have dr125 : r125 = false := by simpa using dr125
          replace h := h.2 dr125
          refine Runs.seqE Ty_ok (by decide) fun k' hk' => ?_
          simp [h1, h4, h5, h6, h7, h8, h40, m1_1, m4_43, m6_68, m7_99, dc6, db113, dr125, GNode.cells, Wire.cells, intC, sliceC, strC]
          refine hk' _ _ _ ?_
          exact Runs.ret1 (v := bool false) Tryd.func3 Tryd.results3 (by simp [h1, h4, h5, h6, h7, h8, h40, m1_1, m4_43, m6_68, m7_99, dc6, db113, dr125, GNode.cells, Wire.cells, intC, sliceC, strC]) (hQ _ _ _ _ (.of (.v _)) ⟨false, h, rfl⟩)
        · have dr125 : r125 = true := by simpa using dr125
          replace h := h.1 dr125
          refine Runs.skip ?_
          refine Runs.seqE Ty_ok (by decide) fun k' hk' => ?_
          simp [h1, h4, h5, h6, h7, h8, h40, m1_1, m4_43, m6_68, m7_99, dc6, db113, dr125, GNode.cells, Wire.cells, intC, sliceC, strC]
          refine hk' _ _ _ ?_
          refine Runs.seqE Ty_ok (by decide) fun k' hk' => ?_
          obtain ⟨hb126, h⟩ := h
          obtain ⟨r127, er127⟩ : ∃ v : Int, v = markBigraph r50 1 := ⟨_, rfl⟩
          replace h := h r127 er127
          have f128 := cell_own (Sep.cells (Sep.front (K1 := [(.s [.c, .c, .c], v114, .list true (r29.1.map AmbNode.cells))]) (K2 := [(.s [.c], v116, .list true (r50.sites.map intC)), (.s [.c], v117, .list true (r50.outer.map strC)), (.s [.c, .c], v118, .list true (r50.inner.map Wire.cells)), (.s [.c, .c, .c], v119, .list true (r85.1.map AmbNode.cells))]) sp))
          have f129 := cell_own (Sep.one1 (Sep.front (K1 := [(.s [.c, .c, .c], v114, .list true (r29.1.map AmbNode.cells))]) (K2 := [(.s [.c], v116, .list true (r50.sites.map intC)), (.s [.c], v117, .list true (r50.outer.map strC)), (.s [.c, .c], v118, .list true (r50.inner.map Wire.cells)), (.s [.c, .c, .c], v119, .list true (r85.1.map AmbNode.cells))]) sp))
          have f130 := cell_own (Sep.cells (Sep.front (K1 := [(.s [.c, .c, .c], v114, .list true (r29.1.map AmbNode.cells)), (.s [.c, .c, .s [.c]], v115, .list true (r50.nodes.map (GNode.cells true)))]) (K2 := [(.s [.c], v117, .list true (r50.outer.map strC)), (.s [.c, .c], v118, .list true (r50.inner.map Wire.cells)), (.s [.c, .c, .c], v119, .list true (r85.1.map AmbNode.cells))]) sp))
          have f131 := cell_own (Sep.one1 (Sep.front (K1 := [(.s [.c, .c, .c], v114, .list true (r29.1.map AmbNode.cells)), (.s [.c, .c, .s [.c]], v115, .list true (r50.nodes.map (GNode.cells true)))]) (K2 := [(.s [.c], v117, .list true (r50.outer.map strC)), (.s [.c, .c], v118, .list true (r50.inner.map Wire.cells)), (.s [.c, .c, .c], v119, .list true (r85.1.map AmbNode.cells))]) sp))
          have f132 := cell_own (Sep.cells (Sep.front (K1 := [(.s [.c, .c, .c], v114, .list true (r29.1.map AmbNode.cells)), (.s [.c, .c, .s [.c]], v115, .list true (r50.nodes.map (GNode.cells true))), (.s [.c], v116, .list true (r50.sites.map intC))]) (K2 := [(.s [.c, .c], v118, .list true (r50.inner.map Wire.cells)), (.s [.c, .c, .c], v119, .list true (r85.1.map AmbNode.cells))]) sp))
          have f133 := cell_own (Sep.one1 (Sep.front (K1 := [(.s [.c, .c, .c], v114, .list true (r29.1.map AmbNode.cells)), (.s [.c, .c, .s [.c]], v115, .list true (r50.nodes.map (GNode.cells true))), (.s [.c], v116, .list true (r50.sites.map intC))]) (K2 := [(.s [.c, .c], v118, .list true (r50.inner.map Wire.cells)), (.s [.c, .c, .c], v119, .list true (r85.1.map AmbNode.cells))]) sp))
          have f134 := cell_own (Sep.cells (Sep.front (K1 := [(.s [.c, .c, .c], v114, .list true (r29.1.map AmbNode.cells)), (.s [.c, .c, .s [.c]], v115, .list true (r50.nodes.map (GNode.cells true))), (.s [.c], v116, .list true (r50.sites.map intC)), (.s [.c], v117, .list true (r50.outer.map strC))]) (K2 := [(.s [.c, .c, .c], v119, .list true (r85.1.map AmbNode.cells))]) sp))
          have f135 := cell_own (Sep.one1 (Sep.front (K1 := [(.s [.c, .c, .c], v114, .list true (r29.1.map AmbNode.cells)), (.s [.c, .c, .s [.c]], v115, .list true (r50.nodes.map (GNode.cells true))), (.s [.c], v116, .list true (r50.sites.map intC)), (.s [.c], v117, .list true (r50.outer.map strC))]) (K2 := [(.s [.c, .c, .c], v119, .list true (r85.1.map AmbNode.cells))]) sp))
          simp [h1, h4, h5, h6, h7, h8, h40, m1_1, m4_43, m6_68, m7_99, f128, f129, f130, f131, f132, f133, f134, f135, dc6, db113, dr125, GNode.cells, Wire.cells, intC, sliceC, strC, -cellsA, -one1, cA_int, cA_bool, cA_str, cA_nil, cA_agg, cA_list, cA_arr, cA_ptr, o1_int, o1_bool, o1_str, o1_nil, o1_list, o1_arr, o1_ptr]
          refine RunK.callE (v := .agg [int r50.roots, v115, v116, int r50.edges, v117, v118]) Ty_ok (markBigraph_ok r50 1 hb126) e12 (Sep.pack (K := [(.s [.c, .c, .c], v114, .list true (r29.1.map AmbNode.cells)), (.s [.c, .c, .c], v119, .list true (r85.1.map AmbNode.cells))]) (Fill.v _ (Fill.own (Fill.own (Fill.v _ (Fill.own (Fill.own Fill.nil)))))) (Sep.front (K1 := [(.s [.c], v116, .list true (r50.sites.map intC)), (.s [.c], v117, .list true (r50.outer.map strC)), (.s [.c, .c], v118, .list true (r50.inner.map Wire.cells)), (.s [.c, .c, .c], v114, .list true (r29.1.map AmbNode.cells))]) (K2 := [(.s [.c, .c, .c], v119, .list true (r85.1.map AmbNode.cells))]) (Sep.front (K1 := [(.s [.c], v117, .list true (r50.outer.map strC)), (.s [.c, .c], v118, .list true (r50.inner.map Wire.cells)), (.s [.c, .c, .c], v114, .list true (r29.1.map AmbNode.cells)), (.s [.c, .c, .s [.c]], v115, .list true (r50.nodes.map (GNode.cells true)))]) (K2 := [(.s [.c, .c, .c], v119, .list true (r85.1.map AmbNode.cells))]) (Sep.front (K1 := [(.s [.c, .c], v118, .list true (r50.inner.map Wire.cells)), (.s [.c, .c, .c], v114, .list true (r29.1.map AmbNode.cells)), (.s [.c, .c, .s [.c]], v115, .list true (r50.nodes.map (GNode.cells true))), (.s [.c], v116, .list true (r50.sites.map intC))]) (K2 := [(.s [.c, .c, .c], v119, .list true (r85.1.map AmbNode.cells))]) (Sep.front (K1 := [(.s [.c, .c, .c], v114, .list true (r29.1.map AmbNode.cells)), (.s [.c, .c, .s [.c]], v115, .list true (r50.nodes.map (GNode.cells true))), (.s [.c], v116, .list true (r50.sites.map intC)), (.s [.c], v117, .list true (r50.outer.map strC))]) (K2 := [(.s [.c, .c, .c], v119, .list true (r85.1.map AmbNode.cells))]) sp))))) (by decide) (by decide) rfl (by simp [h1, h4, h5, h6, h7, h8, h40, m1_1, m4_43, m6_68, m7_99, f128, f129, f130, f131, f132, f133, f134, f135, dc6, db113, dr125, GNode.cells, Wire.cells, intC, sliceC, strC, -cellsA, -one1, cA_int, cA_bool, cA_str, cA_nil, cA_agg, cA_list, cA_arr, cA_ptr, o1_int, o1_bool, o1_str, o1_nil, o1_list, o1_arr, o1_ptr]) ?_
          rintro _ H136 n137 rfl sp hle139 hfr138
          rw [← er127]
          replace sp : Sep H136 n137 [(.s [.c, .c, .c], v114, .list true (r29.1.map AmbNode.cells)), (.s [.c, .c, .c], v119, .list true (r85.1.map AmbNode.cells))] [(n88, 7), (n53, 6), (n32, 4), (n1, 1)] := sp
          have m1_1 : H136 (n1, 1) = some ⟨6, [[int aB.roots, .list false (aB.nodes.map (GNode.cells false)), .list false (aB.sites.map intC), int aB.edges, .list false (aB.outer.map strC), .list false (aB.inner.map Wire.cells)]]⟩ := (hfr138 _ (by simp)).trans (by simp [h1, h4, h5, h6, h7, h8, h40, m1_1, m4_43, m6_68, m7_99, Heap.get_set])
          have m4_43 : H136 (n32, 4) = some ⟨1, [[v114]]⟩ := (hfr138 _ (by simp)).trans (by simp [h1, h4, h5, h6, h7, h8, h40, m1_1, m4_43, m6_68, m7_99, Heap.get_set])
          have m6_68 : H136 (n53, 6) = some ⟨6, [[int r50.roots, v115, v116, int r50.edges, v117, v118]]⟩ := (hfr138 _ (by simp)).trans (by simp [h1, h4, h5, h6, h7, h8, h40, m1_1, m4_43, m6_68, m7_99, Heap.get_set])
          have m7_99 : H136 (n88, 7) = some ⟨1, [[v119]]⟩ := (hfr138 _ (by simp)).trans (by simp [h1, h4, h5, h6, h7, h8, h40, m1_1, m4_43, m6_68, m7_99, Heap.get_set])
          simp [h1, h4, h5, h6, h7, h8, h40, m1_1, m4_43, m6_68, m7_99, f128, f129, f130, f131, f132, f133, f134, f135, dc6, db113, dr125, GNode.cells, Wire.cells, intC, sliceC, strC, -cellsA, -one1, cA_int, cA_bool, cA_str, cA_nil, cA_agg, cA_list, cA_arr, cA_ptr, o1_int, o1_bool, o1_str, o1_nil, o1_list, o1_arr, o1_ptr]
          refine hk' _ _ _ ?_
          refine Runs.cut (fun ρ H n => ∃ (v141 : AVal) (v142 : AVal), ρ 1 = .ptr (n1, 1) 1 0 0 ∧ ρ 4 = .ptr (n32, 4) 1 0 0 ∧ ρ 5 = bool r29.2 ∧ ρ 7 = .ptr (n88, 7) 1 0 0 ∧ ρ 8 = bool r85.2 ∧ ρ 9 = int r127 ∧ H (n1, 1) = some ⟨6, [[int aB.roots, .list false (aB.nodes.map (GNode.cells false)), .list false (aB.sites.map intC), int aB.edges, .list false (aB.outer.map strC), .list false (aB.inner.map Wire.cells)]]⟩ ∧ H (n32, 4) = some ⟨1, [[v141]]⟩ ∧ H (n88, 7) = some ⟨1, [[v142]]⟩ ∧ Sep H n [(.s [.c, .c, .c], v141, .list true (r29.1.map AmbNode.cells)), (.s [.c, .c, .c], v142, .list true (r85.1.map AmbNode.cells))] [(n88, 7), (n32, 4), (n1, 1)]) (by refine ⟨v114, v119, ?_, ?_, ?_, ?_, ?_, ?_, ?_, ?_, ?_, (Sep.sub (Sep.front (K1 := [(.s [.c, .c, .c], v119, .list true (r85.1.map AmbNode.cells))]) (K2 := []) (Sep.front (K1 := [(.s [.c, .c, .c], v114, .list true (r29.1.map AmbNode.cells))]) (K2 := []) sp)) (by simp +contextual))⟩ <;> simp [h1, h4, h5, h6, h7, h8, h40, m1_1, m4_43, m6_68, m7_99, f128, f129, f130, f131, f132, f133, f134, f135, dc6, db113, dr125, GNode.cells, Wire.cells, intC, sliceC, strC, -cellsA, -one1, cA_int, cA_bool, cA_str, cA_nil, cA_agg, cA_list, cA_arr, cA_ptr, o1_int, o1_bool, o1_str, o1_nil, o1_list, o1_arr, o1_ptr]) ?_
          clear h1 h4 h5 h6 h7 h8 h40 m1_1 m4_43 m6_68 m7_99
          rintro ρ H n143 ⟨v141, v142, h1, h4, h5, h7, h8, h9, m1_1, m4_43, m7_99, sp⟩
          refine Runs.seq ?_
          refine Runs.seqE Ty_ok (by decide) fun k' hk' => ?_
          obtain ⟨J144, hJ145, hr146⟩ := h
          have fin150 : ∀ (s : Bool) (ρ : Env) (H : Heap) (n : Nat), J144 s → (match s with | b147 => ∃ (v148 : AVal) (v149 : AVal), ρ 1 = .ptr (n1, 1) 1 0 0 ∧ ρ 4 = .ptr (n32, 4) 1 0 0 ∧ ρ 5 = bool r29.2 ∧ ρ 7 = .ptr (n88, 7) 1 0 0 ∧ ρ 61 = bool b147 ∧ H (n1, 1) = some ⟨6, [[int aB.roots, .list false (aB.nodes.map (GNode.cells false)), .list false (aB.sites.map intC), int aB.edges, .list false (aB.outer.map strC), .list false (aB.inner.map Wire.cells)]]⟩ ∧ H (n32, 4) = some ⟨1, [[v148]]⟩ ∧ H (n88, 7) = some ⟨1, [[v149]]⟩ ∧ Sep H n [(.s [.c, .c, .c], v148, .list true (r29.1.map AmbNode.cells)), (.s [.c, .c, .c], v149, .list true (r85.1.map AmbNode.cells))] [(n88, 7), (n32, 4), (n1, 1)]) → Runs Tryd.prog 3 96 k' ρ H n Q := by
            rintro b147 ρ H n151 h ⟨v148, v149, h1, h4, h5, h7, h61, m1_1, m4_43, m7_99, sp⟩
            replace h := hr146 _ h
            refine hk' _ _ _ ?_
            refine Runs.ite (b := b147) (by simp [h1, h4, h5, h7, h61, m1_1, m4_43, m7_99, dc6, db113, dr125, GNode.cells, Wire.cells, intC, sliceC, strC]) (fun db147 => ?_) (fun db147 => ?_)
            · replace h := h.1 db147
              refine Runs.seqE Ty_ok (by decide) fun k' hk' => ?_
              simp [h1, h4, h5, h7, h61, m1_1, m4_43, m7_99, dc6, db113, dr125, db147, GNode.cells, Wire.cells, intC, sliceC, strC]
              refine hk' _ _ _ ?_
              exact Runs.ret1 (v := bool false) Tryd.func3 Tryd.results3 (by simp [h1, h4, h5, h7, h61, m1_1, m4_43, m7_99, dc6, db113, dr125, db147, GNode.cells, Wire.cells, intC, sliceC, strC]) (hQ _ _ _ _ (.of (.v _)) ⟨false, h, rfl⟩)
            · replace h := h.2 db147
              refine Runs.skip ?_
              refine Runs.seqE Ty_ok (by decide) fun k' hk' => ?_
              simp [h1, h4, h5, h7, h61, m1_1, m4_43, m7_99, dc6, db113, dr125, db147, GNode.cells, Wire.cells, intC, sliceC, strC]
              refine hk' _ _ _ ?_
              refine Runs.seqE Ty_ok (by decide) fun k' hk' => ?_
              obtain ⟨hb152, h⟩ := h
              obtain ⟨r153, er153⟩ : ∃ v : Proc × Int, v = markProcess r85.1 1 := ⟨_, rfl⟩
              replace h := h r153 er153
              have f154 := cell_own (Sep.cells (Sep.front (K1 := [(.s [.c, .c, .c], v148, .list true (r29.1.map AmbNode.cells))]) (K2 := []) sp))
              have f155 := cell_own (Sep.one1 (Sep.front (K1 := [(.s [.c, .c, .c], v148, .list true (r29.1.map AmbNode.cells))]) (K2 := []) sp))
              simp [h1, h4, h5, h7, h61, m1_1, m4_43, m7_99, f154, f155, dc6, db113, dr125, db147, GNode.cells, Wire.cells, intC, sliceC, strC, -cellsA, -one1, cA_int, cA_bool, cA_str, cA_nil, cA_agg, cA_list, cA_arr, cA_ptr, o1_int, o1_bool, o1_str, o1_nil, o1_list, o1_arr, o1_ptr]
              refine RunK.callM (v := .agg [v149]) Ty_ok (markProcess_ok r85.1 1 hb152) e13 (Sep.pack (K := [(.s [.c, .c, .c], v148, .list true (r29.1.map AmbNode.cells))]) (Fill.own Fill.nil) (Sep.front (K1 := [(.s [.c, .c, .c], v148, .list true (r29.1.map AmbNode.cells))]) (K2 := []) sp)) (by decide) (by decide) rfl (by simp [h1, h4, h5, h7, h61, m1_1, m4_43, m7_99, f154, f155, dc6, db113, dr125, db147, GNode.cells, Wire.cells, intC, sliceC, strC, -cellsA, -one1, cA_int, cA_bool, cA_str, cA_nil, cA_agg, cA_list, cA_arr, cA_ptr, o1_int, o1_bool, o1_str, o1_nil, o1_list, o1_arr, o1_ptr]) ?_
              rintro _ H156 n157 _ ⟨rfl, rfl⟩ sp hle159 hfr158
              rw [← er153] at sp
              rw [← er153]
              replace sp := Sep.unpack sp
              obtain ⟨L160, hv, hl161, sp⟩ := sp
              cases hv
              simp only [zip3, List.cons_append, List.nil_append] at sp
              replace sp := Sep.rot sp
              try simp only [List.cons_append, List.nil_append, List.append_assoc] at sp
              replace sp : Sep H156 n157 [(.s [.c, .c, .c], v148, .list true (r29.1.map AmbNode.cells)), (.s [.c, .c, .c], v149, .list true (r153.1.map AmbNode.cells))] [(n88, 7), (n32, 4), (n1, 1)] := sp
              have m1_1 : H156 (n1, 1) = some ⟨6, [[int aB.roots, .list false (aB.nodes.map (GNode.cells false)), .list false (aB.sites.map intC), int aB.edges, .list false (aB.outer.map strC), .list false (aB.inner.map Wire.cells)]]⟩ := (hfr158 _ (by simp)).trans (by simp [h1, h4, h5, h7, h61, m1_1, m4_43, m7_99, Heap.get_set])
              have m4_43 : H156 (n32, 4) = some ⟨1, [[v148]]⟩ := (hfr158 _ (by simp)).trans (by simp [h1, h4, h5, h7, h61, m1_1, m4_43, m7_99, Heap.get_set])
              have m7_99 : H156 (n88, 7) = some ⟨1, [[v149]]⟩ := (hfr158 _ (by simp)).trans (by simp [h1, h4, h5, h7, h61, m1_1, m4_43, m7_99, Heap.get_set])
              simp [h1, h4, h5, h7, h61, m1_1, m4_43, m7_99, f154, f155, dc6, db113, dr125, db147, GNode.cells, Wire.cells, intC, sliceC, strC, -cellsA, -one1, cA_int, cA_bool, cA_str, cA_nil, cA_agg, cA_list, cA_arr, cA_ptr, o1_int, o1_bool, o1_str, o1_nil, o1_list, o1_arr, o1_ptr]
              refine hk' _ _ _ ?_
              refine Runs.cut (fun ρ H n => ∃ (v163 : AVal) (v164 : AVal), ρ 1 = .ptr (n1, 1) 1 0 0 ∧ ρ 4 = .ptr (n32, 4) 1 0 0 ∧ ρ 5 = bool r29.2 ∧ ρ 7 = .ptr (n88, 7) 1 0 0 ∧ ρ 10 = int r153.2 ∧ H (n1, 1) = some ⟨6, [[int aB.roots, .list false (aB.nodes.map (GNode.cells false)), .list false (aB.sites.map intC), int aB.edges, .list false (aB.outer.map strC), .list false (aB.inner.map Wire.cells)]]⟩ ∧ H (n32, 4) = some ⟨1, [[v163]]⟩ ∧ H (n88, 7) = some ⟨1, [[v164]]⟩ ∧ Sep H n [(.s [.c, .c, .c], v163, .list true (r29.1.map AmbNode.cells)), (.s [.c, .c, .c], v164, .list true (r153.1.map AmbNode.cells))] [(n88, 7), (n32, 4), (n1, 1)]) (by refine ⟨v148, v149, ?_, ?_, ?_, ?_, ?_, ?_, ?_, ?_, (Sep.front (K1 := [(.s [.c, .c, .c], v149, .list true (r153.1.map AmbNode.cells))]) (K2 := []) (Sep.front (K1 := [(.s [.c, .c, .c], v148, .list true (r29.1.map AmbNode.cells))]) (K2 := []) sp))⟩ <;> simp [h1, h4, h5, h7, h61, m1_1, m4_43, m7_99, f154, f155, dc6, db113, dr125, db147, GNode.cells, Wire.cells, intC, sliceC, strC, -cellsA, -one1, cA_int, cA_bool, cA_str, cA_nil, cA_agg, cA_list, cA_arr, cA_ptr, o1_int, o1_bool, o1_str, o1_nil, o1_list, o1_arr, o1_ptr]) ?_
              clear h1 h4 h5 h7 h61 m1_1 m4_43 m7_99
              rintro ρ H n165 ⟨v163, v164, h1, h4, h5, h7, h10, m1_1, m4_43, m7_99, sp⟩
              refine Runs.seqE Ty_ok (by decide) fun k' hk' => ?_
              simp [h1, h4, h5, h7, h10, m1_1, m4_43, m7_99, dc6, db113, dr125, db147, GNode.cells, Wire.cells, intC, sliceC, strC]
              refine hk' _ _ _ ?_
              refine Runs.seqE Ty_ok (by decide) fun k' hk' => ?_
              obtain ⟨hb166, h⟩ := h
              obtain ⟨r167, er167⟩ : ∃ v : Int, v = heldProcess r153.1 1 := ⟨_, rfl⟩
              replace h := h r167 er167
              simp [h1, h4, h5, h7, h10, m1_1, m4_43, m7_99, dc6, db113, dr125, db147, GNode.cells, Wire.cells, intC, sliceC, strC]
              refine RunK.callA Ty_ok (heldProcess_ok r153.1 1 hb166) e14 (.cons (ArgOk.agg (.cons (Sep.argOk' (Sep.front (K1 := [(.s [.c, .c, .c], v163, .list true (r29.1.map AmbNode.cells))]) (K2 := []) sp) (old_listF (by simp [AmbNode.cells, intC, strC, intC]))) .nil)) (.cons (.v _ _ _) .nil)) (by decide) (by decide) rfl (by simp [h1, h4, h5, h7, h10, m1_1, m4_43, m7_99, dc6, db113, dr125, db147, GNode.cells, Wire.cells, intC, sliceC, strC]) ?_
              rintro _ rfl
              rw [← er167]
              simp [h1, h4, h5, h7, h10, m1_1, m4_43, m7_99, dc6, db113, dr125, db147, GNode.cells, Wire.cells, intC, sliceC, strC]
              refine hk' _ _ _ ?_
              refine Runs.seq ?_
              refine Runs.seqE Ty_ok (by decide) fun k' hk' => ?_
              obtain ⟨c168, ec168⟩ : ∃ v : Bool, v = decide (r167 < 0) := ⟨_, rfl⟩
              replace h := h c168 ec168
              have f169 := ib_lss (k := .i64) ec168
              simp [h1, h4, h5, h7, h10, m1_1, m4_43, m7_99, f169, dc6, db113, dr125, db147, GNode.cells, Wire.cells, intC, sliceC, strC, -intBin]
              refine hk' _ _ _ ?_
              refine Runs.ite (b := c168) (by simp [h1, h4, h5, h7, h10, m1_1, m4_43, m7_99, dc6, db113, dr125, db147, GNode.cells, Wire.cells, intC, sliceC, strC]) (fun dc168 => ?_) (fun dc168 => ?_)
              · replace h := h.1 dc168
                refine Runs.seqE Ty_ok (by decide) fun k' hk' => ?_
                simp [h1, h4, h5, h7, h10, m1_1, m4_43, m7_99, dc6, db113, dr125, db147, dc168, GNode.cells, Wire.cells, intC, sliceC, strC]
                refine hk' _ _ _ ?_
                exact Runs.ret1 (v := bool false) Tryd.func3 Tryd.results3 (by simp [h1, h4, h5, h7, h10, m1_1, m4_43, m7_99, dc6, db113, dr125, db147, dc168, GNode.cells, Wire.cells, intC, sliceC, strC]) (hQ _ _ _ _ (.of (.v _)) ⟨false, h, rfl⟩)
              · replace h := h.2 dc168
                refine Runs.skip ?_
                refine Runs.seq ?_
                refine Runs.seqE Ty_ok (by decide) fun k' hk' => ?_
                obtain ⟨c170, ec170⟩ : ∃ v : Bool, v = decide (r167 ≠ r153.2) := ⟨_, rfl⟩
                replace h := h c170 ec170
                have f171 := ib_neq (k := .i64) ec170
                simp [h1, h4, h5, h7, h10, m1_1, m4_43, m7_99, f171, dc6, db113, dr125, db147, dc168, GNode.cells, Wire.cells, intC, sliceC, strC, -intBin]
                refine hk' _ _ _ ?_
                refine Runs.ite (b := c170) (by simp [h1, h4, h5, h7, h10, m1_1, m4_43, m7_99, dc6, db113, dr125, db147, dc168, GNode.cells, Wire.cells, intC, sliceC, strC]) (fun dc170 => ?_) (fun dc170 => ?_)
                · replace h := h.1 dc170
                  refine Runs.seqE Ty_ok (by decide) fun k' hk' => ?_
                  simp [h1, h4, h5, h7, h10, m1_1, m4_43, m7_99, dc6, db113, dr125, db147, dc168, dc170, GNode.cells, Wire.cells, intC, sliceC, strC]
                  refine hk' _ _ _ ?_
                  exact Runs.ret1 (v := bool false) Tryd.func3 Tryd.results3 (by simp [h1, h4, h5, h7, h10, m1_1, m4_43, m7_99, dc6, db113, dr125, db147, dc168, dc170, GNode.cells, Wire.cells, intC, sliceC, strC]) (hQ _ _ _ _ (.of (.v _)) ⟨false, h, rfl⟩)
                · replace h := h.2 dc170
                  refine Runs.skip ?_
                  refine Runs.seqE Ty_ok (by decide) fun k' hk' => ?_
                  obtain ⟨hb172, h⟩ := h
                  obtain ⟨r173, er173⟩ : ∃ v : Big, v = toBigraph aB := ⟨_, rfl⟩
                  replace h := h r173 er173
                  simp [h1, h4, h5, h7, h10, m1_1, m4_43, m7_99, dc6, db113, dr125, db147, dc168, dc170, GNode.cells, Wire.cells, intC, sliceC, strC]
                  refine RunK.callW Ty_ok (toBigraph_ok aB hb172) e8 (.cons (ArgOk.agg (.cons (.v _ _ _) (.cons (ArgOk.nest_Node false aB.nodes) (.cons (ArgOk.listF (fr := false) (els := aB.sites.map intC) (by simp [intC])) (.cons (.v _ _ _) (.cons (ArgOk.listF (fr := false) (els := aB.outer.map strC) (by simp [strC])) (.cons (ArgOk.listF (fr := false) (els := aB.inner.map Wire.cells) (by simp [Wire.cells, strC, intC])) .nil))))))) .nil) sp (by decide) (by decide) rfl (by simp [h1, h4, h5, h7, h10, m1_1, m4_43, m7_99, dc6, db113, dr125, db147, dc168, dc170, GNode.cells, Wire.cells, intC, sliceC, strC]) ?_
                  rintro v174 H175 n176 _ sp rfl hle178 hfr177
                  rw [← er173] at sp
                  have m1_1 : H175 (n1, 1) = some ⟨6, [[int aB.roots, .list false (aB.nodes.map (GNode.cells false)), .list false (aB.sites.map intC), int aB.edges, .list false (aB.outer.map strC), .list false (aB.inner.map Wire.cells)]]⟩ := (hfr177 _ (by simp)).trans (by simp [h1, h4, h5, h7, h10, m1_1, m4_43, m7_99, Heap.get_set])
                  have m4_43 : H175 (n32, 4) = some ⟨1, [[v163]]⟩ := (hfr177 _ (by simp)).trans (by simp [h1, h4, h5, h7, h10, m1_1, m4_43, m7_99, Heap.get_set])
                  have m7_99 : H175 (n88, 7) = some ⟨1, [[v164]]⟩ := (hfr177 _ (by simp)).trans (by simp [h1, h4, h5, h7, h10, m1_1, m4_43, m7_99, Heap.get_set])
                  replace sp := Sep.unpack sp
                  obtain ⟨L186, hv, hl187, sp⟩ := sp
                  subst hv
                  obtain ⟨v180, v181, v182, v183, v184, v185, hv⟩ := len6 (by simpa using hl187)
                  subst hv
                  simp only [zip3, List.cons_append, List.nil_append] at sp
                  replace sp := Sep.scalar sp
                  obtain ⟨hv, sp⟩ := sp
                  subst hv
                  replace sp := Sep.rot sp
                  try simp only [List.cons_append, List.nil_append, List.append_assoc] at sp
                  replace sp := Sep.rot sp
                  try simp only [List.cons_append, List.nil_append, List.append_assoc] at sp
                  replace sp := Sep.scalar sp
                  obtain ⟨hv, sp⟩ := sp
                  subst hv
                  replace sp := Sep.rot sp
                  try simp only [List.cons_append, List.nil_append, List.append_assoc] at sp
                  replace sp := Sep.rot sp
                  try simp only [List.cons_append, List.nil_append, List.append_assoc] at sp
                  replace sp : Sep H175 n176 [(.s [.c, .c, .c], v163, .list true (r29.1.map AmbNode.cells)), (.s [.c, .c, .c], v164, .list true (r153.1.map AmbNode.cells)), (.s [.c, .c, .s [.c]], v181, .list true (r173.nodes.map (GNode.cells true))), (.s [.c], v182, .list true (r173.sites.map intC)), (.s [.c], v184, .list true (r173.outer.map strC)), (.s [.c, .c], v185, .list true (r173.inner.map Wire.cells))] [(n88, 7), (n32, 4), (n1, 1)] := sp
                  obtain ⟨hb192, h⟩ := h
                  obtain ⟨r193, er193⟩ : ∃ v : Proc × Bool, v = DecodeProcess r173 := ⟨_, rfl⟩
                  replace h := h r193 er193
                  simp [h1, h4, h5, h7, h10, m1_1, m4_43, m7_99, dc6, db113, dr125, db147, dc168, dc170, GNode.cells, Wire.cells, intC, sliceC, strC]
                  refine RunK.callW Ty_ok (DecodeProcess_ok r173 hb192) e9 (.cons (ArgOk.agg (.cons (.v _ _ _) (.cons (Sep.argOk' (Sep.front (K1 := [(.s [.c, .c, .c], v163, .list true (r29.1.map AmbNode.cells)), (.s [.c, .c, .c], v164, .list true (r153.1.map AmbNode.cells))]) (K2 := [(.s [.c], v182, .list true (r173.sites.map intC)), (.s [.c], v184, .list true (r173.outer.map strC)), (.s [.c, .c], v185, .list true (r173.inner.map Wire.cells))]) sp) (old_nest_Node true r173.nodes)) (.cons (Sep.argOk' (Sep.front (K1 := [(.s [.c, .c, .c], v163, .list true (r29.1.map AmbNode.cells)), (.s [.c, .c, .c], v164, .list true (r153.1.map AmbNode.cells)), (.s [.c, .c, .s [.c]], v181, .list true (r173.nodes.map (GNode.cells true)))]) (K2 := [(.s [.c], v184, .list true (r173.outer.map strC)), (.s [.c, .c], v185, .list true (r173.inner.map Wire.cells))]) sp) (old_listF (by simp [intC]))) (.cons (.v _ _ _) (.cons (Sep.argOk' (Sep.front (K1 := [(.s [.c, .c, .c], v163, .list true (r29.1.map AmbNode.cells)), (.s [.c, .c, .c], v164, .list true (r153.1.map AmbNode.cells)), (.s [.c, .c, .s [.c]], v181, .list true (r173.nodes.map (GNode.cells true))), (.s [.c], v182, .list true (r173.sites.map intC))]) (K2 := [(.s [.c, .c], v185, .list true (r173.inner.map Wire.cells))]) sp) (old_listF (by simp [strC]))) (.cons (Sep.argOk' (Sep.front (K1 := [(.s [.c, .c, .c], v163, .list true (r29.1.map AmbNode.cells)), (.s [.c, .c, .c], v164, .list true (r153.1.map AmbNode.cells)), (.s [.c, .c, .s [.c]], v181, .list true (r173.nodes.map (GNode.cells true))), (.s [.c], v182, .list true (r173.sites.map intC)), (.s [.c], v184, .list true (r173.outer.map strC))]) (K2 := []) sp) (old_listF (by simp [Wire.cells, strC, intC]))) .nil))))))) .nil) sp (by decide) (by decide) rfl (by simp [h1, h4, h5, h7, h10, m1_1, m4_43, m7_99, dc6, db113, dr125, db147, dc168, dc170, GNode.cells, Wire.cells, intC, sliceC, strC]) ?_
                  rintro v194 H195 n196 _ sp rfl hle198 hfr197
                  rw [← er193] at sp
                  have m1_1 : H195 (n1, 1) = some ⟨6, [[int aB.roots, .list false (aB.nodes.map (GNode.cells false)), .list false (aB.sites.map intC), int aB.edges, .list false (aB.outer.map strC), .list false (aB.inner.map Wire.cells)]]⟩ := (hfr197 _ (by simp)).trans (by simp [h1, h4, h5, h7, h10, m1_1, m4_43, m7_99, Heap.get_set])
                  have m4_43 : H195 (n32, 4) = some ⟨1, [[v163]]⟩ := (hfr197 _ (by simp)).trans (by simp [h1, h4, h5, h7, h10, m1_1, m4_43, m7_99, Heap.get_set])
                  have m7_99 : H195 (n88, 7) = some ⟨1, [[v164]]⟩ := (hfr197 _ (by simp)).trans (by simp [h1, h4, h5, h7, h10, m1_1, m4_43, m7_99, Heap.get_set])
                  replace sp := Sep.unpackT sp
                  obtain ⟨L202, hv, hl203, sp⟩ := sp
                  subst hv
                  obtain ⟨v200, v201, hv⟩ := len2 (by simpa using hl203)
                  subst hv
                  simp only [zip3, List.cons_append, List.nil_append] at sp
                  replace sp := Sep.unpack sp
                  obtain ⟨L205, hv, hl206, sp⟩ := sp
                  subst hv
                  obtain ⟨v204, hv⟩ := len1 (by simpa using hl206)
                  subst hv
                  simp only [zip3, List.cons_append, List.nil_append] at sp
                  replace sp := Sep.rot sp
                  try simp only [List.cons_append, List.nil_append, List.append_assoc] at sp
                  replace sp := Sep.scalar sp
                  obtain ⟨hv, sp⟩ := sp
                  subst hv
                  replace sp : Sep H195 n196 [(.s [.c, .c, .c], v163, .list true (r29.1.map AmbNode.cells)), (.s [.c, .c, .c], v164, .list true (r153.1.map AmbNode.cells)), (.s [.c, .c, .s [.c]], v181, .list true (r173.nodes.map (GNode.cells true))), (.s [.c], v182, .list true (r173.sites.map intC)), (.s [.c], v184, .list true (r173.outer.map strC)), (.s [.c, .c], v185, .list true (r173.inner.map Wire.cells)), (.s [.c, .c, .c], v204, .list true (r193.1.map AmbNode.cells))] [(n88, 7), (n32, 4), (n1, 1)] := sp
                  have f209 := cell_own (Sep.cells (Sep.front (K1 := [(.s [.c, .c, .c], v163, .list true (r29.1.map AmbNode.cells)), (.s [.c, .c, .c], v164, .list true (r153.1.map AmbNode.cells)), (.s [.c, .c, .s [.c]], v181, .list true (r173.nodes.map (GNode.cells true))), (.s [.c], v182, .list true (r173.sites.map intC)), (.s [.c], v184, .list true (r173.outer.map strC)), (.s [.c, .c], v185, .list true (r173.inner.map Wire.cells))]) (K2 := []) sp))
                  have f210 := cell_own (Sep.one1 (Sep.front (K1 := [(.s [.c, .c, .c], v163, .list true (r29.1.map AmbNode.cells)), (.s [.c, .c, .c], v164, .list true (r153.1.map AmbNode.cells)), (.s [.c, .c, .s [.c]], v181, .list true (r173.nodes.map (GNode.cells true))), (.s [.c], v182, .list true (r173.sites.map intC)), (.s [.c], v184, .list true (r173.outer.map strC)), (.s [.c, .c], v185, .list true (r173.inner.map Wire.cells))]) (K2 := []) sp))
                  simp [h1, h4, h5, h7, h10, m1_1, m4_43, m7_99, f209, f210, dc6, db113, dr125, db147, dc168, dc170, GNode.cells, Wire.cells, intC, sliceC, strC, -cellsA, -one1, cA_int, cA_bool, cA_str, cA_nil, cA_agg, cA_list, cA_arr, cA_ptr, o1_int, o1_bool, o1_str, o1_nil, o1_list, o1_arr, o1_ptr]
                  refine hk' _ _ _ ?_
                  refine Runs.cut (fun ρ H n => ∃ (v211 : AVal) (v212 : AVal) (v213 : AVal), ρ 4 = .ptr (n32, 4) 1 0 0 ∧ ρ 5 = bool r29.2 ∧ ρ 7 = .ptr (n88, 7) 1 0 0 ∧ ρ 10 = int r153.2 ∧ ρ 12 = .ptr (n196, 12) 1 0 0 ∧ ρ 13 = bool r193.2 ∧ H (n32, 4) = some ⟨1, [[v211]]⟩ ∧ H (n88, 7) = some ⟨1, [[v212]]⟩ ∧ H (n196, 12) = some ⟨1, [[v213]]⟩ ∧ Sep H n [(.s [.c, .c, .c], v211, .list true (r29.1.map AmbNode.cells)), (.s [.c, .c, .c], v212, .list true (r153.1.map AmbNode.cells)), (.s [.c, .c, .c], v213, .list true (r193.1.map AmbNode.cells))] [(n196, 12), (n88, 7), (n32, 4)]) (by refine ⟨v163, v164, v204, ?_, ?_, ?_, ?_, ?_, ?_, ?_, ?_, ?_, (Sep.sub (Sep.front (K1 := [(.s [.c, .c, .c], v164, .list true (r153.1.map AmbNode.cells)), (.s [.c, .c, .c], v204, .list true (r193.1.map AmbNode.cells))]) (K2 := []) (Sep.front (K1 := [(.s [.c, .c, .c], v204, .list true (r193.1.map AmbNode.cells)), (.s [.c, .c, .c], v163, .list true (r29.1.map AmbNode.cells))]) (K2 := []) (Sep.front (K1 := [(.s [.c, .c, .c], v163, .list true (r29.1.map AmbNode.cells)), (.s [.c, .c, .c], v164, .list true (r153.1.map AmbNode.cells))]) (K2 := []) (Sep.right (K1 := [(.s [.c, .c], v185, .list true (r173.inner.map Wire.cells))]) (K2 := [(.s [.c, .c, .c], v163, .list true (r29.1.map AmbNode.cells)), (.s [.c, .c, .c], v164, .list true (r153.1.map AmbNode.cells)), (.s [.c, .c, .c], v204, .list true (r193.1.map AmbNode.cells))]) (Sep.front (K1 := [(.s [.c, .c, .c], v163, .list true (r29.1.map AmbNode.cells)), (.s [.c, .c, .c], v164, .list true (r153.1.map AmbNode.cells))]) (K2 := [(.s [.c, .c, .c], v204, .list true (r193.1.map AmbNode.cells))]) (Sep.right (K1 := [(.s [.c], v184, .list true (r173.outer.map strC))]) (K2 := [(.s [.c, .c, .c], v163, .list true (r29.1.map AmbNode.cells)), (.s [.c, .c, .c], v164, .list true (r153.1.map AmbNode.cells)), (.s [.c, .c], v185, .list true (r173.inner.map Wire.cells)), (.s [.c, .c, .c], v204, .list true (r193.1.map AmbNode.cells))]) (Sep.front (K1 := [(.s [.c, .c, .c], v163, .list true (r29.1.map AmbNode.cells)), (.s [.c, .c, .c], v164, .list true (r153.1.map AmbNode.cells))]) (K2 := [(.s [.c, .c], v185, .list true (r173.inner.map Wire.cells)), (.s [.c, .c, .c], v204, .list true (r193.1.map AmbNode.cells))]) (Sep.right (K1 := [(.s [.c], v182, .list true (r173.sites.map intC))]) (K2 := [(.s [.c, .c, .c], v163, .list true (r29.1.map AmbNode.cells)), (.s [.c, .c, .c], v164, .list true (r153.1.map AmbNode.cells)), (.s [.c], v184, .list true (r173.outer.map strC)), (.s [.c, .c], v185, .list true (r173.inner.map Wire.cells)), (.s [.c, .c, .c], v204, .list true (r193.1.map AmbNode.cells))]) (Sep.front (K1 := [(.s [.c, .c, .c], v163, .list true (r29.1.map AmbNode.cells)), (.s [.c, .c, .c], v164, .list true (r153.1.map AmbNode.cells))]) (K2 := [(.s [.c], v184, .list true (r173.outer.map strC)), (.s [.c, .c], v185, .list true (r173.inner.map Wire.cells)), (.s [.c, .c, .c], v204, .list true (r193.1.map AmbNode.cells))]) (Sep.right (K1 := [(.s [.c, .c, .s [.c]], v181, .list true (r173.nodes.map (GNode.cells true)))]) (K2 := [(.s [.c, .c, .c], v163, .list true (r29.1.map AmbNode.cells)), (.s [.c, .c, .c], v164, .list true (r153.1.map AmbNode.cells)), (.s [.c], v182, .list true (r173.sites.map intC)), (.s [.c], v184, .list true (r173.outer.map strC)), (.s [.c, .c], v185, .list true (r173.inner.map Wire.cells)), (.s [.c, .c, .c], v204, .list true (r193.1.map AmbNode.cells))]) (Sep.front (K1 := [(.s [.c, .c, .c], v163, .list true (r29.1.map AmbNode.cells)), (.s [.c, .c, .c], v164, .list true (r153.1.map AmbNode.cells))]) (K2 := [(.s [.c], v182, .list true (r173.sites.map intC)), (.s [.c], v184, .list true (r173.outer.map strC)), (.s [.c, .c], v185, .list true (r173.inner.map Wire.cells)), (.s [.c, .c, .c], v204, .list true (r193.1.map AmbNode.cells))]) (Sep.var sp)))))))))))) (by simp +contextual))⟩ <;> simp [h1, h4, h5, h7, h10, m1_1, m4_43, m7_99, f209, f210, dc6, db113, dr125, db147, dc168, dc170, GNode.cells, Wire.cells, intC, sliceC, strC, -cellsA, -one1, cA_int, cA_bool, cA_str, cA_nil, cA_agg, cA_list, cA_arr, cA_ptr, o1_int, o1_bool, o1_str, o1_nil, o1_list, o1_arr, o1_ptr]) ?_
                  clear h1 h4 h5 h7 h10 m1_1 m4_43 m7_99
                  rintro ρ H n214 ⟨v211, v212, v213, h4, h5, h7, h10, h12, h13, m4_43, m7_99, m12_207, sp⟩
                  refine Runs.seq ?_
                  refine Runs.seqE Ty_ok (by decide) fun k' hk' => ?_
                  obtain ⟨J215, hJ216, hr217⟩ := h
                  have fin220 : ∀ (s : Bool) (ρ : Env) (H : Heap) (n : Nat), J215 s → (match s with | b218 => ∃ (v219 : AVal), ρ 7 = .ptr (n88, 7) 1 0 0 ∧ ρ 10 = int r153.2 ∧ ρ 87 = bool b218 ∧ H (n88, 7) = some ⟨1, [[v219]]⟩ ∧ Sep H n [(.s [.c, .c, .c], v219, .list true (r153.1.map AmbNode.cells))] [(n88, 7)]) → Runs Tryd.prog 3 96 k' ρ H n Q := by
                    rintro b218 ρ H n221 h ⟨v219, h7, h10, h87, m7_99, sp⟩
                    replace h := hr217 _ h
                    refine hk' _ _ _ ?_
                    refine Runs.ite (b := b218) (by simp [h7, h10, h87, m7_99, dc6, db113, dr125, db147, dc168, dc170, GNode.cells, Wire.cells, intC, sliceC, strC]) (fun db218 => ?_) (fun db218 => ?_)
                    · replace h := h.1 db218
                      refine Runs.seqE Ty_ok (by decide) fun k' hk' => ?_
                      simp [h7, h10, h87, m7_99, dc6, db113, dr125, db147, dc168, dc170, db218, GNode.cells, Wire.cells, intC, sliceC, strC]
                      refine hk' _ _ _ ?_
                      exact Runs.ret1 (v := bool false) Tryd.func3 Tryd.results3 (by simp [h7, h10, h87, m7_99, dc6, db113, dr125, db147, dc168, dc170, db218, GNode.cells, Wire.cells, intC, sliceC, strC]) (hQ _ _ _ _ (.of (.v _)) ⟨false, h, rfl⟩)
                    · replace h := h.2 db218
                      refine Runs.skip ?_
                      refine Runs.seqE Ty_ok (by decide) fun k' hk' => ?_
                      simp [h7, h10, h87, m7_99, dc6, db113, dr125, db147, dc168, dc170, db218, GNode.cells, Wire.cells, intC, sliceC, strC]
                      refine hk' _ _ _ ?_
                      refine Runs.seqE Ty_ok (by decide) fun k' hk' => ?_
                      obtain ⟨hb222, h⟩ := h
                      obtain ⟨r223, er223⟩ : ∃ v : Int, v = heldProcess r153.1 1 := ⟨_, rfl⟩
                      replace h := h r223 er223
                      simp [h7, h10, h87, m7_99, dc6, db113, dr125, db147, dc168, dc170, db218, GNode.cells, Wire.cells, intC, sliceC, strC]
                      refine RunK.callA Ty_ok (heldProcess_ok r153.1 1 hb222) e14 (.cons (ArgOk.agg (.cons (Sep.argOk' sp (old_listF (by simp [AmbNode.cells, intC, strC, intC]))) .nil)) (.cons (.v _ _ _) .nil)) (by decide) (by decide) rfl (by simp [h7, h10, h87, m7_99, dc6, db113, dr125, db147, dc168, dc170, db218, GNode.cells, Wire.cells, intC, sliceC, strC]) ?_
                      rintro _ rfl
                      rw [← er223]
                      simp [h7, h10, h87, m7_99, dc6, db113, dr125, db147, dc168, dc170, db218, GNode.cells, Wire.cells, intC, sliceC, strC]
                      refine hk' _ _ _ ?_
                      refine Runs.seq ?_
                      refine Runs.seqE Ty_ok (by decide) fun k' hk' => ?_
                      obtain ⟨c224, ec224⟩ : ∃ v : Bool, v = decide (r223 < 0) := ⟨_, rfl⟩
                      replace h := h c224 ec224
                      have f225 := ib_lss (k := .i64) ec224
                      simp [h7, h10, h87, m7_99, f225, dc6, db113, dr125, db147, dc168, dc170, db218, GNode.cells, Wire.cells, intC, sliceC, strC, -intBin]
                      refine hk' _ _ _ ?_
                      refine Runs.ite (b := c224) (by simp [h7, h10, h87, m7_99, dc6, db113, dr125, db147, dc168, dc170, db218, GNode.cells, Wire.cells, intC, sliceC, strC]) (fun dc224 => ?_) (fun dc224 => ?_)
                      · replace h := h.1 dc224
                        refine Runs.seqE Ty_ok (by decide) fun k' hk' => ?_
                        simp [h7, h10, h87, m7_99, dc6, db113, dr125, db147, dc168, dc170, db218, dc224, GNode.cells, Wire.cells, intC, sliceC, strC]
                        refine hk' _ _ _ ?_
                        exact Runs.ret1 (v := bool false) Tryd.func3 Tryd.results3 (by simp [h7, h10, h87, m7_99, dc6, db113, dr125, db147, dc168, dc170, db218, dc224, GNode.cells, Wire.cells, intC, sliceC, strC]) (hQ _ _ _ _ (.of (.v _)) ⟨false, h, rfl⟩)
                      · replace h := h.2 dc224
                        refine Runs.skip ?_
                        refine Runs.seq ?_
                        refine Runs.seqE Ty_ok (by decide) fun k' hk' => ?_
                        obtain ⟨c226, ec226⟩ : ∃ v : Bool, v = decide (r223 ≠ r153.2) := ⟨_, rfl⟩
                        replace h := h c226 ec226
                        have f227 := ib_neq (k := .i64) ec226
                        simp [h7, h10, h87, m7_99, f227, dc6, db113, dr125, db147, dc168, dc170, db218, dc224, GNode.cells, Wire.cells, intC, sliceC, strC, -intBin]
                        refine hk' _ _ _ ?_
                        refine Runs.ite (b := c226) (by simp [h7, h10, h87, m7_99, dc6, db113, dr125, db147, dc168, dc170, db218, dc224, GNode.cells, Wire.cells, intC, sliceC, strC]) (fun dc226 => ?_) (fun dc226 => ?_)
                        · replace h := h.1 dc226
                          refine Runs.seqE Ty_ok (by decide) fun k' hk' => ?_
                          simp [h7, h10, h87, m7_99, dc6, db113, dr125, db147, dc168, dc170, db218, dc224, dc226, GNode.cells, Wire.cells, intC, sliceC, strC]
                          refine hk' _ _ _ ?_
                          exact Runs.ret1 (v := bool false) Tryd.func3 Tryd.results3 (by simp [h7, h10, h87, m7_99, dc6, db113, dr125, db147, dc168, dc170, db218, dc224, dc226, GNode.cells, Wire.cells, intC, sliceC, strC]) (hQ _ _ _ _ (.of (.v _)) ⟨false, h, rfl⟩)
                        · replace h := h.2 dc226
                          refine Runs.skip ?_
                          refine Runs.seqE Ty_ok (by decide) fun k' hk' => ?_
                          simp [h7, h10, h87, m7_99, dc6, db113, dr125, db147, dc168, dc170, db218, dc224, dc226, GNode.cells, Wire.cells, intC, sliceC, strC]
                          refine hk' _ _ _ ?_
                          exact Runs.ret1 (v := bool true) Tryd.func3 Tryd.results3 (by simp [h7, h10, h87, m7_99, dc6, db113, dr125, db147, dc168, dc170, db218, dc224, dc226, GNode.cells, Wire.cells, intC, sliceC, strC]) (hQ _ _ _ _ (.of (.v _)) ⟨true, h, rfl⟩)
                  replace h := hJ216
                  obtain ⟨hb228, h⟩ := h
                  obtain ⟨r229, er229⟩ : ∃ v : Bool, v = decide (r193.1 = r29.1) := ⟨_, rfl⟩
                  replace h := h r229 er229
                  simp [h4, h5, h7, h10, h12, h13, m4_43, m7_99, m12_207, dc6, db113, dr125, db147, dc168, dc170, GNode.cells, Wire.cells, intC, sliceC, strC]
                  refine RunK.callA Ty_ok (eqProcess_ok r193.1 r29.1 hb228) e10 (.cons (ArgOk.agg (.cons (Sep.argOk' (Sep.front (K1 := [(.s [.c, .c, .c], v211, .list true (r29.1.map AmbNode.cells)), (.s [.c, .c, .c], v212, .list true (r153.1.map AmbNode.cells))]) (K2 := []) sp) (old_listF (by simp [AmbNode.cells, intC, strC, intC]))) .nil)) (.cons (ArgOk.agg (.cons (Sep.argOk' sp (old_listF (by simp [AmbNode.cells, intC, strC, intC]))) .nil)) .nil)) (by decide) (by decide) rfl (by simp [h4, h5, h7, h10, h12, h13, m4_43, m7_99, m12_207, dc6, db113, dr125, db147, dc168, dc170, GNode.cells, Wire.cells, intC, sliceC, strC]) ?_
                  rintro _ rfl
                  rw [← er229]
                  rcases Bool.eq_false_or_eq_true r229 with dr229 | dr229
                  · replace h := h.1 dr229
                    obtain ⟨c230, ec230⟩ : ∃ v : Bool, v = !(r193.2 == r29.2) := ⟨_, rfl⟩
                    replace h := h c230 ec230
                    have f231 := bb_neq ec230
                    simp [h4, h5, h7, h10, h12, h13, m4_43, m7_99, m12_207, f231, dc6, db113, dr125, db147, dc168, dc170, dr229, GNode.cells, Wire.cells, intC, sliceC, strC, -boolBin]
                    exact fin220 (c230) _ _ _ h (by refine ⟨v212, ?_, ?_, ?_, ?_, (Sep.sub (Sep.right (K1 := [(.s [.c, .c, .c], v213, .list true (r193.1.map AmbNode.cells))]) (K2 := [(.s [.c, .c, .c], v212, .list true (r153.1.map AmbNode.cells))]) (Sep.front (K1 := [(.s [.c, .c, .c], v212, .list true (r153.1.map AmbNode.cells))]) (K2 := []) (Sep.right (K1 := [(.s [.c, .c, .c], v211, .list true (r29.1.map AmbNode.cells))]) (K2 := [(.s [.c, .c, .c], v212, .list true (r153.1.map AmbNode.cells)), (.s [.c, .c, .c], v213, .list true (r193.1.map AmbNode.cells))]) sp))) (by simp +contextual))⟩ <;> simp [h4, h5, h7, h10, h12, h13, m4_43, m7_99, m12_207, f231, dc6, db113, dr125, db147, dc168, dc170, dr229, GNode.cells, Wire.cells, intC, sliceC, strC, -boolBin])
                  · replace h := h.2 dr229
                    simp [h4, h5, h7, h10, h12, h13, m4_43, m7_99, m12_207, dc6, db113, dr125, db147, dc168, dc170, dr229, GNode.cells, Wire.cells, intC, sliceC, strC]
                    exact fin220 (true) _ _ _ h (by refine ⟨v212, ?_, ?_, ?_, ?_, (Sep.sub (Sep.right (K1 := [(.s [.c, .c, .c], v213, .list true (r193.1.map AmbNode.cells))]) (K2 := [(.s [.c, .c, .c], v212, .list true (r153.1.map AmbNode.cells))]) (Sep.front (K1 := [(.s [.c, .c, .c], v212, .list true (r153.1.map AmbNode.cells))]) (K2 := []) (Sep.right (K1 := [(.s [.c, .c, .c], v211, .list true (r29.1.map AmbNode.cells))]) (K2 := [(.s [.c, .c, .c], v212, .list true (r153.1.map AmbNode.cells)), (.s [.c, .c, .c], v213, .list true (r193.1.map AmbNode.cells))]) sp))) (by simp +contextual))⟩ <;> simp [h4, h5, h7, h10, h12, h13, m4_43, m7_99, m12_207, dc6, db113, dr125, db147, dc168, dc170, dr229, GNode.cells, Wire.cells, intC, sliceC, strC])
          replace h := hJ145
          obtain ⟨c232, ec232⟩ : ∃ v : Bool, v = decide (r127 < 0) := ⟨_, rfl⟩
          replace h := h c232 ec232
          have f233 := ib_lss (k := .i64) ec232
          rcases Bool.eq_false_or_eq_true c232 with dc232 | dc232
          · replace h := h.1 dc232
            simp [h1, h4, h5, h7, h8, h9, m1_1, m4_43, m7_99, f233, dc6, db113, dr125, dc232, GNode.cells, Wire.cells, intC, sliceC, strC, -intBin]
            exact fin150 (true) _ _ _ h (by refine ⟨v141, v142, ?_, ?_, ?_, ?_, ?_, ?_, ?_, ?_, (Sep.front (K1 := [(.s [.c, .c, .c], v142, .list true (r85.1.map AmbNode.cells))]) (K2 := []) (Sep.front (K1 := [(.s [.c, .c, .c], v141, .list true (r29.1.map AmbNode.cells))]) (K2 := []) sp))⟩ <;> simp [h1, h4, h5, h7, h8, h9, m1_1, m4_43, m7_99, f233, dc6, db113, dr125, dc232, GNode.cells, Wire.cells, intC, sliceC, strC, -intBin])
          · replace h := h.2 dc232
            obtain ⟨hb234, h⟩ := h
            obtain ⟨r235, er235⟩ : ∃ v : Bool, v = decide (r85.1 = r29.1) := ⟨_, rfl⟩
            replace h := h r235 er235
            simp [h1, h4, h5, h7, h8, h9, m1_1, m4_43, m7_99, f233, dc6, db113, dr125, dc232, GNode.cells, Wire.cells, intC, sliceC, strC, -intBin]
            refine RunK.callA Ty_ok (eqProcess_ok r85.1 r29.1 hb234) e10 (.cons (ArgOk.agg (.cons (Sep.argOk' (Sep.front (K1 := [(.s [.c, .c, .c], v141, .list true (r29.1.map AmbNode.cells))]) (K2 := []) sp) (old_listF (by simp [AmbNode.cells, intC, strC, intC]))) .nil)) (.cons (ArgOk.agg (.cons (Sep.argOk' sp (old_listF (by simp [AmbNode.cells, intC, strC, intC]))) .nil)) .nil)) (by decide) (by decide) rfl (by simp [h1, h4, h5, h7, h8, h9, m1_1, m4_43, m7_99, f233, dc6, db113, dr125, dc232, GNode.cells, Wire.cells, intC, sliceC, strC, -intBin]) ?_
            rintro _ rfl
            rw [← er235]
            rcases Bool.eq_false_or_eq_true r235 with dr235 | dr235
            · replace h := h.1 dr235
              obtain ⟨c236, ec236⟩ : ∃ v : Bool, v = !(r85.2 == r29.2) := ⟨_, rfl⟩
              replace h := h c236 ec236
              have f237 := bb_neq ec236
              simp [h1, h4, h5, h7, h8, h9, m1_1, m4_43, m7_99, f233, f237, dc6, db113, dr125, dc232, dr235, GNode.cells, Wire.cells, intC, sliceC, strC, -boolBin, -intBin]
              exact fin150 (c236) _ _ _ h (by refine ⟨v141, v142, ?_, ?_, ?_, ?_, ?_, ?_, ?_, ?_, (Sep.front (K1 := [(.s [.c, .c, .c], v142, .list true (r85.1.map AmbNode.cells))]) (K2 := []) (Sep.front (K1 := [(.s [.c, .c, .c], v141, .list true (r29.1.map AmbNode.cells))]) (K2 := []) sp))⟩ <;> simp [h1, h4, h5, h7, h8, h9, m1_1, m4_43, m7_99, f233, f237, dc6, db113, dr125, dc232, dr235, GNode.cells, Wire.cells, intC, sliceC, strC, -boolBin, -intBin])
            · replace h := h.2 dr235
              simp [h1, h4, h5, h7, h8, h9, m1_1, m4_43, m7_99, f233, dc6, db113, dr125, dc232, dr235, GNode.cells, Wire.cells, intC, sliceC, strC, -intBin]
              exact fin150 (true) _ _ _ h (by refine ⟨v141, v142, ?_, ?_, ?_, ?_, ?_, ?_, ?_, ?_, (Sep.front (K1 := [(.s [.c, .c, .c], v142, .list true (r85.1.map AmbNode.cells))]) (K2 := []) (Sep.front (K1 := [(.s [.c, .c, .c], v141, .list true (r29.1.map AmbNode.cells))]) (K2 := []) sp))⟩ <;> simp [h1, h4, h5, h7, h8, h9, m1_1, m4_43, m7_99, f233, dc6, db113, dr125, dc232, dr235, GNode.cells, Wire.cells, intC, sliceC, strC, -intBin])
    replace h := hJ111
    obtain ⟨hb238, h⟩ := h
    obtain ⟨r239, er239⟩ : ∃ v : Bool, v = decide (r85.1 = r29.1) := ⟨_, rfl⟩
    replace h := h r239 er239
    simp [h1, h4, h5, h6, h7, h8, m1_1, m4_43, m6_68, m7_99, dc6, GNode.cells, Wire.cells, intC, sliceC, strC]
    refine RunK.callA Ty_ok (eqProcess_ok r85.1 r29.1 hb238) e10 (.cons (ArgOk.agg (.cons (Sep.argOk' (Sep.front (K1 := [(.s [.c, .c, .c], v103, .list true (r29.1.map AmbNode.cells)), (.s [.c, .c, .s [.c]], v104, .list true (r50.nodes.map (GNode.cells true))), (.s [.c], v105, .list true (r50.sites.map intC)), (.s [.c], v106, .list true (r50.outer.map strC)), (.s [.c, .c], v107, .list true (r50.inner.map Wire.cells))]) (K2 := []) sp) (old_listF (by simp [AmbNode.cells, intC, strC, intC]))) .nil)) (.cons (ArgOk.agg (.cons (Sep.argOk' sp (old_listF (by simp [AmbNode.cells, intC, strC, intC]))) .nil)) .nil)) (by decide) (by decide) rfl (by simp [h1, h4, h5, h6, h7, h8, m1_1, m4_43, m6_68, m7_99, dc6, GNode.cells, Wire.cells, intC, sliceC, strC]) ?_
    rintro _ rfl
    rw [← er239]
    rcases Bool.eq_false_or_eq_true r239 with dr239 | dr239
    · replace h := h.1 dr239
      obtain ⟨c240, ec240⟩ : ∃ v : Bool, v = !(r85.2 == r29.2) := ⟨_, rfl⟩
      replace h := h c240 ec240
      have f241 := bb_neq ec240
      simp [h1, h4, h5, h6, h7, h8, m1_1, m4_43, m6_68, m7_99, f241, dc6, dr239, GNode.cells, Wire.cells, intC, sliceC, strC, -boolBin]
      exact fin120 (c240) _ _ _ h (by refine ⟨v103, v104, v105, v106, v107, v108, ?_, ?_, ?_, ?_, ?_, ?_, ?_, ?_, ?_, ?_, ?_, (Sep.front (K1 := [(.s [.c, .c, .s [.c]], v104, .list true (r50.nodes.map (GNode.cells true))), (.s [.c], v105, .list true (r50.sites.map intC)), (.s [.c], v106, .list true (r50.outer.map strC)), (.s [.c, .c], v107, .list true (r50.inner.map Wire.cells)), (.s [.c, .c, .c], v108, .list true (r85.1.map AmbNode.cells))]) (K2 := []) (Sep.front (K1 := [(.s [.c], v105, .list true (r50.sites.map intC)), (.s [.c], v106, .list true (r50.outer.map strC)), (.s [.c, .c], v107, .list true (r50.inner.map Wire.cells)), (.s [.c, .c, .c], v108, .list true (r85.1.map AmbNode.cells)), (.s [.c, .c, .c], v103, .list true (r29.1.map AmbNode.cells))]) (K2 := []) (Sep.front (K1 := [(.s [.c], v106, .list true (r50.outer.map strC)), (.s [.c, .c], v107, .list true (r50.inner.map Wire.cells)), (.s [.c, .c, .c], v108, .list true (r85.1.map AmbNode.cells)), (.s [.c, .c, .c], v103, .list true (r29.1.map AmbNode.cells)), (.s [.c, .c, .s [.c]], v104, .list true (r50.nodes.map (GNode.cells true)))]) (K2 := []) (Sep.front (K1 := [(.s [.c, .c], v107, .list true (r50.inner.map Wire.cells)), (.s [.c, .c, .c], v108, .list true (r85.1.map AmbNode.cells)), (.s [.c, .c, .c], v103, .list true (r29.1.map AmbNode.cells)), (.s [.c, .c, .s [.c]], v104, .list true (r50.nodes.map (GNode.cells true))), (.s [.c], v105, .list true (r50.sites.map intC))]) (K2 := []) (Sep.front (K1 := [(.s [.c, .c, .c], v108, .list true (r85.1.map AmbNode.cells)), (.s [.c, .c, .c], v103, .list true (r29.1.map AmbNode.cells)), (.s [.c, .c, .s [.c]], v104, .list true (r50.nodes.map (GNode.cells true))), (.s [.c], v105, .list true (r50.sites.map intC)), (.s [.c], v106, .list true (r50.outer.map strC))]) (K2 := []) (Sep.front (K1 := [(.s [.c, .c, .c], v103, .list true (r29.1.map AmbNode.cells)), (.s [.c, .c, .s [.c]], v104, .list true (r50.nodes.map (GNode.cells true))), (.s [.c], v105, .list true (r50.sites.map intC)), (.s [.c], v106, .list true (r50.outer.map strC)), (.s [.c, .c], v107, .list true (r50.inner.map Wire.cells))]) (K2 := []) sp))))))⟩ <;> simp [h1, h4, h5, h6, h7, h8, m1_1, m4_43, m6_68, m7_99, f241, dc6, dr239, GNode.cells, Wire.cells, intC, sliceC, strC, -boolBin])
    · replace h := h.2 dr239
      simp [h1, h4, h5, h6, h7, h8, m1_1, m4_43, m6_68, m7_99, dc6, dr239, GNode.cells, Wire.cells, intC, sliceC, strC]
      exact fin120 (true) _ _ _ h (by refine ⟨v103, v104, v105, v106, v107, v108, ?_, ?_, ?_, ?_, ?_, ?_, ?_, ?_, ?_, ?_, ?_, (Sep.front (K1 := [(.s [.c, .c, .s [.c]], v104, .list true (r50.nodes.map (GNode.cells true))), (.s [.c], v105, .list true (r50.sites.map intC)), (.s [.c], v106, .list true (r50.outer.map strC)), (.s [.c, .c], v107, .list true (r50.inner.map Wire.cells)), (.s [.c, .c, .c], v108, .list true (r85.1.map AmbNode.cells))]) (K2 := []) (Sep.front (K1 := [(.s [.c], v105, .list true (r50.sites.map intC)), (.s [.c], v106, .list true (r50.outer.map strC)), (.s [.c, .c], v107, .list true (r50.inner.map Wire.cells)), (.s [.c, .c, .c], v108, .list true (r85.1.map AmbNode.cells)), (.s [.c, .c, .c], v103, .list true (r29.1.map AmbNode.cells))]) (K2 := []) (Sep.front (K1 := [(.s [.c], v106, .list true (r50.outer.map strC)), (.s [.c, .c], v107, .list true (r50.inner.map Wire.cells)), (.s [.c, .c, .c], v108, .list true (r85.1.map AmbNode.cells)), (.s [.c, .c, .c], v103, .list true (r29.1.map AmbNode.cells)), (.s [.c, .c, .s [.c]], v104, .list true (r50.nodes.map (GNode.cells true)))]) (K2 := []) (Sep.front (K1 := [(.s [.c, .c], v107, .list true (r50.inner.map Wire.cells)), (.s [.c, .c, .c], v108, .list true (r85.1.map AmbNode.cells)), (.s [.c, .c, .c], v103, .list true (r29.1.map AmbNode.cells)), (.s [.c, .c, .s [.c]], v104, .list true (r50.nodes.map (GNode.cells true))), (.s [.c], v105, .list true (r50.sites.map intC))]) (K2 := []) (Sep.front (K1 := [(.s [.c, .c, .c], v108, .list true (r85.1.map AmbNode.cells)), (.s [.c, .c, .c], v103, .list true (r29.1.map AmbNode.cells)), (.s [.c, .c, .s [.c]], v104, .list true (r50.nodes.map (GNode.cells true))), (.s [.c], v105, .list true (r50.sites.map intC)), (.s [.c], v106, .list true (r50.outer.map strC))]) (K2 := []) (Sep.front (K1 := [(.s [.c, .c, .c], v103, .list true (r29.1.map AmbNode.cells)), (.s [.c, .c, .s [.c]], v104, .list true (r50.nodes.map (GNode.cells true))), (.s [.c], v105, .list true (r50.sites.map intC)), (.s [.c], v106, .list true (r50.outer.map strC)), (.s [.c, .c], v107, .list true (r50.inner.map Wire.cells))]) (K2 := []) sp))))))⟩ <;> simp [h1, h4, h5, h6, h7, h8, m1_1, m4_43, m6_68, m7_99, dc6, dr239, GNode.cells, Wire.cells, intC, sliceC, strC])

theorem lawDecode_ok (aB : Big) (hp : lawDecode_pre aB) : PureC Tryd.prog 3 [.agg [int aB.roots, .list false (aB.nodes.map (GNode.cells false)), .list false (aB.sites.map intC), int aB.edges, .list false (aB.outer.map strC), .list false (aB.inner.map Wire.cells)]] (fun r => r = bool (lawDecode aB)) := (lawDecode_walk aB _ (lawDecode_vc aB hp)).mono (by rintro _ ⟨_, rfl, rfl⟩; rfl)
end Go.Ab.Vg

/- The contract of laws.FnExactDecodeProcess: it answers true. -/
namespace Go.Ab
open Go.Proofs
theorem exactDecodeProcess_ok (b : Big) (hh : HugeB b) : PureC Tryd.prog 3 [encB false b] (fun r => r = bool true) := Vg.lawDecode_ok b hh
end Go.Ab
