/- Merged texts (10 of 15) of the proof that ends in M2y: Mbw. -/
import Derived.Test.YtgdmihplkgkiiaaGreatDoorAbQm29
/- Walks by program for YtgdmihplkgkiiaaGreatDoorAbMb. -/
namespace Go.Ab.Vg
open Go.Proofs
set_option maxRecDepth 100000
set_option linter.unusedSimpArgs false
set_option linter.unusedVariables false
attribute [local simp] Control.cells GNode.cells Wire.cells intC intC2 sliceC strC bC mC pA
theorem hasI_ok (l : List Int) (x : Int) (h : l.length ≤ 1048576) : PureC Tryz.prog 69 [.list false (l.map intC), int x] (fun r => r = bool (hasI l x)) := contains_ok l x h

theorem l1HasI_ok (l : List Int) (x : Int) (h : l.length ≤ 1048576) : PureC Tryz.prog 85 [.list false (l.map intC), int x] (fun r => r = bool (hasI l x)) := l1Has_ok l x h

theorem e73 : Ent Tryz.prog 73 := Ent.of Tryz.func73 (by kernel_rfl) rfl
theorem isUnder_walk (b : Big) (place : Int) (nodes : List Int) (Z : Bool → Prop) (h : isUnder_wp b place nodes Z) : PureC Tryz.prog 73 [.agg (bC false b), int place, .list false (nodes.map intC)] (fun r => ∃ y : Bool, Z y ∧ r = bool y) := by
  unfold isUnder_wp at h
  refine PureC.of Tryz.func73 rfl Tryz.ntmps73 (by simp) fun Q hQ => ?_
  refine Runs.cut (fun ρ H n => ρ 0 = .agg (bC false b) ∧ ρ 1 = int place ∧ ρ 2 = .list false (nodes.map intC)) (by refine ⟨?_, ?_, ?_⟩ <;> simp ) ?_
  rintro ρ H n1 ⟨h0, h1, h2⟩
  refine Runs.seqE Ty_ok (by decide) fun k' hk' => ?_
  simp [h0, h1, h2]
  refine hk' _ _ _ ?_
  refine Runs.cut (fun ρ H n => ρ 1 = int place ∧ ρ 2 = .list false (nodes.map intC) ∧ ρ 3 = pA n1 3 ∧ H (n1, 3) = some ⟨6, [bC false b]⟩) (by refine ⟨?_, ?_, ?_, ?_⟩ <;> simp [h0, h1, h2]) ?_
  clear h0 h1 h2
  rintro ρ H n3 ⟨h1, h2, h3, m3_1⟩
  refine Runs.seq ?_
  refine Runs.block ?_
  refine Runs.loopW h (fun (sJ : Int) ρ H n => match sJ with | placeV6 => ρ 1 = int placeV6 ∧ ρ 2 = .list false (nodes.map intC) ∧ ρ 3 = pA n1 3 ∧ H (n1, 3) = some ⟨6, [bC false b]⟩) (by refine ⟨?_, ?_, ?_, ?_⟩ <;> simp [h1, h2, h3, m3_1]) ?_
  clear h1 h2 h3 m3_1
  rintro placeV6 ρ H n7 K h ⟨h1, h2, h3, m3_1⟩ IH8
  refine Runs.seq ?_
  refine Runs.seqE Ty_ok (by decide) fun k' hk' => ?_
  obtain ⟨c10, ec10⟩ : ∃ v : Bool, v = decide (0 ≤ placeV6) := ⟨_, rfl⟩
  replace h := h c10 ec10
  have f11 := ib_geq (k := .i64) ec10
  simp [h1, h2, h3, m3_1, f11, -intBin]
  refine hk' _ _ _ ?_
  refine Runs.ite (b := c10) (by simp [h1, h2, h3, m3_1]) (fun dc10 => ?_) (fun dc10 => ?_)
  · replace h := h.1 dc10
    refine Runs.skip ?_
    refine Runs.seq ?_
    refine Runs.block ?_
    refine Runs.seqE Ty_ok (by decide) fun k' hk' => ?_
    obtain ⟨hb12, h⟩ := h
    obtain ⟨r13, er13⟩ : ∃ v : Bool, v = hasI nodes placeV6 := ⟨_, rfl⟩
    replace h := h r13 er13
    simp [h1, h2, h3, m3_1, dc10]
    refine RunK.callA Ty_ok (hasI_ok nodes placeV6 hb12) e69 (.cons (argI false nodes) (.cons (.v _ _ _) .nil)) (by decide) (by decide) rfl (by simp [h1, h2, h3, m3_1, dc10]) ?_
    rintro _ rfl
    rw [← er13]
    simp [h1, h2, h3, m3_1, dc10]
    refine hk' _ _ _ ?_
    refine Runs.ite (b := r13) (by simp [h1, h2, h3, m3_1, dc10]) (fun dr13 => ?_) (fun dr13 => ?_)
    · replace h := h.1 dr13
      refine Runs.seqE Ty_ok (by decide) fun k' hk' => ?_
      simp [h1, h2, h3, m3_1, dc10, dr13]
      refine hk' _ _ _ ?_
      exact Runs.ret1 (v := bool true) Tryz.func73 Tryz.results73 (by simp [h1, h2, h3, m3_1, dc10, dr13]) (hQ _ _ _ _ (.of (.v _)) ⟨true, h, rfl⟩)
    replace h := h.2 dr13
    refine Runs.skip ?_
    refine Runs.inBlock ?_
    refine Runs.evalE Ty_ok (by decide) fun k' hk' => ?_
    obtain ⟨hb14, h⟩ := h
    obtain ⟨x15, ex15⟩ : ∃ v : GNode, v = at' b.nodes placeV6 := ⟨_, rfl⟩
    replace h := h x15 ex15
    have f16 := fun H => ix_list (H := H) (fr := false) (f := (GNode.cells false)) (k := .i64) kd_38 (fun _ => rfl) hb14 ex15
    simp [h1, h2, h3, m3_1, f16, dc10, dr13, -indexAddrF]
    refine hk' _ _ _ ?_
    refine IH8 (x15.parent) _ _ _ h (by refine ⟨?_, ?_, ?_, ?_⟩ <;> simp [h1, h2, h3, m3_1, dc10, dr13])
  replace h := h.2 dc10
  refine Runs.exit rfl ?_
  refine Runs.seqE Ty_ok (by decide) fun k' hk' => ?_
  simp [h1, h2, h3, m3_1, dc10]
  refine hk' _ _ _ ?_
  exact Runs.ret1 (v := bool false) Tryz.func73 Tryz.results73 (by simp [h1, h2, h3, m3_1, dc10]) (hQ _ _ _ _ (.of (.v _)) ⟨false, h, rfl⟩)

theorem isUnder_ok (b : Big) (place : Int) (nodes : List Int) (hp : isUnder_pre b place nodes) : PureC Tryz.prog 73 [.agg (bC false b), int place, .list false (nodes.map intC)] (fun r => r = bool (isUnder b place nodes)) := (isUnder_walk b place nodes _ (isUnder_vc b place nodes hp)).mono (by rintro _ ⟨_, rfl, rfl⟩; rfl)

theorem e87 : Ent Tryz.prog 87 := Ent.of Tryz.func87 (by kernel_rfl) rfl
theorem l8Inside_walk (agent : Big) (m : Match) (place : Int) (Z : Bool → Prop) (h : l8Inside_wp agent m place Z) : PureC Tryz.prog 87 [.agg (bC false agent), .agg (mC false m), int place] (fun r => ∃ y : Bool, Z y ∧ r = bool y) := by
  unfold l8Inside_wp at h
  refine PureC.of Tryz.func87 rfl Tryz.ntmps87 (by simp) fun Q hQ => ?_
  refine Runs.cut (fun ρ H n => ρ 0 = .agg (bC false agent) ∧ ρ 1 = .agg (mC false m) ∧ ρ 2 = int place) (by refine ⟨?_, ?_, ?_⟩ <;> simp ) ?_
  rintro ρ H n1 ⟨h0, h1, h2⟩
  refine Runs.seqE Ty_ok (by decide) fun k' hk' => ?_
  simp [h0, h1, h2]
  refine hk' _ _ _ ?_
  refine Runs.cut (fun ρ H n => ρ 2 = int place ∧ ρ 3 = pA n1 3 ∧ ρ 4 = pA (n1 + 1) 4 ∧ H (n1, 3) = some ⟨6, [bC false agent]⟩ ∧ H (n1 + 1, 4) = some ⟨2, [mC false m]⟩) (by refine ⟨?_, ?_, ?_, ?_, ?_⟩ <;> simp [h0, h1, h2]) ?_
  clear h0 h1 h2
  rintro ρ H n4 ⟨h2, h3, h4, m3_1, m4_2⟩
  refine Runs.seq ?_
  refine Runs.block ?_
  refine Runs.loopW h (fun (sJ : Int) ρ H n => match sJ with | placeV7 => ρ 2 = int placeV7 ∧ ρ 3 = pA n1 3 ∧ ρ 4 = pA (n1 + 1) 4 ∧ H (n1, 3) = some ⟨6, [bC false agent]⟩ ∧ H (n1 + 1, 4) = some ⟨2, [mC false m]⟩) (by refine ⟨?_, ?_, ?_, ?_, ?_⟩ <;> simp [h2, h3, h4, m3_1, m4_2]) ?_
  clear h2 h3 h4 m3_1 m4_2
  rintro placeV7 ρ H n8 K h ⟨h2, h3, h4, m3_1, m4_2⟩ IH9
  refine Runs.seq ?_
  refine Runs.seqE Ty_ok (by decide) fun k' hk' => ?_
  obtain ⟨c11, ec11⟩ : ∃ v : Bool, v = decide (0 ≤ placeV7) := ⟨_, rfl⟩
  replace h := h c11 ec11
  have f12 := ib_geq (k := .i64) ec11
  simp [h2, h3, h4, m3_1, m4_2, f12, -intBin]
  refine hk' _ _ _ ?_
  refine Runs.ite (b := c11) (by simp [h2, h3, h4, m3_1, m4_2]) (fun dc11 => ?_) (fun dc11 => ?_)
  · replace h := h.1 dc11
    refine Runs.skip ?_
    refine Runs.block ?_
    refine Runs.seq ?_
    refine Runs.seqE Ty_ok (by decide) fun k' hk' => ?_
    obtain ⟨hb13, h⟩ := h
    obtain ⟨r14, er14⟩ : ∃ v : Bool, v = hasI m.nodes placeV7 := ⟨_, rfl⟩
    replace h := h r14 er14
    simp [h2, h3, h4, m3_1, m4_2, dc11]
    refine RunK.callA Ty_ok (l1HasI_ok m.nodes placeV7 hb13) e85 (.cons (argI false m.nodes) (.cons (.v _ _ _) .nil)) (by decide) (by decide) rfl (by simp [h2, h3, h4, m3_1, m4_2, dc11]) ?_
    rintro _ rfl
    rw [← er14]
    simp [h2, h3, h4, m3_1, m4_2, dc11]
    refine hk' _ _ _ ?_
    refine Runs.ite (b := r14) (by simp [h2, h3, h4, m3_1, m4_2, dc11]) (fun dr14 => ?_) (fun dr14 => ?_)
    · replace h := h.1 dr14
      refine Runs.seqE Ty_ok (by decide) fun k' hk' => ?_
      simp [h2, h3, h4, m3_1, m4_2, dc11, dr14]
      refine hk' _ _ _ ?_
      exact Runs.ret1 (v := bool true) Tryz.func87 Tryz.results87 (by simp [h2, h3, h4, m3_1, m4_2, dc11, dr14]) (hQ _ _ _ _ (.of (.v _)) ⟨true, h, rfl⟩)
    replace h := h.2 dr14
    refine Runs.skip ?_
    refine Runs.evalE Ty_ok (by decide) fun k' hk' => ?_
    obtain ⟨hb15, h⟩ := h
    obtain ⟨x16, ex16⟩ : ∃ v : GNode, v = at' agent.nodes placeV7 := ⟨_, rfl⟩
    replace h := h x16 ex16
    have f17 := fun H => ix_list (H := H) (fr := false) (f := (GNode.cells false)) (k := .i64) kd_38 (fun _ => rfl) hb15 ex16
    simp [h2, h3, h4, m3_1, m4_2, f17, dc11, dr14, -indexAddrF]
    refine hk' _ _ _ ?_
    refine Runs.inBlock ?_
    refine IH9 (x16.parent) _ _ _ h (by refine ⟨?_, ?_, ?_, ?_, ?_⟩ <;> simp [h2, h3, h4, m3_1, m4_2, dc11, dr14])
  replace h := h.2 dc11
  refine Runs.exit rfl ?_
  refine Runs.seqE Ty_ok (by decide) fun k' hk' => ?_
  simp [h2, h3, h4, m3_1, m4_2, dc11]
  refine hk' _ _ _ ?_
  exact Runs.ret1 (v := bool false) Tryz.func87 Tryz.results87 (by simp [h2, h3, h4, m3_1, m4_2, dc11]) (hQ _ _ _ _ (.of (.v _)) ⟨false, h, rfl⟩)

theorem l8Inside_ok (agent : Big) (m : Match) (place : Int) (hp : l8Inside_pre agent m place) : PureC Tryz.prog 87 [.agg (bC false agent), .agg (mC false m), int place] (fun r => r = bool (l8Inside agent m place)) := (l8Inside_walk agent m place _ (l8Inside_vc agent m place hp)).mono (by rintro _ ⟨_, rfl, rfl⟩; rfl)

theorem e104 : Ent Tryz.prog 104 := Ent.of Tryz.func104 (by kernel_rfl) rfl
theorem areImages1_walk {H0 : Heap} {n0 : Nat} {X1 : Id} (c : Int) (v_ : Match) (hX1 : H0 X1 = some ⟨2, [mC false v_]⟩) (Z : Bool → Prop) (h : areImages1_wp c v_ Z) : ClosC Tryz.prog H0 n0 (.fn (.func 104) [] [.ptr X1 1 0 0]) [int c] (fun r => ∃ y : Bool, Z y ∧ r = bool y) := by
  unfold areImages1_wp at h
  refine ⟨104, [], [.ptr X1 1 0 0], rfl, e104, ?_⟩
  refine StillC.of Tryz.func104 rfl Tryz.ntmps104 (by simp) fun Q hB hQ => ?_
  have lX1 : X1.1 < n0 := (hB X1 _ hX1).1
  have neX1 : ∀ m d, n0 ≤ m → (X1 = (m, d)) = False := fun m d hm => by simp only [eq_iff_iff, iff_false]; rintro rfl; simp at lX1; omega
  have hfr : Frame n0 H0 H0 := Frame.refl _ _
  have hn0 : n0 ≤ n0 := Nat.le_refl _
  refine Runs.cut (fun ρ H n => ρ 0 = int c ∧ ρ 1 = .ptr X1 1 0 0 ∧ H X1 = some ⟨2, [mC false v_]⟩ ∧ n0 ≤ n ∧ Frame n0 H0 H) (by refine ⟨?_, ?_, ?_, ?_, ?_⟩ <;> first | ((repeat (first | exact hfr | refine Frame.set (by first | omega | (simp; omega)) ?_)); done) | omega | simp [hX1]) ?_
  rintro ρ H n1 ⟨h0, h1, mX1, hn0, hfr⟩
  have hn1 := Nat.le_succ_of_le hn0
  have hn2 := Nat.le_succ_of_le hn1
  refine Runs.seqE Ty_ok (by decide) fun k' hk' => ?_
  simp [h0, h1, mX1, hn0, hn1, hn2, neX1]
  refine hk' _ _ _ ?_
  refine Runs.seqE Ty_ok (by decide) fun k' hk' => ?_
  obtain ⟨hb2, h⟩ := h
  obtain ⟨r3, er3⟩ : ∃ v : Bool, v = hasI v_.nodes c := ⟨_, rfl⟩
  replace h := h r3 er3
  simp [h0, h1, mX1, hn0, hn1, hn2, neX1]
  refine RunK.callA Ty_ok (hasI_ok v_.nodes c hb2) e69 (.cons (argI false v_.nodes) (.cons (.v _ _ _) .nil)) (by decide) (by decide) rfl (by simp [h0, h1, mX1, hn0, hn1, hn2, neX1]) ?_
  rintro _ rfl
  rw [← er3]
  simp [h0, h1, mX1, hn0, hn1, hn2, neX1]
  refine hk' _ _ _ ?_
  exact Runs.ret1 (v := bool (!r3)) Tryz.func104 Tryz.results104 (by simp [h0, h1, mX1, hn0, hn1, hn2, neX1]) (hQ _ _ _ _ (.bnd (.v _)) (hfr) ⟨(!r3), h, rfl⟩)

theorem areImages1_ok {H0 : Heap} {n0 : Nat} {X1 : Id} (c : Int) (v_ : Match) (hX1 : H0 X1 = some ⟨2, [mC false v_]⟩) (hp : areImages1_pre c v_) : ClosC Tryz.prog H0 n0 (.fn (.func 104) [] [.ptr X1 1 0 0]) [int c] (fun r => r = bool (areImages1 c v_)) := (areImages1_walk c v_ hX1 _ (areImages1_vc c v_ hp)).mono (by rintro _ ⟨_, rfl, rfl⟩; rfl)

theorem e74 : Ent Tryz.prog 74 := Ent.of Tryz.func74 (by kernel_rfl) rfl
theorem areImages_walk (redex : Big) (agent : Big) (m : Match) (Z : Bool → Prop) (h : areImages_wp redex agent m Z) : PureC Tryz.prog 74 [.agg (bC false redex), .agg (bC false agent), .agg (mC false m)] (fun r => ∃ y : Bool, Z y ∧ r = bool y) := by
  unfold areImages_wp at h
  refine PureC.of Tryz.func74 rfl Tryz.ntmps74 (by simp) fun Q hQ => ?_
  refine Runs.cut (fun ρ H n => ρ 0 = .agg (bC false redex) ∧ ρ 1 = .agg (bC false agent) ∧ ρ 2 = .agg (mC false m)) (by refine ⟨?_, ?_, ?_⟩ <;> first | (simp ; done) | omega | (simp; omega)) ?_
  rintro ρ H n1 ⟨h0, h1, h2⟩
  refine Runs.seqE Ty_ok (by decide) fun k' hk' => ?_
  simp [h0, h1, h2]
  refine hk' _ _ _ ?_
  refine Runs.cut (fun ρ H n => ρ 3 = pA n1 3 ∧ ρ 4 = pA (n1 + 1) 4 ∧ ρ 5 = pA (n1 + 2) 5 ∧ H (n1, 3) = some ⟨6, [bC false redex]⟩ ∧ H (n1 + 1, 4) = some ⟨6, [bC false agent]⟩ ∧ H (n1 + 2, 5) = some ⟨2, [mC false m]⟩ ∧ n1 < n ∧ n1 + 1 < n ∧ n1 + 2 < n) (by refine ⟨?_, ?_, ?_, ?_, ?_, ?_, ?_, ?_, ?_⟩ <;> first | (simp [h0, h1, h2]; done) | omega | (simp; omega)) ?_
  clear h0 h1 h2
  rintro ρ H n5 ⟨h3, h4, h5, m3_1, m4_2, m5_3, g3_1, g4_2, g5_3⟩
  refine Runs.seq ?_
  refine Runs.seqE Ty_ok (by decide) fun k' hk' => ?_
  obtain ⟨len6, elen6⟩ : ∃ v : Int, v = (redex.nodes.length : Int) := ⟨_, rfl⟩
  replace h := h len6 elen6
  have f7 := fun H => len_list (H := H) (fr := false) (f := (GNode.cells false)) kd_38 elen6
  simp [h3, h4, h5, m3_1, m4_2, m5_3, g3_1, g4_2, g5_3, f7, -lenF]
  refine hk' _ _ _ ?_
  refine Runs.block ?_
  refine Runs.loopW h (fun (sJ : Int) ρ H n => match sJ with | v10 => ρ 3 = pA n1 3 ∧ ρ 4 = pA (n1 + 1) 4 ∧ ρ 5 = pA (n1 + 2) 5 ∧ ρ 16 = .list false (redex.nodes.map (GNode.cells false)) ∧ ρ 17 = int len6 ∧ ρ 18 = int v10 ∧ H (n1, 3) = some ⟨6, [bC false redex]⟩ ∧ H (n1 + 1, 4) = some ⟨6, [bC false agent]⟩ ∧ H (n1 + 2, 5) = some ⟨2, [mC false m]⟩ ∧ n1 < n ∧ n1 + 1 < n ∧ n1 + 2 < n) (by refine ⟨?_, ?_, ?_, ?_, ?_, ?_, ?_, ?_, ?_, ?_, ?_, ?_⟩ <;> first | (simp [h3, h4, h5, m3_1, m4_2, m5_3, g3_1, g4_2, g5_3]; done) | omega | (simp; omega)) ?_
  clear h3 h4 h5 m3_1 m4_2 m5_3 g3_1 g4_2 g5_3
  rintro v10 ρ H n11 K h ⟨h3, h4, h5, h16, h17, h18, m3_1, m4_2, m5_3, g3_1, g4_2, g5_3⟩ IH12
  refine Runs.seqE Ty_ok (by decide) fun k' hk' => ?_
  obtain ⟨c14, ec14⟩ : ∃ v : Bool, v = decide (v10 < len6) := ⟨_, rfl⟩
  replace h := h c14 ec14
  have f15 := ib_lss (k := .i64) ec14
  simp [h3, h4, h5, h16, h17, h18, m3_1, m4_2, m5_3, g3_1, g4_2, g5_3, f15, -intBin]
  refine hk' _ _ _ ?_
  refine Runs.seq ?_
  refine Runs.ite (b := c14) (by simp [h3, h4, h5, h16, h17, h18, m3_1, m4_2, m5_3, g3_1, g4_2, g5_3]) (fun dc14 => ?_) (fun dc14 => ?_)
  · replace h := h.1 dc14
    refine Runs.skip ?_
    refine Runs.seq ?_
    refine Runs.block ?_
    refine Runs.seqE Ty_ok (by decide) fun k' hk' => ?_
    obtain ⟨hb16, h⟩ := h
    obtain ⟨x17, ex17⟩ : ∃ v : GNode, v = at' redex.nodes v10 := ⟨_, rfl⟩
    replace h := h x17 ex17
    have f18 := fun H => ix_list (H := H) (fr := false) (f := (GNode.cells false)) (k := .i64) kd_38 (fun _ => rfl) hb16 ex17
    simp [h3, h4, h5, h16, h17, h18, m3_1, m4_2, m5_3, g3_1, g4_2, g5_3, f18, dc14, -indexAddrF]
    refine hk' _ _ _ ?_
    refine Runs.cut (fun ρ H n => ρ 3 = pA n1 3 ∧ ρ 4 = pA (n1 + 1) 4 ∧ ρ 5 = pA (n1 + 2) 5 ∧ ρ 7 = int v10 ∧ ρ 8 = pA n11 8 ∧ ρ 16 = .list false (redex.nodes.map (GNode.cells false)) ∧ ρ 17 = int len6 ∧ ρ 18 = int v10 ∧ H (n1, 3) = some ⟨6, [bC false redex]⟩ ∧ H (n1 + 1, 4) = some ⟨6, [bC false agent]⟩ ∧ H (n1 + 2, 5) = some ⟨2, [mC false m]⟩ ∧ H (n11, 8) = some ⟨3, [[int x17.control, int x17.parent, .list false (x17.links.map intC)]]⟩ ∧ n1 < n ∧ n1 + 1 < n ∧ n1 + 2 < n ∧ n11 < n) (by refine ⟨?_, ?_, ?_, ?_, ?_, ?_, ?_, ?_, ?_, ?_, ?_, ?_, ?_, ?_, ?_, ?_⟩ <;> first | (simp [h3, h4, h5, h16, h17, h18, m3_1, m4_2, m5_3, g3_1, g4_2, g5_3, f18, dc14, -indexAddrF]; done) | omega | (simp; omega)) ?_
    clear h3 h4 h5 h16 h17 h18 m3_1 m4_2 m5_3 g3_1 g4_2 g5_3
    rintro ρ H n20 ⟨h3, h4, h5, h7, h8, h16, h17, h18, m3_1, m4_2, m5_3, m8_18, g3_1, g4_2, g5_3, g8_18⟩
    refine Runs.seqN Ty_ok draws (by decide) (by kernel_rfl) fun k' hk' => ?_
    obtain ⟨hb21, h⟩ := h
    obtain ⟨x22, ex22⟩ : ∃ v : Int, v = at' m.nodes v10 := ⟨_, rfl⟩
    replace h := h x22 ex22
    have f23 := fun H => ix_list (H := H) (fr := false) (f := intC) (k := .i64) kd_24 (fun _ => rfl) hb21 ex22
    obtain ⟨hb24, h⟩ := h
    obtain ⟨x25, ex25⟩ : ∃ v : GNode, v = at' agent.nodes x22 := ⟨_, rfl⟩
    replace h := h x25 ex25
    have f26 := fun H => ix_list (H := H) (fr := false) (f := (GNode.cells false)) (k := .i64) kd_38 (fun _ => rfl) hb24 ex25
    simp [h3, h4, h5, h7, h8, h16, h17, h18, m3_1, m4_2, m5_3, m8_18, g3_1, g4_2, g5_3, g8_18, f23, f26, dc14, -indexAddrF]
    intro a27 ha27 qa27; clear qa27
    refine ⟨ha27, hk' _ _ _ ?_⟩
    refine Runs.cut (fun ρ H n => ρ 3 = pA n1 3 ∧ ρ 4 = pA (n1 + 1) 4 ∧ ρ 5 = pA (n1 + 2) 5 ∧ ρ 7 = int v10 ∧ ρ 8 = pA n11 8 ∧ ρ 9 = .ptr (a27, 9) 1 0 0 ∧ ρ 16 = .list false (redex.nodes.map (GNode.cells false)) ∧ ρ 17 = int len6 ∧ ρ 18 = int v10 ∧ H (n1, 3) = some ⟨6, [bC false redex]⟩ ∧ H (n1 + 1, 4) = some ⟨6, [bC false agent]⟩ ∧ H (n1 + 2, 5) = some ⟨2, [mC false m]⟩ ∧ H (n11, 8) = some ⟨3, [[int x17.control, int x17.parent, .list false (x17.links.map intC)]]⟩ ∧ H (a27, 9) = some ⟨3, [[int x25.control, int x25.parent, .list false (x25.links.map intC)]]⟩ ∧ n1 < n ∧ n1 + 1 < n ∧ n1 + 2 < n ∧ n11 < n ∧ a27 < n) (by refine ⟨?_, ?_, ?_, ?_, ?_, ?_, ?_, ?_, ?_, ?_, ?_, ?_, ?_, ?_, ?_, ?_, ?_, ?_, ?_⟩ <;> first | (simp [h3, h4, h5, h7, h8, h16, h17, h18, m3_1, m4_2, m5_3, m8_18, g3_1, g4_2, g5_3, g8_18, f23, f26, dc14, -indexAddrF]; done) | omega | (simp; omega)) ?_
    clear h3 h4 h5 h7 h8 h16 h17 h18 m3_1 m4_2 m5_3 m8_18 g3_1 g4_2 g5_3 g8_18
    rintro ρ H n28 ⟨h3, h4, h5, h7, h8, h9, h16, h17, h18, m3_1, m4_2, m5_3, m8_18, m9_26, g3_1, g4_2, g5_3, g8_18, g9_26⟩
    refine Runs.seqE Ty_ok (by decide) fun k' hk' => ?_
    simp [h3, h4, h5, h7, h8, h9, h16, h17, h18, m3_1, m4_2, m5_3, m8_18, m9_26, g3_1, g4_2, g5_3, g8_18, g9_26, dc14]
    refine hk' _ _ _ ?_
    refine Runs.seq ?_
    refine Runs.seqE Ty_ok (by decide) fun k' hk' => ?_
    obtain ⟨c29, ec29⟩ : ∃ v : Bool, v = decide (0 ≤ x17.parent) := ⟨_, rfl⟩
    replace h := h c29 ec29
    have f30 := ib_geq (k := .i64) ec29
    simp [h3, h4, h5, h7, h8, h9, h16, h17, h18, m3_1, m4_2, m5_3, m8_18, m9_26, g3_1, g4_2, g5_3, g8_18, g9_26, f30, dc14, -intBin]
    refine hk' _ _ _ ?_
    refine Runs.ite (b := c29) (by simp [h3, h4, h5, h7, h8, h9, h16, h17, h18, m3_1, m4_2, m5_3, m8_18, m9_26, g3_1, g4_2, g5_3, g8_18, g9_26, dc14]) (fun dc29 => ?_) (fun dc29 => ?_)
    · replace h := h.1 dc29
      refine Runs.evalE Ty_ok (by decide) fun k' hk' => ?_
      obtain ⟨hb31, h⟩ := h
      obtain ⟨x32, ex32⟩ : ∃ v : Int, v = at' m.nodes x17.parent := ⟨_, rfl⟩
      replace h := h x32 ex32
      have f33 := fun H => ix_list (H := H) (fr := false) (f := intC) (k := .i64) kd_24 (fun _ => rfl) hb31 ex32
      simp [h3, h4, h5, h7, h8, h9, h16, h17, h18, m3_1, m4_2, m5_3, m8_18, m9_26, g3_1, g4_2, g5_3, g8_18, g9_26, f33, dc14, dc29, -indexAddrF]
      refine hk' _ _ _ ?_
      refine Runs.seq ?_
      refine Runs.seqE Ty_ok (by decide) fun k' hk' => ?_
      obtain ⟨J34, hJ35, hr36⟩ := h
      have fin38 : ∀ (sJ : Bool) (ρ : Env) (H : Heap) (n : Nat), J34 sJ → (match sJ with | b37 => ρ 3 = pA n1 3 ∧ ρ 4 = pA (n1 + 1) 4 ∧ ρ 5 = pA (n1 + 2) 5 ∧ ρ 7 = int v10 ∧ ρ 16 = .list false (redex.nodes.map (GNode.cells false)) ∧ ρ 17 = int len6 ∧ ρ 18 = int v10 ∧ ρ 58 = bool b37 ∧ H (n1, 3) = some ⟨6, [bC false redex]⟩ ∧ H (n1 + 1, 4) = some ⟨6, [bC false agent]⟩ ∧ H (n1 + 2, 5) = some ⟨2, [mC false m]⟩ ∧ n1 < n ∧ n1 + 1 < n ∧ n1 + 2 < n) → Runs Tryz.prog 74 82 k' ρ H n Q := by
        rintro b37 ρ H n39 h ⟨h3, h4, h5, h7, h16, h17, h18, h58, m3_1, m4_2, m5_3, g3_1, g4_2, g5_3⟩
        replace h := hr36 _ h
        refine hk' _ _ _ ?_
        refine Runs.ite (b := b37) (by simp [h3, h4, h5, h7, h16, h17, h18, h58, m3_1, m4_2, m5_3, g3_1, g4_2, g5_3, dc14, dc29]) (fun db37 => ?_) (fun db37 => ?_)
        · replace h := h.1 db37
          refine Runs.seqE Ty_ok (by decide) fun k' hk' => ?_
          simp [h3, h4, h5, h7, h16, h17, h18, h58, m3_1, m4_2, m5_3, g3_1, g4_2, g5_3, dc14, dc29, db37]
          refine hk' _ _ _ ?_
          exact Runs.ret1 (v := bool false) Tryz.func74 Tryz.results74 (by simp [h3, h4, h5, h7, h16, h17, h18, h58, m3_1, m4_2, m5_3, g3_1, g4_2, g5_3, dc14, dc29, db37]) (hQ _ _ _ _ (.of (.v _)) ⟨false, h, rfl⟩)
        replace h := h.2 db37
        refine Runs.skip ?_
        refine Runs.seq ?_
        refine Runs.seqE Ty_ok (by decide) fun k' hk' => ?_
        obtain ⟨hb40, h⟩ := h
        obtain ⟨r41, er41⟩ : ∃ v : (List Int) × (List Int), v = childrenOf redex v10 := ⟨_, rfl⟩
        replace h := h r41 er41
        simp [h3, h4, h5, h7, h16, h17, h18, h58, m3_1, m4_2, m5_3, g3_1, g4_2, g5_3, dc14, dc29, db37]
        refine RunK.callA Ty_ok ((childrenOf_ok redex v10 hb40).pure) e99 (.cons (argB false redex) (.cons (.v _ _ _) .nil)) (by decide) (by decide) rfl (by simp [h3, h4, h5, h7, h16, h17, h18, h58, m3_1, m4_2, m5_3, g3_1, g4_2, g5_3, dc14, dc29, db37]) ?_
        rintro _ rfl
        rw [← er41]
        simp [h3, h4, h5, h7, h16, h17, h18, h58, m3_1, m4_2, m5_3, g3_1, g4_2, g5_3, dc14, dc29, db37]
        refine hk' _ _ _ ?_
        refine Runs.seqE Ty_ok (by decide) fun k' hk' => ?_
        obtain ⟨len42, elen42⟩ : ∃ v : Int, v = (r41.2.length : Int) := ⟨_, rfl⟩
        replace h := h len42 elen42
        have f43 := fun H => len_list (H := H) (fr := true) (f := intC) kd_24 elen42
        obtain ⟨c44, ec44⟩ : ∃ v : Bool, v = decide (0 < len42) := ⟨_, rfl⟩
        replace h := h c44 ec44
        have f45 := ib_gtr (k := .i64) ec44
        simp [h3, h4, h5, h7, h16, h17, h18, h58, m3_1, m4_2, m5_3, g3_1, g4_2, g5_3, f43, f45, dc14, dc29, db37, -intBin, -lenF]
        refine hk' _ _ _ ?_
        refine Runs.ite (b := c44) (by simp [h3, h4, h5, h7, h16, h17, h18, h58, m3_1, m4_2, m5_3, g3_1, g4_2, g5_3, dc14, dc29, db37]) (fun dc44 => ?_) (fun dc44 => ?_)
        · replace h := h.1 dc44
          refine Runs.exit rfl ?_
          refine Runs.evalE Ty_ok (by decide) fun k' hk' => ?_
          obtain ⟨hb46, h⟩ := h
          obtain ⟨v47, ev47⟩ : ∃ v : Int, v = v10 + 1 := ⟨_, rfl⟩
          replace h := h v47 ev47
          have f48 := ib_add hb46 ev47
          simp [h3, h4, h5, h7, h16, h17, h18, h58, m3_1, m4_2, m5_3, g3_1, g4_2, g5_3, f48, dc14, dc29, db37, dc44, -intBin]
          refine hk' _ _ _ ?_
          refine IH12 (v47) _ _ _ h (by refine ⟨?_, ?_, ?_, ?_, ?_, ?_, ?_, ?_, ?_, ?_, ?_, ?_⟩ <;> first | (simp [h3, h4, h5, h7, h16, h17, h18, h58, m3_1, m4_2, m5_3, g3_1, g4_2, g5_3, dc14, dc29, db37, dc44]; done) | omega | (simp; omega))
        replace h := h.2 dc44
        refine Runs.skip ?_
        refine Runs.seqD Ty_ok kindOp_ok draws (by decide) (by kernel_rfl) fun k' hk' => ?_
        obtain ⟨hb49, h⟩ := h
        obtain ⟨x50, ex50⟩ : ∃ v : Int, v = at' m.nodes v10 := ⟨_, rfl⟩
        replace h := h x50 ex50
        have f51 := fun H => ix_list (H := H) (fr := false) (f := intC) (k := .i64) kd_24 (fun _ => rfl) hb49 ex50
        obtain ⟨hb52, h⟩ := h
        obtain ⟨r53, er53⟩ : ∃ v : (List Int) × (List Int), v = childrenOf agent x50 := ⟨_, rfl⟩
        replace h := h r53 er53
        simp [h3, h4, h5, h7, h16, h17, h18, h58, m3_1, m4_2, m5_3, g3_1, g4_2, g5_3, f51, dc14, dc29, db37, dc44, -indexAddrF]
        refine RunDK.callA Ty_ok kindOp_ok ((childrenOf_ok agent x50 hb52).pure) e99 (.cons (argB false agent) (.cons (.v _ _ _) .nil)) (by decide) rfl (by simp [h3, h4, h5, h7, h16, h17, h18, h58, m3_1, m4_2, m5_3, g3_1, g4_2, g5_3, f51, dc14, dc29, db37, dc44, -indexAddrF]) ?_
        rw [← er53]
        simp [h3, h4, h5, h7, h16, h17, h18, h58, m3_1, m4_2, m5_3, g3_1, g4_2, g5_3, f51, dc14, dc29, db37, dc44, -indexAddrF]
        refine hk' _ _ _ ?_
        refine Runs.cut (fun ρ H n => ρ 3 = pA n1 3 ∧ ρ 4 = pA (n1 + 1) 4 ∧ ρ 5 = pA (n1 + 2) 5 ∧ ρ 13 = .list true (r53.1.map intC) ∧ ρ 16 = .list false (redex.nodes.map (GNode.cells false)) ∧ ρ 17 = int len6 ∧ ρ 18 = int v10 ∧ H (n1, 3) = some ⟨6, [bC false redex]⟩ ∧ H (n1 + 1, 4) = some ⟨6, [bC false agent]⟩ ∧ H (n1 + 2, 5) = some ⟨2, [mC false m]⟩ ∧ n1 < n ∧ n1 + 1 < n ∧ n1 + 2 < n) (by refine ⟨?_, ?_, ?_, ?_, ?_, ?_, ?_, ?_, ?_, ?_, ?_, ?_, ?_⟩ <;> first | (simp [h3, h4, h5, h7, h16, h17, h18, h58, m3_1, m4_2, m5_3, g3_1, g4_2, g5_3, f51, dc14, dc29, db37, dc44, -indexAddrF]; done) | omega | (simp; omega)) ?_
        clear h3 h4 h5 h7 h16 h17 h18 h58 m3_1 m4_2 m5_3 g3_1 g4_2 g5_3
        rintro ρ H n54 ⟨h3, h4, h5, h13, h16, h17, h18, m3_1, m4_2, m5_3, g3_1, g4_2, g5_3⟩
        refine Runs.seqE Ty_ok (by decide) fun k' hk' => ?_
        obtain ⟨hb55, h⟩ := h
        obtain ⟨r56, er56⟩ : ∃ v : Bool, v = r53.1.any (fun z => areImages1 z m) := ⟨_, rfl⟩
        replace h := h r56 er56
        simp [h3, h4, h5, h13, h16, h17, h18, m3_1, m4_2, m5_3, g3_1, g4_2, g5_3, dc14, dc29, db37, dc44]
        refine RunK.callT Ty_ok (containsFuncI_ok true r53.1 (fun z => areImages1 z m) hb55.1 (fun z hz => areImages1_ok z m m5_3 (hb55.2 z hz))) e70 (by decide) (by decide) rfl (by simp [h3, h4, h5, h13, h16, h17, h18, m3_1, m4_2, m5_3, g3_1, g4_2, g5_3, dc14, dc29, db37, dc44]) ?_
        rintro _ rfl
        rw [← er56]
        simp [h3, h4, h5, h13, h16, h17, h18, m3_1, m4_2, m5_3, g3_1, g4_2, g5_3, dc14, dc29, db37, dc44]
        refine hk' _ _ _ ?_
        refine Runs.ite (b := r56) (by simp [h3, h4, h5, h13, h16, h17, h18, m3_1, m4_2, m5_3, g3_1, g4_2, g5_3, dc14, dc29, db37, dc44]) (fun dr56 => ?_) (fun dr56 => ?_)
        · replace h := h.1 dr56
          refine Runs.seqE Ty_ok (by decide) fun k' hk' => ?_
          simp [h3, h4, h5, h13, h16, h17, h18, m3_1, m4_2, m5_3, g3_1, g4_2, g5_3, dc14, dc29, db37, dc44, dr56]
          refine hk' _ _ _ ?_
          exact Runs.ret1 (v := bool false) Tryz.func74 Tryz.results74 (by simp [h3, h4, h5, h13, h16, h17, h18, m3_1, m4_2, m5_3, g3_1, g4_2, g5_3, dc14, dc29, db37, dc44, dr56]) (hQ _ _ _ _ (.of (.v _)) ⟨false, h, rfl⟩)
        replace h := h.2 dr56
        refine Runs.skip ?_
        refine Runs.inBlock ?_
        refine Runs.evalE Ty_ok (by decide) fun k' hk' => ?_
        obtain ⟨hb57, h⟩ := h
        obtain ⟨v58, ev58⟩ : ∃ v : Int, v = v10 + 1 := ⟨_, rfl⟩
        replace h := h v58 ev58
        have f59 := ib_add hb57 ev58
        simp [h3, h4, h5, h13, h16, h17, h18, m3_1, m4_2, m5_3, g3_1, g4_2, g5_3, f59, dc14, dc29, db37, dc44, dr56, -intBin]
        refine hk' _ _ _ ?_
        refine IH12 (v58) _ _ _ h (by refine ⟨?_, ?_, ?_, ?_, ?_, ?_, ?_, ?_, ?_, ?_, ?_, ?_⟩ <;> first | (simp [h3, h4, h5, h13, h16, h17, h18, m3_1, m4_2, m5_3, g3_1, g4_2, g5_3, dc14, dc29, db37, dc44, dr56]; done) | omega | (simp; omega))
      replace h := hJ35
      obtain ⟨c60, ec60⟩ : ∃ v : Bool, v = decide (x25.control ≠ x17.control) := ⟨_, rfl⟩
      replace h := h c60 ec60
      have f61 := ib_neq (k := .i64) ec60
      rcases Bool.eq_false_or_eq_true c60 with dc60 | dc60
      · replace h := h.1 dc60
        simp [h3, h4, h5, h7, h8, h9, h16, h17, h18, m3_1, m4_2, m5_3, m8_18, m9_26, g3_1, g4_2, g5_3, g8_18, g9_26, f61, dc14, dc29, dc60, -intBin]
        exact fin38 (true) _ _ _ h (by refine ⟨?_, ?_, ?_, ?_, ?_, ?_, ?_, ?_, ?_, ?_, ?_, ?_, ?_, ?_⟩ <;> first | (simp [h3, h4, h5, h7, h8, h9, h16, h17, h18, m3_1, m4_2, m5_3, m8_18, m9_26, g3_1, g4_2, g5_3, g8_18, g9_26, f61, dc14, dc29, dc60, -intBin]; done) | omega | (simp; omega))
      replace h := h.2 dc60
      obtain ⟨c62, ec62⟩ : ∃ v : Bool, v = decide (x25.parent ≠ x32) := ⟨_, rfl⟩
      replace h := h c62 ec62
      have f63 := ib_neq (k := .i64) ec62
      simp [h3, h4, h5, h7, h8, h9, h16, h17, h18, m3_1, m4_2, m5_3, m8_18, m9_26, g3_1, g4_2, g5_3, g8_18, g9_26, f61, f63, dc14, dc29, dc60, -intBin]
      exact fin38 (c62) _ _ _ h (by refine ⟨?_, ?_, ?_, ?_, ?_, ?_, ?_, ?_, ?_, ?_, ?_, ?_, ?_, ?_⟩ <;> first | (simp [h3, h4, h5, h7, h8, h9, h16, h17, h18, m3_1, m4_2, m5_3, m8_18, m9_26, g3_1, g4_2, g5_3, g8_18, g9_26, f61, f63, dc14, dc29, dc60, -intBin]; done) | omega | (simp; omega))
    replace h := h.2 dc29
    refine Runs.evalE Ty_ok (by decide) fun k' hk' => ?_
    obtain ⟨hb64, h⟩ := h
    obtain ⟨v65, ev65⟩ : ∃ v : Int, v = (-1) - x17.parent := ⟨_, rfl⟩
    replace h := h v65 ev65
    have f66 := ib_sub hb64 ev65
    obtain ⟨hb67, h⟩ := h
    obtain ⟨x68, ex68⟩ : ∃ v : Int, v = at' m.roots v65 := ⟨_, rfl⟩
    replace h := h x68 ex68
    have f69 := fun H => ix_list (H := H) (fr := false) (f := intC) (k := .i64) kd_24 (fun _ => rfl) hb67 ex68
    simp [h3, h4, h5, h7, h8, h9, h16, h17, h18, m3_1, m4_2, m5_3, m8_18, m9_26, g3_1, g4_2, g5_3, g8_18, g9_26, f66, f69, dc14, dc29, -indexAddrF, -intBin]
    refine hk' _ _ _ ?_
    refine Runs.seq ?_
    refine Runs.seqE Ty_ok (by decide) fun k' hk' => ?_
    obtain ⟨J70, hJ71, hr72⟩ := h
    have fin74 : ∀ (sJ : Bool) (ρ : Env) (H : Heap) (n : Nat), J70 sJ → (match sJ with | b73 => ρ 3 = pA n1 3 ∧ ρ 4 = pA (n1 + 1) 4 ∧ ρ 5 = pA (n1 + 2) 5 ∧ ρ 7 = int v10 ∧ ρ 16 = .list false (redex.nodes.map (GNode.cells false)) ∧ ρ 17 = int len6 ∧ ρ 18 = int v10 ∧ ρ 58 = bool b73 ∧ H (n1, 3) = some ⟨6, [bC false redex]⟩ ∧ H (n1 + 1, 4) = some ⟨6, [bC false agent]⟩ ∧ H (n1 + 2, 5) = some ⟨2, [mC false m]⟩ ∧ n1 < n ∧ n1 + 1 < n ∧ n1 + 2 < n) → Runs Tryz.prog 74 82 k' ρ H n Q := by
      rintro b73 ρ H n75 h ⟨h3, h4, h5, h7, h16, h17, h18, h58, m3_1, m4_2, m5_3, g3_1, g4_2, g5_3⟩
      replace h := hr72 _ h
      refine hk' _ _ _ ?_
      refine Runs.ite (b := b73) (by simp [h3, h4, h5, h7, h16, h17, h18, h58, m3_1, m4_2, m5_3, g3_1, g4_2, g5_3, dc14, dc29]) (fun db73 => ?_) (fun db73 => ?_)
      · replace h := h.1 db73
        refine Runs.seqE Ty_ok (by decide) fun k' hk' => ?_
        simp [h3, h4, h5, h7, h16, h17, h18, h58, m3_1, m4_2, m5_3, g3_1, g4_2, g5_3, dc14, dc29, db73]
        refine hk' _ _ _ ?_
        exact Runs.ret1 (v := bool false) Tryz.func74 Tryz.results74 (by simp [h3, h4, h5, h7, h16, h17, h18, h58, m3_1, m4_2, m5_3, g3_1, g4_2, g5_3, dc14, dc29, db73]) (hQ _ _ _ _ (.of (.v _)) ⟨false, h, rfl⟩)
      replace h := h.2 db73
      refine Runs.skip ?_
      refine Runs.seq ?_
      refine Runs.seqE Ty_ok (by decide) fun k' hk' => ?_
      obtain ⟨hb76, h⟩ := h
      obtain ⟨r77, er77⟩ : ∃ v : (List Int) × (List Int), v = childrenOf redex v10 := ⟨_, rfl⟩
      replace h := h r77 er77
      simp [h3, h4, h5, h7, h16, h17, h18, h58, m3_1, m4_2, m5_3, g3_1, g4_2, g5_3, dc14, dc29, db73]
      refine RunK.callA Ty_ok ((childrenOf_ok redex v10 hb76).pure) e99 (.cons (argB false redex) (.cons (.v _ _ _) .nil)) (by decide) (by decide) rfl (by simp [h3, h4, h5, h7, h16, h17, h18, h58, m3_1, m4_2, m5_3, g3_1, g4_2, g5_3, dc14, dc29, db73]) ?_
      rintro _ rfl
      rw [← er77]
      simp [h3, h4, h5, h7, h16, h17, h18, h58, m3_1, m4_2, m5_3, g3_1, g4_2, g5_3, dc14, dc29, db73]
      refine hk' _ _ _ ?_
      refine Runs.seqE Ty_ok (by decide) fun k' hk' => ?_
      obtain ⟨len78, elen78⟩ : ∃ v : Int, v = (r77.2.length : Int) := ⟨_, rfl⟩
      replace h := h len78 elen78
      have f79 := fun H => len_list (H := H) (fr := true) (f := intC) kd_24 elen78
      obtain ⟨c80, ec80⟩ : ∃ v : Bool, v = decide (0 < len78) := ⟨_, rfl⟩
      replace h := h c80 ec80
      have f81 := ib_gtr (k := .i64) ec80
      simp [h3, h4, h5, h7, h16, h17, h18, h58, m3_1, m4_2, m5_3, g3_1, g4_2, g5_3, f79, f81, dc14, dc29, db73, -intBin, -lenF]
      refine hk' _ _ _ ?_
      refine Runs.ite (b := c80) (by simp [h3, h4, h5, h7, h16, h17, h18, h58, m3_1, m4_2, m5_3, g3_1, g4_2, g5_3, dc14, dc29, db73]) (fun dc80 => ?_) (fun dc80 => ?_)
      · replace h := h.1 dc80
        refine Runs.exit rfl ?_
        refine Runs.evalE Ty_ok (by decide) fun k' hk' => ?_
        obtain ⟨hb82, h⟩ := h
        obtain ⟨v83, ev83⟩ : ∃ v : Int, v = v10 + 1 := ⟨_, rfl⟩
        replace h := h v83 ev83
        have f84 := ib_add hb82 ev83
        simp [h3, h4, h5, h7, h16, h17, h18, h58, m3_1, m4_2, m5_3, g3_1, g4_2, g5_3, f84, dc14, dc29, db73, dc80, -intBin]
        refine hk' _ _ _ ?_
        refine IH12 (v83) _ _ _ h (by refine ⟨?_, ?_, ?_, ?_, ?_, ?_, ?_, ?_, ?_, ?_, ?_, ?_⟩ <;> first | (simp [h3, h4, h5, h7, h16, h17, h18, h58, m3_1, m4_2, m5_3, g3_1, g4_2, g5_3, dc14, dc29, db73, dc80]; done) | omega | (simp; omega))
      replace h := h.2 dc80
      refine Runs.skip ?_
      refine Runs.seqD Ty_ok kindOp_ok draws (by decide) (by kernel_rfl) fun k' hk' => ?_
      obtain ⟨hb85, h⟩ := h
      obtain ⟨x86, ex86⟩ : ∃ v : Int, v = at' m.nodes v10 := ⟨_, rfl⟩
      replace h := h x86 ex86
      have f87 := fun H => ix_list (H := H) (fr := false) (f := intC) (k := .i64) kd_24 (fun _ => rfl) hb85 ex86
      obtain ⟨hb88, h⟩ := h
      obtain ⟨r89, er89⟩ : ∃ v : (List Int) × (List Int), v = childrenOf agent x86 := ⟨_, rfl⟩
      replace h := h r89 er89
      simp [h3, h4, h5, h7, h16, h17, h18, h58, m3_1, m4_2, m5_3, g3_1, g4_2, g5_3, f87, dc14, dc29, db73, dc80, -indexAddrF]
      refine RunDK.callA Ty_ok kindOp_ok ((childrenOf_ok agent x86 hb88).pure) e99 (.cons (argB false agent) (.cons (.v _ _ _) .nil)) (by decide) rfl (by simp [h3, h4, h5, h7, h16, h17, h18, h58, m3_1, m4_2, m5_3, g3_1, g4_2, g5_3, f87, dc14, dc29, db73, dc80, -indexAddrF]) ?_
      rw [← er89]
      simp [h3, h4, h5, h7, h16, h17, h18, h58, m3_1, m4_2, m5_3, g3_1, g4_2, g5_3, f87, dc14, dc29, db73, dc80, -indexAddrF]
      refine hk' _ _ _ ?_
      refine Runs.cut (fun ρ H n => ρ 3 = pA n1 3 ∧ ρ 4 = pA (n1 + 1) 4 ∧ ρ 5 = pA (n1 + 2) 5 ∧ ρ 13 = .list true (r89.1.map intC) ∧ ρ 16 = .list false (redex.nodes.map (GNode.cells false)) ∧ ρ 17 = int len6 ∧ ρ 18 = int v10 ∧ H (n1, 3) = some ⟨6, [bC false redex]⟩ ∧ H (n1 + 1, 4) = some ⟨6, [bC false agent]⟩ ∧ H (n1 + 2, 5) = some ⟨2, [mC false m]⟩ ∧ n1 < n ∧ n1 + 1 < n ∧ n1 + 2 < n) (by refine ⟨?_, ?_, ?_, ?_, ?_, ?_, ?_, ?_, ?_, ?_, ?_, ?_, ?_⟩ <;> first | (simp [h3, h4, h5, h7, h16, h17, h18, h58, m3_1, m4_2, m5_3, g3_1, g4_2, g5_3, f87, dc14, dc29, db73, dc80, -indexAddrF]; done) | omega | (simp; omega)) ?_
      clear h3 h4 h5 h7 h16 h17 h18 h58 m3_1 m4_2 m5_3 g3_1 g4_2 g5_3
      rintro ρ H n90 ⟨h3, h4, h5, h13, h16, h17, h18, m3_1, m4_2, m5_3, g3_1, g4_2, g5_3⟩
      refine Runs.seqE Ty_ok (by decide) fun k' hk' => ?_
      obtain ⟨hb91, h⟩ := h
      obtain ⟨r92, er92⟩ : ∃ v : Bool, v = r89.1.any (fun z => areImages1 z m) := ⟨_, rfl⟩
      replace h := h r92 er92
      simp [h3, h4, h5, h13, h16, h17, h18, m3_1, m4_2, m5_3, g3_1, g4_2, g5_3, dc14, dc29, db73, dc80]
      refine RunK.callT Ty_ok (containsFuncI_ok true r89.1 (fun z => areImages1 z m) hb91.1 (fun z hz => areImages1_ok z m m5_3 (hb91.2 z hz))) e70 (by decide) (by decide) rfl (by simp [h3, h4, h5, h13, h16, h17, h18, m3_1, m4_2, m5_3, g3_1, g4_2, g5_3, dc14, dc29, db73, dc80]) ?_
      rintro _ rfl
      rw [← er92]
      simp [h3, h4, h5, h13, h16, h17, h18, m3_1, m4_2, m5_3, g3_1, g4_2, g5_3, dc14, dc29, db73, dc80]
      refine hk' _ _ _ ?_
      refine Runs.ite (b := r92) (by simp [h3, h4, h5, h13, h16, h17, h18, m3_1, m4_2, m5_3, g3_1, g4_2, g5_3, dc14, dc29, db73, dc80]) (fun dr92 => ?_) (fun dr92 => ?_)
      · replace h := h.1 dr92
        refine Runs.seqE Ty_ok (by decide) fun k' hk' => ?_
        simp [h3, h4, h5, h13, h16, h17, h18, m3_1, m4_2, m5_3, g3_1, g4_2, g5_3, dc14, dc29, db73, dc80, dr92]
        refine hk' _ _ _ ?_
        exact Runs.ret1 (v := bool false) Tryz.func74 Tryz.results74 (by simp [h3, h4, h5, h13, h16, h17, h18, m3_1, m4_2, m5_3, g3_1, g4_2, g5_3, dc14, dc29, db73, dc80, dr92]) (hQ _ _ _ _ (.of (.v _)) ⟨false, h, rfl⟩)
      replace h := h.2 dr92
      refine Runs.skip ?_
      refine Runs.inBlock ?_
      refine Runs.evalE Ty_ok (by decide) fun k' hk' => ?_
      obtain ⟨hb93, h⟩ := h
      obtain ⟨v94, ev94⟩ : ∃ v : Int, v = v10 + 1 := ⟨_, rfl⟩
      replace h := h v94 ev94
      have f95 := ib_add hb93 ev94
      simp [h3, h4, h5, h13, h16, h17, h18, m3_1, m4_2, m5_3, g3_1, g4_2, g5_3, f95, dc14, dc29, db73, dc80, dr92, -intBin]
      refine hk' _ _ _ ?_
      refine IH12 (v94) _ _ _ h (by refine ⟨?_, ?_, ?_, ?_, ?_, ?_, ?_, ?_, ?_, ?_, ?_, ?_⟩ <;> first | (simp [h3, h4, h5, h13, h16, h17, h18, m3_1, m4_2, m5_3, g3_1, g4_2, g5_3, dc14, dc29, db73, dc80, dr92]; done) | omega | (simp; omega))
    replace h := hJ71
    obtain ⟨c96, ec96⟩ : ∃ v : Bool, v = decide (x25.control ≠ x17.control) := ⟨_, rfl⟩
    replace h := h c96 ec96
    have f97 := ib_neq (k := .i64) ec96
    rcases Bool.eq_false_or_eq_true c96 with dc96 | dc96
    · replace h := h.1 dc96
      simp [h3, h4, h5, h7, h8, h9, h16, h17, h18, m3_1, m4_2, m5_3, m8_18, m9_26, g3_1, g4_2, g5_3, g8_18, g9_26, f97, dc14, dc29, dc96, -intBin]
      exact fin74 (true) _ _ _ h (by refine ⟨?_, ?_, ?_, ?_, ?_, ?_, ?_, ?_, ?_, ?_, ?_, ?_, ?_, ?_⟩ <;> first | (simp [h3, h4, h5, h7, h8, h9, h16, h17, h18, m3_1, m4_2, m5_3, m8_18, m9_26, g3_1, g4_2, g5_3, g8_18, g9_26, f97, dc14, dc29, dc96, -intBin]; done) | omega | (simp; omega))
    replace h := h.2 dc96
    obtain ⟨c98, ec98⟩ : ∃ v : Bool, v = decide (x25.parent ≠ x68) := ⟨_, rfl⟩
    replace h := h c98 ec98
    have f99 := ib_neq (k := .i64) ec98
    simp [h3, h4, h5, h7, h8, h9, h16, h17, h18, m3_1, m4_2, m5_3, m8_18, m9_26, g3_1, g4_2, g5_3, g8_18, g9_26, f97, f99, dc14, dc29, dc96, -intBin]
    exact fin74 (c98) _ _ _ h (by refine ⟨?_, ?_, ?_, ?_, ?_, ?_, ?_, ?_, ?_, ?_, ?_, ?_, ?_, ?_⟩ <;> first | (simp [h3, h4, h5, h7, h8, h9, h16, h17, h18, m3_1, m4_2, m5_3, m8_18, m9_26, g3_1, g4_2, g5_3, g8_18, g9_26, f97, f99, dc14, dc29, dc96, -intBin]; done) | omega | (simp; omega))
  replace h := h.2 dc14
  refine Runs.exit rfl ?_
  refine Runs.seqE Ty_ok (by decide) fun k' hk' => ?_
  simp [h3, h4, h5, h16, h17, h18, m3_1, m4_2, m5_3, g3_1, g4_2, g5_3, dc14]
  refine hk' _ _ _ ?_
  exact Runs.ret1 (v := bool true) Tryz.func74 Tryz.results74 (by simp [h3, h4, h5, h16, h17, h18, m3_1, m4_2, m5_3, g3_1, g4_2, g5_3, dc14]) (hQ _ _ _ _ (.of (.v _)) ⟨true, h, rfl⟩)

theorem areImages_ok (redex : Big) (agent : Big) (m : Match) (hp : areImages_pre redex agent m) : PureC Tryz.prog 74 [.agg (bC false redex), .agg (bC false agent), .agg (mC false m)] (fun r => r = bool (areImages redex agent m)) := (areImages_walk redex agent m _ (areImages_vc redex agent m hp)).mono (by rintro _ ⟨_, rfl, rfl⟩; rfl)

theorem e50 : Ent Tryz.prog 50 := Ent.of Tryz.func50 (by kernel_rfl) rfl
theorem matchLinks_walk (redex : Big) (agent : Big) (nodes : List Int) (Z : ((List Int) × Bool) → Prop) (h : matchLinks_wp redex agent nodes Z) : OwnS Tryz.prog 50 [.agg (bC false redex), .agg (bC false agent), .list false (nodes.map intC)] (.t [.s [.c], .c]) (fun r => ∃ y : (List Int) × Bool, Z y ∧ r = .tup [.list true (y.1.map intC), bool y.2]) := by
  unfold matchLinks_wp at h
  have sp : Sep noHeap 0 [] [] := Sep.nil (by simp)
  refine OwnS.of Tryz.func50 rfl Tryz.ntmps50 (by simp) fun Q hQ => ?_
  refine Runs.cut (fun ρ H n => ρ 0 = .agg (bC false redex) ∧ ρ 1 = .agg (bC false agent) ∧ ρ 2 = .list false (nodes.map intC) ∧ Sep H n [] []) (by refine ⟨?_, ?_, ?_, sp⟩ <;> simp ) ?_
  rintro ρ H n1 ⟨h0, h1, h2, sp⟩
  refine Runs.seqE Ty_ok (by decide) fun k' hk' => ?_
  simp [h0, h1, h2]
  refine hk' _ _ _ ?_
  refine Runs.cut (fun ρ H n => ρ 2 = .list false (nodes.map intC) ∧ ρ 3 = pA n1 3 ∧ ρ 4 = pA (n1 + 1) 4 ∧ H (n1, 3) = some ⟨6, [bC false redex]⟩ ∧ H (n1 + 1, 4) = some ⟨6, [bC false agent]⟩ ∧ Sep H n [] [(n1 + 1, 4), (n1, 3)]) (by refine ⟨?_, ?_, ?_, ?_, ?_, sp.var.var⟩ <;> simp [h0, h1, h2]) ?_
  clear h0 h1 h2
  rintro ρ H n4 ⟨h2, h3, h4, m3_1, m4_2, sp⟩
  refine Runs.seqE Ty_ok (by decide) fun k' hk' => ?_
  obtain ⟨len5, elen5⟩ : ∃ v : Int, v = (redex.outer.length : Int) := ⟨_, rfl⟩
  replace h := h len5 elen5
  have f6 := fun H => len_list (H := H) (fr := false) (f := strC) kd_25 elen5
  obtain ⟨hb7, h⟩ := h
  obtain ⟨v8, ev8⟩ : ∃ v : Int, v = redex.edges + len5 := ⟨_, rfl⟩
  replace h := h v8 ev8
  have f9 := ib_add hb7 ev8
  obtain ⟨hb10, h⟩ := h
  obtain ⟨r11, er11⟩ : ∃ v : List Int, v = repeatI [(-1)] v8 := ⟨_, rfl⟩
  replace h := h r11 er11
  simp [h2, h3, h4, m3_1, m4_2, f6, f9, -intBin, -lenF]
  refine RunK.callW Ty_ok (repeatI_ok [(-1)] v8 hb10) e80 (.cons (ArgOk.listF (fr := true) (els := [(-1)].map intC) (by simp)) (.cons (.v _ _ _) .nil)) sp (by decide) (by decide) rfl (by simp [h2, h3, h4, m3_1, m4_2, f6, f9, -intBin, -lenF]) ?_
  rintro v12 H13 n14 _ sp rfl hle16 hfr15
  rw [← er11] at sp
  have m3_1 : H13 (n1, 3) = some ⟨6, [bC false redex]⟩ := (hfr15 _ (by simp)).trans (by simp [h2, h3, h4, m3_1, m4_2, Heap.get_set])
  have m4_2 : H13 (n1 + 1, 4) = some ⟨6, [bC false agent]⟩ := (hfr15 _ (by simp)).trans (by simp [h2, h3, h4, m3_1, m4_2, Heap.get_set])
  simp [h2, h3, h4, m3_1, m4_2, f6, f9, -intBin, -lenF]
  refine hk' _ _ _ ?_
  refine Runs.cut (fun ρ H n => ∃ (v19 : AVal), ρ 2 = .list false (nodes.map intC) ∧ ρ 3 = pA n1 3 ∧ ρ 4 = pA (n1 + 1) 4 ∧ ρ 8 = v19 ∧ H (n1, 3) = some ⟨6, [bC false redex]⟩ ∧ H (n1 + 1, 4) = some ⟨6, [bC false agent]⟩ ∧ Sep H n [oI v19 r11] [(n1 + 1, 4), (n1, 3)]) (by refine ⟨v12, ?_, ?_, ?_, ?_, ?_, ?_, sp⟩ <;> simp [h2, h3, h4, m3_1, m4_2, f6, f9, -intBin, -lenF]) ?_
  clear h2 h3 h4 m3_1 m4_2
  rintro ρ H n20 ⟨v19, h2, h3, h4, h8, m3_1, m4_2, sp⟩
  refine Runs.seq ?_
  refine Runs.seqE Ty_ok (by decide) fun k' hk' => ?_
  obtain ⟨len21, elen21⟩ : ∃ v : Int, v = (redex.nodes.length : Int) := ⟨_, rfl⟩
  replace h := h len21 elen21
  have f22 := fun H => len_list (H := H) (fr := false) (f := (GNode.cells false)) kd_38 elen21
  simp [h2, h3, h4, h8, m3_1, m4_2, f22, -lenF]
  refine hk' _ _ _ ?_
  refine Runs.block ?_
  refine Runs.loopW h (fun (sJ : Int × (List Int)) ρ H n => match sJ with | (v30, l31) => ∃ (v32 : AVal), ρ 2 = .list false (nodes.map intC) ∧ ρ 3 = pA n1 3 ∧ ρ 4 = pA (n1 + 1) 4 ∧ ρ 8 = v32 ∧ ρ 28 = .list false (redex.nodes.map (GNode.cells false)) ∧ ρ 29 = int len21 ∧ ρ 30 = int v30 ∧ H (n1, 3) = some ⟨6, [bC false redex]⟩ ∧ H (n1 + 1, 4) = some ⟨6, [bC false agent]⟩ ∧ Sep H n [oI v32 l31] [(n1 + 1, 4), (n1, 3)]) (by refine ⟨v19, ?_, ?_, ?_, ?_, ?_, ?_, ?_, ?_, ?_, sp⟩ <;> simp [h2, h3, h4, h8, m3_1, m4_2]) ?_
  clear h2 h3 h4 h8 m3_1 m4_2
  rintro ⟨v30, l31⟩ ρ H n33 K h ⟨v32, h2, h3, h4, h8, h28, h29, h30, m3_1, m4_2, sp⟩ IH34
  refine Runs.seqE Ty_ok (by decide) fun k' hk' => ?_
  obtain ⟨c36, ec36⟩ : ∃ v : Bool, v = decide (v30 < len21) := ⟨_, rfl⟩
  replace h := h c36 ec36
  have f37 := ib_lss (k := .i64) ec36
  simp [h2, h3, h4, h8, h28, h29, h30, m3_1, m4_2, f37, -intBin]
  refine hk' _ _ _ ?_
  refine Runs.seq ?_
  refine Runs.ite (b := c36) (by simp [h2, h3, h4, h8, h28, h29, h30, m3_1, m4_2]) (fun dc36 => ?_) (fun dc36 => ?_)
  · replace h := h.1 dc36
    refine Runs.skip ?_
    refine Runs.seq ?_
    refine Runs.block ?_
    refine Runs.seqE Ty_ok (by decide) fun k' hk' => ?_
    obtain ⟨hb38, h⟩ := h
    obtain ⟨x39, ex39⟩ : ∃ v : GNode, v = at' redex.nodes v30 := ⟨_, rfl⟩
    replace h := h x39 ex39
    have f40 := fun H => ix_list (H := H) (fr := false) (f := (GNode.cells false)) (k := .i64) kd_38 (fun _ => rfl) hb38 ex39
    simp [h2, h3, h4, h8, h28, h29, h30, m3_1, m4_2, f40, dc36, -indexAddrF]
    refine hk' _ _ _ ?_
    refine Runs.cut (fun ρ H n => ∃ (v42 : AVal), ρ 2 = .list false (nodes.map intC) ∧ ρ 3 = pA n1 3 ∧ ρ 4 = pA (n1 + 1) 4 ∧ ρ 8 = v42 ∧ ρ 9 = int v30 ∧ ρ 10 = pA n33 10 ∧ ρ 28 = .list false (redex.nodes.map (GNode.cells false)) ∧ ρ 29 = int len21 ∧ ρ 30 = int v30 ∧ H (n1, 3) = some ⟨6, [bC false redex]⟩ ∧ H (n1 + 1, 4) = some ⟨6, [bC false agent]⟩ ∧ H (n33, 10) = some ⟨3, [[int x39.control, int x39.parent, .list false (x39.links.map intC)]]⟩ ∧ Sep H n [oI v42 l31] [(n33, 10), (n1 + 1, 4), (n1, 3)]) (by refine ⟨v32, ?_, ?_, ?_, ?_, ?_, ?_, ?_, ?_, ?_, ?_, ?_, ?_, sp.var⟩ <;> simp [h2, h3, h4, h8, h28, h29, h30, m3_1, m4_2, f40, dc36, -indexAddrF]) ?_
    clear h2 h3 h4 h8 h28 h29 h30 m3_1 m4_2
    rintro ρ H n43 ⟨v42, h2, h3, h4, h8, h9, h10, h28, h29, h30, m3_1, m4_2, m10_40, sp⟩
    refine Runs.seqE Ty_ok (by decide) fun k' hk' => ?_
    obtain ⟨len44, elen44⟩ : ∃ v : Int, v = (x39.links.length : Int) := ⟨_, rfl⟩
    replace h := h len44 elen44
    have f45 := fun H => len_list (H := H) (fr := false) (f := intC) kd_24 elen44
    simp [h2, h3, h4, h8, h9, h10, h28, h29, h30, m3_1, m4_2, m10_40, f45, dc36, -lenF]
    refine hk' _ _ _ ?_
    refine Runs.block ?_
    refine Runs.loopW h (fun (sJ : Int × (List Int)) ρ H n => match sJ with | (v53, l54) => ∃ (v55 : AVal), ρ 2 = .list false (nodes.map intC) ∧ ρ 3 = pA n1 3 ∧ ρ 4 = pA (n1 + 1) 4 ∧ ρ 8 = v55 ∧ ρ 9 = int v30 ∧ ρ 28 = .list false (redex.nodes.map (GNode.cells false)) ∧ ρ 29 = int len21 ∧ ρ 30 = int v30 ∧ ρ 36 = .list false (x39.links.map intC) ∧ ρ 37 = int len44 ∧ ρ 38 = int v53 ∧ H (n1, 3) = some ⟨6, [bC false redex]⟩ ∧ H (n1 + 1, 4) = some ⟨6, [bC false agent]⟩ ∧ Sep H n [oI v55 l54] [(n1 + 1, 4), (n1, 3)]) (by refine ⟨v42, ?_, ?_, ?_, ?_, ?_, ?_, ?_, ?_, ?_, ?_, ?_, ?_, ?_, (Sep.sub sp (by simp +contextual))⟩ <;> simp [h2, h3, h4, h8, h9, h10, h28, h29, h30, m3_1, m4_2, m10_40, dc36]) ?_
    clear h2 h3 h4 h8 h9 h10 h28 h29 h30 m3_1 m4_2 m10_40
    rintro ⟨v53, l54⟩ ρ H n56 K h ⟨v55, h2, h3, h4, h8, h9, h28, h29, h30, h36, h37, h38, m3_1, m4_2, sp⟩ IH57
    refine Runs.seqE Ty_ok (by decide) fun k' hk' => ?_
    obtain ⟨c59, ec59⟩ : ∃ v : Bool, v = decide (v53 < len44) := ⟨_, rfl⟩
    replace h := h c59 ec59
    have f60 := ib_lss (k := .i64) ec59
    simp [h2, h3, h4, h8, h9, h28, h29, h30, h36, h37, h38, m3_1, m4_2, f60, dc36, -intBin]
    refine hk' _ _ _ ?_
    refine Runs.seq ?_
    refine Runs.ite (b := c59) (by simp [h2, h3, h4, h8, h9, h28, h29, h30, h36, h37, h38, m3_1, m4_2, dc36]) (fun dc59 => ?_) (fun dc59 => ?_)
    · replace h := h.1 dc59
      refine Runs.skip ?_
      refine Runs.seq ?_
      refine Runs.block ?_
      refine Runs.seqE Ty_ok (by decide) fun k' hk' => ?_
      obtain ⟨hb61, h⟩ := h
      obtain ⟨x62, ex62⟩ : ∃ v : Int, v = at' x39.links v53 := ⟨_, rfl⟩
      replace h := h x62 ex62
      have f63 := fun H => ix_list (H := H) (fr := false) (f := intC) (k := .i64) kd_24 (fun _ => rfl) hb61 ex62
      simp [h2, h3, h4, h8, h9, h28, h29, h30, h36, h37, h38, m3_1, m4_2, f63, dc36, dc59, -indexAddrF]
      refine hk' _ _ _ ?_
      refine Runs.seqD Ty_ok kindOp_ok draws (by decide) (by kernel_rfl) fun k' hk' => ?_
      obtain ⟨hb64, h⟩ := h
      obtain ⟨x65, ex65⟩ : ∃ v : Int, v = at' nodes v30 := ⟨_, rfl⟩
      replace h := h x65 ex65
      have f66 := fun H => ix_list (H := H) (fr := false) (f := intC) (k := .i64) kd_24 (fun _ => rfl) hb64 ex65
      obtain ⟨hb67, h⟩ := h
      obtain ⟨x68, ex68⟩ : ∃ v : GNode, v = at' agent.nodes x65 := ⟨_, rfl⟩
      replace h := h x68 ex68
      have f69 := fun H => ix_list (H := H) (fr := false) (f := (GNode.cells false)) (k := .i64) kd_38 (fun _ => rfl) hb67 ex68
      obtain ⟨hb70, h⟩ := h
      obtain ⟨x71, ex71⟩ : ∃ v : Int, v = at' x68.links v53 := ⟨_, rfl⟩
      replace h := h x71 ex71
      have f72 := fun H => ix_list (H := H) (fr := false) (f := intC) (k := .i64) kd_24 (fun _ => rfl) hb70 ex71
      simp [h2, h3, h4, h8, h9, h28, h29, h30, h36, h37, h38, m3_1, m4_2, f66, f69, f72, dc36, dc59, -indexAddrF]
      refine hk' _ _ _ ?_
      refine Runs.cut (fun ρ H n => ∃ (v73 : AVal), ρ 2 = .list false (nodes.map intC) ∧ ρ 3 = pA n1 3 ∧ ρ 4 = pA (n1 + 1) 4 ∧ ρ 8 = v73 ∧ ρ 9 = int v30 ∧ ρ 12 = int x62 ∧ ρ 13 = int x71 ∧ ρ 28 = .list false (redex.nodes.map (GNode.cells false)) ∧ ρ 29 = int len21 ∧ ρ 30 = int v30 ∧ ρ 36 = .list false (x39.links.map intC) ∧ ρ 37 = int len44 ∧ ρ 38 = int v53 ∧ H (n1, 3) = some ⟨6, [bC false redex]⟩ ∧ H (n1 + 1, 4) = some ⟨6, [bC false agent]⟩ ∧ Sep H n [oI v73 l54] [(n1 + 1, 4), (n1, 3)]) (by refine ⟨v55, ?_, ?_, ?_, ?_, ?_, ?_, ?_, ?_, ?_, ?_, ?_, ?_, ?_, ?_, ?_, sp⟩ <;> simp [h2, h3, h4, h8, h9, h28, h29, h30, h36, h37, h38, m3_1, m4_2, f66, f69, f72, dc36, dc59, -indexAddrF]) ?_
      clear h2 h3 h4 h8 h9 h28 h29 h30 h36 h37 h38 m3_1 m4_2
      rintro ρ H n74 ⟨v73, h2, h3, h4, h8, h9, h12, h13, h28, h29, h30, h36, h37, h38, m3_1, m4_2, sp⟩
      refine Runs.seq ?_
      refine Runs.seqE Ty_ok (by decide) fun k' hk' => ?_
      obtain ⟨J75, hJ76, hr77⟩ := h
      have fin80 : ∀ (sJ : Bool) (ρ : Env) (H : Heap) (n : Nat), J75 sJ → (match sJ with | b78 => ∃ (v79 : AVal), ρ 2 = .list false (nodes.map intC) ∧ ρ 3 = pA n1 3 ∧ ρ 4 = pA (n1 + 1) 4 ∧ ρ 8 = v79 ∧ ρ 9 = int v30 ∧ ρ 12 = int x62 ∧ ρ 13 = int x71 ∧ ρ 28 = .list false (redex.nodes.map (GNode.cells false)) ∧ ρ 29 = int len21 ∧ ρ 30 = int v30 ∧ ρ 36 = .list false (x39.links.map intC) ∧ ρ 37 = int len44 ∧ ρ 38 = int v53 ∧ ρ 67 = bool b78 ∧ H (n1, 3) = some ⟨6, [bC false redex]⟩ ∧ H (n1 + 1, 4) = some ⟨6, [bC false agent]⟩ ∧ Sep H n [oI v79 l54] [(n1 + 1, 4), (n1, 3)]) → Runs Tryz.prog 50 110 k' ρ H n Q := by
        rintro b78 ρ H n81 h ⟨v79, h2, h3, h4, h8, h9, h12, h13, h28, h29, h30, h36, h37, h38, h67, m3_1, m4_2, sp⟩
        replace h := hr77 _ h
        refine hk' _ _ _ ?_
        refine Runs.ite (b := b78) (by simp [h2, h3, h4, h8, h9, h12, h13, h28, h29, h30, h36, h37, h38, h67, m3_1, m4_2, dc36, dc59]) (fun db78 => ?_) (fun db78 => ?_)
        · replace h := h.1 db78
          refine Runs.seqE Ty_ok (by decide) fun k' hk' => ?_
          simp [h2, h3, h4, h8, h9, h12, h13, h28, h29, h30, h36, h37, h38, h67, m3_1, m4_2, dc36, dc59, db78]
          refine hk' _ _ _ ?_
          exact Runs.ret2 (v := .v (.slice none 0 0)) (w := bool false) Tryz.func50 Tryz.results50 (by simp [h2, h3, h4, h8, h9, h12, h13, h28, h29, h30, h36, h37, h38, h67, m3_1, m4_2, dc36, dc59, db78]) (by simp [h2, h3, h4, h8, h9, h12, h13, h28, h29, h30, h36, h37, h38, h67, m3_1, m4_2, dc36, dc59, db78]) (hQ _ _ _ _ (Sep.sub (ids' := []) (Sep.hd (Sep.packT (Fill.own (Fill.v _ Fill.nil)) (Sep.addNil sp))) (by simp)) ⟨([], false), h, rfl⟩)
        replace h := h.2 db78
        refine Runs.skip ?_
        refine Runs.evalE Ty_ok (by decide) fun k' hk' => ?_
        obtain ⟨hb84, h⟩ := h
        obtain ⟨id85, hv, mo86, ln87, ni88⟩ := Sep.openF sp (by simp) hb84
        subst hv
        simp at ni88
        obtain ⟨x89, ex89⟩ : ∃ v : Int, v = at' l54 x62 := ⟨_, rfl⟩
        replace h := h x89 ex89
        have f90 := fun H (hm : H id85 = some ⟨1, l54.map intC⟩) => ix_arr (H := H) (k := .i64) (off := 0) (len := l54.length) (g := l54.length) kd_24 hm (by simp) rfl hb84
        have f91 := at_some (q := x62.toNat) hb84 ex89 rfl
        obtain ⟨l92, el92⟩ : ∃ v : List Int, v = l54.set x62.toNat x71 := ⟨_, rfl⟩
        replace h := h l92 el92
        simp [h2, h3, h4, h8, h9, h12, h13, h28, h29, h30, h36, h37, h38, h67, m3_1, m4_2, mo86, ni88, f90, f91, dc36, dc59, db78, -indexAddrF, -storeF]
        refine bind_store (q := x62.toNat) (news := intC x71) [] [] sp (by simp) (by simp; omega) (by simp) (by simp [-one1, o1x]) (Fill.v _ Fill.nil) ?_
        rintro H93 sp hfr94
        replace sp : Sep H93 n81 [oI (.arr id85 l54.length 0 l54.length) l92] [(n1 + 1, 4), (n1, 3)] := Sep.st el92 sp
        have m3_1 : H93 (n1, 3) = some ⟨6, [bC false redex]⟩ := (hfr94 _ (by simp)).trans (by simp [h2, h3, h4, h8, h9, h12, h13, h28, h29, h30, h36, h37, h38, h67, m3_1, m4_2, mo86, ni88, Heap.get_set])
        have m4_2 : H93 (n1 + 1, 4) = some ⟨6, [bC false agent]⟩ := (hfr94 _ (by simp)).trans (by simp [h2, h3, h4, h8, h9, h12, h13, h28, h29, h30, h36, h37, h38, h67, m3_1, m4_2, mo86, ni88, Heap.get_set])
        simp [h2, h3, h4, h8, h9, h12, h13, h28, h29, h30, h36, h37, h38, h67, m3_1, m4_2, ni88, f90, f91, dc36, dc59, db78, -indexAddrF]
        refine hk' _ _ _ ?_
        refine Runs.cut (fun ρ H n => ∃ (v96 : AVal), ρ 2 = .list false (nodes.map intC) ∧ ρ 3 = pA n1 3 ∧ ρ 4 = pA (n1 + 1) 4 ∧ ρ 8 = v96 ∧ ρ 9 = int v30 ∧ ρ 28 = .list false (redex.nodes.map (GNode.cells false)) ∧ ρ 29 = int len21 ∧ ρ 30 = int v30 ∧ ρ 36 = .list false (x39.links.map intC) ∧ ρ 37 = int len44 ∧ ρ 38 = int v53 ∧ H (n1, 3) = some ⟨6, [bC false redex]⟩ ∧ H (n1 + 1, 4) = some ⟨6, [bC false agent]⟩ ∧ Sep H n [oI v96 l92] [(n1 + 1, 4), (n1, 3)]) (by refine ⟨.arr id85 l54.length 0 l54.length, ?_, ?_, ?_, ?_, ?_, ?_, ?_, ?_, ?_, ?_, ?_, ?_, ?_, sp⟩ <;> simp [h2, h3, h4, h8, h9, h12, h13, h28, h29, h30, h36, h37, h38, h67, m3_1, m4_2, ni88, f90, f91, dc36, dc59, db78, -indexAddrF]) ?_
        clear h2 h3 h4 h8 h9 h12 h13 h28 h29 h30 h36 h37 h38 h67 m3_1 m4_2 ni88
        rintro ρ H n97 ⟨v96, h2, h3, h4, h8, h9, h28, h29, h30, h36, h37, h38, m3_1, m4_2, sp⟩
        refine Runs.inBlock ?_
        refine Runs.evalE Ty_ok (by decide) fun k' hk' => ?_
        obtain ⟨hb98, h⟩ := h
        obtain ⟨v99, ev99⟩ : ∃ v : Int, v = v53 + 1 := ⟨_, rfl⟩
        replace h := h v99 ev99
        have f100 := ib_add hb98 ev99
        simp [h2, h3, h4, h8, h9, h28, h29, h30, h36, h37, h38, m3_1, m4_2, f100, dc36, dc59, db78, -intBin]
        refine hk' _ _ _ ?_
        refine IH57 (v99, l92) _ _ _ h (by refine ⟨v96, ?_, ?_, ?_, ?_, ?_, ?_, ?_, ?_, ?_, ?_, ?_, ?_, ?_, sp⟩ <;> simp [h2, h3, h4, h8, h9, h28, h29, h30, h36, h37, h38, m3_1, m4_2, dc36, dc59, db78])
      replace h := hJ76
      obtain ⟨hb101, h⟩ := h
      obtain ⟨id102, hv, mo103, ln104, ni105⟩ := Sep.openF sp (by simp) hb101
      subst hv
      simp at ni105
      obtain ⟨x106, ex106⟩ : ∃ v : Int, v = at' l54 x62 := ⟨_, rfl⟩
      replace h := h x106 ex106
      have f107 := fun H (hm : H id102 = some ⟨1, l54.map intC⟩) => ix_arr (H := H) (k := .i64) (off := 0) (len := l54.length) (g := l54.length) kd_24 hm (by simp) rfl hb101
      have f108 := at_some (q := x62.toNat) hb101 ex106 rfl
      obtain ⟨c109, ec109⟩ : ∃ v : Bool, v = decide (0 ≤ x106) := ⟨_, rfl⟩
      replace h := h c109 ec109
      have f110 := ib_geq (k := .i64) ec109
      rcases Bool.eq_false_or_eq_true c109 with dc109 | dc109
      · replace h := h.1 dc109
        obtain ⟨hb111, h⟩ := h
        obtain ⟨x112, ex112⟩ : ∃ v : Int, v = at' l54 x62 := ⟨_, rfl⟩
        replace h := h x112 ex112
        have hq113 := ex106.trans ex112.symm
        subst hq113
        have f114 := fun H (hm : H id102 = some ⟨1, l54.map intC⟩) => ix_arr (H := H) (k := .i64) (off := 0) (len := l54.length) (g := l54.length) kd_24 hm (by simp) rfl hb111
        have f115 := at_some (q := x62.toNat) hb111 ex106 rfl
        obtain ⟨c116, ec116⟩ : ∃ v : Bool, v = decide (x106 ≠ x71) := ⟨_, rfl⟩
        replace h := h c116 ec116
        have f117 := ib_neq (k := .i64) ec116
        simp [h2, h3, h4, h8, h9, h12, h13, h28, h29, h30, h36, h37, h38, m3_1, m4_2, mo103, ni105, f107, f108, f110, f114, f115, f117, dc36, dc59, dc109, -indexAddrF, -intBin]
        exact fin80 (c116) _ _ _ h (by refine ⟨.arr id102 l54.length 0 l54.length, ?_, ?_, ?_, ?_, ?_, ?_, ?_, ?_, ?_, ?_, ?_, ?_, ?_, ?_, ?_, ?_, sp⟩ <;> simp [h2, h3, h4, h8, h9, h12, h13, h28, h29, h30, h36, h37, h38, m3_1, m4_2, mo103, ni105, f107, f108, f110, f114, f115, f117, dc36, dc59, dc109, -indexAddrF, -intBin])
      replace h := h.2 dc109
      simp [h2, h3, h4, h8, h9, h12, h13, h28, h29, h30, h36, h37, h38, m3_1, m4_2, mo103, ni105, f107, f108, f110, dc36, dc59, dc109, -indexAddrF, -intBin]
      exact fin80 (false) _ _ _ h (by refine ⟨.arr id102 l54.length 0 l54.length, ?_, ?_, ?_, ?_, ?_, ?_, ?_, ?_, ?_, ?_, ?_, ?_, ?_, ?_, ?_, ?_, sp⟩ <;> simp [h2, h3, h4, h8, h9, h12, h13, h28, h29, h30, h36, h37, h38, m3_1, m4_2, mo103, ni105, f107, f108, f110, dc36, dc59, dc109, -indexAddrF, -intBin])
    replace h := h.2 dc59
    refine Runs.exit rfl ?_
    refine Runs.inBlock ?_
    refine Runs.evalE Ty_ok (by decide) fun k' hk' => ?_
    obtain ⟨hb118, h⟩ := h
    obtain ⟨v119, ev119⟩ : ∃ v : Int, v = v30 + 1 := ⟨_, rfl⟩
    replace h := h v119 ev119
    have f120 := ib_add hb118 ev119
    simp [h2, h3, h4, h8, h9, h28, h29, h30, h36, h37, h38, m3_1, m4_2, f120, dc36, dc59, -intBin]
    refine hk' _ _ _ ?_
    refine IH34 (v119, l54) _ _ _ h (by refine ⟨v55, ?_, ?_, ?_, ?_, ?_, ?_, ?_, ?_, ?_, sp⟩ <;> simp [h2, h3, h4, h8, h9, h28, h29, h30, h36, h37, h38, m3_1, m4_2, dc36, dc59])
  replace h := h.2 dc36
  refine Runs.exit rfl ?_
  refine Runs.seq ?_
  refine Runs.seqE Ty_ok (by decide) fun k' hk' => ?_
  simp [h2, h3, h4, h8, h28, h29, h30, m3_1, m4_2, dc36]
  refine hk' _ _ _ ?_
  refine Runs.block ?_
  refine Runs.loopW h (fun (sJ : Int) ρ H n => match sJ with | v124 => ∃ (v125 : AVal), ρ 3 = pA n1 3 ∧ ρ 4 = pA (n1 + 1) 4 ∧ ρ 8 = v125 ∧ ρ 75 = int redex.edges ∧ ρ 76 = int v124 ∧ H (n1, 3) = some ⟨6, [bC false redex]⟩ ∧ H (n1 + 1, 4) = some ⟨6, [bC false agent]⟩ ∧ Sep H n [oI v125 l31] [(n1 + 1, 4), (n1, 3)]) (by refine ⟨v32, ?_, ?_, ?_, ?_, ?_, ?_, ?_, sp⟩ <;> simp [h2, h3, h4, h8, h28, h29, h30, m3_1, m4_2, dc36]) ?_
  clear h2 h3 h4 h8 h28 h29 h30 m3_1 m4_2
  rintro v124 ρ H n126 K h ⟨v125, h3, h4, h8, h75, h76, m3_1, m4_2, sp⟩ IH127
  refine Runs.seqE Ty_ok (by decide) fun k' hk' => ?_
  obtain ⟨c129, ec129⟩ : ∃ v : Bool, v = decide (v124 < redex.edges) := ⟨_, rfl⟩
  replace h := h c129 ec129
  have f130 := ib_lss (k := .i64) ec129
  simp [h3, h4, h8, h75, h76, m3_1, m4_2, f130, dc36, -intBin]
  refine hk' _ _ _ ?_
  refine Runs.seq ?_
  refine Runs.ite (b := c129) (by simp [h3, h4, h8, h75, h76, m3_1, m4_2, dc36]) (fun dc129 => ?_) (fun dc129 => ?_)
  · replace h := h.1 dc129
    refine Runs.skip ?_
    refine Runs.seq ?_
    refine Runs.block ?_
    refine Runs.seqE Ty_ok (by decide) fun k' hk' => ?_
    simp [h3, h4, h8, h75, h76, m3_1, m4_2, dc36, dc129]
    refine hk' _ _ _ ?_
    refine Runs.seqE Ty_ok (by decide) fun k' hk' => ?_
    obtain ⟨hb131, h⟩ := h
    obtain ⟨r132, er132⟩ : ∃ v : (List (Int × Int)) × (List Str), v = pointsOf redex v124 := ⟨_, rfl⟩
    replace h := h r132 er132
    simp [h3, h4, h8, h75, h76, m3_1, m4_2, dc36, dc129]
    refine RunK.callW Ty_ok (pointsOf_ok redex v124 hb131) e81 (.cons (argB false redex) (.cons (.v _ _ _) .nil)) sp (by decide) (by decide) rfl (by simp [h3, h4, h8, h75, h76, m3_1, m4_2, dc36, dc129]) ?_
    rintro v133 H134 n135 _ sp rfl hle137 hfr136
    rw [← er132] at sp
    have m3_1 : H134 (n1, 3) = some ⟨6, [bC false redex]⟩ := (hfr136 _ (by simp)).trans (by simp [h3, h4, h8, h75, h76, m3_1, m4_2, Heap.get_set])
    have m4_2 : H134 (n1 + 1, 4) = some ⟨6, [bC false agent]⟩ := (hfr136 _ (by simp)).trans (by simp [h3, h4, h8, h75, h76, m3_1, m4_2, Heap.get_set])
    replace sp := Sep.unpackT sp
    obtain ⟨L141, hv, hl142, sp⟩ := sp
    subst hv
    obtain ⟨v139, v140, hv⟩ := len2 (by simpa using hl142)
    subst hv
    simp only [zip3, List.cons_append, List.nil_append] at sp
    replace sp := Sep.rot sp
    try simp only [List.cons_append, List.nil_append, List.append_assoc] at sp
    replace sp := Sep.rot sp
    try simp only [List.cons_append, List.nil_append, List.append_assoc] at sp
    replace sp : Sep H134 n135 [oI v125 l31, oE [.c, .c] intC2 v139 r132.1, oS v140 r132.2] [(n1 + 1, 4), (n1, 3)] := sp
    simp [h3, h4, h8, h75, h76, m3_1, m4_2, dc36, dc129]
    refine hk' _ _ _ ?_
    refine Runs.cut (fun ρ H n => ∃ (v145 v146 : AVal), ρ 3 = pA n1 3 ∧ ρ 4 = pA (n1 + 1) 4 ∧ ρ 8 = v145 ∧ ρ 14 = int v124 ∧ ρ 15 = v146 ∧ ρ 75 = int redex.edges ∧ ρ 76 = int v124 ∧ H (n1, 3) = some ⟨6, [bC false redex]⟩ ∧ H (n1 + 1, 4) = some ⟨6, [bC false agent]⟩ ∧ Sep H n [oI v145 l31, oE [.c, .c] intC2 v146 r132.1] [(n1 + 1, 4), (n1, 3)]) (by refine ⟨v125, v139, ?_, ?_, ?_, ?_, ?_, ?_, ?_, ?_, ?_, sp.f2.dr.f1.f1⟩ <;> simp [h3, h4, h8, h75, h76, m3_1, m4_2, dc36, dc129]) ?_
    clear h3 h4 h8 h75 h76 m3_1 m4_2
    rintro ρ H n147 ⟨v145, v146, h3, h4, h8, h14, h15, h75, h76, m3_1, m4_2, sp⟩
    refine Runs.seqD Ty_ok kindOp_ok draws (by decide) (by kernel_rfl) fun k' hk' => ?_
    obtain ⟨hb148, h⟩ := h
    obtain ⟨id149, hv, mo150, ln151, ni152⟩ := Sep.openF sp (by simp) hb148
    subst hv
    simp at ni152
    obtain ⟨x153, ex153⟩ : ∃ v : Int, v = at' l31 v124 := ⟨_, rfl⟩
    replace h := h x153 ex153
    have f154 := fun H (hm : H id149 = some ⟨1, l31.map intC⟩) => ix_arr (H := H) (k := .i64) (off := 0) (len := l31.length) (g := l31.length) kd_24 hm (by simp) rfl hb148
    have f155 := at_some (q := v124.toNat) hb148 ex153 rfl
    obtain ⟨hb156, h⟩ := h
    obtain ⟨r157, er157⟩ : ∃ v : (List (Int × Int)) × (List Str), v = pointsOf agent x153 := ⟨_, rfl⟩
    replace h := h r157 er157
    simp [h3, h4, h8, h14, h15, h75, h76, m3_1, m4_2, mo150, ni152, f154, f155, dc36, dc129, -indexAddrF]
    refine RunDK.callA Ty_ok kindOp_ok ((pointsOf_ok agent x153 hb156).pure) e81 (.cons (argB false agent) (.cons (.v _ _ _) .nil)) (by decide) rfl (by simp [h3, h4, h8, h14, h15, h75, h76, m3_1, m4_2, mo150, ni152, f154, f155, dc36, dc129, -indexAddrF]) ?_
    rw [← er157]
    simp [h3, h4, h8, h14, h15, h75, h76, m3_1, m4_2, mo150, ni152, f154, f155, dc36, dc129, -indexAddrF]
    refine hk' _ _ _ ?_
    refine Runs.seqD Ty_ok kindOp_ok draws (by decide) (by kernel_rfl) fun k' hk' => ?_
    obtain ⟨J158, hJ159, hr160⟩ := h
    have fin163 : ∀ (sJ : Bool) (ρ : Env) (H : Heap) (n : Nat), J158 sJ → (match sJ with | b161 => ∃ (v162 : AVal), ρ 3 = pA n1 3 ∧ ρ 4 = pA (n1 + 1) 4 ∧ ρ 8 = v162 ∧ ρ 75 = int redex.edges ∧ ρ 76 = int v124 ∧ ρ 107 = bool b161 ∧ H (n1, 3) = some ⟨6, [bC false redex]⟩ ∧ H (n1 + 1, 4) = some ⟨6, [bC false agent]⟩ ∧ Sep H n [oI v162 l31] [(n1 + 1, 4), (n1, 3)]) → Runs Tryz.prog 50 110 k' ρ H n Q := by
      rintro b161 ρ H n164 h ⟨v162, h3, h4, h8, h75, h76, h107, m3_1, m4_2, sp⟩
      replace h := hr160 _ h
      refine hk' _ _ _ ?_
      refine Runs.ite (b := b161) (by simp [h3, h4, h8, h75, h76, h107, m3_1, m4_2, dc36, dc129]) (fun db161 => ?_) (fun db161 => ?_)
      · replace h := h.1 db161
        refine Runs.seqE Ty_ok (by decide) fun k' hk' => ?_
        simp [h3, h4, h8, h75, h76, h107, m3_1, m4_2, dc36, dc129, db161]
        refine hk' _ _ _ ?_
        exact Runs.ret2 (v := .v (.slice none 0 0)) (w := bool false) Tryz.func50 Tryz.results50 (by simp [h3, h4, h8, h75, h76, h107, m3_1, m4_2, dc36, dc129, db161]) (by simp [h3, h4, h8, h75, h76, h107, m3_1, m4_2, dc36, dc129, db161]) (hQ _ _ _ _ (Sep.sub (ids' := []) (Sep.hd (Sep.packT (Fill.own (Fill.v _ Fill.nil)) (Sep.addNil sp))) (by simp)) ⟨([], false), h, rfl⟩)
      replace h := h.2 db161
      refine Runs.skip ?_
      refine Runs.inBlock ?_
      refine Runs.evalE Ty_ok (by decide) fun k' hk' => ?_
      obtain ⟨hb167, h⟩ := h
      obtain ⟨v168, ev168⟩ : ∃ v : Int, v = v124 + 1 := ⟨_, rfl⟩
      replace h := h v168 ev168
      have f169 := ib_add hb167 ev168
      simp [h3, h4, h8, h75, h76, h107, m3_1, m4_2, f169, dc36, dc129, db161, -intBin]
      refine hk' _ _ _ ?_
      refine IH127 (v168) _ _ _ h (by refine ⟨v162, ?_, ?_, ?_, ?_, ?_, ?_, ?_, sp⟩ <;> simp [h3, h4, h8, h75, h76, h107, m3_1, m4_2, dc36, dc129, db161])
    replace h := hJ159
    obtain ⟨hb170, h⟩ := h
    obtain ⟨x171, ex171⟩ : ∃ v : Int, v = at' l31 v124 := ⟨_, rfl⟩
    replace h := h x171 ex171
    have hq172 := ex153.trans ex171.symm
    subst hq172
    have f173 := fun H (hm : H id149 = some ⟨1, l31.map intC⟩) => ix_arr (H := H) (k := .i64) (off := 0) (len := l31.length) (g := l31.length) kd_24 hm (by simp) rfl hb170
    have f174 := at_some (q := v124.toNat) hb170 ex153 rfl
    obtain ⟨c175, ec175⟩ : ∃ v : Bool, v = decide (agent.edges ≤ x153) := ⟨_, rfl⟩
    replace h := h c175 ec175
    have f176 := ib_geq (k := .i64) ec175
    rcases Bool.eq_false_or_eq_true c175 with dc175 | dc175
    · replace h := h.1 dc175
      simp [h3, h4, h8, h14, h15, h75, h76, m3_1, m4_2, mo150, ni152, f173, f174, f176, dc36, dc129, dc175, -indexAddrF, -intBin]
      exact fin163 (true) _ _ _ h (by refine ⟨.arr id149 l31.length 0 l31.length, ?_, ?_, ?_, ?_, ?_, ?_, ?_, ?_, sp.f1.dr⟩ <;> simp [h3, h4, h8, h14, h15, h75, h76, m3_1, m4_2, mo150, ni152, f173, f174, f176, dc36, dc129, dc175, -indexAddrF, -intBin])
    replace h := h.2 dc175
    obtain ⟨len177, elen177⟩ : ∃ v : Int, v = (r157.1.length : Int) := ⟨_, rfl⟩
    replace h := h len177 elen177
    have f178 := fun H => len_list (H := H) (fr := true) (f := intC2) kd_105 elen177
    obtain ⟨len179, elen179⟩ : ∃ v : Int, v = (r132.1.length : Int) := ⟨_, rfl⟩
    replace h := h len179 elen179
    have f180 := len_own (Sep.len (m := len179) sp.f1 kd_105 (by rw [elen179, List.length_map]))
    obtain ⟨c181, ec181⟩ : ∃ v : Bool, v = decide (len177 ≠ len179) := ⟨_, rfl⟩
    replace h := h c181 ec181
    have f182 := ib_neq (k := .i64) ec181
    simp [h3, h4, h8, h14, h15, h75, h76, m3_1, m4_2, mo150, ni152, f173, f174, f176, f178, f180, f182, dc36, dc129, dc175, -indexAddrF, -intBin, -lenF]
    exact fin163 (c181) _ _ _ h (by refine ⟨.arr id149 l31.length 0 l31.length, ?_, ?_, ?_, ?_, ?_, ?_, ?_, ?_, sp.f1.dr⟩ <;> simp [h3, h4, h8, h14, h15, h75, h76, m3_1, m4_2, mo150, ni152, f173, f174, f176, f178, f180, f182, dc36, dc129, dc175, -indexAddrF, -intBin, -lenF])
  replace h := h.2 dc129
  refine Runs.exit rfl ?_
  refine Runs.seqE Ty_ok (by decide) fun k' hk' => ?_
  simp [h3, h4, h8, h75, h76, m3_1, m4_2, dc36, dc129]
  refine hk' _ _ _ ?_
  exact Runs.ret2 (v := v125) (w := bool true) Tryz.func50 Tryz.results50 (by simp [h3, h4, h8, h75, h76, m3_1, m4_2, dc36, dc129]) (by simp [h3, h4, h8, h75, h76, m3_1, m4_2, dc36, dc129]) (hQ _ _ _ _ (Sep.sub (ids' := []) (Sep.packT (Fill.own (Fill.v _ Fill.nil)) sp) (by simp)) ⟨(l31, true), h, rfl⟩)

theorem matchLinks_ok (redex : Big) (agent : Big) (nodes : List Int) (hp : matchLinks_pre redex agent nodes) : OwnS Tryz.prog 50 [.agg (bC false redex), .agg (bC false agent), .list false (nodes.map intC)] (.t [.s [.c], .c]) (fun r => r = .tup [.list true (((matchLinks redex agent nodes).1).map intC), bool ((matchLinks redex agent nodes).2)]) := (matchLinks_walk redex agent nodes _ (matchLinks_vc redex agent nodes hp)).mono (by rintro _ ⟨_, rfl, rfl⟩; rfl)

theorem e71 : Ent Tryz.prog 71 := Ent.of Tryz.func71 (by kernel_rfl) rfl
theorem isMatch1_walk {H0 : Heap} {n0 : Nat} {X1 : Id} {X2 : Id} (p : Int) (v_ : Big) (v_' : Match) (hX1 : H0 X1 = some ⟨6, [bC false v_]⟩) (hX2 : H0 X2 = some ⟨2, [mC false v_']⟩) (Z : Bool → Prop) (h : isMatch1_wp p v_ v_' Z) : ClosC Tryz.prog H0 n0 (.fn (.func 71) [] [.ptr X1 1 0 0, .ptr X2 1 0 0]) [int p] (fun r => ∃ y : Bool, Z y ∧ r = bool y) := by
  unfold isMatch1_wp at h
  refine ⟨71, [], [.ptr X1 1 0 0, .ptr X2 1 0 0], rfl, e71, ?_⟩
  refine StillC.of Tryz.func71 rfl Tryz.ntmps71 (by simp) fun Q hB hQ => ?_
  have lX1 : X1.1 < n0 := (hB X1 _ hX1).1
  have lX2 : X2.1 < n0 := (hB X2 _ hX2).1
  have neX1 : ∀ m d, n0 ≤ m → (X1 = (m, d)) = False := fun m d hm => by simp only [eq_iff_iff, iff_false]; rintro rfl; simp at lX1; omega
  have neX2 : ∀ m d, n0 ≤ m → (X2 = (m, d)) = False := fun m d hm => by simp only [eq_iff_iff, iff_false]; rintro rfl; simp at lX2; omega
  have hfr : Frame n0 H0 H0 := Frame.refl _ _
  have hn0 : n0 ≤ n0 := Nat.le_refl _
  refine Runs.cut (fun ρ H n => ρ 0 = int p ∧ ρ 1 = .ptr X1 1 0 0 ∧ ρ 2 = .ptr X2 1 0 0 ∧ H X1 = some ⟨6, [bC false v_]⟩ ∧ H X2 = some ⟨2, [mC false v_']⟩ ∧ n0 ≤ n ∧ Frame n0 H0 H) (by refine ⟨?_, ?_, ?_, ?_, ?_, ?_, ?_⟩ <;> first | ((repeat (first | exact hfr | refine Frame.set (by first | omega | (simp; omega)) ?_)); done) | omega | simp [hX1, hX2]) ?_
  rintro ρ H n1 ⟨h0, h1, h2, mX1, mX2, hn0, hfr⟩
  have hn1 := Nat.le_succ_of_le hn0
  have hn2 := Nat.le_succ_of_le hn1
  refine Runs.seqE Ty_ok (by decide) fun k' hk' => ?_
  simp [h0, h1, h2, mX1, mX2, hn0, hn1, hn2, neX1, neX2]
  refine hk' _ _ _ ?_
  refine Runs.seqE Ty_ok (by decide) fun k' hk' => ?_
  obtain ⟨J2, hJ3, hr4⟩ := h
  have fin6 : ∀ (sJ : Bool) (ρ : Env) (H : Heap) (n : Nat), J2 sJ → (match sJ with | b5 => ρ 4 = bool b5 ∧ H X1 = some ⟨6, [bC false v_]⟩ ∧ H X2 = some ⟨2, [mC false v_']⟩ ∧ n0 ≤ n ∧ Frame n0 H0 H) → Runs Tryz.prog 71 22 k' ρ H n Q := by
    rintro b5 ρ H n7 h ⟨h4, mX1, mX2, hn0, hfr⟩
    have hn1 := Nat.le_succ_of_le hn0
    have hn2 := Nat.le_succ_of_le hn1
    replace h := hr4 _ h
    refine hk' _ _ _ ?_
    exact Runs.ret1 (v := bool b5) Tryz.func71 Tryz.results71 (by simp [h4, mX1, mX2, hn0, hn1, hn2, neX1, neX2]) (hQ _ _ _ _ (.bnd (.v _)) (hfr) ⟨b5, h, rfl⟩)
  replace h := hJ3
  obtain ⟨hb8, h⟩ := h
  obtain ⟨v9, ev9⟩ : ∃ v : Int, v = -v_.roots := ⟨_, rfl⟩
  replace h := h v9 ev9
  have f10 := ub_neg hb8 ev9
  obtain ⟨len11, elen11⟩ : ∃ v : Int, v = (v_.nodes.length : Int) := ⟨_, rfl⟩
  replace h := h len11 elen11
  have f12 := fun H => len_list (H := H) (fr := false) (f := (GNode.cells false)) kd_38 elen11
  obtain ⟨hb13, h⟩ := h
  obtain ⟨v14, ev14⟩ : ∃ v : Int, v = len11 - 1 := ⟨_, rfl⟩
  replace h := h v14 ev14
  have f15 := ib_sub hb13 ev14
  obtain ⟨r16, er16⟩ : ∃ v : Bool, v = within p v9 v14 := ⟨_, rfl⟩
  replace h := h r16 er16
  simp [h0, h1, h2, mX1, mX2, hn0, hn1, hn2, neX1, neX2, f10, f12, f15, -intBin, -lenF, -unF, ub_not']
  refine RunK.callA Ty_ok (within_ok p v9 v14 ) e72 (.cons (.v _ _ _) (.cons (.v _ _ _) (.cons (.v _ _ _) .nil))) (by decide) (by decide) rfl (by simp [h0, h1, h2, mX1, mX2, hn0, hn1, hn2, neX1, neX2, f10, f12, f15, -intBin, -lenF, -unF, ub_not']) ?_
  rintro _ rfl
  rw [← er16]
  rcases Bool.eq_false_or_eq_true r16 with dr16 | dr16
  · replace h := h.1 dr16
    obtain ⟨hb17, h⟩ := h
    obtain ⟨r18, er18⟩ : ∃ v : Bool, v = isUnder v_ p v_'.nodes := ⟨_, rfl⟩
    replace h := h r18 er18
    simp [h0, h1, h2, mX1, mX2, hn0, hn1, hn2, neX1, neX2, f10, f12, f15, dr16, -intBin, -lenF, -unF, ub_not']
    refine RunK.callA Ty_ok (isUnder_ok v_ p v_'.nodes hb17) e73 (.cons (argB false v_) (.cons (.v _ _ _) (.cons (argI false v_'.nodes) .nil))) (by decide) (by decide) rfl (by simp [h0, h1, h2, mX1, mX2, hn0, hn1, hn2, neX1, neX2, f10, f12, f15, dr16, -intBin, -lenF, -unF, ub_not']) ?_
    rintro _ rfl
    rw [← er18]
    simp [h0, h1, h2, mX1, mX2, hn0, hn1, hn2, neX1, neX2, f10, f12, f15, dr16, -intBin, -lenF, -unF, ub_not']
    exact fin6 (r18) _ _ _ h (by refine ⟨?_, ?_, ?_, ?_, ?_⟩ <;> first | ((repeat (first | exact hfr | refine Frame.set (by first | omega | (simp; omega)) ?_)); done) | omega | simp [h0, h1, h2, mX1, mX2, hn0, hn1, hn2, neX1, neX2, f10, f12, f15, dr16, -intBin, -lenF, -unF, ub_not'])
  replace h := h.2 dr16
  simp [h0, h1, h2, mX1, mX2, hn0, hn1, hn2, neX1, neX2, f10, f12, f15, dr16, -intBin, -lenF, -unF, ub_not']
  exact fin6 (true) _ _ _ h (by refine ⟨?_, ?_, ?_, ?_, ?_⟩ <;> first | ((repeat (first | exact hfr | refine Frame.set (by first | omega | (simp; omega)) ?_)); done) | omega | simp [h0, h1, h2, mX1, mX2, hn0, hn1, hn2, neX1, neX2, f10, f12, f15, dr16, -intBin, -lenF, -unF, ub_not'])

theorem isMatch1_ok {H0 : Heap} {n0 : Nat} {X1 : Id} {X2 : Id} (p : Int) (v_ : Big) (v_' : Match) (hX1 : H0 X1 = some ⟨6, [bC false v_]⟩) (hX2 : H0 X2 = some ⟨2, [mC false v_']⟩) (hp : isMatch1_pre p v_ v_') : ClosC Tryz.prog H0 n0 (.fn (.func 71) [] [.ptr X1 1 0 0, .ptr X2 1 0 0]) [int p] (fun r => r = bool (isMatch1 p v_ v_')) := (isMatch1_walk p v_ v_' hX1 hX2 _ (isMatch1_vc p v_ v_' hp)).mono (by rintro _ ⟨_, rfl, rfl⟩; rfl)

theorem e40 : Ent Tryz.prog 40 := Ent.of Tryz.func40 (by kernel_rfl) rfl
theorem isMatch_walk (redex : Big) (agent : Big) (m : Match) (Z : Bool → Prop) (h : isMatch_wp redex agent m Z) : PureC Tryz.prog 40 [.agg (bC false redex), .agg (bC false agent), .agg (mC false m)] (fun r => ∃ y : Bool, Z y ∧ r = bool y) := by
  unfold isMatch_wp at h
  refine PureC.of Tryz.func40 rfl Tryz.ntmps40 (by simp) fun Q hQ => ?_
  refine Runs.cut (fun ρ H n => ρ 0 = .agg (bC false redex) ∧ ρ 1 = .agg (bC false agent) ∧ ρ 2 = .agg (mC false m)) (by refine ⟨?_, ?_, ?_⟩ <;> simp ) ?_
  rintro ρ H n1 ⟨h0, h1, h2⟩
  refine Runs.seqE Ty_ok (by decide) fun k' hk' => ?_
  simp [h0, h1, h2]
  refine hk' _ _ _ ?_
  refine Runs.cut (fun ρ H n => ρ 3 = pA n1 3 ∧ ρ 4 = pA (n1 + 1) 4 ∧ ρ 5 = pA (n1 + 2) 5 ∧ H (n1, 3) = some ⟨6, [bC false redex]⟩ ∧ H (n1 + 1, 4) = some ⟨6, [bC false agent]⟩ ∧ H (n1 + 2, 5) = some ⟨2, [mC false m]⟩) (by refine ⟨?_, ?_, ?_, ?_, ?_, ?_⟩ <;> simp [h0, h1, h2]) ?_
  clear h0 h1 h2
  rintro ρ H n5 ⟨h3, h4, h5, m3_1, m4_2, m5_3⟩
  refine Runs.seq ?_
  refine Runs.seqE Ty_ok (by decide) fun k' hk' => ?_
  obtain ⟨J6, hJ7, hr8⟩ := h
  have fin10 : ∀ (sJ : Bool) (ρ : Env) (H : Heap) (n : Nat), J6 sJ → (match sJ with | b9 => ρ 3 = pA n1 3 ∧ ρ 4 = pA (n1 + 1) 4 ∧ ρ 5 = pA (n1 + 2) 5 ∧ ρ 25 = bool b9 ∧ H (n1, 3) = some ⟨6, [bC false redex]⟩ ∧ H (n1 + 1, 4) = some ⟨6, [bC false agent]⟩ ∧ H (n1 + 2, 5) = some ⟨2, [mC false m]⟩) → Runs Tryz.prog 40 65 k' ρ H n Q := by
    rintro b9 ρ H n11 h ⟨h3, h4, h5, h25, m3_1, m4_2, m5_3⟩
    replace h := hr8 _ h
    refine hk' _ _ _ ?_
    refine Runs.ite (b := b9) (by simp [h3, h4, h5, h25, m3_1, m4_2, m5_3]) (fun db9 => ?_) (fun db9 => ?_)
    · replace h := h.1 db9
      refine Runs.seqE Ty_ok (by decide) fun k' hk' => ?_
      simp [h3, h4, h5, h25, m3_1, m4_2, m5_3, db9]
      refine hk' _ _ _ ?_
      exact Runs.ret1 (v := bool false) Tryz.func40 Tryz.results40 (by simp [h3, h4, h5, h25, m3_1, m4_2, m5_3, db9]) (hQ _ _ _ _ (.of (.v _)) ⟨false, h, rfl⟩)
    replace h := h.2 db9
    refine Runs.skip ?_
    refine Runs.seq ?_
    refine Runs.seqE Ty_ok (by decide) fun k' hk' => ?_
    obtain ⟨len12, elen12⟩ : ∃ v : Int, v = (m.nodes.length : Int) := ⟨_, rfl⟩
    replace h := h len12 elen12
    have f13 := fun H => len_list (H := H) (fr := false) (f := intC) kd_24 elen12
    simp [h3, h4, h5, h25, m3_1, m4_2, m5_3, f13, db9, -lenF]
    refine hk' _ _ _ ?_
    refine Runs.block ?_
    refine Runs.loopW h (fun (sJ : Int) ρ H n => match sJ with | v16 => ρ 3 = pA n1 3 ∧ ρ 4 = pA (n1 + 1) 4 ∧ ρ 5 = pA (n1 + 2) 5 ∧ ρ 27 = .list false (m.nodes.map intC) ∧ ρ 28 = int len12 ∧ ρ 29 = int v16 ∧ H (n1, 3) = some ⟨6, [bC false redex]⟩ ∧ H (n1 + 1, 4) = some ⟨6, [bC false agent]⟩ ∧ H (n1 + 2, 5) = some ⟨2, [mC false m]⟩) (by refine ⟨?_, ?_, ?_, ?_, ?_, ?_, ?_, ?_, ?_⟩ <;> simp [h3, h4, h5, h25, m3_1, m4_2, m5_3, db9]) ?_
    clear h3 h4 h5 h25 m3_1 m4_2 m5_3
    rintro v16 ρ H n17 K h ⟨h3, h4, h5, h27, h28, h29, m3_1, m4_2, m5_3⟩ IH18
    refine Runs.seqE Ty_ok (by decide) fun k' hk' => ?_
    obtain ⟨c20, ec20⟩ : ∃ v : Bool, v = decide (v16 < len12) := ⟨_, rfl⟩
    replace h := h c20 ec20
    have f21 := ib_lss (k := .i64) ec20
    simp [h3, h4, h5, h27, h28, h29, m3_1, m4_2, m5_3, f21, db9, -intBin]
    refine hk' _ _ _ ?_
    refine Runs.seq ?_
    refine Runs.ite (b := c20) (by simp [h3, h4, h5, h27, h28, h29, m3_1, m4_2, m5_3, db9]) (fun dc20 => ?_) (fun dc20 => ?_)
    · replace h := h.1 dc20
      refine Runs.skip ?_
      refine Runs.seq ?_
      refine Runs.block ?_
      refine Runs.seqE Ty_ok (by decide) fun k' hk' => ?_
      obtain ⟨hb22, h⟩ := h
      obtain ⟨x23, ex23⟩ : ∃ v : Int, v = at' m.nodes v16 := ⟨_, rfl⟩
      replace h := h x23 ex23
      have f24 := fun H => ix_list (H := H) (fr := false) (f := intC) (k := .i64) kd_24 (fun _ => rfl) hb22 ex23
      simp [h3, h4, h5, h27, h28, h29, m3_1, m4_2, m5_3, f24, db9, dc20, -indexAddrF]
      refine hk' _ _ _ ?_
      refine Runs.seqE Ty_ok (by decide) fun k' hk' => ?_
      obtain ⟨J25, hJ26, hr27⟩ := h
      have fin29 : ∀ (sJ : Bool) (ρ : Env) (H : Heap) (n : Nat), J25 sJ → (match sJ with | b28 => ρ 3 = pA n1 3 ∧ ρ 4 = pA (n1 + 1) 4 ∧ ρ 5 = pA (n1 + 2) 5 ∧ ρ 27 = .list false (m.nodes.map intC) ∧ ρ 28 = int len12 ∧ ρ 29 = int v16 ∧ ρ 45 = bool b28 ∧ H (n1, 3) = some ⟨6, [bC false redex]⟩ ∧ H (n1 + 1, 4) = some ⟨6, [bC false agent]⟩ ∧ H (n1 + 2, 5) = some ⟨2, [mC false m]⟩) → Runs Tryz.prog 40 65 k' ρ H n Q := by
        rintro b28 ρ H n30 h ⟨h3, h4, h5, h27, h28, h29, h45, m3_1, m4_2, m5_3⟩
        replace h := hr27 _ h
        refine hk' _ _ _ ?_
        refine Runs.ite (b := b28) (by simp [h3, h4, h5, h27, h28, h29, h45, m3_1, m4_2, m5_3, db9, dc20]) (fun db28 => ?_) (fun db28 => ?_)
        · replace h := h.1 db28
          refine Runs.seqE Ty_ok (by decide) fun k' hk' => ?_
          simp [h3, h4, h5, h27, h28, h29, h45, m3_1, m4_2, m5_3, db9, dc20, db28]
          refine hk' _ _ _ ?_
          exact Runs.ret1 (v := bool false) Tryz.func40 Tryz.results40 (by simp [h3, h4, h5, h27, h28, h29, h45, m3_1, m4_2, m5_3, db9, dc20, db28]) (hQ _ _ _ _ (.of (.v _)) ⟨false, h, rfl⟩)
        replace h := h.2 db28
        refine Runs.skip ?_
        refine Runs.inBlock ?_
        refine Runs.evalE Ty_ok (by decide) fun k' hk' => ?_
        obtain ⟨hb31, h⟩ := h
        obtain ⟨v32, ev32⟩ : ∃ v : Int, v = v16 + 1 := ⟨_, rfl⟩
        replace h := h v32 ev32
        have f33 := ib_add hb31 ev32
        simp [h3, h4, h5, h27, h28, h29, h45, m3_1, m4_2, m5_3, f33, db9, dc20, db28, -intBin]
        refine hk' _ _ _ ?_
        refine IH18 (v32) _ _ _ h (by refine ⟨?_, ?_, ?_, ?_, ?_, ?_, ?_, ?_, ?_⟩ <;> simp [h3, h4, h5, h27, h28, h29, h45, m3_1, m4_2, m5_3, db9, dc20, db28])
      replace h := hJ26
      obtain ⟨hb34, h⟩ := h
      obtain ⟨r35, er35⟩ : ∃ v : Bool, v = isNodeB agent x23 := ⟨_, rfl⟩
      replace h := h r35 er35
      simp [h3, h4, h5, h27, h28, h29, m3_1, m4_2, m5_3, db9, dc20]
      refine RunK.callA Ty_ok (isNodeB_ok agent x23 hb34) e68 (.cons (argB false agent) (.cons (.v _ _ _) .nil)) (by decide) (by decide) rfl (by simp [h3, h4, h5, h27, h28, h29, m3_1, m4_2, m5_3, db9, dc20]) ?_
      rintro _ rfl
      rw [← er35]
      rcases Bool.eq_false_or_eq_true r35 with dr35 | dr35
      · replace h := h.1 dr35
        obtain ⟨hb36, h⟩ := h
        obtain ⟨l37, el37⟩ : ∃ v : List Int, v = (m.nodes.take v16.toNat).drop 0 := ⟨_, rfl⟩
        replace h := h l37 el37
        have f38 := fun H => sl_list (H := H) (fr := false) (f := intC) (lo := none) (hi := some (int v16)) (a := 0) (b := v16) (by simp [boundOf]) (by simp [boundOf]) kd_24 (fun _ => rfl) hb36 el37
        obtain ⟨hb39, h⟩ := h
        obtain ⟨r40, er40⟩ : ∃ v : Bool, v = hasI l37 x23 := ⟨_, rfl⟩
        replace h := h r40 er40
        simp [h3, h4, h5, h27, h28, h29, m3_1, m4_2, m5_3, f38, db9, dc20, dr35, -sliceF]
        refine RunK.callA Ty_ok (hasI_ok l37 x23 hb39) e69 (.cons (argI false l37) (.cons (.v _ _ _) .nil)) (by decide) (by decide) rfl (by simp [h3, h4, h5, h27, h28, h29, m3_1, m4_2, m5_3, f38, db9, dc20, dr35, -sliceF]) ?_
        rintro _ rfl
        rw [← er40]
        simp [h3, h4, h5, h27, h28, h29, m3_1, m4_2, m5_3, f38, db9, dc20, dr35, -sliceF]
        exact fin29 (r40) _ _ _ h (by refine ⟨?_, ?_, ?_, ?_, ?_, ?_, ?_, ?_, ?_, ?_⟩ <;> simp [h3, h4, h5, h27, h28, h29, m3_1, m4_2, m5_3, f38, db9, dc20, dr35, -sliceF])
      replace h := h.2 dr35
      simp [h3, h4, h5, h27, h28, h29, m3_1, m4_2, m5_3, db9, dc20, dr35]
      exact fin29 (true) _ _ _ h (by refine ⟨?_, ?_, ?_, ?_, ?_, ?_, ?_, ?_, ?_, ?_⟩ <;> simp [h3, h4, h5, h27, h28, h29, m3_1, m4_2, m5_3, db9, dc20, dr35])
    replace h := h.2 dc20
    refine Runs.exit rfl ?_
    refine Runs.seq ?_
    refine Runs.seqE Ty_ok (by decide) fun k' hk' => ?_
    obtain ⟨hb41, h⟩ := h
    obtain ⟨r42, er42⟩ : ∃ v : Bool, v = m.roots.any (fun z => isMatch1 z agent m) := ⟨_, rfl⟩
    replace h := h r42 er42
    simp [h3, h4, h5, h27, h28, h29, m3_1, m4_2, m5_3, db9, dc20]
    refine RunK.callT Ty_ok (containsFuncI_ok false m.roots (fun z => isMatch1 z agent m) hb41.1 (fun z hz => isMatch1_ok z agent m m4_2 m5_3 (hb41.2 z hz))) e70 (by decide) (by decide) rfl (by simp [h3, h4, h5, h27, h28, h29, m3_1, m4_2, m5_3, db9, dc20]) ?_
    rintro _ rfl
    rw [← er42]
    simp [h3, h4, h5, h27, h28, h29, m3_1, m4_2, m5_3, db9, dc20]
    refine hk' _ _ _ ?_
    refine Runs.ite (b := r42) (by simp [h3, h4, h5, h27, h28, h29, m3_1, m4_2, m5_3, db9, dc20]) (fun dr42 => ?_) (fun dr42 => ?_)
    · replace h := h.1 dr42
      refine Runs.seqE Ty_ok (by decide) fun k' hk' => ?_
      simp [h3, h4, h5, h27, h28, h29, m3_1, m4_2, m5_3, db9, dc20, dr42]
      refine hk' _ _ _ ?_
      exact Runs.ret1 (v := bool false) Tryz.func40 Tryz.results40 (by simp [h3, h4, h5, h27, h28, h29, m3_1, m4_2, m5_3, db9, dc20, dr42]) (hQ _ _ _ _ (.of (.v _)) ⟨false, h, rfl⟩)
    replace h := h.2 dr42
    refine Runs.skip ?_
    refine Runs.seq ?_
    refine Runs.seqE Ty_ok (by decide) fun k' hk' => ?_
    obtain ⟨hb43, h⟩ := h
    obtain ⟨r44, er44⟩ : ∃ v : Bool, v = areImages redex agent m := ⟨_, rfl⟩
    replace h := h r44 er44
    simp [h3, h4, h5, h27, h28, h29, m3_1, m4_2, m5_3, db9, dc20, dr42]
    refine RunK.callA Ty_ok (areImages_ok redex agent m hb43) e74 (.cons (argB false redex) (.cons (argB false agent) (.cons (argM false m) .nil))) (by decide) (by decide) rfl (by simp [h3, h4, h5, h27, h28, h29, m3_1, m4_2, m5_3, db9, dc20, dr42]) ?_
    rintro _ rfl
    rw [← er44]
    simp [h3, h4, h5, h27, h28, h29, m3_1, m4_2, m5_3, db9, dc20, dr42]
    refine hk' _ _ _ ?_
    refine Runs.ite (b := (!r44)) (by simp [h3, h4, h5, h27, h28, h29, m3_1, m4_2, m5_3, db9, dc20, dr42]) (fun dr44 => ?_) (fun dr44 => ?_)
    · have dr44 : r44 = false := by simpa using dr44
      replace h := h.2 dr44
      refine Runs.seqE Ty_ok (by decide) fun k' hk' => ?_
      simp [h3, h4, h5, h27, h28, h29, m3_1, m4_2, m5_3, db9, dc20, dr42, dr44]
      refine hk' _ _ _ ?_
      exact Runs.ret1 (v := bool false) Tryz.func40 Tryz.results40 (by simp [h3, h4, h5, h27, h28, h29, m3_1, m4_2, m5_3, db9, dc20, dr42, dr44]) (hQ _ _ _ _ (.of (.v _)) ⟨false, h, rfl⟩)
    have dr44 : r44 = true := by simpa using dr44
    replace h := h.1 dr44
    refine Runs.skip ?_
    refine Runs.seqE Ty_ok (by decide) fun k' hk' => ?_
    obtain ⟨hb45, h⟩ := h
    obtain ⟨r46, er46⟩ : ∃ v : (List Int) × Bool, v = matchLinks redex agent m.nodes := ⟨_, rfl⟩
    replace h := h r46 er46
    simp [h3, h4, h5, h27, h28, h29, m3_1, m4_2, m5_3, db9, dc20, dr42, dr44]
    refine RunK.callA Ty_ok ((matchLinks_ok redex agent m.nodes hb45).pure) e50 (.cons (argB false redex) (.cons (argB false agent) (.cons (argI false m.nodes) .nil))) (by decide) (by decide) rfl (by simp [h3, h4, h5, h27, h28, h29, m3_1, m4_2, m5_3, db9, dc20, dr42, dr44]) ?_
    rintro _ rfl
    rw [← er46]
    simp [h3, h4, h5, h27, h28, h29, m3_1, m4_2, m5_3, db9, dc20, dr42, dr44]
    refine hk' _ _ _ ?_
    refine Runs.cut (fun ρ H n => ρ 10 = bool r46.2) (by simp [h3, h4, h5, h27, h28, h29, m3_1, m4_2, m5_3, db9, dc20, dr42, dr44]) ?_
    clear h3 h4 h5 h27 h28 h29 m3_1 m4_2 m5_3
    rintro ρ H n47 h10
    refine Runs.seqE Ty_ok (by decide) fun k' hk' => ?_
    simp [h10, db9, dc20, dr42, dr44]
    refine hk' _ _ _ ?_
    exact Runs.ret1 (v := bool r46.2) Tryz.func40 Tryz.results40 (by simp [h10, db9, dc20, dr42, dr44]) (hQ _ _ _ _ (.of (.v _)) ⟨r46.2, h, rfl⟩)
  replace h := hJ7
  obtain ⟨len48, elen48⟩ : ∃ v : Int, v = (m.nodes.length : Int) := ⟨_, rfl⟩
  replace h := h len48 elen48
  have f49 := fun H => len_list (H := H) (fr := false) (f := intC) kd_24 elen48
  obtain ⟨len50, elen50⟩ : ∃ v : Int, v = (redex.nodes.length : Int) := ⟨_, rfl⟩
  replace h := h len50 elen50
  have f51 := fun H => len_list (H := H) (fr := false) (f := (GNode.cells false)) kd_38 elen50
  obtain ⟨c52, ec52⟩ : ∃ v : Bool, v = decide (len48 ≠ len50) := ⟨_, rfl⟩
  replace h := h c52 ec52
  have f53 := ib_neq (k := .i64) ec52
  rcases Bool.eq_false_or_eq_true c52 with dc52 | dc52
  · replace h := h.1 dc52
    simp [h3, h4, h5, m3_1, m4_2, m5_3, f49, f51, f53, dc52, -intBin, -lenF]
    exact fin10 (true) _ _ _ h (by refine ⟨?_, ?_, ?_, ?_, ?_, ?_, ?_⟩ <;> simp [h3, h4, h5, m3_1, m4_2, m5_3, f49, f51, f53, dc52, -intBin, -lenF])
  replace h := h.2 dc52
  obtain ⟨len54, elen54⟩ : ∃ v : Int, v = (m.roots.length : Int) := ⟨_, rfl⟩
  replace h := h len54 elen54
  have f55 := fun H => len_list (H := H) (fr := false) (f := intC) kd_24 elen54
  obtain ⟨c56, ec56⟩ : ∃ v : Bool, v = decide (len54 ≠ redex.roots) := ⟨_, rfl⟩
  replace h := h c56 ec56
  have f57 := ib_neq (k := .i64) ec56
  simp [h3, h4, h5, m3_1, m4_2, m5_3, f49, f51, f53, f55, f57, dc52, -intBin, -lenF]
  exact fin10 (c56) _ _ _ h (by refine ⟨?_, ?_, ?_, ?_, ?_, ?_, ?_⟩ <;> simp [h3, h4, h5, m3_1, m4_2, m5_3, f49, f51, f53, f55, f57, dc52, -intBin, -lenF])

theorem isMatch_ok (redex : Big) (agent : Big) (m : Match) (hp : isMatch_pre redex agent m) : PureC Tryz.prog 40 [.agg (bC false redex), .agg (bC false agent), .agg (mC false m)] (fun r => r = bool (isMatch redex agent m)) := (isMatch_walk redex agent m _ (isMatch_vc redex agent m hp)).mono (by rintro _ ⟨_, rfl, rfl⟩; rfl)

theorem e39 : Ent Tryz.prog 39 := Ent.of Tryz.func39 (by kernel_rfl) rfl
theorem isMatching_walk (sig : List Control) (redex : Big) (agent : Big) (Z : Bool → Prop) (h : isMatching_wp sig redex agent Z) : PureC Tryz.prog 39 [.list false (sig.map Control.cells), .agg (bC false redex), .agg (bC false agent)] (fun r => ∃ y : Bool, Z y ∧ r = bool y) := by
  unfold isMatching_wp at h
  refine PureC.of Tryz.func39 rfl Tryz.ntmps39 (by simp) fun Q hQ => ?_
  refine Runs.cut (fun ρ H n => ρ 0 = .list false (sig.map Control.cells) ∧ ρ 1 = .agg (bC false redex) ∧ ρ 2 = .agg (bC false agent)) (by refine ⟨?_, ?_, ?_⟩ <;> simp ) ?_
  rintro ρ H n1 ⟨h0, h1, h2⟩
  refine Runs.seqE Ty_ok (by decide) fun k' hk' => ?_
  simp [h0, h1, h2]
  refine hk' _ _ _ ?_
  refine Runs.cut (fun ρ H n => ρ 0 = .list false (sig.map Control.cells) ∧ ρ 4 = pA n1 4 ∧ ρ 5 = pA (n1 + 1) 5 ∧ H (n1, 4) = some ⟨6, [bC false redex]⟩ ∧ H (n1 + 1, 5) = some ⟨6, [bC false agent]⟩) (by refine ⟨?_, ?_, ?_, ?_, ?_⟩ <;> simp [h0, h1, h2]) ?_
  clear h0 h1 h2
  rintro ρ H n4 ⟨h0, h4, h5, m4_1, m5_2⟩
  refine Runs.seqE Ty_ok (by decide) fun k' hk' => ?_
  obtain ⟨J5, hJ6, hr7⟩ := h
  have fin9 : ∀ (sJ : Bool) (ρ : Env) (H : Heap) (n : Nat), J5 sJ → (match sJ with | b8 => ρ 6 = bool b8) → Runs Tryz.prog 39 19 k' ρ H n Q := by
    rintro b8 ρ H n10 h h6
    replace h := hr7 _ h
    refine hk' _ _ _ ?_
    exact Runs.ret1 (v := bool b8) Tryz.func39 Tryz.results39 (by simp [h6]) (hQ _ _ _ _ (.of (.v _)) ⟨b8, h, rfl⟩)
  replace h := hJ6
  obtain ⟨hb11, h⟩ := h
  obtain ⟨r12, er12⟩ : ∃ v : Bool, v = goodB sig redex := ⟨_, rfl⟩
  replace h := h r12 er12
  simp [h0, h4, h5, m4_1, m5_2]
  refine RunK.callA Ty_ok (IsBigraph_ok sig redex hb11) e65 (.cons (argC false sig) (.cons (argB false redex) .nil)) (by decide) (by decide) rfl (by simp [h0, h4, h5, m4_1, m5_2]) ?_
  rintro _ rfl
  rw [← er12]
  rcases Bool.eq_false_or_eq_true r12 with dr12 | dr12
  · replace h := h.1 dr12
    obtain ⟨hb13, h⟩ := h
    obtain ⟨r14, er14⟩ : ∃ v : Bool, v = isRedex redex := ⟨_, rfl⟩
    replace h := h r14 er14
    simp [h0, h4, h5, m4_1, m5_2, dr12]
    refine RunK.callA Ty_ok (isRedex_ok redex hb13) e66 (.cons (argB false redex) .nil) (by decide) (by decide) rfl (by simp [h0, h4, h5, m4_1, m5_2, dr12]) ?_
    rintro _ rfl
    rw [← er14]
    rcases Bool.eq_false_or_eq_true r14 with dr14 | dr14
    · replace h := h.1 dr14
      obtain ⟨hb15, h⟩ := h
      obtain ⟨r16, er16⟩ : ∃ v : Bool, v = agentB sig agent := ⟨_, rfl⟩
      replace h := h r16 er16
      simp [h0, h4, h5, m4_1, m5_2, dr12, dr14]
      refine RunK.callA Ty_ok (agentB_ok sig agent hb15) e67 (.cons (argC false sig) (.cons (argB false agent) .nil)) (by decide) (by decide) rfl (by simp [h0, h4, h5, m4_1, m5_2, dr12, dr14]) ?_
      rintro _ rfl
      rw [← er16]
      simp [h0, h4, h5, m4_1, m5_2, dr12, dr14]
      exact fin9 (r16) _ _ _ h (by simp [h0, h4, h5, m4_1, m5_2, dr12, dr14])
    replace h := h.2 dr14
    simp [h0, h4, h5, m4_1, m5_2, dr12, dr14]
    exact fin9 (false) _ _ _ h (by simp [h0, h4, h5, m4_1, m5_2, dr12, dr14])
  replace h := h.2 dr12
  simp [h0, h4, h5, m4_1, m5_2, dr12]
  exact fin9 (false) _ _ _ h (by simp [h0, h4, h5, m4_1, m5_2, dr12])

theorem isMatching_ok (sig : List Control) (redex : Big) (agent : Big) (hp : isMatching_pre sig redex agent) : PureC Tryz.prog 39 [.list false (sig.map Control.cells), .agg (bC false redex), .agg (bC false agent)] (fun r => r = bool (isMatching sig redex agent)) := (isMatching_walk sig redex agent _ (isMatching_vc sig redex agent hp)).mono (by rintro _ ⟨_, rfl, rfl⟩; rfl)

theorem e47 : Ent Tryz.prog 47 := Ent.of Tryz.func47 (by kernel_rfl) rfl
theorem isMatched_walk (sig : List Control) (redex : Big) (agent : Big) (m : Match) (Z : Bool → Prop) (h : isMatched_wp sig redex agent m Z) : PureC Tryz.prog 47 [.list false (sig.map Control.cells), .agg (bC false redex), .agg (bC false agent), .agg (mC false m)] (fun r => ∃ y : Bool, Z y ∧ r = bool y) := by
  unfold isMatched_wp at h
  refine PureC.of Tryz.func47 rfl Tryz.ntmps47 (by simp) fun Q hQ => ?_
  refine Runs.cut (fun ρ H n => ρ 0 = .list false (sig.map Control.cells) ∧ ρ 1 = .agg (bC false redex) ∧ ρ 2 = .agg (bC false agent) ∧ ρ 3 = .agg (mC false m)) (by refine ⟨?_, ?_, ?_, ?_⟩ <;> simp ) ?_
  rintro ρ H n1 ⟨h0, h1, h2, h3⟩
  refine Runs.seqE Ty_ok (by decide) fun k' hk' => ?_
  simp [h0, h1, h2, h3]
  refine hk' _ _ _ ?_
  refine Runs.cut (fun ρ H n => ρ 0 = .list false (sig.map Control.cells) ∧ ρ 5 = pA n1 5 ∧ ρ 6 = pA (n1 + 1) 6 ∧ ρ 7 = pA (n1 + 2) 7 ∧ H (n1, 5) = some ⟨6, [bC false redex]⟩ ∧ H (n1 + 1, 6) = some ⟨6, [bC false agent]⟩ ∧ H (n1 + 2, 7) = some ⟨2, [mC false m]⟩) (by refine ⟨?_, ?_, ?_, ?_, ?_, ?_, ?_⟩ <;> simp [h0, h1, h2, h3]) ?_
  clear h0 h1 h2 h3
  rintro ρ H n5 ⟨h0, h5, h6, h7, m5_1, m6_2, m7_3⟩
  refine Runs.seqE Ty_ok (by decide) fun k' hk' => ?_
  obtain ⟨J6, hJ7, hr8⟩ := h
  have fin10 : ∀ (sJ : Bool) (ρ : Env) (H : Heap) (n : Nat), J6 sJ → (match sJ with | b9 => ρ 8 = bool b9) → Runs Tryz.prog 47 19 k' ρ H n Q := by
    rintro b9 ρ H n11 h h8
    replace h := hr8 _ h
    refine hk' _ _ _ ?_
    exact Runs.ret1 (v := bool b9) Tryz.func47 Tryz.results47 (by simp [h8]) (hQ _ _ _ _ (.of (.v _)) ⟨b9, h, rfl⟩)
  replace h := hJ7
  obtain ⟨hb12, h⟩ := h
  obtain ⟨r13, er13⟩ : ∃ v : Bool, v = isMatching sig redex agent := ⟨_, rfl⟩
  replace h := h r13 er13
  simp [h0, h5, h6, h7, m5_1, m6_2, m7_3]
  refine RunK.callA Ty_ok (isMatching_ok sig redex agent hb12) e39 (.cons (argC false sig) (.cons (argB false redex) (.cons (argB false agent) .nil))) (by decide) (by decide) rfl (by simp [h0, h5, h6, h7, m5_1, m6_2, m7_3]) ?_
  rintro _ rfl
  rw [← er13]
  rcases Bool.eq_false_or_eq_true r13 with dr13 | dr13
  · replace h := h.1 dr13
    obtain ⟨hb14, h⟩ := h
    obtain ⟨r15, er15⟩ : ∃ v : Bool, v = isMatch redex agent m := ⟨_, rfl⟩
    replace h := h r15 er15
    simp [h0, h5, h6, h7, m5_1, m6_2, m7_3, dr13]
    refine RunK.callA Ty_ok (isMatch_ok redex agent m hb14) e40 (.cons (argB false redex) (.cons (argB false agent) (.cons (argM false m) .nil))) (by decide) (by decide) rfl (by simp [h0, h5, h6, h7, m5_1, m6_2, m7_3, dr13]) ?_
    rintro _ rfl
    rw [← er15]
    simp [h0, h5, h6, h7, m5_1, m6_2, m7_3, dr13]
    exact fin10 (r15) _ _ _ h (by simp [h0, h5, h6, h7, m5_1, m6_2, m7_3, dr13])
  replace h := h.2 dr13
  simp [h0, h5, h6, h7, m5_1, m6_2, m7_3, dr13]
  exact fin10 (false) _ _ _ h (by simp [h0, h5, h6, h7, m5_1, m6_2, m7_3, dr13])

theorem isMatched_ok (sig : List Control) (redex : Big) (agent : Big) (m : Match) (hp : isMatched_pre sig redex agent m) : PureC Tryz.prog 47 [.list false (sig.map Control.cells), .agg (bC false redex), .agg (bC false agent), .agg (mC false m)] (fun r => r = bool (isMatched sig redex agent m)) := (isMatched_walk sig redex agent m _ (isMatched_vc sig redex agent m hp)).mono (by rintro _ ⟨_, rfl, rfl⟩; rfl)

theorem e78 : Ent Tryz.prog 78 := Ent.of Tryz.func78 (by kernel_rfl) rfl
theorem isActive1_walk {H0 : Heap} {n0 : Nat} {X1 : Id} {X2 : Id} {X2A : Id} (p : Int) (v_ : Big) (v_' : List Int) (hX1 : H0 X1 = some ⟨6, [bC false v_]⟩) (hX2 : H0 X2 = some ⟨1, [[.arr X2A v_'.length 0 v_'.length]]⟩) (hX2A : H0 X2A = some ⟨1, v_'.map intC⟩) (Z : Bool → Prop) (h : isActive1_wp p v_ v_' Z) : ClosC Tryz.prog H0 n0 (.fn (.func 78) [] [.ptr X1 1 0 0, .ptr X2 1 0 0]) [int p] (fun r => ∃ y : Bool, Z y ∧ r = bool y) := by
  unfold isActive1_wp at h
  refine ⟨78, [], [.ptr X1 1 0 0, .ptr X2 1 0 0], rfl, e78, ?_⟩
  refine StillC.of Tryz.func78 rfl Tryz.ntmps78 (by simp) fun Q hB hQ => ?_
  have lX1 : X1.1 < n0 := (hB X1 _ hX1).1
  have lX2 : X2.1 < n0 := (hB X2 _ hX2).1
  have lX2A : X2A.1 < n0 := (hB X2A _ hX2A).1
  have neX1 : ∀ m d, n0 ≤ m → (X1 = (m, d)) = False := fun m d hm => by simp only [eq_iff_iff, iff_false]; rintro rfl; simp at lX1; omega
  have neX2 : ∀ m d, n0 ≤ m → (X2 = (m, d)) = False := fun m d hm => by simp only [eq_iff_iff, iff_false]; rintro rfl; simp at lX2; omega
  have neX2A : ∀ m d, n0 ≤ m → (X2A = (m, d)) = False := fun m d hm => by simp only [eq_iff_iff, iff_false]; rintro rfl; simp at lX2A; omega
  have hfr : Frame n0 H0 H0 := Frame.refl _ _
  have hn0 : n0 ≤ n0 := Nat.le_refl _
  refine Runs.cut (fun ρ H n => ρ 0 = int p ∧ ρ 1 = .ptr X1 1 0 0 ∧ ρ 2 = .ptr X2 1 0 0 ∧ H X1 = some ⟨6, [bC false v_]⟩ ∧ H X2 = some ⟨1, [[.arr X2A v_'.length 0 v_'.length]]⟩ ∧ H X2A = some ⟨1, v_'.map intC⟩ ∧ n0 ≤ n ∧ Frame n0 H0 H) (by refine ⟨?_, ?_, ?_, ?_, ?_, ?_, ?_, ?_⟩ <;> first | ((repeat (first | exact hfr | refine Frame.set (by first | omega | (simp; omega)) ?_)); done) | omega | simp [hX1, hX2, hX2A]) ?_
  rintro ρ H n1 ⟨h0, h1, h2, mX1, mX2, mX2A, hn0, hfr⟩
  have hn1 := Nat.le_succ_of_le hn0
  have hn2 := Nat.le_succ_of_le hn1
  refine Runs.seqE Ty_ok (by decide) fun k' hk' => ?_
  simp [h0, h1, h2, mX1, mX2, mX2A, hn0, hn1, hn2, neX1, neX2, neX2A]
  refine hk' _ _ _ ?_
  refine Runs.seqE Ty_ok (by decide) fun k' hk' => ?_
  obtain ⟨hb2, h⟩ := h
  obtain ⟨r3, er3⟩ : ∃ v : Bool, v = isUnder v_ p v_' := ⟨_, rfl⟩
  replace h := h r3 er3
  simp [h0, h1, h2, mX1, mX2, mX2A, hn0, hn1, hn2, neX1, neX2, neX2A]
  refine RunK.callA Ty_ok (isUnder_ok v_ p v_' hb2) e73 (.cons (argB false v_) (.cons (.v _ _ _) (.cons (ArgOk.arrF (id := X2A) (g := v_'.length) (sz := 1) (els := v_'.map intC) (by simp [h0, h1, h2, mX1, mX2, mX2A, hn0, hn1, hn2, neX1, neX2, neX2A]) (by simp)) .nil))) (by decide) (by decide) rfl (by simp [h0, h1, h2, mX1, mX2, mX2A, hn0, hn1, hn2, neX1, neX2, neX2A]) ?_
  rintro _ rfl
  rw [← er3]
  simp [h0, h1, h2, mX1, mX2, mX2A, hn0, hn1, hn2, neX1, neX2, neX2A]
  refine hk' _ _ _ ?_
  exact Runs.ret1 (v := bool r3) Tryz.func78 Tryz.results78 (by simp [h0, h1, h2, mX1, mX2, mX2A, hn0, hn1, hn2, neX1, neX2, neX2A]) (hQ _ _ _ _ (.bnd (.v _)) (hfr) ⟨r3, h, rfl⟩)

theorem isActive1_ok {H0 : Heap} {n0 : Nat} {X1 : Id} {X2 : Id} {X2A : Id} (p : Int) (v_ : Big) (v_' : List Int) (hX1 : H0 X1 = some ⟨6, [bC false v_]⟩) (hX2 : H0 X2 = some ⟨1, [[.arr X2A v_'.length 0 v_'.length]]⟩) (hX2A : H0 X2A = some ⟨1, v_'.map intC⟩) (hp : isActive1_pre p v_ v_') : ClosC Tryz.prog H0 n0 (.fn (.func 78) [] [.ptr X1 1 0 0, .ptr X2 1 0 0]) [int p] (fun r => r = bool (isActive1 p v_ v_')) := (isActive1_walk p v_ v_' hX1 hX2 hX2A _ (isActive1_vc p v_ v_' hp)).mono (by rintro _ ⟨_, rfl, rfl⟩; rfl)

theorem e48 : Ent Tryz.prog 48 := Ent.of Tryz.func48 (by kernel_rfl) rfl
theorem isActive_walk (sig : List Control) (agent : Big) (m : Match) (Z : Bool → Prop) (h : isActive_wp sig agent m Z) : PureC Tryz.prog 48 [.list false (sig.map Control.cells), .agg (bC false agent), .agg (mC false m)] (fun r => ∃ y : Bool, Z y ∧ r = bool y) := by
  unfold isActive_wp at h
  refine PureC.of Tryz.func48 rfl Tryz.ntmps48 (by simp) fun Q hQ => ?_
  refine Runs.cut (fun ρ H n => ρ 0 = .list false (sig.map Control.cells) ∧ ρ 1 = .agg (bC false agent) ∧ ρ 2 = .agg (mC false m)) (by refine ⟨?_, ?_, ?_⟩ <;> simp ) ?_
  rintro ρ H n1 ⟨h0, h1, h2⟩
  refine Runs.seqE Ty_ok (by decide) fun k' hk' => ?_
  simp [h0, h1, h2]
  refine hk' _ _ _ ?_
  refine Runs.cut (fun ρ H n => ρ 0 = .list false (sig.map Control.cells) ∧ ρ 4 = pA n1 4 ∧ ρ 5 = pA (n1 + 1) 5 ∧ H (n1, 4) = some ⟨6, [bC false agent]⟩ ∧ H (n1 + 1, 5) = some ⟨2, [mC false m]⟩) (by refine ⟨?_, ?_, ?_, ?_, ?_⟩ <;> simp [h0, h1, h2]) ?_
  clear h0 h1 h2
  rintro ρ H n4 ⟨h0, h4, h5, m4_1, m5_2⟩
  refine Runs.seqE Ty_ok (by decide) fun k' hk' => ?_
  simp [h0, h4, h5, m4_1, m5_2]
  refine hk' _ _ _ ?_
  refine Runs.cut (fun ρ H n => ρ 0 = .list false (sig.map Control.cells) ∧ ρ 4 = pA n1 4 ∧ ρ 5 = pA (n1 + 1) 5 ∧ ρ 7 = pA (n4 + 1) 7 ∧ H (n1, 4) = some ⟨6, [bC false agent]⟩ ∧ H (n1 + 1, 5) = some ⟨2, [mC false m]⟩ ∧ H (n4 + 1, 7) = some ⟨1, [[.arr (n4, 10) 0 0 0]]⟩ ∧ H (n4, 10) = some ⟨1, ([] : List Int).map intC⟩) (by refine ⟨?_, ?_, ?_, ?_, ?_, ?_, ?_, ?_⟩ <;> simp [h0, h4, h5, m4_1, m5_2]) ?_
  clear h0 h4 h5 m4_1 m5_2
  rintro ρ H n7 ⟨h0, h4, h5, h7, m4_1, m5_2, m7_5, m10_4⟩
  refine Runs.seq ?_
  refine Runs.seqE Ty_ok (by decide) fun k' hk' => ?_
  obtain ⟨len8, elen8⟩ : ∃ v : Int, v = (agent.nodes.length : Int) := ⟨_, rfl⟩
  replace h := h len8 elen8
  have f9 := fun H => len_list (H := H) (fr := false) (f := (GNode.cells false)) kd_38 elen8
  simp [h0, h4, h5, h7, m4_1, m5_2, m7_5, m10_4, f9, -lenF]
  refine hk' _ _ _ ?_
  refine Runs.block ?_
  refine Runs.loopW h (fun (sJ : Int × (List Int)) ρ H n => match sJ with | (v15, l16) => ρ 0 = .list false (sig.map Control.cells) ∧ ρ 4 = pA n1 4 ∧ ρ 5 = pA (n1 + 1) 5 ∧ ρ 7 = pA (n4 + 1) 7 ∧ ρ 12 = .list false (agent.nodes.map (GNode.cells false)) ∧ ρ 13 = int len8 ∧ ρ 14 = int v15 ∧ H (n1, 4) = some ⟨6, [bC false agent]⟩ ∧ H (n1 + 1, 5) = some ⟨2, [mC false m]⟩ ∧ H (n4 + 1, 7) = some ⟨1, [[.arr (n4, 10) l16.length 0 l16.length]]⟩ ∧ H (n4, 10) = some ⟨1, l16.map intC⟩) (by refine ⟨?_, ?_, ?_, ?_, ?_, ?_, ?_, ?_, ?_, ?_, ?_⟩ <;> simp [h0, h4, h5, h7, m4_1, m5_2, m7_5, m10_4]) ?_
  clear h0 h4 h5 h7 m4_1 m5_2 m7_5 m10_4
  rintro ⟨v15, l16⟩ ρ H n17 K h ⟨h0, h4, h5, h7, h12, h13, h14, m4_1, m5_2, m7_5, m10_4⟩ IH18
  refine Runs.seqE Ty_ok (by decide) fun k' hk' => ?_
  obtain ⟨c20, ec20⟩ : ∃ v : Bool, v = decide (v15 < len8) := ⟨_, rfl⟩
  replace h := h c20 ec20
  have f21 := ib_lss (k := .i64) ec20
  simp [h0, h4, h5, h7, h12, h13, h14, m4_1, m5_2, m7_5, m10_4, f21, -intBin]
  refine hk' _ _ _ ?_
  refine Runs.seq ?_
  refine Runs.ite (b := c20) (by simp [h0, h4, h5, h7, h12, h13, h14, m4_1, m5_2, m7_5, m10_4]) (fun dc20 => ?_) (fun dc20 => ?_)
  · replace h := h.1 dc20
    refine Runs.skip ?_
    refine Runs.seq ?_
    refine Runs.block ?_
    refine Runs.seqE Ty_ok (by decide) fun k' hk' => ?_
    obtain ⟨hb22, h⟩ := h
    obtain ⟨x23, ex23⟩ : ∃ v : GNode, v = at' agent.nodes v15 := ⟨_, rfl⟩
    replace h := h x23 ex23
    have f24 := fun H => ix_list (H := H) (fr := false) (f := (GNode.cells false)) (k := .i64) kd_38 (fun _ => rfl) hb22 ex23
    simp [h0, h4, h5, h7, h12, h13, h14, m4_1, m5_2, m7_5, m10_4, f24, dc20, -indexAddrF]
    refine hk' _ _ _ ?_
    refine Runs.cut (fun ρ H n => ρ 0 = .list false (sig.map Control.cells) ∧ ρ 4 = pA n1 4 ∧ ρ 5 = pA (n1 + 1) 5 ∧ ρ 7 = pA (n4 + 1) 7 ∧ ρ 8 = int v15 ∧ ρ 9 = pA n17 9 ∧ ρ 12 = .list false (agent.nodes.map (GNode.cells false)) ∧ ρ 13 = int len8 ∧ ρ 14 = int v15 ∧ H (n1, 4) = some ⟨6, [bC false agent]⟩ ∧ H (n1 + 1, 5) = some ⟨2, [mC false m]⟩ ∧ H (n4 + 1, 7) = some ⟨1, [[.arr (n4, 10) l16.length 0 l16.length]]⟩ ∧ H (n4, 10) = some ⟨1, l16.map intC⟩ ∧ H (n17, 9) = some ⟨3, [[int x23.control, int x23.parent, .list false (x23.links.map intC)]]⟩) (by refine ⟨?_, ?_, ?_, ?_, ?_, ?_, ?_, ?_, ?_, ?_, ?_, ?_, ?_, ?_⟩ <;> simp [h0, h4, h5, h7, h12, h13, h14, m4_1, m5_2, m7_5, m10_4, f24, dc20, -indexAddrF]) ?_
    clear h0 h4 h5 h7 h12 h13 h14 m4_1 m5_2 m7_5 m10_4
    rintro ρ H n26 ⟨h0, h4, h5, h7, h8, h9, h12, h13, h14, m4_1, m5_2, m7_5, m10_4, m9_24⟩
    refine Runs.seqE Ty_ok (by decide) fun k' hk' => ?_
    obtain ⟨hb27, h⟩ := h
    obtain ⟨x28, ex28⟩ : ∃ v : Control, v = at' sig x23.control := ⟨_, rfl⟩
    replace h := h x28 ex28
    have f29 := fun H => ix_list (H := H) (fr := false) (f := Control.cells) (k := .i64) kd_36 (fun _ => rfl) hb27 ex28
    obtain ⟨c30, ec30⟩ : ∃ v : Bool, v = decide (x28.kind = 1) := ⟨_, rfl⟩
    replace h := h c30 ec30
    have f31 := ib_eql (k := .i64) ec30
    simp [h0, h4, h5, h7, h8, h9, h12, h13, h14, m4_1, m5_2, m7_5, m10_4, m9_24, f29, f31, dc20, -indexAddrF, -intBin]
    refine hk' _ _ _ ?_
    refine Runs.ite (b := c30) (by simp [h0, h4, h5, h7, h8, h9, h12, h13, h14, m4_1, m5_2, m7_5, m10_4, m9_24, dc20]) (fun dc30 => ?_) (fun dc30 => ?_)
    · replace h := h.1 dc30
      refine Runs.evalE Ty_ok (by decide) fun k' hk' => ?_
      obtain ⟨hb32, h⟩ := h
      obtain ⟨l33, el33⟩ : ∃ v : List Int, v = l16 ++ [v15] := ⟨_, rfl⟩
      replace h := h l33 el33
      simp [h0, h4, h5, h7, h8, h9, h12, h13, h14, m4_1, m5_2, m7_5, m10_4, m9_24, hb32, el33, dc20, dc30]
      refine hk' _ _ _ ?_
      refine Runs.cut (fun ρ H n => ρ 0 = .list false (sig.map Control.cells) ∧ ρ 4 = pA n1 4 ∧ ρ 5 = pA (n1 + 1) 5 ∧ ρ 7 = pA (n4 + 1) 7 ∧ ρ 12 = .list false (agent.nodes.map (GNode.cells false)) ∧ ρ 13 = int len8 ∧ ρ 14 = int v15 ∧ H (n1, 4) = some ⟨6, [bC false agent]⟩ ∧ H (n1 + 1, 5) = some ⟨2, [mC false m]⟩ ∧ H (n4 + 1, 7) = some ⟨1, [[.arr (n4, 10) l33.length 0 l33.length]]⟩ ∧ H (n4, 10) = some ⟨1, l33.map intC⟩) (by refine ⟨?_, ?_, ?_, ?_, ?_, ?_, ?_, ?_, ?_, ?_, ?_⟩ <;> simp [h0, h4, h5, h7, h8, h9, h12, h13, h14, m4_1, m5_2, m7_5, m10_4, m9_24, hb32, el33, dc20, dc30]) ?_
      clear h0 h4 h5 h7 h8 h9 h12 h13 h14 m4_1 m5_2 m7_5 m10_4 m9_24
      rintro ρ H n34 ⟨h0, h4, h5, h7, h12, h13, h14, m4_1, m5_2, m7_5, m10_4⟩
      refine Runs.inBlock ?_
      refine Runs.evalE Ty_ok (by decide) fun k' hk' => ?_
      obtain ⟨hb35, h⟩ := h
      obtain ⟨v36, ev36⟩ : ∃ v : Int, v = v15 + 1 := ⟨_, rfl⟩
      replace h := h v36 ev36
      have f37 := ib_add hb35 ev36
      simp [h0, h4, h5, h7, h12, h13, h14, m4_1, m5_2, m7_5, m10_4, f37, dc20, dc30, -intBin]
      refine hk' _ _ _ ?_
      refine IH18 (v36, l33) _ _ _ h (by refine ⟨?_, ?_, ?_, ?_, ?_, ?_, ?_, ?_, ?_, ?_, ?_⟩ <;> simp [h0, h4, h5, h7, h12, h13, h14, m4_1, m5_2, m7_5, m10_4, dc20, dc30])
    replace h := h.2 dc30
    refine Runs.skip ?_
    refine Runs.inBlock ?_
    refine Runs.evalE Ty_ok (by decide) fun k' hk' => ?_
    obtain ⟨hb38, h⟩ := h
    obtain ⟨v39, ev39⟩ : ∃ v : Int, v = v15 + 1 := ⟨_, rfl⟩
    replace h := h v39 ev39
    have f40 := ib_add hb38 ev39
    simp [h0, h4, h5, h7, h8, h9, h12, h13, h14, m4_1, m5_2, m7_5, m10_4, m9_24, f40, dc20, dc30, -intBin]
    refine hk' _ _ _ ?_
    refine IH18 (v39, l16) _ _ _ h (by refine ⟨?_, ?_, ?_, ?_, ?_, ?_, ?_, ?_, ?_, ?_, ?_⟩ <;> simp [h0, h4, h5, h7, h8, h9, h12, h13, h14, m4_1, m5_2, m7_5, m10_4, m9_24, dc20, dc30])
  replace h := h.2 dc20
  refine Runs.exit rfl ?_
  refine Runs.seqE Ty_ok (by decide) fun k' hk' => ?_
  obtain ⟨hb41, h⟩ := h
  obtain ⟨r42, er42⟩ : ∃ v : Bool, v = m.roots.any (fun z => isActive1 z agent l16) := ⟨_, rfl⟩
  replace h := h r42 er42
  simp [h0, h4, h5, h7, h12, h13, h14, m4_1, m5_2, m7_5, m10_4, dc20]
  refine RunK.callT Ty_ok (containsFuncI_ok false m.roots (fun z => isActive1 z agent l16) hb41.1 (fun z hz => isActive1_ok z agent l16 m4_1 m7_5 m10_4 (hb41.2 z hz))) e70 (by decide) (by decide) rfl (by simp [h0, h4, h5, h7, h12, h13, h14, m4_1, m5_2, m7_5, m10_4, dc20]) ?_
  rintro _ rfl
  rw [← er42]
  simp [h0, h4, h5, h7, h12, h13, h14, m4_1, m5_2, m7_5, m10_4, dc20]
  refine hk' _ _ _ ?_
  exact Runs.ret1 (v := bool (!r42)) Tryz.func48 Tryz.results48 (by simp [h0, h4, h5, h7, h12, h13, h14, m4_1, m5_2, m7_5, m10_4, dc20]) (hQ _ _ _ _ (.of (.v _)) ⟨(!r42), h, rfl⟩)

theorem isActive_ok (sig : List Control) (agent : Big) (m : Match) (hp : isActive_pre sig agent m) : PureC Tryz.prog 48 [.list false (sig.map Control.cells), .agg (bC false agent), .agg (mC false m)] (fun r => r = bool (isActive sig agent m)) := (isActive_walk sig agent m _ (isActive_vc sig agent m hp)).mono (by rintro _ ⟨_, rfl, rfl⟩; rfl)

theorem e18 : Ent Tryz.prog 18 := Ent.of Tryz.func18 (by kernel_rfl) rfl
theorem IsActiveMatch_walk (sig : List Control) (redex : Big) (agent : Big) (m : Match) (Z : (Bool × Bool) → Prop) (h : IsActiveMatch_wp sig redex agent m Z) : PureC Tryz.prog 18 [.list false (sig.map Control.cells), .agg (bC false redex), .agg (bC false agent), .agg (mC false m)] (fun r => ∃ y : Bool × Bool, Z y ∧ r = .tup [bool y.1, bool y.2]) := by
  unfold IsActiveMatch_wp at h
  refine PureC.of Tryz.func18 rfl Tryz.ntmps18 (by simp) fun Q hQ => ?_
  refine Runs.cut (fun ρ H n => ρ 0 = .list false (sig.map Control.cells) ∧ ρ 1 = .agg (bC false redex) ∧ ρ 2 = .agg (bC false agent) ∧ ρ 3 = .agg (mC false m)) (by refine ⟨?_, ?_, ?_, ?_⟩ <;> simp ) ?_
  rintro ρ H n1 ⟨h0, h1, h2, h3⟩
  refine Runs.seqE Ty_ok (by decide) fun k' hk' => ?_
  simp [h0, h1, h2, h3]
  refine hk' _ _ _ ?_
  refine Runs.cut (fun ρ H n => ρ 0 = .list false (sig.map Control.cells) ∧ ρ 5 = pA n1 5 ∧ ρ 6 = pA (n1 + 1) 6 ∧ ρ 7 = pA (n1 + 2) 7 ∧ H (n1, 5) = some ⟨6, [bC false redex]⟩ ∧ H (n1 + 1, 6) = some ⟨6, [bC false agent]⟩ ∧ H (n1 + 2, 7) = some ⟨2, [mC false m]⟩) (by refine ⟨?_, ?_, ?_, ?_, ?_, ?_, ?_⟩ <;> simp [h0, h1, h2, h3]) ?_
  clear h0 h1 h2 h3
  rintro ρ H n5 ⟨h0, h5, h6, h7, m5_1, m6_2, m7_3⟩
  refine Runs.seq ?_
  refine Runs.seqE Ty_ok (by decide) fun k' hk' => ?_
  obtain ⟨hb6, h⟩ := h
  obtain ⟨r7, er7⟩ : ∃ v : Bool, v = isMatched sig redex agent m := ⟨_, rfl⟩
  replace h := h r7 er7
  simp [h0, h5, h6, h7, m5_1, m6_2, m7_3]
  refine RunK.callA Ty_ok (isMatched_ok sig redex agent m hb6) e47 (.cons (argC false sig) (.cons (argB false redex) (.cons (argB false agent) (.cons (argM false m) .nil)))) (by decide) (by decide) rfl (by simp [h0, h5, h6, h7, m5_1, m6_2, m7_3]) ?_
  rintro _ rfl
  rw [← er7]
  simp [h0, h5, h6, h7, m5_1, m6_2, m7_3]
  refine hk' _ _ _ ?_
  refine Runs.ite (b := (!r7)) (by simp [h0, h5, h6, h7, m5_1, m6_2, m7_3]) (fun dr7 => ?_) (fun dr7 => ?_)
  · have dr7 : r7 = false := by simpa using dr7
    replace h := h.2 dr7
    refine Runs.seqE Ty_ok (by decide) fun k' hk' => ?_
    simp [h0, h5, h6, h7, m5_1, m6_2, m7_3, dr7]
    refine hk' _ _ _ ?_
    exact Runs.ret2 (v := bool false) (w := bool false) Tryz.func18 Tryz.results18 (by simp [h0, h5, h6, h7, m5_1, m6_2, m7_3, dr7]) (by simp [h0, h5, h6, h7, m5_1, m6_2, m7_3, dr7]) (hQ _ _ _ _ (.of (.tupL (.cons (.v _) (.cons (.v _) .nil)))) ⟨(false, false), h, rfl⟩)
  have dr7 : r7 = true := by simpa using dr7
  replace h := h.1 dr7
  refine Runs.skip ?_
  refine Runs.seqE Ty_ok (by decide) fun k' hk' => ?_
  obtain ⟨hb8, h⟩ := h
  obtain ⟨r9, er9⟩ : ∃ v : Bool, v = isActive sig agent m := ⟨_, rfl⟩
  replace h := h r9 er9
  simp [h0, h5, h6, h7, m5_1, m6_2, m7_3, dr7]
  refine RunK.callA Ty_ok (isActive_ok sig agent m hb8) e48 (.cons (argC false sig) (.cons (argB false agent) (.cons (argM false m) .nil))) (by decide) (by decide) rfl (by simp [h0, h5, h6, h7, m5_1, m6_2, m7_3, dr7]) ?_
  rintro _ rfl
  rw [← er9]
  simp [h0, h5, h6, h7, m5_1, m6_2, m7_3, dr7]
  refine hk' _ _ _ ?_
  exact Runs.ret2 (v := bool r9) (w := bool true) Tryz.func18 Tryz.results18 (by simp [h0, h5, h6, h7, m5_1, m6_2, m7_3, dr7]) (by simp [h0, h5, h6, h7, m5_1, m6_2, m7_3, dr7]) (hQ _ _ _ _ (.of (.tupL (.cons (.v _) (.cons (.v _) .nil)))) ⟨(r9, true), h, rfl⟩)

theorem IsActiveMatch_ok (sig : List Control) (redex : Big) (agent : Big) (m : Match) (hp : IsActiveMatch_pre sig redex agent m) : PureC Tryz.prog 18 [.list false (sig.map Control.cells), .agg (bC false redex), .agg (bC false agent), .agg (mC false m)] (fun r => r = .tup [bool ((IsActiveMatch sig redex agent m).1), bool ((IsActiveMatch sig redex agent m).2)]) := (IsActiveMatch_walk sig redex agent m _ (IsActiveMatch_vc sig redex agent m hp)).mono (by rintro _ ⟨_, rfl, rfl⟩; rfl)
end Go.Ab.Vg
