/- Merged texts (13 of 15) of the proof that ends in M3y: Mdw. -/
import Derived.Test.YtgdmihplkgkiiaaGreatDoorAbQm312
/- Walks by program for YtgdmihplkgkiiaaGreatDoorAbMd. -/
namespace Go.Ab.Vg
open Go.Proofs
set_option maxRecDepth 100000
set_option linter.unusedSimpArgs false
set_option linter.unusedVariables false
attribute [local simp] Control.cells GNode.cells Wire.cells intC sliceC strC bC mC pA
theorem e12 : Ent Tryz.prog 12 := Ent.of Tryz.func12 (by kernel_rfl) rfl
theorem toMatch_walk (a : Match) (Z : Match → Prop) (h : toMatch_wp a Z) : OwnS Tryz.prog 12 [.agg (mC false a)] (.a [.s [.c], .s [.c]]) (fun r => ∃ y : Match, Z y ∧ r = .agg (mC true y)) := by
  unfold toMatch_wp at h
  have sp : Sep noHeap 0 [] [] := Sep.nil (by simp)
  refine OwnS.of Tryz.func12 rfl Tryz.ntmps12 (by simp) fun Q hQ => ?_
  refine Runs.cut (fun ρ H n => ρ 0 = .agg (mC false a) ∧ Sep H n [] []) (by refine ⟨?_, sp⟩ <;> simp ) ?_
  rintro ρ H n1 ⟨h0, sp⟩
  refine Runs.seqE Ty_ok (by decide) fun k' hk' => ?_
  simp [h0]
  refine hk' _ _ _ ?_
  refine Runs.cut (fun ρ H n => ρ 1 = pA n1 1 ∧ ρ 2 = pA (n1 + 1) 2 ∧ H (n1, 1) = some ⟨2, [mC false a]⟩ ∧ H (n1 + 1, 2) = some ⟨2, [[.v (.slice none 0 0), .v (.slice none 0 0)]]⟩ ∧ Sep H n [] [(n1 + 1, 2), (n1, 1)]) (by refine ⟨?_, ?_, ?_, ?_, sp.var.var⟩ <;> simp [h0]) ?_
  clear h0
  rintro ρ H n4 ⟨h1, h2, m1_1, m2_2, sp⟩
  refine Runs.seqE Ty_ok (by decide) fun k' hk' => ?_
  simp [h1, h2, m1_1, m2_2]
  refine hk' _ _ _ ?_
  refine Runs.cut (fun ρ H n => ρ 1 = pA n1 1 ∧ ρ 2 = pA (n1 + 1) 2 ∧ ρ 3 = pA n4 3 ∧ H (n1, 1) = some ⟨2, [mC false a]⟩ ∧ H (n1 + 1, 2) = some ⟨2, [[.v (.slice none 0 0), .v (.slice none 0 0)]]⟩ ∧ H (n4, 3) = some ⟨2, [[.v (.slice none 0 0), .v (.slice none 0 0)]]⟩ ∧ Sep H n [] [(n4, 3), (n1 + 1, 2), (n1, 1)]) (by refine ⟨?_, ?_, ?_, ?_, ?_, ?_, sp.var⟩ <;> simp [h1, h2, m1_1, m2_2]) ?_
  clear h1 h2 m1_1 m2_2
  rintro ρ H n6 ⟨h1, h2, h3, m1_1, m2_2, m3_4, sp⟩
  refine Runs.seqE Ty_ok (by decide) fun k' hk' => ?_
  obtain ⟨hb7, h⟩ := h
  obtain ⟨r8, er8⟩ : ∃ v : List Int, v = toIntS a.nodes := ⟨_, rfl⟩
  replace h := h r8 er8
  simp [h1, h2, h3, m1_1, m2_2, m3_4]
  refine RunK.callW Ty_ok (toIntS_ok a.nodes hb7) e36 (.cons (argI false a.nodes) .nil) sp (by decide) (by decide) rfl (by simp [h1, h2, h3, m1_1, m2_2, m3_4]) ?_
  rintro v9 H10 n11 _ sp rfl hle13 hfr12
  rw [← er8] at sp
  have m1_1 : H10 (n1, 1) = some ⟨2, [mC false a]⟩ := (hfr12 _ (by simp)).trans (by simp [h1, h2, h3, m1_1, m2_2, m3_4, Heap.get_set])
  have m2_2 : H10 (n1 + 1, 2) = some ⟨2, [[.v (.slice none 0 0), .v (.slice none 0 0)]]⟩ := (hfr12 _ (by simp)).trans (by simp [h1, h2, h3, m1_1, m2_2, m3_4, Heap.get_set])
  have m3_4 : H10 (n4, 3) = some ⟨2, [[.v (.slice none 0 0), .v (.slice none 0 0)]]⟩ := (hfr12 _ (by simp)).trans (by simp [h1, h2, h3, m1_1, m2_2, m3_4, Heap.get_set])
  have f16 := Sep.oc sp
  simp [h1, h2, h3, m1_1, m2_2, m3_4, f16, -cellsA, -one1, cAx, o1x]
  refine hk' _ _ _ ?_
  refine Runs.cut (fun ρ H n => ∃ (v17 : AVal), ρ 1 = pA n1 1 ∧ ρ 2 = pA (n1 + 1) 2 ∧ ρ 3 = pA n4 3 ∧ H (n1, 1) = some ⟨2, [mC false a]⟩ ∧ H (n1 + 1, 2) = some ⟨2, [[.v (.slice none 0 0), .v (.slice none 0 0)]]⟩ ∧ H (n4, 3) = some ⟨2, [[v17, .v (.slice none 0 0)]]⟩ ∧ Sep H n [oI v17 r8] [(n4, 3), (n1 + 1, 2), (n1, 1)]) (by refine ⟨v9, ?_, ?_, ?_, ?_, ?_, ?_, (Sep.setVar (w := (n4, 3)) sp (by simp))⟩ <;> simp [h1, h2, h3, m1_1, m2_2, m3_4, f16, -cellsA, -one1, cAx, o1x]) ?_
  clear h1 h2 h3 m1_1 m2_2 m3_4
  rintro ρ H n18 ⟨v17, h1, h2, h3, m1_1, m2_2, m3_4, sp⟩
  refine Runs.seqE Ty_ok (by decide) fun k' hk' => ?_
  obtain ⟨hb19, h⟩ := h
  obtain ⟨r20, er20⟩ : ∃ v : List Int, v = toIntS a.roots := ⟨_, rfl⟩
  replace h := h r20 er20
  simp [h1, h2, h3, m1_1, m2_2, m3_4]
  refine RunK.callW Ty_ok (toIntS_ok a.roots hb19) e36 (.cons (argI false a.roots) .nil) sp (by decide) (by decide) rfl (by simp [h1, h2, h3, m1_1, m2_2, m3_4]) ?_
  rintro v21 H22 n23 _ sp rfl hle25 hfr24
  rw [← er20] at sp
  have m1_1 : H22 (n1, 1) = some ⟨2, [mC false a]⟩ := (hfr24 _ (by simp)).trans (by simp [h1, h2, h3, m1_1, m2_2, m3_4, Heap.get_set])
  have m2_2 : H22 (n1 + 1, 2) = some ⟨2, [[.v (.slice none 0 0), .v (.slice none 0 0)]]⟩ := (hfr24 _ (by simp)).trans (by simp [h1, h2, h3, m1_1, m2_2, m3_4, Heap.get_set])
  have m3_4 : H22 (n4, 3) = some ⟨2, [[v17, .v (.slice none 0 0)]]⟩ := (hfr24 _ (by simp)).trans (by simp [h1, h2, h3, m1_1, m2_2, m3_4, Heap.get_set])
  have f28 := Sep.oc sp
  simp [h1, h2, h3, m1_1, m2_2, m3_4, f28, -cellsA, -one1, cAx, o1x]
  refine hk' _ _ _ ?_
  refine Runs.cut (fun ρ H n => ∃ (v29 v30 : AVal), ρ 2 = pA (n1 + 1) 2 ∧ ρ 3 = pA n4 3 ∧ H (n1 + 1, 2) = some ⟨2, [[.v (.slice none 0 0), .v (.slice none 0 0)]]⟩ ∧ H (n4, 3) = some ⟨2, [[v30, v29]]⟩ ∧ Sep H n [oI v29 r20, oI v30 r8] [(n4, 3), (n1 + 1, 2)]) (by refine ⟨v21, v17, ?_, ?_, ?_, ?_, (Sep.sub (Sep.f1 (Sep.f1 (Sep.setVar (w := (n4, 3)) sp (by simp)))) (by simp +contextual))⟩ <;> simp [h1, h2, h3, m1_1, m2_2, m3_4, f28, -cellsA, -one1, cAx, o1x]) ?_
  clear h1 h2 h3 m1_1 m2_2 m3_4
  rintro ρ H n31 ⟨v29, v30, h2, h3, m2_2, m3_4, sp⟩
  refine Runs.seqE Ty_ok (by decide) fun k' hk' => ?_
  have f32 := Sep.oc sp.f1
  have f33 := Sep.oc sp
  simp [h2, h3, m2_2, m3_4, f32, f33, -cellsA, -one1, cAx, o1x]
  refine hk' _ _ _ ?_
  refine Runs.cut (fun ρ H n => ∃ (v34 v35 : AVal), ρ 2 = pA (n1 + 1) 2 ∧ H (n1 + 1, 2) = some ⟨2, [[v35, v34]]⟩ ∧ Sep H n [oI v34 r20, oI v35 r8] [(n1 + 1, 2)]) (by refine ⟨v29, v30, ?_, ?_, (Sep.sub (Sep.f1 (Sep.f1 (Sep.setVar (w := (n1 + 1, 2)) sp (by simp)))) (by simp +contextual))⟩ <;> simp [h2, h3, m2_2, m3_4, f32, f33, -cellsA, -one1, cAx, o1x]) ?_
  clear h2 h3 m2_2 m3_4
  rintro ρ H n36 ⟨v34, v35, h2, m2_2, sp⟩
  exact Runs.res1 Ty_ok (v := .agg [v35, v34]) Tryz.func12 Tryz.results12 (by simp [h2, m2_2, resA]) (hQ _ _ _ _ (Sep.sub (ids' := []) (Sep.pack (Fill.own (Fill.own Fill.nil)) sp.f1) (by simp)) ⟨(Match.mk r8 r20), h, rfl⟩)

theorem toMatch_ok (a : Match) (hp : toMatch_pre a) : OwnS Tryz.prog 12 [.agg (mC false a)] (.a [.s [.c], .s [.c]]) (fun r => r = .agg [.list true (((toMatch a).nodes).map intC), .list true (((toMatch a).roots).map intC)]) := (toMatch_walk a _ (toMatch_vc a hp)).mono (by rintro _ ⟨_, rfl, rfl⟩; rfl)

theorem e8 : Ent Tryz.prog 8 := Ent.of Tryz.func8 (by kernel_rfl) rfl
theorem szM_walk (a : Match) (left : Int) (Z : Int → Prop) (h : szM_wp a left Z) : PureC Tryz.prog 8 [.agg (mC false a), int left] (fun r => ∃ y : Int, Z y ∧ r = int y) := by
  unfold szM_wp at h
  refine PureC.of Tryz.func8 rfl Tryz.ntmps8 (by simp) fun Q hQ => ?_
  refine Runs.cut (fun ρ H n => ρ 0 = .agg (mC false a) ∧ ρ 1 = int left) (by refine ⟨?_, ?_⟩ <;> simp ) ?_
  rintro ρ H n1 ⟨h0, h1⟩
  refine Runs.seqE Ty_ok (by decide) fun k' hk' => ?_
  simp [h0, h1]
  refine hk' _ _ _ ?_
  refine Runs.cut (fun ρ H n => ρ 1 = int left ∧ ρ 2 = pA n1 2 ∧ H (n1, 2) = some ⟨2, [mC false a]⟩) (by refine ⟨?_, ?_, ?_⟩ <;> simp [h0, h1]) ?_
  clear h0 h1
  rintro ρ H n3 ⟨h1, h2, m2_1⟩
  refine Runs.seqE Ty_ok (by decide) fun k' hk' => ?_
  obtain ⟨hb4, h⟩ := h
  obtain ⟨r5, er5⟩ : ∃ v : Int, v = szI a.nodes left := ⟨_, rfl⟩
  replace h := h r5 er5
  simp [h1, h2, m2_1]
  refine RunK.callA Ty_ok (szIntS_ok a.nodes left hb4.1.1 hb4.1.2 hb4.2) e29 (.cons (argI false a.nodes) (.cons (.v _ _ _) .nil)) (by decide) (by decide) rfl (by simp [h1, h2, m2_1]) ?_
  rintro _ rfl
  rw [← er5]
  simp [h1, h2, m2_1]
  refine hk' _ _ _ ?_
  refine Runs.seq ?_
  refine Runs.seqE Ty_ok (by decide) fun k' hk' => ?_
  obtain ⟨c6, ec6⟩ : ∃ v : Bool, v = decide (r5 < 0) := ⟨_, rfl⟩
  replace h := h c6 ec6
  have f7 := ib_lss (k := .i64) ec6
  simp [h1, h2, m2_1, f7, -intBin]
  refine hk' _ _ _ ?_
  refine Runs.ite (b := c6) (by simp [h1, h2, m2_1]) (fun dc6 => ?_) (fun dc6 => ?_)
  · replace h := h.1 dc6
    refine Runs.seqE Ty_ok (by decide) fun k' hk' => ?_
    simp [h1, h2, m2_1, dc6]
    refine hk' _ _ _ ?_
    exact Runs.ret1 (v := int (-1)) Tryz.func8 Tryz.results8 (by simp [h1, h2, m2_1, dc6]) (hQ _ _ _ _ (.of (.v _)) ⟨(-1), h, rfl⟩)
  replace h := h.2 dc6
  refine Runs.skip ?_
  refine Runs.seqE Ty_ok (by decide) fun k' hk' => ?_
  obtain ⟨hb8, h⟩ := h
  obtain ⟨r9, er9⟩ : ∃ v : Int, v = szI a.roots r5 := ⟨_, rfl⟩
  replace h := h r9 er9
  simp [h1, h2, m2_1, dc6]
  refine RunK.callA Ty_ok (szIntS_ok a.roots r5 hb8.1.1 hb8.1.2 hb8.2) e29 (.cons (argI false a.roots) (.cons (.v _ _ _) .nil)) (by decide) (by decide) rfl (by simp [h1, h2, m2_1, dc6]) ?_
  rintro _ rfl
  rw [← er9]
  simp [h1, h2, m2_1, dc6]
  refine hk' _ _ _ ?_
  refine Runs.seq ?_
  refine Runs.seqE Ty_ok (by decide) fun k' hk' => ?_
  obtain ⟨c10, ec10⟩ : ∃ v : Bool, v = decide (r9 < 0) := ⟨_, rfl⟩
  replace h := h c10 ec10
  have f11 := ib_lss (k := .i64) ec10
  simp [h1, h2, m2_1, f11, dc6, -intBin]
  refine hk' _ _ _ ?_
  refine Runs.ite (b := c10) (by simp [h1, h2, m2_1, dc6]) (fun dc10 => ?_) (fun dc10 => ?_)
  · replace h := h.1 dc10
    refine Runs.seqE Ty_ok (by decide) fun k' hk' => ?_
    simp [h1, h2, m2_1, dc6, dc10]
    refine hk' _ _ _ ?_
    refine Runs.cut (fun ρ H n => ρ 4 = int (-1)) (by simp [h1, h2, m2_1, dc6, dc10]) ?_
    clear h1 h2 m2_1
    rintro ρ H n12 h4
    exact Runs.ret1 (v := int (-1)) Tryz.func8 Tryz.results8 (by simp [h4, dc6, dc10]) (hQ _ _ _ _ (.of (.v _)) ⟨(-1), h, rfl⟩)
  replace h := h.2 dc10
  refine Runs.skip ?_
  refine Runs.seqE Ty_ok (by decide) fun k' hk' => ?_
  simp [h1, h2, m2_1, dc6, dc10]
  refine hk' _ _ _ ?_
  refine Runs.cut (fun ρ H n => ρ 4 = int r9) (by simp [h1, h2, m2_1, dc6, dc10]) ?_
  clear h1 h2 m2_1
  rintro ρ H n13 h4
  exact Runs.ret1 (v := int r9) Tryz.func8 Tryz.results8 (by simp [h4, dc6, dc10]) (hQ _ _ _ _ (.of (.v _)) ⟨r9, h, rfl⟩)

theorem szM_ok (a : Match) (left : Int) (hp : szM_pre a left) : PureC Tryz.prog 8 [.agg (mC false a), int left] (fun r => r = int (szM a left)) := (szM_walk a left _ (szM_vc a left hp)).mono (by rintro _ ⟨_, rfl, rfl⟩; rfl)

theorem e16 : Ent Tryz.prog 16 := Ent.of Tryz.func16 (by kernel_rfl) rfl
theorem eqM_walk (a : Match) (b : Match) (Z : Bool → Prop) (h : eqM_wp a b Z) : PureC Tryz.prog 16 [.agg (mC false a), .agg (mC false b)] (fun r => ∃ y : Bool, Z y ∧ r = bool y) := by
  unfold eqM_wp at h
  refine PureC.of Tryz.func16 rfl Tryz.ntmps16 (by simp) fun Q hQ => ?_
  refine Runs.cut (fun ρ H n => ρ 0 = .agg (mC false a) ∧ ρ 1 = .agg (mC false b)) (by refine ⟨?_, ?_⟩ <;> simp ) ?_
  rintro ρ H n1 ⟨h0, h1⟩
  refine Runs.seqE Ty_ok (by decide) fun k' hk' => ?_
  simp [h0, h1]
  refine hk' _ _ _ ?_
  refine Runs.cut (fun ρ H n => ρ 2 = pA n1 2 ∧ ρ 3 = pA (n1 + 1) 3 ∧ H (n1, 2) = some ⟨2, [mC false a]⟩ ∧ H (n1 + 1, 3) = some ⟨2, [mC false b]⟩) (by refine ⟨?_, ?_, ?_, ?_⟩ <;> simp [h0, h1]) ?_
  clear h0 h1
  rintro ρ H n4 ⟨h2, h3, m2_1, m3_2⟩
  refine Runs.seq ?_
  refine Runs.seqE Ty_ok (by decide) fun k' hk' => ?_
  obtain ⟨hb5, h⟩ := h
  obtain ⟨r6, er6⟩ : ∃ v : Bool, v = decide (a.nodes = b.nodes) := ⟨_, rfl⟩
  replace h := h r6 er6
  simp [h2, h3, m2_1, m3_2]
  refine RunK.callA Ty_ok (eqIntS_ok a.nodes b.nodes hb5) e21 (.cons (argI false a.nodes) (.cons (argI false b.nodes) .nil)) (by decide) (by decide) rfl (by simp [h2, h3, m2_1, m3_2]) ?_
  rintro _ rfl
  rw [← er6]
  simp [h2, h3, m2_1, m3_2]
  refine hk' _ _ _ ?_
  refine Runs.ite (b := (!r6)) (by simp [h2, h3, m2_1, m3_2]) (fun dr6 => ?_) (fun dr6 => ?_)
  · have dr6 : r6 = false := by simpa using dr6
    replace h := h.2 dr6
    refine Runs.seqE Ty_ok (by decide) fun k' hk' => ?_
    simp [h2, h3, m2_1, m3_2, dr6]
    refine hk' _ _ _ ?_
    exact Runs.ret1 (v := bool false) Tryz.func16 Tryz.results16 (by simp [h2, h3, m2_1, m3_2, dr6]) (hQ _ _ _ _ (.of (.v _)) ⟨false, h, rfl⟩)
  have dr6 : r6 = true := by simpa using dr6
  replace h := h.1 dr6
  refine Runs.skip ?_
  refine Runs.seq ?_
  refine Runs.seqE Ty_ok (by decide) fun k' hk' => ?_
  obtain ⟨hb7, h⟩ := h
  obtain ⟨r8, er8⟩ : ∃ v : Bool, v = decide (a.roots = b.roots) := ⟨_, rfl⟩
  replace h := h r8 er8
  simp [h2, h3, m2_1, m3_2, dr6]
  refine RunK.callA Ty_ok (eqIntS_ok a.roots b.roots hb7) e21 (.cons (argI false a.roots) (.cons (argI false b.roots) .nil)) (by decide) (by decide) rfl (by simp [h2, h3, m2_1, m3_2, dr6]) ?_
  rintro _ rfl
  rw [← er8]
  simp [h2, h3, m2_1, m3_2, dr6]
  refine hk' _ _ _ ?_
  refine Runs.ite (b := (!r8)) (by simp [h2, h3, m2_1, m3_2, dr6]) (fun dr8 => ?_) (fun dr8 => ?_)
  · have dr8 : r8 = false := by simpa using dr8
    replace h := h.2 dr8
    refine Runs.seqE Ty_ok (by decide) fun k' hk' => ?_
    simp [h2, h3, m2_1, m3_2, dr6, dr8]
    refine hk' _ _ _ ?_
    exact Runs.ret1 (v := bool false) Tryz.func16 Tryz.results16 (by simp [h2, h3, m2_1, m3_2, dr6, dr8]) (hQ _ _ _ _ (.of (.v _)) ⟨false, h, rfl⟩)
  have dr8 : r8 = true := by simpa using dr8
  replace h := h.1 dr8
  refine Runs.skip ?_
  refine Runs.seqE Ty_ok (by decide) fun k' hk' => ?_
  simp [h2, h3, m2_1, m3_2, dr6, dr8]
  refine hk' _ _ _ ?_
  exact Runs.ret1 (v := bool true) Tryz.func16 Tryz.results16 (by simp [h2, h3, m2_1, m3_2, dr6, dr8]) (hQ _ _ _ _ (.of (.v _)) ⟨true, h, rfl⟩)

theorem eqM_ok (a : Match) (b : Match) (hp : eqM_pre a b) : PureC Tryz.prog 16 [.agg (mC false a), .agg (mC false b)] (fun r => r = bool (eqM a b)) := (eqM_walk a b _ (eqM_vc a b hp)).mono (by rintro _ ⟨_, rfl, rfl⟩; rfl)

theorem e3 : Ent Tryz.prog 3 := Ent.of Tryz.func3 (by kernel_rfl) rfl
theorem e4 : Ent Tryz.prog 4 := Ent.of Tryz.func4 (by kernel_rfl) rfl
theorem e24 : Ent Tryz.prog 24 := Ent.of Tryz.func24 (by kernel_rfl) rfl
theorem markMatch_walk (a : Match) (k_ : Int) (Z : (Match × Int) → Prop) (h : markMatch_wp a k_ Z) : MutS Tryz.prog 24 (fun v => [v, int k_]) (.a [.s [.c], .s [.c]]) (.agg (mC true a)) (fun e' r => ∃ y : Match × Int, Z y ∧ e' = .agg (mC true y.1) ∧ r = int y.2) := by
  unfold markMatch_wp at h
  refine MutS.of Tryz.func24 rfl Tryz.ntmps24 (fun _ => by simp) fun H0 n0 v0 K0 ids0 sp Q hQ => ?_
  have h00 := sp.1
  have hid : ∀ i ∈ ids0, H0 i = H0 i := fun _ _ => rfl
  have hnn : n0 ≤ n0 := Nat.le_refl _
  replace sp := Sep.unpack sp
  obtain ⟨L0, hv, hl0, sp⟩ := sp
  subst hv
  obtain ⟨a0_, a1_, hv⟩ := len2 (by simpa using hl0)
  subst hv
  simp only [zip3, List.cons_append, List.nil_append] at sp
  replace sp := Sep.rot sp
  try simp only [List.cons_append, List.nil_append, List.append_assoc] at sp
  replace sp := Sep.rot sp
  try simp only [List.cons_append, List.nil_append, List.append_assoc] at sp
  replace sp := Sep.swap (K1 := K0) sp
  simp only [List.cons_append, List.nil_append] at sp
  refine Runs.cut (fun ρ H n => ρ 0 = .agg [a0_, a1_] ∧ ρ 1 = int k_ ∧ n0 ≤ n ∧ (∀ i ∈ ids0, H i = H0 i) ∧ Sep H n (oI a0_ a.nodes :: oI a1_ a.roots :: K0) (ids0)) (by refine ⟨?_, ?_, (by omega), hid, sp.f1.f1⟩ <;> simp ) ?_
  rintro ρ H n3 ⟨h0, h1, hnn, hid, sp⟩
  have hq_n3 := hnn
  refine Runs.seqE Ty_ok (by decide) fun k' hk' => ?_
  have f4 := Sep.oc sp
  have f5 := Sep.oc sp.f1
  simp [h0, h1, f4, f5, -cellsA, -one1, cAx, o1x]
  refine hk' _ _ _ ?_
  refine Runs.cut (fun ρ H n => ρ 1 = int k_ ∧ ρ 2 = pA n3 2 ∧ H (n3, 2) = some ⟨2, [[a0_, a1_]]⟩ ∧ n0 ≤ n ∧ (∀ i ∈ ids0, H i = H0 i) ∧ Sep H n (oI a0_ a.nodes :: oI a1_ a.roots :: K0) ((n3, 2) :: ids0)) (by refine ⟨?_, ?_, ?_, (by omega), (by intro i hi; have hlt := h00 i hi; repeat (first | exact hid i hi | rw [Heap.get_set_ne _ _ (by rintro rfl; simp at hlt; omega)])), sp.var.f1.f1⟩ <;> simp [h0, h1, f4, f5, -cellsA, -one1, cAx, o1x]) ?_
  clear h0 h1
  rintro ρ H n7 ⟨h1, h2, m2_5, hnn, hid, sp⟩
  have hq_n7 := hnn
  refine Runs.seqE Ty_ok (by decide) fun k' hk' => ?_
  obtain ⟨hb8, h⟩ := h
  obtain ⟨r9, er9⟩ : ∃ v : (List Int) × Int, v = markIntS a.nodes k_ := ⟨_, rfl⟩
  replace h := h r9 er9
  have f10 := Sep.oc sp
  simp [h1, h2, m2_5, f10, -cellsA, -one1, cAx, o1x]
  refine RunK.callM (v := a0_) Ty_ok (markIntS_ok a.nodes k_ hb8) e25 sp (by decide) (by decide) rfl (by simp [h1, h2, m2_5, f10, -cellsA, -one1, cAx, o1x]) ?_
  rintro _ H11 n12 _ ⟨rfl, rfl⟩ sp hle14 hfr13
  rw [← er9] at sp
  rw [← er9]
  replace sp : Sep H11 n12 (oI a0_ r9.1 :: oI a1_ a.roots :: K0) ((n3, 2) :: ids0) := sp
  have hid : ∀ i ∈ ids0, H11 i = H0 i := fun i hi => (hfr13 i (by simp [hi])).trans (hid i hi)
  have hnn : n0 ≤ n12 := by omega
  have hq_n12 := hnn
  have m2_5 : H11 (n3, 2) = some ⟨2, [[a0_, a1_]]⟩ := (hfr13 _ (by simp)).trans (by simp [h1, h2, m2_5, Heap.get_set])
  simp [h1, h2, m2_5, f10, -cellsA, -one1, cAx, o1x]
  refine hk' _ _ _ ?_
  refine Runs.cut (fun ρ H n => ρ 1 = int r9.2 ∧ ρ 2 = pA n3 2 ∧ H (n3, 2) = some ⟨2, [[a0_, a1_]]⟩ ∧ n0 ≤ n ∧ (∀ i ∈ ids0, H i = H0 i) ∧ Sep H n (oI a0_ r9.1 :: oI a1_ a.roots :: K0) ((n3, 2) :: ids0)) (by refine ⟨?_, ?_, ?_, (by omega), hid, sp.f1.f1⟩ <;> simp [h1, h2, m2_5, f10, -cellsA, -one1, cAx, o1x]) ?_
  clear h1 h2 m2_5
  rintro ρ H n16 ⟨h1, h2, m2_5, hnn, hid, sp⟩
  have hq_n16 := hnn
  refine Runs.seqE Ty_ok (by decide) fun k' hk' => ?_
  obtain ⟨hb17, h⟩ := h
  obtain ⟨r18, er18⟩ : ∃ v : (List Int) × Int, v = markIntS a.roots r9.2 := ⟨_, rfl⟩
  replace h := h r18 er18
  have f19 := Sep.oc sp.f1
  simp [h1, h2, m2_5, f19, -cellsA, -one1, cAx, o1x]
  refine RunK.callM (v := a1_) Ty_ok (markIntS_ok a.roots r9.2 hb17) e25 sp.f1 (by decide) (by decide) rfl (by simp [h1, h2, m2_5, f19, -cellsA, -one1, cAx, o1x]) ?_
  rintro _ H20 n21 _ ⟨rfl, rfl⟩ sp hle23 hfr22
  rw [← er18] at sp
  rw [← er18]
  replace sp : Sep H20 n21 (oI a1_ r18.1 :: oI a0_ r9.1 :: K0) ((n3, 2) :: ids0) := sp
  have hid : ∀ i ∈ ids0, H20 i = H0 i := fun i hi => (hfr22 i (by simp [hi])).trans (hid i hi)
  have hnn : n0 ≤ n21 := by omega
  have hq_n21 := hnn
  have m2_5 : H20 (n3, 2) = some ⟨2, [[a0_, a1_]]⟩ := (hfr22 _ (by simp)).trans (by simp [h1, h2, m2_5, Heap.get_set])
  simp [h1, h2, m2_5, f19, -cellsA, -one1, cAx, o1x]
  refine hk' _ _ _ ?_
  refine Runs.cut (fun ρ H n => ρ 1 = int r18.2 ∧ n0 ≤ n ∧ (∀ i ∈ ids0, H i = H0 i) ∧ Sep H n (oI a1_ r18.1 :: oI a0_ r9.1 :: K0) (ids0)) (by refine ⟨?_, (by omega), hid, (Sep.sub sp.f1.f1 (by simp +contextual))⟩ <;> simp [h1, h2, m2_5, f19, -cellsA, -one1, cAx, o1x]) ?_
  clear h1 h2 m2_5
  rintro ρ H n25 ⟨h1, hnn, hid, sp⟩
  have hq_n25 := hnn
  refine Runs.seqE Ty_ok (by decide) fun k' hk' => ?_
  simp [h1]
  refine hk' _ _ _ ?_
  exact Runs.ret1 (v := int r18.2) Tryz.func24 Tryz.results24 (by simp [h1]) (hQ _ _ _ _ (Sep.sub (Sep.pack (Fill.own (Fill.own Fill.nil)) sp.f1) (by simp +contextual)) hid (by omega) ⟨((Match.mk r9.1 r18.1), r18.2), h, rfl, rfl⟩)

theorem markMatch_ok (a : Match) (k_ : Int) (hp : markMatch_pre a k_) : MutS Tryz.prog 24 (fun v => [v, int k_]) (.a [.s [.c], .s [.c]]) (.agg (mC true a)) (fun e' r => e' = .agg [.list true ((((markMatch a k_).1).nodes).map intC), .list true ((((markMatch a k_).1).roots).map intC)] ∧ r = int ((markMatch a k_).2)) := (markMatch_walk a k_ _ (markMatch_vc a k_ hp)).mono (by rintro _ _ ⟨_, rfl, rfl, rfl⟩; exact ⟨rfl, rfl⟩)

theorem lawLinks_walk (aSig : List Control) (aRedex : Big) (aAgent : Big) (aM : Match) (Z : Bool → Prop) (h : lawLinks_wp aSig aRedex aAgent aM Z) : PureC Tryz.prog 5 [.list false (aSig.map Control.cells), .agg (bC false aRedex), .agg (bC false aAgent), .agg (mC false aM)] (fun r => ∃ y : Bool, Z y ∧ r = bool y) := by
  unfold lawLinks_wp at h
  have sp : Sep noHeap 0 [] [] := Sep.nil (by simp)
  refine PureC.of Tryz.func5 rfl Tryz.ntmps5 (by simp) fun Q hQ => ?_
  refine Runs.cut (fun ρ H n => ρ 0 = .list false (aSig.map Control.cells) ∧ ρ 1 = .agg (bC false aRedex) ∧ ρ 2 = .agg (bC false aAgent) ∧ ρ 3 = .agg (mC false aM) ∧ Sep H n [] []) (by refine ⟨?_, ?_, ?_, ?_, sp⟩ <;> simp ) ?_
  rintro ρ H n1 ⟨h0, h1, h2, h3, sp⟩
  refine Runs.seqE Ty_ok (by decide) fun k' hk' => ?_
  simp [h0, h1, h2, h3]
  refine hk' _ _ _ ?_
  refine Runs.cut (fun ρ H n => ρ 0 = .list false (aSig.map Control.cells) ∧ ρ 5 = pA n1 5 ∧ ρ 6 = pA (n1 + 1) 6 ∧ ρ 7 = pA (n1 + 2) 7 ∧ H (n1, 5) = some ⟨6, [bC false aRedex]⟩ ∧ H (n1 + 1, 6) = some ⟨6, [bC false aAgent]⟩ ∧ H (n1 + 2, 7) = some ⟨2, [mC false aM]⟩ ∧ Sep H n [] [(n1 + 2, 7), (n1 + 1, 6), (n1, 5)]) (by refine ⟨?_, ?_, ?_, ?_, ?_, ?_, ?_, sp.var.var.var⟩ <;> simp [h0, h1, h2, h3]) ?_
  clear h0 h1 h2 h3
  rintro ρ H n5 ⟨h0, h5, h6, h7, m5_1, m6_2, m7_3, sp⟩
  refine Runs.seqE Ty_ok (by decide) fun k' hk' => ?_
  simp [h0, h5, h6, h7, m5_1, m6_2, m7_3]
  refine hk' _ _ _ ?_
  refine Runs.seqE Ty_ok (by decide) fun k' hk' => ?_
  obtain ⟨hb6, h⟩ := h
  obtain ⟨r7, er7⟩ : ∃ v : Int, v = szS szC aSig 1048576 := ⟨_, rfl⟩
  replace h := h r7 er7
  simp [h0, h5, h6, h7, m5_1, m6_2, m7_3]
  refine RunK.callA Ty_ok (szControlS_ok aSig 1048576 hb6.1.1 hb6.1.2 hb6.2.len hb6.2.names) e6 (.cons (argC false aSig) (.cons (.v _ _ _) .nil)) (by decide) (by decide) rfl (by simp [h0, h5, h6, h7, m5_1, m6_2, m7_3]) ?_
  rintro _ rfl
  rw [← er7]
  simp [h0, h5, h6, h7, m5_1, m6_2, m7_3]
  refine hk' _ _ _ ?_
  refine Runs.seq ?_
  refine Runs.seqE Ty_ok (by decide) fun k' hk' => ?_
  obtain ⟨c8, ec8⟩ : ∃ v : Bool, v = decide (r7 < 0) := ⟨_, rfl⟩
  replace h := h c8 ec8
  have f9 := ib_lss (k := .i64) ec8
  simp [h0, h5, h6, h7, m5_1, m6_2, m7_3, f9, -intBin]
  refine hk' _ _ _ ?_
  refine Runs.ite (b := c8) (by simp [h0, h5, h6, h7, m5_1, m6_2, m7_3]) (fun dc8 => ?_) (fun dc8 => ?_)
  · replace h := h.1 dc8
    refine Runs.seqE Ty_ok (by decide) fun k' hk' => ?_
    simp [h0, h5, h6, h7, m5_1, m6_2, m7_3, dc8]
    refine hk' _ _ _ ?_
    exact Runs.ret1 (v := bool true) Tryz.func5 Tryz.results5 (by simp [h0, h5, h6, h7, m5_1, m6_2, m7_3, dc8]) (hQ _ _ _ _ (.of (.v _)) ⟨true, h, rfl⟩)
  replace h := h.2 dc8
  refine Runs.skip ?_
  refine Runs.seqE Ty_ok (by decide) fun k' hk' => ?_
  obtain ⟨hb10, h⟩ := h
  obtain ⟨r11, er11⟩ : ∃ v : Int, v = szB aRedex r7 := ⟨_, rfl⟩
  replace h := h r11 er11
  simp [h0, h5, h6, h7, m5_1, m6_2, m7_3, dc8]
  refine RunK.callA Ty_ok (szBigraph_ok aRedex r7 hb10.1.1 hb10.1.2 hb10.2) e7 (.cons (argB false aRedex) (.cons (.v _ _ _) .nil)) (by decide) (by decide) rfl (by simp [h0, h5, h6, h7, m5_1, m6_2, m7_3, dc8]) ?_
  rintro _ rfl
  rw [← er11]
  simp [h0, h5, h6, h7, m5_1, m6_2, m7_3, dc8]
  refine hk' _ _ _ ?_
  refine Runs.seq ?_
  refine Runs.seqE Ty_ok (by decide) fun k' hk' => ?_
  obtain ⟨c12, ec12⟩ : ∃ v : Bool, v = decide (r11 < 0) := ⟨_, rfl⟩
  replace h := h c12 ec12
  have f13 := ib_lss (k := .i64) ec12
  simp [h0, h5, h6, h7, m5_1, m6_2, m7_3, f13, dc8, -intBin]
  refine hk' _ _ _ ?_
  refine Runs.ite (b := c12) (by simp [h0, h5, h6, h7, m5_1, m6_2, m7_3, dc8]) (fun dc12 => ?_) (fun dc12 => ?_)
  · replace h := h.1 dc12
    refine Runs.seqE Ty_ok (by decide) fun k' hk' => ?_
    simp [h0, h5, h6, h7, m5_1, m6_2, m7_3, dc8, dc12]
    refine hk' _ _ _ ?_
    exact Runs.ret1 (v := bool true) Tryz.func5 Tryz.results5 (by simp [h0, h5, h6, h7, m5_1, m6_2, m7_3, dc8, dc12]) (hQ _ _ _ _ (.of (.v _)) ⟨true, h, rfl⟩)
  replace h := h.2 dc12
  refine Runs.skip ?_
  refine Runs.seqE Ty_ok (by decide) fun k' hk' => ?_
  obtain ⟨hb14, h⟩ := h
  obtain ⟨r15, er15⟩ : ∃ v : Int, v = szB aAgent r11 := ⟨_, rfl⟩
  replace h := h r15 er15
  simp [h0, h5, h6, h7, m5_1, m6_2, m7_3, dc8, dc12]
  refine RunK.callA Ty_ok (szBigraph_ok aAgent r11 hb14.1.1 hb14.1.2 hb14.2) e7 (.cons (argB false aAgent) (.cons (.v _ _ _) .nil)) (by decide) (by decide) rfl (by simp [h0, h5, h6, h7, m5_1, m6_2, m7_3, dc8, dc12]) ?_
  rintro _ rfl
  rw [← er15]
  simp [h0, h5, h6, h7, m5_1, m6_2, m7_3, dc8, dc12]
  refine hk' _ _ _ ?_
  refine Runs.cut (fun ρ H n => ρ 0 = .list false (aSig.map Control.cells) ∧ ρ 5 = pA n1 5 ∧ ρ 6 = pA (n1 + 1) 6 ∧ ρ 7 = pA (n1 + 2) 7 ∧ ρ 9 = int r15 ∧ H (n1, 5) = some ⟨6, [bC false aRedex]⟩ ∧ H (n1 + 1, 6) = some ⟨6, [bC false aAgent]⟩ ∧ H (n1 + 2, 7) = some ⟨2, [mC false aM]⟩ ∧ Sep H n [] [(n1 + 2, 7), (n1 + 1, 6), (n1, 5)]) (by refine ⟨?_, ?_, ?_, ?_, ?_, ?_, ?_, ?_, sp⟩ <;> simp [h0, h5, h6, h7, m5_1, m6_2, m7_3, dc8, dc12]) ?_
  clear h0 h5 h6 h7 m5_1 m6_2 m7_3
  rintro ρ H n16 ⟨h0, h5, h6, h7, h9, m5_1, m6_2, m7_3, sp⟩
  refine Runs.seq ?_
  refine Runs.seqE Ty_ok (by decide) fun k' hk' => ?_
  obtain ⟨c17, ec17⟩ : ∃ v : Bool, v = decide (r15 < 0) := ⟨_, rfl⟩
  replace h := h c17 ec17
  have f18 := ib_lss (k := .i64) ec17
  simp [h0, h5, h6, h7, h9, m5_1, m6_2, m7_3, f18, dc8, dc12, -intBin]
  refine hk' _ _ _ ?_
  refine Runs.ite (b := c17) (by simp [h0, h5, h6, h7, h9, m5_1, m6_2, m7_3, dc8, dc12]) (fun dc17 => ?_) (fun dc17 => ?_)
  · replace h := h.1 dc17
    refine Runs.seqE Ty_ok (by decide) fun k' hk' => ?_
    simp [h0, h5, h6, h7, h9, m5_1, m6_2, m7_3, dc8, dc12, dc17]
    refine hk' _ _ _ ?_
    exact Runs.ret1 (v := bool true) Tryz.func5 Tryz.results5 (by simp [h0, h5, h6, h7, h9, m5_1, m6_2, m7_3, dc8, dc12, dc17]) (hQ _ _ _ _ (.of (.v _)) ⟨true, h, rfl⟩)
  replace h := h.2 dc17
  refine Runs.skip ?_
  refine Runs.seqE Ty_ok (by decide) fun k' hk' => ?_
  obtain ⟨hb19, h⟩ := h
  obtain ⟨r20, er20⟩ : ∃ v : Int, v = szM aM r15 := ⟨_, rfl⟩
  replace h := h r20 er20
  simp [h0, h5, h6, h7, h9, m5_1, m6_2, m7_3, dc8, dc12, dc17]
  refine RunK.callA Ty_ok (szM_ok aM r15 hb19) e8 (.cons (argM false aM) (.cons (.v _ _ _) .nil)) (by decide) (by decide) rfl (by simp [h0, h5, h6, h7, h9, m5_1, m6_2, m7_3, dc8, dc12, dc17]) ?_
  rintro _ rfl
  rw [← er20]
  simp [h0, h5, h6, h7, h9, m5_1, m6_2, m7_3, dc8, dc12, dc17]
  refine hk' _ _ _ ?_
  refine Runs.seq ?_
  refine Runs.seqE Ty_ok (by decide) fun k' hk' => ?_
  obtain ⟨c21, ec21⟩ : ∃ v : Bool, v = decide (r20 < 0) := ⟨_, rfl⟩
  replace h := h c21 ec21
  have f22 := ib_lss (k := .i64) ec21
  simp [h0, h5, h6, h7, h9, m5_1, m6_2, m7_3, f22, dc8, dc12, dc17, -intBin]
  refine hk' _ _ _ ?_
  refine Runs.ite (b := c21) (by simp [h0, h5, h6, h7, h9, m5_1, m6_2, m7_3, dc8, dc12, dc17]) (fun dc21 => ?_) (fun dc21 => ?_)
  · replace h := h.1 dc21
    refine Runs.seqE Ty_ok (by decide) fun k' hk' => ?_
    simp [h0, h5, h6, h7, h9, m5_1, m6_2, m7_3, dc8, dc12, dc17, dc21]
    refine hk' _ _ _ ?_
    exact Runs.ret1 (v := bool true) Tryz.func5 Tryz.results5 (by simp [h0, h5, h6, h7, h9, m5_1, m6_2, m7_3, dc8, dc12, dc17, dc21]) (hQ _ _ _ _ (.of (.v _)) ⟨true, h, rfl⟩)
  replace h := h.2 dc21
  refine Runs.skip ?_
  refine Runs.seqD Ty_ok kindOp_ok draws (by decide) (by kernel_rfl) fun k' hk' => ?_
  obtain ⟨hb23, h⟩ := h
  obtain ⟨r24, er24⟩ : ∃ v : List Control, v = toControlS aSig := ⟨_, rfl⟩
  replace h := h r24 er24
  simp [h0, h5, h6, h7, h9, m5_1, m6_2, m7_3, dc8, dc12, dc17, dc21]
  refine RunDK.callA Ty_ok kindOp_ok ((toControlS_ok aSig hb23).pure) e10 (.cons (argC false aSig) .nil) (by decide) rfl (by simp [h0, h5, h6, h7, h9, m5_1, m6_2, m7_3, dc8, dc12, dc17, dc21]) ?_
  rw [← er24]
  obtain ⟨hb25, h⟩ := h
  obtain ⟨r26, er26⟩ : ∃ v : Big, v = toBigraph aRedex := ⟨_, rfl⟩
  replace h := h r26 er26
  simp [h0, h5, h6, h7, h9, m5_1, m6_2, m7_3, dc8, dc12, dc17, dc21]
  refine RunDK.callA Ty_ok kindOp_ok ((toBigraph_ok aRedex hb25).pure) e11 (.cons (argB false aRedex) .nil) (by decide) rfl (by simp [h0, h5, h6, h7, h9, m5_1, m6_2, m7_3, dc8, dc12, dc17, dc21]) ?_
  rw [← er26]
  obtain ⟨hb27, h⟩ := h
  obtain ⟨r28, er28⟩ : ∃ v : Big, v = toBigraph aAgent := ⟨_, rfl⟩
  replace h := h r28 er28
  simp [h0, h5, h6, h7, h9, m5_1, m6_2, m7_3, dc8, dc12, dc17, dc21]
  refine RunDK.callA Ty_ok kindOp_ok ((toBigraph_ok aAgent hb27).pure) e11 (.cons (argB false aAgent) .nil) (by decide) rfl (by simp [h0, h5, h6, h7, h9, m5_1, m6_2, m7_3, dc8, dc12, dc17, dc21]) ?_
  rw [← er28]
  obtain ⟨hb29, h⟩ := h
  obtain ⟨r30, er30⟩ : ∃ v : Match, v = toMatch aM := ⟨_, rfl⟩
  replace h := h r30 er30
  simp [h0, h5, h6, h7, h9, m5_1, m6_2, m7_3, dc8, dc12, dc17, dc21]
  refine RunDK.callA Ty_ok kindOp_ok ((toMatch_ok aM hb29).pure) e12 (.cons (argM false aM) .nil) (by decide) rfl (by simp [h0, h5, h6, h7, h9, m5_1, m6_2, m7_3, dc8, dc12, dc17, dc21]) ?_
  rw [← er30]
  obtain ⟨hb31, h⟩ := h
  obtain ⟨r32, er32⟩ : ∃ v : (List Int) × Bool, v = sMatchLinks r24 r26 r28 r30 := ⟨_, rfl⟩
  replace h := h r32 er32
  simp [h0, h5, h6, h7, h9, m5_1, m6_2, m7_3, dc8, dc12, dc17, dc21]
  refine RunDK.callA Ty_ok kindOp_ok ((sMatchLinks_ok r24 r26 r28 r30 hb31).pure) e19 (.cons (argC true r24) (.cons (argB true r26) (.cons (argB true r28) (.cons (argM true r30) .nil)))) (by decide) rfl (by simp [h0, h5, h6, h7, h9, m5_1, m6_2, m7_3, dc8, dc12, dc17, dc21]) ?_
  rw [← er32]
  simp [h0, h5, h6, h7, h9, m5_1, m6_2, m7_3, dc8, dc12, dc17, dc21]
  refine hk' _ _ _ ?_
  refine Runs.cut (fun ρ H n => ρ 0 = .list false (aSig.map Control.cells) ∧ ρ 5 = pA n1 5 ∧ ρ 6 = pA (n1 + 1) 6 ∧ ρ 7 = pA (n1 + 2) 7 ∧ ρ 10 = .list true (r32.1.map intC) ∧ ρ 11 = bool r32.2 ∧ H (n1, 5) = some ⟨6, [bC false aRedex]⟩ ∧ H (n1 + 1, 6) = some ⟨6, [bC false aAgent]⟩ ∧ H (n1 + 2, 7) = some ⟨2, [mC false aM]⟩ ∧ Sep H n [] [(n1 + 2, 7), (n1 + 1, 6), (n1, 5)]) (by refine ⟨?_, ?_, ?_, ?_, ?_, ?_, ?_, ?_, ?_, sp⟩ <;> simp [h0, h5, h6, h7, h9, m5_1, m6_2, m7_3, dc8, dc12, dc17, dc21]) ?_
  clear h0 h5 h6 h7 h9 m5_1 m6_2 m7_3
  rintro ρ H n33 ⟨h0, h5, h6, h7, h10, h11, m5_1, m6_2, m7_3, sp⟩
  refine Runs.seqE Ty_ok (by decide) fun k' hk' => ?_
  obtain ⟨hb34, h⟩ := h
  obtain ⟨r35, er35⟩ : ∃ v : List Control, v = toControlS aSig := ⟨_, rfl⟩
  replace h := h r35 er35
  simp [h0, h5, h6, h7, h10, h11, m5_1, m6_2, m7_3, dc8, dc12, dc17, dc21]
  refine RunK.callW Ty_ok (toControlS_ok aSig hb34) e10 (.cons (argC false aSig) .nil) sp (by decide) (by decide) rfl (by simp [h0, h5, h6, h7, h10, h11, m5_1, m6_2, m7_3, dc8, dc12, dc17, dc21]) ?_
  rintro v36 H37 n38 _ sp rfl hle40 hfr39
  rw [← er35] at sp
  have m5_1 : H37 (n1, 5) = some ⟨6, [bC false aRedex]⟩ := (hfr39 _ (by simp)).trans (by simp [h0, h5, h6, h7, h10, h11, m5_1, m6_2, m7_3, Heap.get_set])
  have m6_2 : H37 (n1 + 1, 6) = some ⟨6, [bC false aAgent]⟩ := (hfr39 _ (by simp)).trans (by simp [h0, h5, h6, h7, h10, h11, m5_1, m6_2, m7_3, Heap.get_set])
  have m7_3 : H37 (n1 + 2, 7) = some ⟨2, [mC false aM]⟩ := (hfr39 _ (by simp)).trans (by simp [h0, h5, h6, h7, h10, h11, m5_1, m6_2, m7_3, Heap.get_set])
  simp [h0, h5, h6, h7, h10, h11, m5_1, m6_2, m7_3, dc8, dc12, dc17, dc21]
  refine hk' _ _ _ ?_
  refine Runs.cut (fun ρ H n => ∃ (v43 : AVal), ρ 0 = .list false (aSig.map Control.cells) ∧ ρ 5 = pA n1 5 ∧ ρ 6 = pA (n1 + 1) 6 ∧ ρ 7 = pA (n1 + 2) 7 ∧ ρ 10 = .list true (r32.1.map intC) ∧ ρ 11 = bool r32.2 ∧ ρ 12 = v43 ∧ H (n1, 5) = some ⟨6, [bC false aRedex]⟩ ∧ H (n1 + 1, 6) = some ⟨6, [bC false aAgent]⟩ ∧ H (n1 + 2, 7) = some ⟨2, [mC false aM]⟩ ∧ Sep H n [oE [.c, .c, .c] Control.cells v43 r35] [(n1 + 2, 7), (n1 + 1, 6), (n1, 5)]) (by refine ⟨v36, ?_, ?_, ?_, ?_, ?_, ?_, ?_, ?_, ?_, ?_, sp⟩ <;> simp [h0, h5, h6, h7, h10, h11, m5_1, m6_2, m7_3, dc8, dc12, dc17, dc21]) ?_
  clear h0 h5 h6 h7 h10 h11 m5_1 m6_2 m7_3
  rintro ρ H n44 ⟨v43, h0, h5, h6, h7, h10, h11, h12, m5_1, m6_2, m7_3, sp⟩
  refine Runs.seqE Ty_ok (by decide) fun k' hk' => ?_
  obtain ⟨hb45, h⟩ := h
  obtain ⟨r46, er46⟩ : ∃ v : Big, v = toBigraph aRedex := ⟨_, rfl⟩
  replace h := h r46 er46
  simp [h0, h5, h6, h7, h10, h11, h12, m5_1, m6_2, m7_3, dc8, dc12, dc17, dc21]
  refine RunK.callW Ty_ok (toBigraph_ok aRedex hb45) e11 (.cons (argB false aRedex) .nil) sp (by decide) (by decide) rfl (by simp [h0, h5, h6, h7, h10, h11, h12, m5_1, m6_2, m7_3, dc8, dc12, dc17, dc21]) ?_
  rintro v47 H48 n49 _ sp rfl hle51 hfr50
  rw [← er46] at sp
  have m5_1 : H48 (n1, 5) = some ⟨6, [bC false aRedex]⟩ := (hfr50 _ (by simp)).trans (by simp [h0, h5, h6, h7, h10, h11, h12, m5_1, m6_2, m7_3, Heap.get_set])
  have m6_2 : H48 (n1 + 1, 6) = some ⟨6, [bC false aAgent]⟩ := (hfr50 _ (by simp)).trans (by simp [h0, h5, h6, h7, h10, h11, h12, m5_1, m6_2, m7_3, Heap.get_set])
  have m7_3 : H48 (n1 + 2, 7) = some ⟨2, [mC false aM]⟩ := (hfr50 _ (by simp)).trans (by simp [h0, h5, h6, h7, h10, h11, h12, m5_1, m6_2, m7_3, Heap.get_set])
  replace sp := Sep.unpack sp
  obtain ⟨L59, hv, hl60, sp⟩ := sp
  subst hv
  obtain ⟨v53, v54, v55, v56, v57, v58, hv⟩ := len6 (by simpa using hl60)
  subst hv
  simp only [zip3, List.cons_append, List.nil_append] at sp
  replace sp := Sep.scalar sp
  obtain ⟨hv, sp⟩ := sp
  subst hv
  replace sp := Sep.rot sp
  try simp only [List.cons_append, List.nil_append, List.append_assoc] at sp
  replace sp := Sep.rot sp
  try simp only [List.cons_append, List.nil_append, List.append_assoc] at sp
  replace sp := Sep.scalar sp
  obtain ⟨hv, sp⟩ := sp
  subst hv
  replace sp := Sep.rot sp
  try simp only [List.cons_append, List.nil_append, List.append_assoc] at sp
  replace sp := Sep.rot sp
  try simp only [List.cons_append, List.nil_append, List.append_assoc] at sp
  replace sp : Sep H48 n49 [oE [.c, .c, .c] Control.cells v43 r35, oN v54 r46.nodes, oI v55 r46.sites, oS v57 r46.outer, oW v58 r46.inner] [(n1 + 2, 7), (n1 + 1, 6), (n1, 5)] := sp
  have f66 := Sep.oc sp.f1
  have f67 := Sep.oc sp.f2
  have f68 := Sep.oc sp.f3
  have f69 := Sep.oc sp.f4
  simp [h0, h5, h6, h7, h10, h11, h12, m5_1, m6_2, m7_3, f66, f67, f68, f69, dc8, dc12, dc17, dc21, -cellsA, -one1, cAx, o1x]
  refine hk' _ _ _ ?_
  refine Runs.cut (fun ρ H n => ∃ (v70 v71 v72 v73 v74 : AVal), ρ 0 = .list false (aSig.map Control.cells) ∧ ρ 5 = pA n1 5 ∧ ρ 6 = pA (n1 + 1) 6 ∧ ρ 7 = pA (n1 + 2) 7 ∧ ρ 10 = .list true (r32.1.map intC) ∧ ρ 11 = bool r32.2 ∧ ρ 12 = v70 ∧ ρ 13 = pA n49 13 ∧ H (n1, 5) = some ⟨6, [bC false aRedex]⟩ ∧ H (n1 + 1, 6) = some ⟨6, [bC false aAgent]⟩ ∧ H (n1 + 2, 7) = some ⟨2, [mC false aM]⟩ ∧ H (n49, 13) = some ⟨6, [[int r46.roots, v71, v72, int r46.edges, v73, v74]]⟩ ∧ Sep H n [oE [.c, .c, .c] Control.cells v70 r35, oN v71 r46.nodes, oI v72 r46.sites, oS v73 r46.outer, oW v74 r46.inner] [(n49, 13), (n1 + 2, 7), (n1 + 1, 6), (n1, 5)]) (by refine ⟨v43, v54, v55, v57, v58, ?_, ?_, ?_, ?_, ?_, ?_, ?_, ?_, ?_, ?_, ?_, ?_, sp.var.f4.f4.f4.f4.f4⟩ <;> simp [h0, h5, h6, h7, h10, h11, h12, m5_1, m6_2, m7_3, f66, f67, f68, f69, dc8, dc12, dc17, dc21, -cellsA, -one1, cAx, o1x]) ?_
  clear h0 h5 h6 h7 h10 h11 h12 m5_1 m6_2 m7_3
  rintro ρ H n75 ⟨v70, v71, v72, v73, v74, h0, h5, h6, h7, h10, h11, h12, h13, m5_1, m6_2, m7_3, m13_64, sp⟩
  refine Runs.seqE Ty_ok (by decide) fun k' hk' => ?_
  obtain ⟨hb76, h⟩ := h
  obtain ⟨r77, er77⟩ : ∃ v : Big, v = toBigraph aAgent := ⟨_, rfl⟩
  replace h := h r77 er77
  simp [h0, h5, h6, h7, h10, h11, h12, h13, m5_1, m6_2, m7_3, m13_64, dc8, dc12, dc17, dc21]
  refine RunK.callW Ty_ok (toBigraph_ok aAgent hb76) e11 (.cons (argB false aAgent) .nil) sp (by decide) (by decide) rfl (by simp [h0, h5, h6, h7, h10, h11, h12, h13, m5_1, m6_2, m7_3, m13_64, dc8, dc12, dc17, dc21]) ?_
  rintro v78 H79 n80 _ sp rfl hle82 hfr81
  rw [← er77] at sp
  have m5_1 : H79 (n1, 5) = some ⟨6, [bC false aRedex]⟩ := (hfr81 _ (by simp)).trans (by simp [h0, h5, h6, h7, h10, h11, h12, h13, m5_1, m6_2, m7_3, m13_64, Heap.get_set])
  have m6_2 : H79 (n1 + 1, 6) = some ⟨6, [bC false aAgent]⟩ := (hfr81 _ (by simp)).trans (by simp [h0, h5, h6, h7, h10, h11, h12, h13, m5_1, m6_2, m7_3, m13_64, Heap.get_set])
  have m7_3 : H79 (n1 + 2, 7) = some ⟨2, [mC false aM]⟩ := (hfr81 _ (by simp)).trans (by simp [h0, h5, h6, h7, h10, h11, h12, h13, m5_1, m6_2, m7_3, m13_64, Heap.get_set])
  have m13_64 : H79 (n49, 13) = some ⟨6, [[int r46.roots, v71, v72, int r46.edges, v73, v74]]⟩ := (hfr81 _ (by simp)).trans (by simp [h0, h5, h6, h7, h10, h11, h12, h13, m5_1, m6_2, m7_3, m13_64, Heap.get_set])
  replace sp := Sep.unpack sp
  obtain ⟨L90, hv, hl91, sp⟩ := sp
  subst hv
  obtain ⟨v84, v85, v86, v87, v88, v89, hv⟩ := len6 (by simpa using hl91)
  subst hv
  simp only [zip3, List.cons_append, List.nil_append] at sp
  replace sp := Sep.scalar sp
  obtain ⟨hv, sp⟩ := sp
  subst hv
  replace sp := Sep.rot sp
  try simp only [List.cons_append, List.nil_append, List.append_assoc] at sp
  replace sp := Sep.rot sp
  try simp only [List.cons_append, List.nil_append, List.append_assoc] at sp
  replace sp := Sep.scalar sp
  obtain ⟨hv, sp⟩ := sp
  subst hv
  replace sp := Sep.rot sp
  try simp only [List.cons_append, List.nil_append, List.append_assoc] at sp
  replace sp := Sep.rot sp
  try simp only [List.cons_append, List.nil_append, List.append_assoc] at sp
  replace sp : Sep H79 n80 [oE [.c, .c, .c] Control.cells v70 r35, oN v71 r46.nodes, oI v72 r46.sites, oS v73 r46.outer, oW v74 r46.inner, oN v85 r77.nodes, oI v86 r77.sites, oS v88 r77.outer, oW v89 r77.inner] [(n49, 13), (n1 + 2, 7), (n1 + 1, 6), (n1, 5)] := sp
  have f97 := Sep.oc sp.f5
  have f98 := Sep.oc sp.f6
  have f99 := Sep.oc sp.f7
  have f100 := Sep.oc sp.f8
  simp [h0, h5, h6, h7, h10, h11, h12, h13, m5_1, m6_2, m7_3, m13_64, f97, f98, f99, f100, dc8, dc12, dc17, dc21, -cellsA, -one1, cAx, o1x]
  refine hk' _ _ _ ?_
  refine Runs.cut (fun ρ H n => ∃ (v101 v102 v103 v104 v105 v106 v107 v108 v109 : AVal), ρ 0 = .list false (aSig.map Control.cells) ∧ ρ 5 = pA n1 5 ∧ ρ 6 = pA (n1 + 1) 6 ∧ ρ 7 = pA (n1 + 2) 7 ∧ ρ 10 = .list true (r32.1.map intC) ∧ ρ 11 = bool r32.2 ∧ ρ 12 = v101 ∧ ρ 13 = pA n49 13 ∧ ρ 14 = pA n80 14 ∧ H (n1, 5) = some ⟨6, [bC false aRedex]⟩ ∧ H (n1 + 1, 6) = some ⟨6, [bC false aAgent]⟩ ∧ H (n1 + 2, 7) = some ⟨2, [mC false aM]⟩ ∧ H (n49, 13) = some ⟨6, [[int r46.roots, v102, v103, int r46.edges, v104, v105]]⟩ ∧ H (n80, 14) = some ⟨6, [[int r77.roots, v106, v107, int r77.edges, v108, v109]]⟩ ∧ Sep H n [oE [.c, .c, .c] Control.cells v101 r35, oN v102 r46.nodes, oI v103 r46.sites, oS v104 r46.outer, oW v105 r46.inner, oN v106 r77.nodes, oI v107 r77.sites, oS v108 r77.outer, oW v109 r77.inner] [(n80, 14), (n49, 13), (n1 + 2, 7), (n1 + 1, 6), (n1, 5)]) (by refine ⟨v70, v71, v72, v73, v74, v85, v86, v88, v89, ?_, ?_, ?_, ?_, ?_, ?_, ?_, ?_, ?_, ?_, ?_, ?_, ?_, ?_, sp.var.f8.f8.f8.f8.f8.f8.f8.f8.f8⟩ <;> simp [h0, h5, h6, h7, h10, h11, h12, h13, m5_1, m6_2, m7_3, m13_64, f97, f98, f99, f100, dc8, dc12, dc17, dc21, -cellsA, -one1, cAx, o1x]) ?_
  clear h0 h5 h6 h7 h10 h11 h12 h13 m5_1 m6_2 m7_3 m13_64
  rintro ρ H n110 ⟨v101, v102, v103, v104, v105, v106, v107, v108, v109, h0, h5, h6, h7, h10, h11, h12, h13, h14, m5_1, m6_2, m7_3, m13_64, m14_95, sp⟩
  refine Runs.seqE Ty_ok (by decide) fun k' hk' => ?_
  obtain ⟨hb111, h⟩ := h
  obtain ⟨r112, er112⟩ : ∃ v : Match, v = toMatch aM := ⟨_, rfl⟩
  replace h := h r112 er112
  simp [h0, h5, h6, h7, h10, h11, h12, h13, h14, m5_1, m6_2, m7_3, m13_64, m14_95, dc8, dc12, dc17, dc21]
  refine RunK.callW Ty_ok (toMatch_ok aM hb111) e12 (.cons (argM false aM) .nil) sp (by decide) (by decide) rfl (by simp [h0, h5, h6, h7, h10, h11, h12, h13, h14, m5_1, m6_2, m7_3, m13_64, m14_95, dc8, dc12, dc17, dc21]) ?_
  rintro v113 H114 n115 _ sp rfl hle117 hfr116
  rw [← er112] at sp
  have m5_1 : H114 (n1, 5) = some ⟨6, [bC false aRedex]⟩ := (hfr116 _ (by simp)).trans (by simp [h0, h5, h6, h7, h10, h11, h12, h13, h14, m5_1, m6_2, m7_3, m13_64, m14_95, Heap.get_set])
  have m6_2 : H114 (n1 + 1, 6) = some ⟨6, [bC false aAgent]⟩ := (hfr116 _ (by simp)).trans (by simp [h0, h5, h6, h7, h10, h11, h12, h13, h14, m5_1, m6_2, m7_3, m13_64, m14_95, Heap.get_set])
  have m7_3 : H114 (n1 + 2, 7) = some ⟨2, [mC false aM]⟩ := (hfr116 _ (by simp)).trans (by simp [h0, h5, h6, h7, h10, h11, h12, h13, h14, m5_1, m6_2, m7_3, m13_64, m14_95, Heap.get_set])
  have m13_64 : H114 (n49, 13) = some ⟨6, [[int r46.roots, v102, v103, int r46.edges, v104, v105]]⟩ := (hfr116 _ (by simp)).trans (by simp [h0, h5, h6, h7, h10, h11, h12, h13, h14, m5_1, m6_2, m7_3, m13_64, m14_95, Heap.get_set])
  have m14_95 : H114 (n80, 14) = some ⟨6, [[int r77.roots, v106, v107, int r77.edges, v108, v109]]⟩ := (hfr116 _ (by simp)).trans (by simp [h0, h5, h6, h7, h10, h11, h12, h13, h14, m5_1, m6_2, m7_3, m13_64, m14_95, Heap.get_set])
  replace sp := Sep.unpack sp
  obtain ⟨L121, hv, hl122, sp⟩ := sp
  subst hv
  obtain ⟨v119, v120, hv⟩ := len2 (by simpa using hl122)
  subst hv
  simp only [zip3, List.cons_append, List.nil_append] at sp
  replace sp := Sep.rot sp
  try simp only [List.cons_append, List.nil_append, List.append_assoc] at sp
  replace sp := Sep.rot sp
  try simp only [List.cons_append, List.nil_append, List.append_assoc] at sp
  replace sp : Sep H114 n115 [oE [.c, .c, .c] Control.cells v101 r35, oN v102 r46.nodes, oI v103 r46.sites, oS v104 r46.outer, oW v105 r46.inner, oN v106 r77.nodes, oI v107 r77.sites, oS v108 r77.outer, oW v109 r77.inner, oI v119 r112.nodes, oI v120 r112.roots] [(n80, 14), (n49, 13), (n1 + 2, 7), (n1 + 1, 6), (n1, 5)] := sp
  have f126 := Sep.oc sp.f9
  have f127 := Sep.oc sp.f10
  simp [h0, h5, h6, h7, h10, h11, h12, h13, h14, m5_1, m6_2, m7_3, m13_64, m14_95, f126, f127, dc8, dc12, dc17, dc21, -cellsA, -one1, cAx, o1x]
  refine hk' _ _ _ ?_
  refine Runs.cut (fun ρ H n => ∃ (v128 v129 v130 v131 v132 v133 v134 v135 v136 v137 v138 : AVal), ρ 0 = .list false (aSig.map Control.cells) ∧ ρ 5 = pA n1 5 ∧ ρ 6 = pA (n1 + 1) 6 ∧ ρ 7 = pA (n1 + 2) 7 ∧ ρ 10 = .list true (r32.1.map intC) ∧ ρ 11 = bool r32.2 ∧ ρ 12 = v128 ∧ ρ 13 = pA n49 13 ∧ ρ 14 = pA n80 14 ∧ ρ 15 = pA n115 15 ∧ H (n1, 5) = some ⟨6, [bC false aRedex]⟩ ∧ H (n1 + 1, 6) = some ⟨6, [bC false aAgent]⟩ ∧ H (n1 + 2, 7) = some ⟨2, [mC false aM]⟩ ∧ H (n49, 13) = some ⟨6, [[int r46.roots, v129, v130, int r46.edges, v131, v132]]⟩ ∧ H (n80, 14) = some ⟨6, [[int r77.roots, v133, v134, int r77.edges, v135, v136]]⟩ ∧ H (n115, 15) = some ⟨2, [[v137, v138]]⟩ ∧ Sep H n [oE [.c, .c, .c] Control.cells v128 r35, oN v129 r46.nodes, oI v130 r46.sites, oS v131 r46.outer, oW v132 r46.inner, oN v133 r77.nodes, oI v134 r77.sites, oS v135 r77.outer, oW v136 r77.inner, oI v137 r112.nodes, oI v138 r112.roots] [(n115, 15), (n80, 14), (n49, 13), (n1 + 2, 7), (n1 + 1, 6), (n1, 5)]) (by refine ⟨v101, v102, v103, v104, v105, v106, v107, v108, v109, v119, v120, ?_, ?_, ?_, ?_, ?_, ?_, ?_, ?_, ?_, ?_, ?_, ?_, ?_, ?_, ?_, ?_, sp.var.f10.f10.f10.f10.f10.f10.f10.f10.f10.f10.f10⟩ <;> simp [h0, h5, h6, h7, h10, h11, h12, h13, h14, m5_1, m6_2, m7_3, m13_64, m14_95, f126, f127, dc8, dc12, dc17, dc21, -cellsA, -one1, cAx, o1x]) ?_
  clear h0 h5 h6 h7 h10 h11 h12 h13 h14 m5_1 m6_2 m7_3 m13_64 m14_95
  rintro ρ H n139 ⟨v128, v129, v130, v131, v132, v133, v134, v135, v136, v137, v138, h0, h5, h6, h7, h10, h11, h12, h13, h14, h15, m5_1, m6_2, m7_3, m13_64, m14_95, m15_124, sp⟩
  refine Runs.seqE Ty_ok (by decide) fun k' hk' => ?_
  obtain ⟨hb140, h⟩ := h
  obtain ⟨r141, er141⟩ : ∃ v : (List Int) × Bool, v = MatchLinks r35 r46 r77 r112 := ⟨_, rfl⟩
  replace h := h r141 er141
  simp [h0, h5, h6, h7, h10, h11, h12, h13, h14, h15, m5_1, m6_2, m7_3, m13_64, m14_95, m15_124, dc8, dc12, dc17, dc21]
  refine RunK.callW Ty_ok (MatchLinks_ok r35 r46 r77 r112 hb140) e20 (.cons (Sep.argOk' sp (old_listF (by simp))) (.cons (ArgOk.agg (.cons (.v _ _ _) (.cons (Sep.argOk' sp.f1 (old_nest_Node true r46.nodes)) (.cons (Sep.argOk' sp.f2 (old_listF (by simp))) (.cons (.v _ _ _) (.cons (Sep.argOk' sp.f3 (old_listF (by simp))) (.cons (Sep.argOk' sp.f4 (old_listF (by simp))) .nil))))))) (.cons (ArgOk.agg (.cons (.v _ _ _) (.cons (Sep.argOk' sp.f5 (old_nest_Node true r77.nodes)) (.cons (Sep.argOk' sp.f6 (old_listF (by simp))) (.cons (.v _ _ _) (.cons (Sep.argOk' sp.f7 (old_listF (by simp))) (.cons (Sep.argOk' sp.f8 (old_listF (by simp))) .nil))))))) (.cons (ArgOk.agg (.cons (Sep.argOk' sp.f9 (old_listF (by simp))) (.cons (Sep.argOk' sp.f10 (old_listF (by simp))) .nil))) .nil)))) sp (by decide) (by decide) rfl (by simp [h0, h5, h6, h7, h10, h11, h12, h13, h14, h15, m5_1, m6_2, m7_3, m13_64, m14_95, m15_124, dc8, dc12, dc17, dc21]) ?_
  rintro v142 H143 n144 _ sp rfl hle146 hfr145
  rw [← er141] at sp
  have m5_1 : H143 (n1, 5) = some ⟨6, [bC false aRedex]⟩ := (hfr145 _ (by simp)).trans (by simp [h0, h5, h6, h7, h10, h11, h12, h13, h14, h15, m5_1, m6_2, m7_3, m13_64, m14_95, m15_124, Heap.get_set])
  have m6_2 : H143 (n1 + 1, 6) = some ⟨6, [bC false aAgent]⟩ := (hfr145 _ (by simp)).trans (by simp [h0, h5, h6, h7, h10, h11, h12, h13, h14, h15, m5_1, m6_2, m7_3, m13_64, m14_95, m15_124, Heap.get_set])
  have m7_3 : H143 (n1 + 2, 7) = some ⟨2, [mC false aM]⟩ := (hfr145 _ (by simp)).trans (by simp [h0, h5, h6, h7, h10, h11, h12, h13, h14, h15, m5_1, m6_2, m7_3, m13_64, m14_95, m15_124, Heap.get_set])
  have m13_64 : H143 (n49, 13) = some ⟨6, [[int r46.roots, v129, v130, int r46.edges, v131, v132]]⟩ := (hfr145 _ (by simp)).trans (by simp [h0, h5, h6, h7, h10, h11, h12, h13, h14, h15, m5_1, m6_2, m7_3, m13_64, m14_95, m15_124, Heap.get_set])
  have m14_95 : H143 (n80, 14) = some ⟨6, [[int r77.roots, v133, v134, int r77.edges, v135, v136]]⟩ := (hfr145 _ (by simp)).trans (by simp [h0, h5, h6, h7, h10, h11, h12, h13, h14, h15, m5_1, m6_2, m7_3, m13_64, m14_95, m15_124, Heap.get_set])
  have m15_124 : H143 (n115, 15) = some ⟨2, [[v137, v138]]⟩ := (hfr145 _ (by simp)).trans (by simp [h0, h5, h6, h7, h10, h11, h12, h13, h14, h15, m5_1, m6_2, m7_3, m13_64, m14_95, m15_124, Heap.get_set])
  replace sp := Sep.unpackT sp
  obtain ⟨L150, hv, hl151, sp⟩ := sp
  subst hv
  obtain ⟨v148, v149, hv⟩ := len2 (by simpa using hl151)
  subst hv
  simp only [zip3, List.cons_append, List.nil_append] at sp
  replace sp := Sep.rot sp
  try simp only [List.cons_append, List.nil_append, List.append_assoc] at sp
  replace sp := Sep.scalar sp
  obtain ⟨hv, sp⟩ := sp
  subst hv
  replace sp : Sep H143 n144 [oE [.c, .c, .c] Control.cells v128 r35, oN v129 r46.nodes, oI v130 r46.sites, oS v131 r46.outer, oW v132 r46.inner, oN v133 r77.nodes, oI v134 r77.sites, oS v135 r77.outer, oW v136 r77.inner, oI v137 r112.nodes, oI v138 r112.roots, oI v148 r141.1] [(n115, 15), (n80, 14), (n49, 13), (n1 + 2, 7), (n1 + 1, 6), (n1, 5)] := sp
  simp [h0, h5, h6, h7, h10, h11, h12, h13, h14, h15, m5_1, m6_2, m7_3, m13_64, m14_95, m15_124, dc8, dc12, dc17, dc21]
  refine hk' _ _ _ ?_
  refine Runs.cut (fun ρ H n => ∃ (v153 v154 v155 v156 v157 v158 v159 v160 v161 v162 v163 v164 : AVal), ρ 0 = .list false (aSig.map Control.cells) ∧ ρ 5 = pA n1 5 ∧ ρ 6 = pA (n1 + 1) 6 ∧ ρ 7 = pA (n1 + 2) 7 ∧ ρ 10 = .list true (r32.1.map intC) ∧ ρ 11 = bool r32.2 ∧ ρ 12 = v153 ∧ ρ 13 = pA n49 13 ∧ ρ 14 = pA n80 14 ∧ ρ 15 = pA n115 15 ∧ ρ 16 = v164 ∧ ρ 17 = bool r141.2 ∧ H (n1, 5) = some ⟨6, [bC false aRedex]⟩ ∧ H (n1 + 1, 6) = some ⟨6, [bC false aAgent]⟩ ∧ H (n1 + 2, 7) = some ⟨2, [mC false aM]⟩ ∧ H (n49, 13) = some ⟨6, [[int r46.roots, v154, v155, int r46.edges, v156, v157]]⟩ ∧ H (n80, 14) = some ⟨6, [[int r77.roots, v158, v159, int r77.edges, v160, v161]]⟩ ∧ H (n115, 15) = some ⟨2, [[v162, v163]]⟩ ∧ Sep H n [oE [.c, .c, .c] Control.cells v153 r35, oN v154 r46.nodes, oI v155 r46.sites, oS v156 r46.outer, oW v157 r46.inner, oN v158 r77.nodes, oI v159 r77.sites, oS v160 r77.outer, oW v161 r77.inner, oI v162 r112.nodes, oI v163 r112.roots, oI v164 r141.1] [(n115, 15), (n80, 14), (n49, 13), (n1 + 2, 7), (n1 + 1, 6), (n1, 5)]) (by refine ⟨v128, v129, v130, v131, v132, v133, v134, v135, v136, v137, v138, v148, ?_, ?_, ?_, ?_, ?_, ?_, ?_, ?_, ?_, ?_, ?_, ?_, ?_, ?_, ?_, ?_, ?_, ?_, sp.f11.f11.f11.f11.f11.f11.f11.f11.f11.f11.f11.f11⟩ <;> simp [h0, h5, h6, h7, h10, h11, h12, h13, h14, h15, m5_1, m6_2, m7_3, m13_64, m14_95, m15_124, dc8, dc12, dc17, dc21]) ?_
  clear h0 h5 h6 h7 h10 h11 h12 h13 h14 h15 m5_1 m6_2 m7_3 m13_64 m14_95 m15_124
  rintro ρ H n165 ⟨v153, v154, v155, v156, v157, v158, v159, v160, v161, v162, v163, v164, h0, h5, h6, h7, h10, h11, h12, h13, h14, h15, h16, h17, m5_1, m6_2, m7_3, m13_64, m14_95, m15_124, sp⟩
  refine Runs.seq ?_
  refine Runs.seqE Ty_ok (by decide) fun k' hk' => ?_
  obtain ⟨J166, hJ167, hr168⟩ := h
  have fin182 : ∀ (sJ : Bool) (ρ : Env) (H : Heap) (n : Nat), J166 sJ → (match sJ with | b169 => ∃ (v170 v171 v172 v173 v174 v175 v176 v177 v178 v179 v180 v181 : AVal), ρ 0 = .list false (aSig.map Control.cells) ∧ ρ 5 = pA n1 5 ∧ ρ 6 = pA (n1 + 1) 6 ∧ ρ 7 = pA (n1 + 2) 7 ∧ ρ 10 = .list true (r32.1.map intC) ∧ ρ 11 = bool r32.2 ∧ ρ 12 = v170 ∧ ρ 13 = pA n49 13 ∧ ρ 14 = pA n80 14 ∧ ρ 15 = pA n115 15 ∧ ρ 16 = v181 ∧ ρ 17 = bool r141.2 ∧ ρ 79 = bool b169 ∧ H (n1, 5) = some ⟨6, [bC false aRedex]⟩ ∧ H (n1 + 1, 6) = some ⟨6, [bC false aAgent]⟩ ∧ H (n1 + 2, 7) = some ⟨2, [mC false aM]⟩ ∧ H (n49, 13) = some ⟨6, [[int r46.roots, v171, v172, int r46.edges, v173, v174]]⟩ ∧ H (n80, 14) = some ⟨6, [[int r77.roots, v175, v176, int r77.edges, v177, v178]]⟩ ∧ H (n115, 15) = some ⟨2, [[v179, v180]]⟩ ∧ Sep H n [oE [.c, .c, .c] Control.cells v170 r35, oN v171 r46.nodes, oI v172 r46.sites, oS v173 r46.outer, oW v174 r46.inner, oN v175 r77.nodes, oI v176 r77.sites, oS v177 r77.outer, oW v178 r77.inner, oI v179 r112.nodes, oI v180 r112.roots, oI v181 r141.1] [(n115, 15), (n80, 14), (n49, 13), (n1 + 2, 7), (n1 + 1, 6), (n1, 5)]) → Runs Tryz.prog 5 165 k' ρ H n Q := by
    rintro b169 ρ H n183 h ⟨v170, v171, v172, v173, v174, v175, v176, v177, v178, v179, v180, v181, h0, h5, h6, h7, h10, h11, h12, h13, h14, h15, h16, h17, h79, m5_1, m6_2, m7_3, m13_64, m14_95, m15_124, sp⟩
    replace h := hr168 _ h
    refine hk' _ _ _ ?_
    refine Runs.ite (b := b169) (by simp [h0, h5, h6, h7, h10, h11, h12, h13, h14, h15, h16, h17, h79, m5_1, m6_2, m7_3, m13_64, m14_95, m15_124, dc8, dc12, dc17, dc21]) (fun db169 => ?_) (fun db169 => ?_)
    · replace h := h.1 db169
      refine Runs.seqE Ty_ok (by decide) fun k' hk' => ?_
      simp [h0, h5, h6, h7, h10, h11, h12, h13, h14, h15, h16, h17, h79, m5_1, m6_2, m7_3, m13_64, m14_95, m15_124, dc8, dc12, dc17, dc21, db169]
      refine hk' _ _ _ ?_
      exact Runs.ret1 (v := bool false) Tryz.func5 Tryz.results5 (by simp [h0, h5, h6, h7, h10, h11, h12, h13, h14, h15, h16, h17, h79, m5_1, m6_2, m7_3, m13_64, m14_95, m15_124, dc8, dc12, dc17, dc21, db169]) (hQ _ _ _ _ (.of (.v _)) ⟨false, h, rfl⟩)
    replace h := h.2 db169
    refine Runs.skip ?_
    refine Runs.seq ?_
    refine Runs.seqE Ty_ok (by decide) fun k' hk' => ?_
    obtain ⟨hb184, h⟩ := h
    obtain ⟨r185, er185⟩ : ∃ v : List Control, v = toControlS aSig := ⟨_, rfl⟩
    replace h := h r185 er185
    simp [h0, h5, h6, h7, h10, h11, h12, h13, h14, h15, h16, h17, h79, m5_1, m6_2, m7_3, m13_64, m14_95, m15_124, dc8, dc12, dc17, dc21, db169]
    refine RunK.callW Ty_ok (toControlS_ok aSig hb184) e10 (.cons (argC false aSig) .nil) sp (by decide) (by decide) rfl (by simp [h0, h5, h6, h7, h10, h11, h12, h13, h14, h15, h16, h17, h79, m5_1, m6_2, m7_3, m13_64, m14_95, m15_124, dc8, dc12, dc17, dc21, db169]) ?_
    rintro v186 H187 n188 _ sp rfl hle190 hfr189
    rw [← er185] at sp
    have m5_1 : H187 (n1, 5) = some ⟨6, [bC false aRedex]⟩ := (hfr189 _ (by simp)).trans (by simp [h0, h5, h6, h7, h10, h11, h12, h13, h14, h15, h16, h17, h79, m5_1, m6_2, m7_3, m13_64, m14_95, m15_124, Heap.get_set])
    have m6_2 : H187 (n1 + 1, 6) = some ⟨6, [bC false aAgent]⟩ := (hfr189 _ (by simp)).trans (by simp [h0, h5, h6, h7, h10, h11, h12, h13, h14, h15, h16, h17, h79, m5_1, m6_2, m7_3, m13_64, m14_95, m15_124, Heap.get_set])
    have m7_3 : H187 (n1 + 2, 7) = some ⟨2, [mC false aM]⟩ := (hfr189 _ (by simp)).trans (by simp [h0, h5, h6, h7, h10, h11, h12, h13, h14, h15, h16, h17, h79, m5_1, m6_2, m7_3, m13_64, m14_95, m15_124, Heap.get_set])
    have m13_64 : H187 (n49, 13) = some ⟨6, [[int r46.roots, v171, v172, int r46.edges, v173, v174]]⟩ := (hfr189 _ (by simp)).trans (by simp [h0, h5, h6, h7, h10, h11, h12, h13, h14, h15, h16, h17, h79, m5_1, m6_2, m7_3, m13_64, m14_95, m15_124, Heap.get_set])
    have m14_95 : H187 (n80, 14) = some ⟨6, [[int r77.roots, v175, v176, int r77.edges, v177, v178]]⟩ := (hfr189 _ (by simp)).trans (by simp [h0, h5, h6, h7, h10, h11, h12, h13, h14, h15, h16, h17, h79, m5_1, m6_2, m7_3, m13_64, m14_95, m15_124, Heap.get_set])
    have m15_124 : H187 (n115, 15) = some ⟨2, [[v179, v180]]⟩ := (hfr189 _ (by simp)).trans (by simp [h0, h5, h6, h7, h10, h11, h12, h13, h14, h15, h16, h17, h79, m5_1, m6_2, m7_3, m13_64, m14_95, m15_124, Heap.get_set])
    obtain ⟨hb193, h⟩ := h
    obtain ⟨r194, er194⟩ : ∃ v : Bool, v = decide (r35 = r185) := ⟨_, rfl⟩
    replace h := h r194 er194
    simp [h0, h5, h6, h7, h10, h11, h12, h13, h14, h15, h16, h17, h79, m5_1, m6_2, m7_3, m13_64, m14_95, m15_124, dc8, dc12, dc17, dc21, db169]
    refine RunK.callA Ty_ok (eqControlS_ok r35 r185 hb193) e14 (.cons (Sep.argOk' sp.f1 (old_listF (by simp))) (.cons (Sep.argOk' sp (old_listF (by simp))) .nil)) (by decide) (by decide) rfl (by simp [h0, h5, h6, h7, h10, h11, h12, h13, h14, h15, h16, h17, h79, m5_1, m6_2, m7_3, m13_64, m14_95, m15_124, dc8, dc12, dc17, dc21, db169]) ?_
    rintro _ rfl
    rw [← er194]
    simp [h0, h5, h6, h7, h10, h11, h12, h13, h14, h15, h16, h17, h79, m5_1, m6_2, m7_3, m13_64, m14_95, m15_124, dc8, dc12, dc17, dc21, db169]
    refine hk' _ _ _ ?_
    refine Runs.cut (fun ρ H n => ∃ (v195 v196 v197 v198 v199 v200 v201 v202 v203 v204 v205 v206 : AVal), ρ 0 = .list false (aSig.map Control.cells) ∧ ρ 5 = pA n1 5 ∧ ρ 6 = pA (n1 + 1) 6 ∧ ρ 7 = pA (n1 + 2) 7 ∧ ρ 10 = .list true (r32.1.map intC) ∧ ρ 11 = bool r32.2 ∧ ρ 12 = v195 ∧ ρ 13 = pA n49 13 ∧ ρ 14 = pA n80 14 ∧ ρ 15 = pA n115 15 ∧ ρ 16 = v206 ∧ ρ 17 = bool r141.2 ∧ ρ 84 = bool (!r194) ∧ H (n1, 5) = some ⟨6, [bC false aRedex]⟩ ∧ H (n1 + 1, 6) = some ⟨6, [bC false aAgent]⟩ ∧ H (n1 + 2, 7) = some ⟨2, [mC false aM]⟩ ∧ H (n49, 13) = some ⟨6, [[int r46.roots, v196, v197, int r46.edges, v198, v199]]⟩ ∧ H (n80, 14) = some ⟨6, [[int r77.roots, v200, v201, int r77.edges, v202, v203]]⟩ ∧ H (n115, 15) = some ⟨2, [[v204, v205]]⟩ ∧ Sep H n [oE [.c, .c, .c] Control.cells v195 r35, oN v196 r46.nodes, oI v197 r46.sites, oS v198 r46.outer, oW v199 r46.inner, oN v200 r77.nodes, oI v201 r77.sites, oS v202 r77.outer, oW v203 r77.inner, oI v204 r112.nodes, oI v205 r112.roots, oI v206 r141.1] [(n115, 15), (n80, 14), (n49, 13), (n1 + 2, 7), (n1 + 1, 6), (n1, 5)]) (by refine ⟨v170, v171, v172, v173, v174, v175, v176, v177, v178, v179, v180, v181, ?_, ?_, ?_, ?_, ?_, ?_, ?_, ?_, ?_, ?_, ?_, ?_, ?_, ?_, ?_, ?_, ?_, ?_, ?_, sp.dr.f11.f11.f11.f11.f11.f11.f11.f11.f11.f11.f11.f11⟩ <;> simp [h0, h5, h6, h7, h10, h11, h12, h13, h14, h15, h16, h17, h79, m5_1, m6_2, m7_3, m13_64, m14_95, m15_124, dc8, dc12, dc17, dc21, db169]) ?_
    clear h0 h5 h6 h7 h10 h11 h12 h13 h14 h15 h16 h17 h79 m5_1 m6_2 m7_3 m13_64 m14_95 m15_124
    rintro ρ H n207 ⟨v195, v196, v197, v198, v199, v200, v201, v202, v203, v204, v205, v206, h0, h5, h6, h7, h10, h11, h12, h13, h14, h15, h16, h17, h84, m5_1, m6_2, m7_3, m13_64, m14_95, m15_124, sp⟩
    refine Runs.ite (b := (!r194)) (by simp [h0, h5, h6, h7, h10, h11, h12, h13, h14, h15, h16, h17, h84, m5_1, m6_2, m7_3, m13_64, m14_95, m15_124, dc8, dc12, dc17, dc21, db169]) (fun dr194 => ?_) (fun dr194 => ?_)
    · have dr194 : r194 = false := by simpa using dr194
      replace h := h.2 dr194
      refine Runs.seqE Ty_ok (by decide) fun k' hk' => ?_
      simp [h0, h5, h6, h7, h10, h11, h12, h13, h14, h15, h16, h17, h84, m5_1, m6_2, m7_3, m13_64, m14_95, m15_124, dc8, dc12, dc17, dc21, db169, dr194]
      refine hk' _ _ _ ?_
      exact Runs.ret1 (v := bool false) Tryz.func5 Tryz.results5 (by simp [h0, h5, h6, h7, h10, h11, h12, h13, h14, h15, h16, h17, h84, m5_1, m6_2, m7_3, m13_64, m14_95, m15_124, dc8, dc12, dc17, dc21, db169, dr194]) (hQ _ _ _ _ (.of (.v _)) ⟨false, h, rfl⟩)
    have dr194 : r194 = true := by simpa using dr194
    replace h := h.1 dr194
    refine Runs.skip ?_
    refine Runs.seq ?_
    refine Runs.seqD Ty_ok kindOp_ok draws (by decide) (by kernel_rfl) fun k' hk' => ?_
    obtain ⟨hb208, h⟩ := h
    obtain ⟨r209, er209⟩ : ∃ v : Big, v = toBigraph aRedex := ⟨_, rfl⟩
    replace h := h r209 er209
    simp [h0, h5, h6, h7, h10, h11, h12, h13, h14, h15, h16, h17, h84, m5_1, m6_2, m7_3, m13_64, m14_95, m15_124, dc8, dc12, dc17, dc21, db169, dr194]
    refine RunDK.callA Ty_ok kindOp_ok ((toBigraph_ok aRedex hb208).pure) e11 (.cons (argB false aRedex) .nil) (by decide) rfl (by simp [h0, h5, h6, h7, h10, h11, h12, h13, h14, h15, h16, h17, h84, m5_1, m6_2, m7_3, m13_64, m14_95, m15_124, dc8, dc12, dc17, dc21, db169, dr194]) ?_
    rw [← er209]
    obtain ⟨hb210, h⟩ := h
    obtain ⟨r211, er211⟩ : ∃ v : Bool, v = decide (r46 = r209) := ⟨_, rfl⟩
    replace h := h r211 er211
    simp [h0, h5, h6, h7, h10, h11, h12, h13, h14, h15, h16, h17, h84, m5_1, m6_2, m7_3, m13_64, m14_95, m15_124, dc8, dc12, dc17, dc21, db169, dr194]
    refine RunDK.callA Ty_ok kindOp_ok (eqBigraph_ok r46 r209 hb210) e15 (.cons (ArgOk.agg (.cons (.v _ _ _) (.cons (Sep.argOk' sp.f1 (old_nest_Node true r46.nodes)) (.cons (Sep.argOk' sp.f2 (old_listF (by simp))) (.cons (.v _ _ _) (.cons (Sep.argOk' sp.f3 (old_listF (by simp))) (.cons (Sep.argOk' sp.f4 (old_listF (by simp))) .nil))))))) (.cons (argB true r209) .nil)) (by decide) rfl (by simp [h0, h5, h6, h7, h10, h11, h12, h13, h14, h15, h16, h17, h84, m5_1, m6_2, m7_3, m13_64, m14_95, m15_124, dc8, dc12, dc17, dc21, db169, dr194]) ?_
    rw [← er211]
    simp [h0, h5, h6, h7, h10, h11, h12, h13, h14, h15, h16, h17, h84, m5_1, m6_2, m7_3, m13_64, m14_95, m15_124, dc8, dc12, dc17, dc21, db169, dr194]
    refine hk' _ _ _ ?_
    refine Runs.ite (b := (!r211)) (by simp [h0, h5, h6, h7, h10, h11, h12, h13, h14, h15, h16, h17, h84, m5_1, m6_2, m7_3, m13_64, m14_95, m15_124, dc8, dc12, dc17, dc21, db169, dr194]) (fun dr211 => ?_) (fun dr211 => ?_)
    · have dr211 : r211 = false := by simpa using dr211
      replace h := h.2 dr211
      refine Runs.seqE Ty_ok (by decide) fun k' hk' => ?_
      simp [h0, h5, h6, h7, h10, h11, h12, h13, h14, h15, h16, h17, h84, m5_1, m6_2, m7_3, m13_64, m14_95, m15_124, dc8, dc12, dc17, dc21, db169, dr194, dr211]
      refine hk' _ _ _ ?_
      exact Runs.ret1 (v := bool false) Tryz.func5 Tryz.results5 (by simp [h0, h5, h6, h7, h10, h11, h12, h13, h14, h15, h16, h17, h84, m5_1, m6_2, m7_3, m13_64, m14_95, m15_124, dc8, dc12, dc17, dc21, db169, dr194, dr211]) (hQ _ _ _ _ (.of (.v _)) ⟨false, h, rfl⟩)
    have dr211 : r211 = true := by simpa using dr211
    replace h := h.1 dr211
    refine Runs.skip ?_
    refine Runs.seq ?_
    refine Runs.seqD Ty_ok kindOp_ok draws (by decide) (by kernel_rfl) fun k' hk' => ?_
    obtain ⟨hb212, h⟩ := h
    obtain ⟨r213, er213⟩ : ∃ v : Big, v = toBigraph aAgent := ⟨_, rfl⟩
    replace h := h r213 er213
    simp [h0, h5, h6, h7, h10, h11, h12, h13, h14, h15, h16, h17, h84, m5_1, m6_2, m7_3, m13_64, m14_95, m15_124, dc8, dc12, dc17, dc21, db169, dr194, dr211]
    refine RunDK.callA Ty_ok kindOp_ok ((toBigraph_ok aAgent hb212).pure) e11 (.cons (argB false aAgent) .nil) (by decide) rfl (by simp [h0, h5, h6, h7, h10, h11, h12, h13, h14, h15, h16, h17, h84, m5_1, m6_2, m7_3, m13_64, m14_95, m15_124, dc8, dc12, dc17, dc21, db169, dr194, dr211]) ?_
    rw [← er213]
    obtain ⟨hb214, h⟩ := h
    obtain ⟨r215, er215⟩ : ∃ v : Bool, v = decide (r77 = r213) := ⟨_, rfl⟩
    replace h := h r215 er215
    simp [h0, h5, h6, h7, h10, h11, h12, h13, h14, h15, h16, h17, h84, m5_1, m6_2, m7_3, m13_64, m14_95, m15_124, dc8, dc12, dc17, dc21, db169, dr194, dr211]
    refine RunDK.callA Ty_ok kindOp_ok (eqBigraph_ok r77 r213 hb214) e15 (.cons (ArgOk.agg (.cons (.v _ _ _) (.cons (Sep.argOk' sp.f5 (old_nest_Node true r77.nodes)) (.cons (Sep.argOk' sp.f6 (old_listF (by simp))) (.cons (.v _ _ _) (.cons (Sep.argOk' sp.f7 (old_listF (by simp))) (.cons (Sep.argOk' sp.f8 (old_listF (by simp))) .nil))))))) (.cons (argB true r213) .nil)) (by decide) rfl (by simp [h0, h5, h6, h7, h10, h11, h12, h13, h14, h15, h16, h17, h84, m5_1, m6_2, m7_3, m13_64, m14_95, m15_124, dc8, dc12, dc17, dc21, db169, dr194, dr211]) ?_
    rw [← er215]
    simp [h0, h5, h6, h7, h10, h11, h12, h13, h14, h15, h16, h17, h84, m5_1, m6_2, m7_3, m13_64, m14_95, m15_124, dc8, dc12, dc17, dc21, db169, dr194, dr211]
    refine hk' _ _ _ ?_
    refine Runs.ite (b := (!r215)) (by simp [h0, h5, h6, h7, h10, h11, h12, h13, h14, h15, h16, h17, h84, m5_1, m6_2, m7_3, m13_64, m14_95, m15_124, dc8, dc12, dc17, dc21, db169, dr194, dr211]) (fun dr215 => ?_) (fun dr215 => ?_)
    · have dr215 : r215 = false := by simpa using dr215
      replace h := h.2 dr215
      refine Runs.seqE Ty_ok (by decide) fun k' hk' => ?_
      simp [h0, h5, h6, h7, h10, h11, h12, h13, h14, h15, h16, h17, h84, m5_1, m6_2, m7_3, m13_64, m14_95, m15_124, dc8, dc12, dc17, dc21, db169, dr194, dr211, dr215]
      refine hk' _ _ _ ?_
      exact Runs.ret1 (v := bool false) Tryz.func5 Tryz.results5 (by simp [h0, h5, h6, h7, h10, h11, h12, h13, h14, h15, h16, h17, h84, m5_1, m6_2, m7_3, m13_64, m14_95, m15_124, dc8, dc12, dc17, dc21, db169, dr194, dr211, dr215]) (hQ _ _ _ _ (.of (.v _)) ⟨false, h, rfl⟩)
    have dr215 : r215 = true := by simpa using dr215
    replace h := h.1 dr215
    refine Runs.skip ?_
    refine Runs.seq ?_
    refine Runs.seqD Ty_ok kindOp_ok draws (by decide) (by kernel_rfl) fun k' hk' => ?_
    obtain ⟨hb216, h⟩ := h
    obtain ⟨r217, er217⟩ : ∃ v : Match, v = toMatch aM := ⟨_, rfl⟩
    replace h := h r217 er217
    simp [h0, h5, h6, h7, h10, h11, h12, h13, h14, h15, h16, h17, h84, m5_1, m6_2, m7_3, m13_64, m14_95, m15_124, dc8, dc12, dc17, dc21, db169, dr194, dr211, dr215]
    refine RunDK.callA Ty_ok kindOp_ok ((toMatch_ok aM hb216).pure) e12 (.cons (argM false aM) .nil) (by decide) rfl (by simp [h0, h5, h6, h7, h10, h11, h12, h13, h14, h15, h16, h17, h84, m5_1, m6_2, m7_3, m13_64, m14_95, m15_124, dc8, dc12, dc17, dc21, db169, dr194, dr211, dr215]) ?_
    rw [← er217]
    obtain ⟨hb218, h⟩ := h
    obtain ⟨r219, er219⟩ : ∃ v : Bool, v = eqM r112 r217 := ⟨_, rfl⟩
    replace h := h r219 er219
    simp [h0, h5, h6, h7, h10, h11, h12, h13, h14, h15, h16, h17, h84, m5_1, m6_2, m7_3, m13_64, m14_95, m15_124, dc8, dc12, dc17, dc21, db169, dr194, dr211, dr215]
    refine RunDK.callA Ty_ok kindOp_ok (eqM_ok r112 r217 hb218) e16 (.cons (ArgOk.agg (.cons (Sep.argOk' sp.f9 (old_listF (by simp))) (.cons (Sep.argOk' sp.f10 (old_listF (by simp))) .nil))) (.cons (argM true r217) .nil)) (by decide) rfl (by simp [h0, h5, h6, h7, h10, h11, h12, h13, h14, h15, h16, h17, h84, m5_1, m6_2, m7_3, m13_64, m14_95, m15_124, dc8, dc12, dc17, dc21, db169, dr194, dr211, dr215]) ?_
    rw [← er219]
    simp [h0, h5, h6, h7, h10, h11, h12, h13, h14, h15, h16, h17, h84, m5_1, m6_2, m7_3, m13_64, m14_95, m15_124, dc8, dc12, dc17, dc21, db169, dr194, dr211, dr215]
    refine hk' _ _ _ ?_
    refine Runs.cut (fun ρ H n => ∃ (v220 v221 v222 v223 v224 v225 v226 v227 v228 v229 v230 v231 : AVal), ρ 0 = .list false (aSig.map Control.cells) ∧ ρ 5 = pA n1 5 ∧ ρ 6 = pA (n1 + 1) 6 ∧ ρ 7 = pA (n1 + 2) 7 ∧ ρ 10 = .list true (r32.1.map intC) ∧ ρ 11 = bool r32.2 ∧ ρ 12 = v220 ∧ ρ 13 = pA n49 13 ∧ ρ 14 = pA n80 14 ∧ ρ 15 = pA n115 15 ∧ ρ 16 = v231 ∧ ρ 17 = bool r141.2 ∧ ρ 99 = bool (!r219) ∧ H (n1, 5) = some ⟨6, [bC false aRedex]⟩ ∧ H (n1 + 1, 6) = some ⟨6, [bC false aAgent]⟩ ∧ H (n1 + 2, 7) = some ⟨2, [mC false aM]⟩ ∧ H (n49, 13) = some ⟨6, [[int r46.roots, v221, v222, int r46.edges, v223, v224]]⟩ ∧ H (n80, 14) = some ⟨6, [[int r77.roots, v225, v226, int r77.edges, v227, v228]]⟩ ∧ H (n115, 15) = some ⟨2, [[v229, v230]]⟩ ∧ Sep H n [oE [.c, .c, .c] Control.cells v220 r35, oN v221 r46.nodes, oI v222 r46.sites, oS v223 r46.outer, oW v224 r46.inner, oN v225 r77.nodes, oI v226 r77.sites, oS v227 r77.outer, oW v228 r77.inner, oI v229 r112.nodes, oI v230 r112.roots, oI v231 r141.1] [(n115, 15), (n80, 14), (n49, 13), (n1 + 2, 7), (n1 + 1, 6), (n1, 5)]) (by refine ⟨v195, v196, v197, v198, v199, v200, v201, v202, v203, v204, v205, v206, ?_, ?_, ?_, ?_, ?_, ?_, ?_, ?_, ?_, ?_, ?_, ?_, ?_, ?_, ?_, ?_, ?_, ?_, ?_, sp.f11.f11.f11.f11.f11.f11.f11.f11.f11.f11.f11.f11⟩ <;> simp [h0, h5, h6, h7, h10, h11, h12, h13, h14, h15, h16, h17, h84, m5_1, m6_2, m7_3, m13_64, m14_95, m15_124, dc8, dc12, dc17, dc21, db169, dr194, dr211, dr215]) ?_
    clear h0 h5 h6 h7 h10 h11 h12 h13 h14 h15 h16 h17 h84 m5_1 m6_2 m7_3 m13_64 m14_95 m15_124
    rintro ρ H n232 ⟨v220, v221, v222, v223, v224, v225, v226, v227, v228, v229, v230, v231, h0, h5, h6, h7, h10, h11, h12, h13, h14, h15, h16, h17, h99, m5_1, m6_2, m7_3, m13_64, m14_95, m15_124, sp⟩
    refine Runs.ite (b := (!r219)) (by simp [h0, h5, h6, h7, h10, h11, h12, h13, h14, h15, h16, h17, h99, m5_1, m6_2, m7_3, m13_64, m14_95, m15_124, dc8, dc12, dc17, dc21, db169, dr194, dr211, dr215]) (fun dr219 => ?_) (fun dr219 => ?_)
    · have dr219 : r219 = false := by simpa using dr219
      replace h := h.2 dr219
      refine Runs.seqE Ty_ok (by decide) fun k' hk' => ?_
      simp [h0, h5, h6, h7, h10, h11, h12, h13, h14, h15, h16, h17, h99, m5_1, m6_2, m7_3, m13_64, m14_95, m15_124, dc8, dc12, dc17, dc21, db169, dr194, dr211, dr215, dr219]
      refine hk' _ _ _ ?_
      exact Runs.ret1 (v := bool false) Tryz.func5 Tryz.results5 (by simp [h0, h5, h6, h7, h10, h11, h12, h13, h14, h15, h16, h17, h99, m5_1, m6_2, m7_3, m13_64, m14_95, m15_124, dc8, dc12, dc17, dc21, db169, dr194, dr211, dr215, dr219]) (hQ _ _ _ _ (.of (.v _)) ⟨false, h, rfl⟩)
    have dr219 : r219 = true := by simpa using dr219
    replace h := h.1 dr219
    refine Runs.skip ?_
    refine Runs.seqE Ty_ok (by decide) fun k' hk' => ?_
    simp [h0, h5, h6, h7, h10, h11, h12, h13, h14, h15, h16, h17, h99, m5_1, m6_2, m7_3, m13_64, m14_95, m15_124, dc8, dc12, dc17, dc21, db169, dr194, dr211, dr215, dr219]
    refine hk' _ _ _ ?_
    refine Runs.seqE Ty_ok (by decide) fun k' hk' => ?_
    obtain ⟨hb233, h⟩ := h
    obtain ⟨r234, er234⟩ : ∃ v : (List Control) × Int, v = markControlS r35 1 := ⟨_, rfl⟩
    replace h := h r234 er234
    have f235 := Sep.oc sp
    simp [h0, h5, h6, h7, h10, h11, h12, h13, h14, h15, h16, h17, h99, m5_1, m6_2, m7_3, m13_64, m14_95, m15_124, f235, dc8, dc12, dc17, dc21, db169, dr194, dr211, dr215, dr219, -cellsA, -one1, cAx, o1x]
    refine RunK.callM (v := v220) Ty_ok (markControlS_ok r35 1 hb233) e22 sp (by decide) (by decide) rfl (by simp [h0, h5, h6, h7, h10, h11, h12, h13, h14, h15, h16, h17, h99, m5_1, m6_2, m7_3, m13_64, m14_95, m15_124, f235, dc8, dc12, dc17, dc21, db169, dr194, dr211, dr215, dr219, -cellsA, -one1, cAx, o1x]) ?_
    rintro _ H236 n237 _ ⟨rfl, rfl⟩ sp hle239 hfr238
    rw [← er234] at sp
    rw [← er234]
    replace sp : Sep H236 n237 [oE [.c, .c, .c] Control.cells v220 r234.1, oN v221 r46.nodes, oI v222 r46.sites, oS v223 r46.outer, oW v224 r46.inner, oN v225 r77.nodes, oI v226 r77.sites, oS v227 r77.outer, oW v228 r77.inner, oI v229 r112.nodes, oI v230 r112.roots, oI v231 r141.1] [(n115, 15), (n80, 14), (n49, 13), (n1 + 2, 7), (n1 + 1, 6), (n1, 5)] := sp
    have m5_1 : H236 (n1, 5) = some ⟨6, [bC false aRedex]⟩ := (hfr238 _ (by simp)).trans (by simp [h0, h5, h6, h7, h10, h11, h12, h13, h14, h15, h16, h17, h99, m5_1, m6_2, m7_3, m13_64, m14_95, m15_124, Heap.get_set])
    have m6_2 : H236 (n1 + 1, 6) = some ⟨6, [bC false aAgent]⟩ := (hfr238 _ (by simp)).trans (by simp [h0, h5, h6, h7, h10, h11, h12, h13, h14, h15, h16, h17, h99, m5_1, m6_2, m7_3, m13_64, m14_95, m15_124, Heap.get_set])
    have m7_3 : H236 (n1 + 2, 7) = some ⟨2, [mC false aM]⟩ := (hfr238 _ (by simp)).trans (by simp [h0, h5, h6, h7, h10, h11, h12, h13, h14, h15, h16, h17, h99, m5_1, m6_2, m7_3, m13_64, m14_95, m15_124, Heap.get_set])
    have m13_64 : H236 (n49, 13) = some ⟨6, [[int r46.roots, v221, v222, int r46.edges, v223, v224]]⟩ := (hfr238 _ (by simp)).trans (by simp [h0, h5, h6, h7, h10, h11, h12, h13, h14, h15, h16, h17, h99, m5_1, m6_2, m7_3, m13_64, m14_95, m15_124, Heap.get_set])
    have m14_95 : H236 (n80, 14) = some ⟨6, [[int r77.roots, v225, v226, int r77.edges, v227, v228]]⟩ := (hfr238 _ (by simp)).trans (by simp [h0, h5, h6, h7, h10, h11, h12, h13, h14, h15, h16, h17, h99, m5_1, m6_2, m7_3, m13_64, m14_95, m15_124, Heap.get_set])
    have m15_124 : H236 (n115, 15) = some ⟨2, [[v229, v230]]⟩ := (hfr238 _ (by simp)).trans (by simp [h0, h5, h6, h7, h10, h11, h12, h13, h14, h15, h16, h17, h99, m5_1, m6_2, m7_3, m13_64, m14_95, m15_124, Heap.get_set])
    simp [h0, h5, h6, h7, h10, h11, h12, h13, h14, h15, h16, h17, h99, m5_1, m6_2, m7_3, m13_64, m14_95, m15_124, f235, dc8, dc12, dc17, dc21, db169, dr194, dr211, dr215, dr219, -cellsA, -one1, cAx, o1x]
    refine hk' _ _ _ ?_
    refine Runs.cut (fun ρ H n => ∃ (v241 v242 v243 v244 v245 v246 v247 v248 v249 v250 v251 : AVal), ρ 0 = .list false (aSig.map Control.cells) ∧ ρ 5 = pA n1 5 ∧ ρ 6 = pA (n1 + 1) 6 ∧ ρ 7 = pA (n1 + 2) 7 ∧ ρ 10 = .list true (r32.1.map intC) ∧ ρ 11 = bool r32.2 ∧ ρ 13 = pA n49 13 ∧ ρ 14 = pA n80 14 ∧ ρ 15 = pA n115 15 ∧ ρ 16 = v251 ∧ ρ 17 = bool r141.2 ∧ ρ 18 = int r234.2 ∧ H (n1, 5) = some ⟨6, [bC false aRedex]⟩ ∧ H (n1 + 1, 6) = some ⟨6, [bC false aAgent]⟩ ∧ H (n1 + 2, 7) = some ⟨2, [mC false aM]⟩ ∧ H (n49, 13) = some ⟨6, [[int r46.roots, v241, v242, int r46.edges, v243, v244]]⟩ ∧ H (n80, 14) = some ⟨6, [[int r77.roots, v245, v246, int r77.edges, v247, v248]]⟩ ∧ H (n115, 15) = some ⟨2, [[v249, v250]]⟩ ∧ Sep H n [oN v241 r46.nodes, oI v242 r46.sites, oS v243 r46.outer, oW v244 r46.inner, oN v245 r77.nodes, oI v246 r77.sites, oS v247 r77.outer, oW v248 r77.inner, oI v249 r112.nodes, oI v250 r112.roots, oI v251 r141.1] [(n115, 15), (n80, 14), (n49, 13), (n1 + 2, 7), (n1 + 1, 6), (n1, 5)]) (by refine ⟨v221, v222, v223, v224, v225, v226, v227, v228, v229, v230, v231, ?_, ?_, ?_, ?_, ?_, ?_, ?_, ?_, ?_, ?_, ?_, ?_, ?_, ?_, ?_, ?_, ?_, ?_, sp.dr.f10.f10.f10.f10.f10.f10.f10.f10.f10.f10.f10⟩ <;> simp [h0, h5, h6, h7, h10, h11, h12, h13, h14, h15, h16, h17, h99, m5_1, m6_2, m7_3, m13_64, m14_95, m15_124, f235, dc8, dc12, dc17, dc21, db169, dr194, dr211, dr215, dr219, -cellsA, -one1, cAx, o1x]) ?_
    clear h0 h5 h6 h7 h10 h11 h12 h13 h14 h15 h16 h17 h99 m5_1 m6_2 m7_3 m13_64 m14_95 m15_124
    rintro ρ H n252 ⟨v241, v242, v243, v244, v245, v246, v247, v248, v249, v250, v251, h0, h5, h6, h7, h10, h11, h13, h14, h15, h16, h17, h18, m5_1, m6_2, m7_3, m13_64, m14_95, m15_124, sp⟩
    refine Runs.seqE Ty_ok (by decide) fun k' hk' => ?_
    obtain ⟨hb253, h⟩ := h
    obtain ⟨r254, er254⟩ : ∃ v : Big × Int, v = markBig r46 r234.2 := ⟨_, rfl⟩
    replace h := h r254 er254
    have f255 := Sep.oc sp
    have f256 := Sep.oc sp.f1
    have f257 := Sep.oc sp.f2
    have f258 := Sep.oc sp.f3
    simp [h0, h5, h6, h7, h10, h11, h13, h14, h15, h16, h17, h18, m5_1, m6_2, m7_3, m13_64, m14_95, m15_124, f255, f256, f257, f258, dc8, dc12, dc17, dc21, db169, dr194, dr211, dr215, dr219, -cellsA, -one1, cAx, o1x]
    refine RunK.callM (v := .agg [int r46.roots, v241, v242, int r46.edges, v243, v244]) Ty_ok (markBig_ok r46 r234.2 hb253) e23 (Sep.pack (Fill.v _ (Fill.own (Fill.own (Fill.v _ (Fill.own (Fill.own Fill.nil)))))) sp.f3.f3.f3.f3) (by decide) (by decide) rfl (by simp [h0, h5, h6, h7, h10, h11, h13, h14, h15, h16, h17, h18, m5_1, m6_2, m7_3, m13_64, m14_95, m15_124, f255, f256, f257, f258, dc8, dc12, dc17, dc21, db169, dr194, dr211, dr215, dr219, -cellsA, -one1, cAx, o1x]) ?_
    rintro _ H259 n260 _ ⟨rfl, rfl⟩ sp hle262 hfr261
    rw [← er254] at sp
    rw [← er254]
    replace sp := Sep.unpack sp
    obtain ⟨L263, hv, hl264, sp⟩ := sp
    cases hv
    simp only [zip3, List.cons_append, List.nil_append] at sp
    replace sp := (Sep.scalar sp).2
    replace sp := Sep.rot sp
    try simp only [List.cons_append, List.nil_append, List.append_assoc] at sp
    replace sp := Sep.rot sp
    try simp only [List.cons_append, List.nil_append, List.append_assoc] at sp
    replace sp := (Sep.scalar sp).2
    replace sp := Sep.rot sp
    try simp only [List.cons_append, List.nil_append, List.append_assoc] at sp
    replace sp := Sep.rot sp
    try simp only [List.cons_append, List.nil_append, List.append_assoc] at sp
    replace sp : Sep H259 n260 [oN v245 r77.nodes, oI v246 r77.sites, oS v247 r77.outer, oW v248 r77.inner, oI v249 r112.nodes, oI v250 r112.roots, oI v251 r141.1, oN v241 r254.1.nodes, oI v242 r254.1.sites, oS v243 r254.1.outer, oW v244 r254.1.inner] [(n115, 15), (n80, 14), (n49, 13), (n1 + 2, 7), (n1 + 1, 6), (n1, 5)] := sp
    have m5_1 : H259 (n1, 5) = some ⟨6, [bC false aRedex]⟩ := (hfr261 _ (by simp)).trans (by simp [h0, h5, h6, h7, h10, h11, h13, h14, h15, h16, h17, h18, m5_1, m6_2, m7_3, m13_64, m14_95, m15_124, Heap.get_set])
    have m6_2 : H259 (n1 + 1, 6) = some ⟨6, [bC false aAgent]⟩ := (hfr261 _ (by simp)).trans (by simp [h0, h5, h6, h7, h10, h11, h13, h14, h15, h16, h17, h18, m5_1, m6_2, m7_3, m13_64, m14_95, m15_124, Heap.get_set])
    have m7_3 : H259 (n1 + 2, 7) = some ⟨2, [mC false aM]⟩ := (hfr261 _ (by simp)).trans (by simp [h0, h5, h6, h7, h10, h11, h13, h14, h15, h16, h17, h18, m5_1, m6_2, m7_3, m13_64, m14_95, m15_124, Heap.get_set])
    have m13_64 : H259 (n49, 13) = some ⟨6, [[int r46.roots, v241, v242, int r46.edges, v243, v244]]⟩ := (hfr261 _ (by simp)).trans (by simp [h0, h5, h6, h7, h10, h11, h13, h14, h15, h16, h17, h18, m5_1, m6_2, m7_3, m13_64, m14_95, m15_124, Heap.get_set])
    have m14_95 : H259 (n80, 14) = some ⟨6, [[int r77.roots, v245, v246, int r77.edges, v247, v248]]⟩ := (hfr261 _ (by simp)).trans (by simp [h0, h5, h6, h7, h10, h11, h13, h14, h15, h16, h17, h18, m5_1, m6_2, m7_3, m13_64, m14_95, m15_124, Heap.get_set])
    have m15_124 : H259 (n115, 15) = some ⟨2, [[v249, v250]]⟩ := (hfr261 _ (by simp)).trans (by simp [h0, h5, h6, h7, h10, h11, h13, h14, h15, h16, h17, h18, m5_1, m6_2, m7_3, m13_64, m14_95, m15_124, Heap.get_set])
    simp [h0, h5, h6, h7, h10, h11, h13, h14, h15, h16, h17, h18, m5_1, m6_2, m7_3, m13_64, m14_95, m15_124, f255, f256, f257, f258, dc8, dc12, dc17, dc21, db169, dr194, dr211, dr215, dr219, -cellsA, -one1, cAx, o1x]
    refine hk' _ _ _ ?_
    refine Runs.cut (fun ρ H n => ∃ (v266 v267 v268 v269 v270 v271 v272 : AVal), ρ 0 = .list false (aSig.map Control.cells) ∧ ρ 5 = pA n1 5 ∧ ρ 6 = pA (n1 + 1) 6 ∧ ρ 7 = pA (n1 + 2) 7 ∧ ρ 10 = .list true (r32.1.map intC) ∧ ρ 11 = bool r32.2 ∧ ρ 14 = pA n80 14 ∧ ρ 15 = pA n115 15 ∧ ρ 16 = v272 ∧ ρ 17 = bool r141.2 ∧ ρ 18 = int r254.2 ∧ H (n1, 5) = some ⟨6, [bC false aRedex]⟩ ∧ H (n1 + 1, 6) = some ⟨6, [bC false aAgent]⟩ ∧ H (n1 + 2, 7) = some ⟨2, [mC false aM]⟩ ∧ H (n80, 14) = some ⟨6, [[int r77.roots, v266, v267, int r77.edges, v268, v269]]⟩ ∧ H (n115, 15) = some ⟨2, [[v270, v271]]⟩ ∧ Sep H n [oN v266 r77.nodes, oI v267 r77.sites, oS v268 r77.outer, oW v269 r77.inner, oI v270 r112.nodes, oI v271 r112.roots, oI v272 r141.1] [(n115, 15), (n80, 14), (n1 + 2, 7), (n1 + 1, 6), (n1, 5)]) (by refine ⟨v245, v246, v247, v248, v249, v250, v251, ?_, ?_, ?_, ?_, ?_, ?_, ?_, ?_, ?_, ?_, ?_, ?_, ?_, ?_, ?_, ?_, (Sep.sub sp.f7.dr.f7.dr.f7.dr.f7.dr.f6.f6.f6.f6.f6.f6.f6 (by simp +contextual))⟩ <;> simp [h0, h5, h6, h7, h10, h11, h13, h14, h15, h16, h17, h18, m5_1, m6_2, m7_3, m13_64, m14_95, m15_124, f255, f256, f257, f258, dc8, dc12, dc17, dc21, db169, dr194, dr211, dr215, dr219, -cellsA, -one1, cAx, o1x]) ?_
    clear h0 h5 h6 h7 h10 h11 h13 h14 h15 h16 h17 h18 m5_1 m6_2 m7_3 m13_64 m14_95 m15_124
    rintro ρ H n273 ⟨v266, v267, v268, v269, v270, v271, v272, h0, h5, h6, h7, h10, h11, h14, h15, h16, h17, h18, m5_1, m6_2, m7_3, m14_95, m15_124, sp⟩
    refine Runs.seqE Ty_ok (by decide) fun k' hk' => ?_
    obtain ⟨hb274, h⟩ := h
    obtain ⟨r275, er275⟩ : ∃ v : Big × Int, v = markBig r77 r254.2 := ⟨_, rfl⟩
    replace h := h r275 er275
    have f276 := Sep.oc sp
    have f277 := Sep.oc sp.f1
    have f278 := Sep.oc sp.f2
    have f279 := Sep.oc sp.f3
    simp [h0, h5, h6, h7, h10, h11, h14, h15, h16, h17, h18, m5_1, m6_2, m7_3, m14_95, m15_124, f276, f277, f278, f279, dc8, dc12, dc17, dc21, db169, dr194, dr211, dr215, dr219, -cellsA, -one1, cAx, o1x]
    refine RunK.callM (v := .agg [int r77.roots, v266, v267, int r77.edges, v268, v269]) Ty_ok (markBig_ok r77 r254.2 hb274) e23 (Sep.pack (Fill.v _ (Fill.own (Fill.own (Fill.v _ (Fill.own (Fill.own Fill.nil)))))) sp.f3.f3.f3.f3) (by decide) (by decide) rfl (by simp [h0, h5, h6, h7, h10, h11, h14, h15, h16, h17, h18, m5_1, m6_2, m7_3, m14_95, m15_124, f276, f277, f278, f279, dc8, dc12, dc17, dc21, db169, dr194, dr211, dr215, dr219, -cellsA, -one1, cAx, o1x]) ?_
    rintro _ H280 n281 _ ⟨rfl, rfl⟩ sp hle283 hfr282
    rw [← er275] at sp
    rw [← er275]
    replace sp := Sep.unpack sp
    obtain ⟨L284, hv, hl285, sp⟩ := sp
    cases hv
    simp only [zip3, List.cons_append, List.nil_append] at sp
    replace sp := (Sep.scalar sp).2
    replace sp := Sep.rot sp
    try simp only [List.cons_append, List.nil_append, List.append_assoc] at sp
    replace sp := Sep.rot sp
    try simp only [List.cons_append, List.nil_append, List.append_assoc] at sp
    replace sp := (Sep.scalar sp).2
    replace sp := Sep.rot sp
    try simp only [List.cons_append, List.nil_append, List.append_assoc] at sp
    replace sp := Sep.rot sp
    try simp only [List.cons_append, List.nil_append, List.append_assoc] at sp
    replace sp : Sep H280 n281 [oI v270 r112.nodes, oI v271 r112.roots, oI v272 r141.1, oN v266 r275.1.nodes, oI v267 r275.1.sites, oS v268 r275.1.outer, oW v269 r275.1.inner] [(n115, 15), (n80, 14), (n1 + 2, 7), (n1 + 1, 6), (n1, 5)] := sp
    have m5_1 : H280 (n1, 5) = some ⟨6, [bC false aRedex]⟩ := (hfr282 _ (by simp)).trans (by simp [h0, h5, h6, h7, h10, h11, h14, h15, h16, h17, h18, m5_1, m6_2, m7_3, m14_95, m15_124, Heap.get_set])
    have m6_2 : H280 (n1 + 1, 6) = some ⟨6, [bC false aAgent]⟩ := (hfr282 _ (by simp)).trans (by simp [h0, h5, h6, h7, h10, h11, h14, h15, h16, h17, h18, m5_1, m6_2, m7_3, m14_95, m15_124, Heap.get_set])
    have m7_3 : H280 (n1 + 2, 7) = some ⟨2, [mC false aM]⟩ := (hfr282 _ (by simp)).trans (by simp [h0, h5, h6, h7, h10, h11, h14, h15, h16, h17, h18, m5_1, m6_2, m7_3, m14_95, m15_124, Heap.get_set])
    have m14_95 : H280 (n80, 14) = some ⟨6, [[int r77.roots, v266, v267, int r77.edges, v268, v269]]⟩ := (hfr282 _ (by simp)).trans (by simp [h0, h5, h6, h7, h10, h11, h14, h15, h16, h17, h18, m5_1, m6_2, m7_3, m14_95, m15_124, Heap.get_set])
    have m15_124 : H280 (n115, 15) = some ⟨2, [[v270, v271]]⟩ := (hfr282 _ (by simp)).trans (by simp [h0, h5, h6, h7, h10, h11, h14, h15, h16, h17, h18, m5_1, m6_2, m7_3, m14_95, m15_124, Heap.get_set])
    simp [h0, h5, h6, h7, h10, h11, h14, h15, h16, h17, h18, m5_1, m6_2, m7_3, m14_95, m15_124, f276, f277, f278, f279, dc8, dc12, dc17, dc21, db169, dr194, dr211, dr215, dr219, -cellsA, -one1, cAx, o1x]
    refine hk' _ _ _ ?_
    refine Runs.cut (fun ρ H n => ∃ (v287 v288 v289 : AVal), ρ 0 = .list false (aSig.map Control.cells) ∧ ρ 5 = pA n1 5 ∧ ρ 6 = pA (n1 + 1) 6 ∧ ρ 7 = pA (n1 + 2) 7 ∧ ρ 10 = .list true (r32.1.map intC) ∧ ρ 11 = bool r32.2 ∧ ρ 15 = pA n115 15 ∧ ρ 16 = v289 ∧ ρ 17 = bool r141.2 ∧ ρ 18 = int r275.2 ∧ H (n1, 5) = some ⟨6, [bC false aRedex]⟩ ∧ H (n1 + 1, 6) = some ⟨6, [bC false aAgent]⟩ ∧ H (n1 + 2, 7) = some ⟨2, [mC false aM]⟩ ∧ H (n115, 15) = some ⟨2, [[v287, v288]]⟩ ∧ Sep H n [oI v287 r112.nodes, oI v288 r112.roots, oI v289 r141.1] [(n115, 15), (n1 + 2, 7), (n1 + 1, 6), (n1, 5)]) (by refine ⟨v270, v271, v272, ?_, ?_, ?_, ?_, ?_, ?_, ?_, ?_, ?_, ?_, ?_, ?_, ?_, ?_, (Sep.sub sp.f3.dr.f3.dr.f3.dr.f3.dr.f2.f2.f2 (by simp +contextual))⟩ <;> simp [h0, h5, h6, h7, h10, h11, h14, h15, h16, h17, h18, m5_1, m6_2, m7_3, m14_95, m15_124, f276, f277, f278, f279, dc8, dc12, dc17, dc21, db169, dr194, dr211, dr215, dr219, -cellsA, -one1, cAx, o1x]) ?_
    clear h0 h5 h6 h7 h10 h11 h14 h15 h16 h17 h18 m5_1 m6_2 m7_3 m14_95 m15_124
    rintro ρ H n290 ⟨v287, v288, v289, h0, h5, h6, h7, h10, h11, h15, h16, h17, h18, m5_1, m6_2, m7_3, m15_124, sp⟩
    refine Runs.seqE Ty_ok (by decide) fun k' hk' => ?_
    obtain ⟨hb291, h⟩ := h
    obtain ⟨r292, er292⟩ : ∃ v : Match × Int, v = markMatch r112 r275.2 := ⟨_, rfl⟩
    replace h := h r292 er292
    have f293 := Sep.oc sp
    have f294 := Sep.oc sp.f1
    simp [h0, h5, h6, h7, h10, h11, h15, h16, h17, h18, m5_1, m6_2, m7_3, m15_124, f293, f294, dc8, dc12, dc17, dc21, db169, dr194, dr211, dr215, dr219, -cellsA, -one1, cAx, o1x]
    refine RunK.callM (v := .agg [v287, v288]) Ty_ok (markMatch_ok r112 r275.2 hb291) e24 (Sep.pack (Fill.own (Fill.own Fill.nil)) sp.f1.f1) (by decide) (by decide) rfl (by simp [h0, h5, h6, h7, h10, h11, h15, h16, h17, h18, m5_1, m6_2, m7_3, m15_124, f293, f294, dc8, dc12, dc17, dc21, db169, dr194, dr211, dr215, dr219, -cellsA, -one1, cAx, o1x]) ?_
    rintro _ H295 n296 _ ⟨rfl, rfl⟩ sp hle298 hfr297
    rw [← er292] at sp
    rw [← er292]
    replace sp := Sep.unpack sp
    obtain ⟨L299, hv, hl300, sp⟩ := sp
    cases hv
    simp only [zip3, List.cons_append, List.nil_append] at sp
    replace sp := Sep.rot sp
    try simp only [List.cons_append, List.nil_append, List.append_assoc] at sp
    replace sp := Sep.rot sp
    try simp only [List.cons_append, List.nil_append, List.append_assoc] at sp
    replace sp : Sep H295 n296 [oI v289 r141.1, oI v287 r292.1.nodes, oI v288 r292.1.roots] [(n115, 15), (n1 + 2, 7), (n1 + 1, 6), (n1, 5)] := sp
    have m5_1 : H295 (n1, 5) = some ⟨6, [bC false aRedex]⟩ := (hfr297 _ (by simp)).trans (by simp [h0, h5, h6, h7, h10, h11, h15, h16, h17, h18, m5_1, m6_2, m7_3, m15_124, Heap.get_set])
    have m6_2 : H295 (n1 + 1, 6) = some ⟨6, [bC false aAgent]⟩ := (hfr297 _ (by simp)).trans (by simp [h0, h5, h6, h7, h10, h11, h15, h16, h17, h18, m5_1, m6_2, m7_3, m15_124, Heap.get_set])
    have m7_3 : H295 (n1 + 2, 7) = some ⟨2, [mC false aM]⟩ := (hfr297 _ (by simp)).trans (by simp [h0, h5, h6, h7, h10, h11, h15, h16, h17, h18, m5_1, m6_2, m7_3, m15_124, Heap.get_set])
    have m15_124 : H295 (n115, 15) = some ⟨2, [[v287, v288]]⟩ := (hfr297 _ (by simp)).trans (by simp [h0, h5, h6, h7, h10, h11, h15, h16, h17, h18, m5_1, m6_2, m7_3, m15_124, Heap.get_set])
    simp [h0, h5, h6, h7, h10, h11, h15, h16, h17, h18, m5_1, m6_2, m7_3, m15_124, f293, f294, dc8, dc12, dc17, dc21, db169, dr194, dr211, dr215, dr219, -cellsA, -one1, cAx, o1x]
    refine hk' _ _ _ ?_
    refine Runs.cut (fun ρ H n => ∃ (v302 : AVal), ρ 0 = .list false (aSig.map Control.cells) ∧ ρ 5 = pA n1 5 ∧ ρ 6 = pA (n1 + 1) 6 ∧ ρ 7 = pA (n1 + 2) 7 ∧ ρ 10 = .list true (r32.1.map intC) ∧ ρ 11 = bool r32.2 ∧ ρ 16 = v302 ∧ ρ 17 = bool r141.2 ∧ ρ 18 = int r292.2 ∧ H (n1, 5) = some ⟨6, [bC false aRedex]⟩ ∧ H (n1 + 1, 6) = some ⟨6, [bC false aAgent]⟩ ∧ H (n1 + 2, 7) = some ⟨2, [mC false aM]⟩ ∧ Sep H n [oI v302 r141.1] [(n1 + 2, 7), (n1 + 1, 6), (n1, 5)]) (by refine ⟨v289, ?_, ?_, ?_, ?_, ?_, ?_, ?_, ?_, ?_, ?_, ?_, ?_, (Sep.sub sp.f1.dr.f1.dr (by simp +contextual))⟩ <;> simp [h0, h5, h6, h7, h10, h11, h15, h16, h17, h18, m5_1, m6_2, m7_3, m15_124, f293, f294, dc8, dc12, dc17, dc21, db169, dr194, dr211, dr215, dr219, -cellsA, -one1, cAx, o1x]) ?_
    clear h0 h5 h6 h7 h10 h11 h15 h16 h17 h18 m5_1 m6_2 m7_3 m15_124
    rintro ρ H n303 ⟨v302, h0, h5, h6, h7, h10, h11, h16, h17, h18, m5_1, m6_2, m7_3, sp⟩
    refine Runs.seq ?_
    refine Runs.seqE Ty_ok (by decide) fun k' hk' => ?_
    obtain ⟨J304, hJ305, hr306⟩ := h
    have fin309 : ∀ (sJ : Bool) (ρ : Env) (H : Heap) (n : Nat), J304 sJ → (match sJ with | b307 => ∃ (v308 : AVal), ρ 0 = .list false (aSig.map Control.cells) ∧ ρ 5 = pA n1 5 ∧ ρ 6 = pA (n1 + 1) 6 ∧ ρ 7 = pA (n1 + 2) 7 ∧ ρ 10 = .list true (r32.1.map intC) ∧ ρ 11 = bool r32.2 ∧ ρ 16 = v308 ∧ ρ 124 = bool b307 ∧ H (n1, 5) = some ⟨6, [bC false aRedex]⟩ ∧ H (n1 + 1, 6) = some ⟨6, [bC false aAgent]⟩ ∧ H (n1 + 2, 7) = some ⟨2, [mC false aM]⟩ ∧ Sep H n [oI v308 r141.1] [(n1 + 2, 7), (n1 + 1, 6), (n1, 5)]) → Runs Tryz.prog 5 165 k' ρ H n Q := by
      rintro b307 ρ H n310 h ⟨v308, h0, h5, h6, h7, h10, h11, h16, h124, m5_1, m6_2, m7_3, sp⟩
      replace h := hr306 _ h
      refine hk' _ _ _ ?_
      refine Runs.ite (b := b307) (by simp [h0, h5, h6, h7, h10, h11, h16, h124, m5_1, m6_2, m7_3, dc8, dc12, dc17, dc21, db169, dr194, dr211, dr215, dr219]) (fun db307 => ?_) (fun db307 => ?_)
      · replace h := h.1 db307
        refine Runs.seqE Ty_ok (by decide) fun k' hk' => ?_
        simp [h0, h5, h6, h7, h10, h11, h16, h124, m5_1, m6_2, m7_3, dc8, dc12, dc17, dc21, db169, dr194, dr211, dr215, dr219, db307]
        refine hk' _ _ _ ?_
        exact Runs.ret1 (v := bool false) Tryz.func5 Tryz.results5 (by simp [h0, h5, h6, h7, h10, h11, h16, h124, m5_1, m6_2, m7_3, dc8, dc12, dc17, dc21, db169, dr194, dr211, dr215, dr219, db307]) (hQ _ _ _ _ (.of (.v _)) ⟨false, h, rfl⟩)
      replace h := h.2 db307
      refine Runs.skip ?_
      refine Runs.seqE Ty_ok (by decide) fun k' hk' => ?_
      simp [h0, h5, h6, h7, h10, h11, h16, h124, m5_1, m6_2, m7_3, dc8, dc12, dc17, dc21, db169, dr194, dr211, dr215, dr219, db307]
      refine hk' _ _ _ ?_
      refine Runs.seqE Ty_ok (by decide) fun k' hk' => ?_
      obtain ⟨hb311, h⟩ := h
      obtain ⟨r312, er312⟩ : ∃ v : (List Int) × Int, v = markIntS r141.1 1 := ⟨_, rfl⟩
      replace h := h r312 er312
      have f313 := Sep.oc sp
      simp [h0, h5, h6, h7, h10, h11, h16, h124, m5_1, m6_2, m7_3, f313, dc8, dc12, dc17, dc21, db169, dr194, dr211, dr215, dr219, db307, -cellsA, -one1, cAx, o1x]
      refine RunK.callM (v := v308) Ty_ok (markIntS_ok r141.1 1 hb311) e25 sp (by decide) (by decide) rfl (by simp [h0, h5, h6, h7, h10, h11, h16, h124, m5_1, m6_2, m7_3, f313, dc8, dc12, dc17, dc21, db169, dr194, dr211, dr215, dr219, db307, -cellsA, -one1, cAx, o1x]) ?_
      rintro _ H314 n315 _ ⟨rfl, rfl⟩ sp hle317 hfr316
      rw [← er312] at sp
      rw [← er312]
      replace sp : Sep H314 n315 [oI v308 r312.1] [(n1 + 2, 7), (n1 + 1, 6), (n1, 5)] := sp
      have m5_1 : H314 (n1, 5) = some ⟨6, [bC false aRedex]⟩ := (hfr316 _ (by simp)).trans (by simp [h0, h5, h6, h7, h10, h11, h16, h124, m5_1, m6_2, m7_3, Heap.get_set])
      have m6_2 : H314 (n1 + 1, 6) = some ⟨6, [bC false aAgent]⟩ := (hfr316 _ (by simp)).trans (by simp [h0, h5, h6, h7, h10, h11, h16, h124, m5_1, m6_2, m7_3, Heap.get_set])
      have m7_3 : H314 (n1 + 2, 7) = some ⟨2, [mC false aM]⟩ := (hfr316 _ (by simp)).trans (by simp [h0, h5, h6, h7, h10, h11, h16, h124, m5_1, m6_2, m7_3, Heap.get_set])
      simp [h0, h5, h6, h7, h10, h11, h16, h124, m5_1, m6_2, m7_3, f313, dc8, dc12, dc17, dc21, db169, dr194, dr211, dr215, dr219, db307, -cellsA, -one1, cAx, o1x]
      refine hk' _ _ _ ?_
      refine Runs.cut (fun ρ H n => ∃ (v319 : AVal), ρ 0 = .list false (aSig.map Control.cells) ∧ ρ 5 = pA n1 5 ∧ ρ 6 = pA (n1 + 1) 6 ∧ ρ 7 = pA (n1 + 2) 7 ∧ ρ 10 = .list true (r32.1.map intC) ∧ ρ 11 = bool r32.2 ∧ ρ 16 = v319 ∧ ρ 19 = int r312.2 ∧ H (n1, 5) = some ⟨6, [bC false aRedex]⟩ ∧ H (n1 + 1, 6) = some ⟨6, [bC false aAgent]⟩ ∧ H (n1 + 2, 7) = some ⟨2, [mC false aM]⟩ ∧ Sep H n [oI v319 r312.1] [(n1 + 2, 7), (n1 + 1, 6), (n1, 5)]) (by refine ⟨v308, ?_, ?_, ?_, ?_, ?_, ?_, ?_, ?_, ?_, ?_, ?_, sp⟩ <;> simp [h0, h5, h6, h7, h10, h11, h16, h124, m5_1, m6_2, m7_3, f313, dc8, dc12, dc17, dc21, db169, dr194, dr211, dr215, dr219, db307, -cellsA, -one1, cAx, o1x]) ?_
      clear h0 h5 h6 h7 h10 h11 h16 h124 m5_1 m6_2 m7_3
      rintro ρ H n320 ⟨v319, h0, h5, h6, h7, h10, h11, h16, h19, m5_1, m6_2, m7_3, sp⟩
      refine Runs.seqE Ty_ok (by decide) fun k' hk' => ?_
      simp [h0, h5, h6, h7, h10, h11, h16, h19, m5_1, m6_2, m7_3, dc8, dc12, dc17, dc21, db169, dr194, dr211, dr215, dr219, db307]
      refine hk' _ _ _ ?_
      refine Runs.seqE Ty_ok (by decide) fun k' hk' => ?_
      obtain ⟨hb321, h⟩ := h
      obtain ⟨r322, er322⟩ : ∃ v : Int, v = heldIntS r312.1 1 := ⟨_, rfl⟩
      replace h := h r322 er322
      simp [h0, h5, h6, h7, h10, h11, h16, h19, m5_1, m6_2, m7_3, dc8, dc12, dc17, dc21, db169, dr194, dr211, dr215, dr219, db307]
      refine RunK.callA Ty_ok (heldIntS_ok r312.1 1 hb321) e26 (.cons (Sep.argOk' sp (old_listF (by simp))) (.cons (.v _ _ _) .nil)) (by decide) (by decide) rfl (by simp [h0, h5, h6, h7, h10, h11, h16, h19, m5_1, m6_2, m7_3, dc8, dc12, dc17, dc21, db169, dr194, dr211, dr215, dr219, db307]) ?_
      rintro _ rfl
      rw [← er322]
      simp [h0, h5, h6, h7, h10, h11, h16, h19, m5_1, m6_2, m7_3, dc8, dc12, dc17, dc21, db169, dr194, dr211, dr215, dr219, db307]
      refine hk' _ _ _ ?_
      refine Runs.seq ?_
      refine Runs.seqE Ty_ok (by decide) fun k' hk' => ?_
      obtain ⟨c323, ec323⟩ : ∃ v : Bool, v = decide (r322 < 0) := ⟨_, rfl⟩
      replace h := h c323 ec323
      have f324 := ib_lss (k := .i64) ec323
      simp [h0, h5, h6, h7, h10, h11, h16, h19, m5_1, m6_2, m7_3, f324, dc8, dc12, dc17, dc21, db169, dr194, dr211, dr215, dr219, db307, -intBin]
      refine hk' _ _ _ ?_
      refine Runs.ite (b := c323) (by simp [h0, h5, h6, h7, h10, h11, h16, h19, m5_1, m6_2, m7_3, dc8, dc12, dc17, dc21, db169, dr194, dr211, dr215, dr219, db307]) (fun dc323 => ?_) (fun dc323 => ?_)
      · replace h := h.1 dc323
        refine Runs.seqE Ty_ok (by decide) fun k' hk' => ?_
        simp [h0, h5, h6, h7, h10, h11, h16, h19, m5_1, m6_2, m7_3, dc8, dc12, dc17, dc21, db169, dr194, dr211, dr215, dr219, db307, dc323]
        refine hk' _ _ _ ?_
        exact Runs.ret1 (v := bool false) Tryz.func5 Tryz.results5 (by simp [h0, h5, h6, h7, h10, h11, h16, h19, m5_1, m6_2, m7_3, dc8, dc12, dc17, dc21, db169, dr194, dr211, dr215, dr219, db307, dc323]) (hQ _ _ _ _ (.of (.v _)) ⟨false, h, rfl⟩)
      replace h := h.2 dc323
      refine Runs.skip ?_
      refine Runs.seq ?_
      refine Runs.seqE Ty_ok (by decide) fun k' hk' => ?_
      obtain ⟨c325, ec325⟩ : ∃ v : Bool, v = decide (r322 ≠ r312.2) := ⟨_, rfl⟩
      replace h := h c325 ec325
      have f326 := ib_neq (k := .i64) ec325
      simp [h0, h5, h6, h7, h10, h11, h16, h19, m5_1, m6_2, m7_3, f326, dc8, dc12, dc17, dc21, db169, dr194, dr211, dr215, dr219, db307, dc323, -intBin]
      refine hk' _ _ _ ?_
      refine Runs.ite (b := c325) (by simp [h0, h5, h6, h7, h10, h11, h16, h19, m5_1, m6_2, m7_3, dc8, dc12, dc17, dc21, db169, dr194, dr211, dr215, dr219, db307, dc323]) (fun dc325 => ?_) (fun dc325 => ?_)
      · replace h := h.1 dc325
        refine Runs.seqE Ty_ok (by decide) fun k' hk' => ?_
        simp [h0, h5, h6, h7, h10, h11, h16, h19, m5_1, m6_2, m7_3, dc8, dc12, dc17, dc21, db169, dr194, dr211, dr215, dr219, db307, dc323, dc325]
        refine hk' _ _ _ ?_
        exact Runs.ret1 (v := bool false) Tryz.func5 Tryz.results5 (by simp [h0, h5, h6, h7, h10, h11, h16, h19, m5_1, m6_2, m7_3, dc8, dc12, dc17, dc21, db169, dr194, dr211, dr215, dr219, db307, dc323, dc325]) (hQ _ _ _ _ (.of (.v _)) ⟨false, h, rfl⟩)
      replace h := h.2 dc325
      refine Runs.skip ?_
      refine Runs.seqD Ty_ok kindOp_ok draws (by decide) (by kernel_rfl) fun k' hk' => ?_
      obtain ⟨hb327, h⟩ := h
      obtain ⟨r328, er328⟩ : ∃ v : List Control, v = toControlS aSig := ⟨_, rfl⟩
      replace h := h r328 er328
      simp [h0, h5, h6, h7, h10, h11, h16, h19, m5_1, m6_2, m7_3, dc8, dc12, dc17, dc21, db169, dr194, dr211, dr215, dr219, db307, dc323, dc325]
      refine RunDK.callA Ty_ok kindOp_ok ((toControlS_ok aSig hb327).pure) e10 (.cons (argC false aSig) .nil) (by decide) rfl (by simp [h0, h5, h6, h7, h10, h11, h16, h19, m5_1, m6_2, m7_3, dc8, dc12, dc17, dc21, db169, dr194, dr211, dr215, dr219, db307, dc323, dc325]) ?_
      rw [← er328]
      obtain ⟨hb329, h⟩ := h
      obtain ⟨r330, er330⟩ : ∃ v : Big, v = toBigraph aRedex := ⟨_, rfl⟩
      replace h := h r330 er330
      simp [h0, h5, h6, h7, h10, h11, h16, h19, m5_1, m6_2, m7_3, dc8, dc12, dc17, dc21, db169, dr194, dr211, dr215, dr219, db307, dc323, dc325]
      refine RunDK.callA Ty_ok kindOp_ok ((toBigraph_ok aRedex hb329).pure) e11 (.cons (argB false aRedex) .nil) (by decide) rfl (by simp [h0, h5, h6, h7, h10, h11, h16, h19, m5_1, m6_2, m7_3, dc8, dc12, dc17, dc21, db169, dr194, dr211, dr215, dr219, db307, dc323, dc325]) ?_
      rw [← er330]
      obtain ⟨hb331, h⟩ := h
      obtain ⟨r332, er332⟩ : ∃ v : Big, v = toBigraph aAgent := ⟨_, rfl⟩
      replace h := h r332 er332
      simp [h0, h5, h6, h7, h10, h11, h16, h19, m5_1, m6_2, m7_3, dc8, dc12, dc17, dc21, db169, dr194, dr211, dr215, dr219, db307, dc323, dc325]
      refine RunDK.callA Ty_ok kindOp_ok ((toBigraph_ok aAgent hb331).pure) e11 (.cons (argB false aAgent) .nil) (by decide) rfl (by simp [h0, h5, h6, h7, h10, h11, h16, h19, m5_1, m6_2, m7_3, dc8, dc12, dc17, dc21, db169, dr194, dr211, dr215, dr219, db307, dc323, dc325]) ?_
      rw [← er332]
      obtain ⟨hb333, h⟩ := h
      obtain ⟨r334, er334⟩ : ∃ v : Match, v = toMatch aM := ⟨_, rfl⟩
      replace h := h r334 er334
      simp [h0, h5, h6, h7, h10, h11, h16, h19, m5_1, m6_2, m7_3, dc8, dc12, dc17, dc21, db169, dr194, dr211, dr215, dr219, db307, dc323, dc325]
      refine RunDK.callA Ty_ok kindOp_ok ((toMatch_ok aM hb333).pure) e12 (.cons (argM false aM) .nil) (by decide) rfl (by simp [h0, h5, h6, h7, h10, h11, h16, h19, m5_1, m6_2, m7_3, dc8, dc12, dc17, dc21, db169, dr194, dr211, dr215, dr219, db307, dc323, dc325]) ?_
      rw [← er334]
      obtain ⟨hb335, h⟩ := h
      obtain ⟨r336, er336⟩ : ∃ v : (List Int) × Bool, v = MatchLinks r328 r330 r332 r334 := ⟨_, rfl⟩
      replace h := h r336 er336
      simp [h0, h5, h6, h7, h10, h11, h16, h19, m5_1, m6_2, m7_3, dc8, dc12, dc17, dc21, db169, dr194, dr211, dr215, dr219, db307, dc323, dc325]
      refine RunDK.callA Ty_ok kindOp_ok ((MatchLinks_ok r328 r330 r332 r334 hb335).pure) e20 (.cons (argC true r328) (.cons (argB true r330) (.cons (argB true r332) (.cons (argM true r334) .nil)))) (by decide) rfl (by simp [h0, h5, h6, h7, h10, h11, h16, h19, m5_1, m6_2, m7_3, dc8, dc12, dc17, dc21, db169, dr194, dr211, dr215, dr219, db307, dc323, dc325]) ?_
      rw [← er336]
      simp [h0, h5, h6, h7, h10, h11, h16, h19, m5_1, m6_2, m7_3, dc8, dc12, dc17, dc21, db169, dr194, dr211, dr215, dr219, db307, dc323, dc325]
      refine hk' _ _ _ ?_
      refine Runs.cut (fun ρ H n => ∃ (v337 : AVal), ρ 10 = .list true (r32.1.map intC) ∧ ρ 11 = bool r32.2 ∧ ρ 16 = v337 ∧ ρ 19 = int r312.2 ∧ ρ 21 = .list true (r336.1.map intC) ∧ ρ 22 = bool r336.2 ∧ Sep H n [oI v337 r312.1] []) (by refine ⟨v319, ?_, ?_, ?_, ?_, ?_, ?_, (Sep.sub sp (by simp +contextual))⟩ <;> simp [h0, h5, h6, h7, h10, h11, h16, h19, m5_1, m6_2, m7_3, dc8, dc12, dc17, dc21, db169, dr194, dr211, dr215, dr219, db307, dc323, dc325]) ?_
      clear h0 h5 h6 h7 h10 h11 h16 h19 m5_1 m6_2 m7_3
      rintro ρ H n338 ⟨v337, h10, h11, h16, h19, h21, h22, sp⟩
      refine Runs.seq ?_
      refine Runs.seqE Ty_ok (by decide) fun k' hk' => ?_
      obtain ⟨J339, hJ340, hr341⟩ := h
      have fin344 : ∀ (sJ : Bool) (ρ : Env) (H : Heap) (n : Nat), J339 sJ → (match sJ with | b342 => ∃ (v343 : AVal), ρ 16 = v343 ∧ ρ 19 = int r312.2 ∧ ρ 156 = bool b342 ∧ Sep H n [oI v343 r312.1] []) → Runs Tryz.prog 5 165 k' ρ H n Q := by
        rintro b342 ρ H n345 h ⟨v343, h16, h19, h156, sp⟩
        replace h := hr341 _ h
        refine hk' _ _ _ ?_
        refine Runs.ite (b := b342) (by simp [h16, h19, h156, dc8, dc12, dc17, dc21, db169, dr194, dr211, dr215, dr219, db307, dc323, dc325]) (fun db342 => ?_) (fun db342 => ?_)
        · replace h := h.1 db342
          refine Runs.seqE Ty_ok (by decide) fun k' hk' => ?_
          simp [h16, h19, h156, dc8, dc12, dc17, dc21, db169, dr194, dr211, dr215, dr219, db307, dc323, dc325, db342]
          refine hk' _ _ _ ?_
          exact Runs.ret1 (v := bool false) Tryz.func5 Tryz.results5 (by simp [h16, h19, h156, dc8, dc12, dc17, dc21, db169, dr194, dr211, dr215, dr219, db307, dc323, dc325, db342]) (hQ _ _ _ _ (.of (.v _)) ⟨false, h, rfl⟩)
        replace h := h.2 db342
        refine Runs.skip ?_
        refine Runs.seqE Ty_ok (by decide) fun k' hk' => ?_
        simp [h16, h19, h156, dc8, dc12, dc17, dc21, db169, dr194, dr211, dr215, dr219, db307, dc323, dc325, db342]
        refine hk' _ _ _ ?_
        refine Runs.seqE Ty_ok (by decide) fun k' hk' => ?_
        obtain ⟨hb346, h⟩ := h
        obtain ⟨r347, er347⟩ : ∃ v : Int, v = heldIntS r312.1 1 := ⟨_, rfl⟩
        replace h := h r347 er347
        simp [h16, h19, h156, dc8, dc12, dc17, dc21, db169, dr194, dr211, dr215, dr219, db307, dc323, dc325, db342]
        refine RunK.callA Ty_ok (heldIntS_ok r312.1 1 hb346) e26 (.cons (Sep.argOk' sp (old_listF (by simp))) (.cons (.v _ _ _) .nil)) (by decide) (by decide) rfl (by simp [h16, h19, h156, dc8, dc12, dc17, dc21, db169, dr194, dr211, dr215, dr219, db307, dc323, dc325, db342]) ?_
        rintro _ rfl
        rw [← er347]
        simp [h16, h19, h156, dc8, dc12, dc17, dc21, db169, dr194, dr211, dr215, dr219, db307, dc323, dc325, db342]
        refine hk' _ _ _ ?_
        refine Runs.seq ?_
        refine Runs.seqE Ty_ok (by decide) fun k' hk' => ?_
        obtain ⟨c348, ec348⟩ : ∃ v : Bool, v = decide (r347 < 0) := ⟨_, rfl⟩
        replace h := h c348 ec348
        have f349 := ib_lss (k := .i64) ec348
        simp [h16, h19, h156, f349, dc8, dc12, dc17, dc21, db169, dr194, dr211, dr215, dr219, db307, dc323, dc325, db342, -intBin]
        refine hk' _ _ _ ?_
        refine Runs.ite (b := c348) (by simp [h16, h19, h156, dc8, dc12, dc17, dc21, db169, dr194, dr211, dr215, dr219, db307, dc323, dc325, db342]) (fun dc348 => ?_) (fun dc348 => ?_)
        · replace h := h.1 dc348
          refine Runs.seqE Ty_ok (by decide) fun k' hk' => ?_
          simp [h16, h19, h156, dc8, dc12, dc17, dc21, db169, dr194, dr211, dr215, dr219, db307, dc323, dc325, db342, dc348]
          refine hk' _ _ _ ?_
          exact Runs.ret1 (v := bool false) Tryz.func5 Tryz.results5 (by simp [h16, h19, h156, dc8, dc12, dc17, dc21, db169, dr194, dr211, dr215, dr219, db307, dc323, dc325, db342, dc348]) (hQ _ _ _ _ (.of (.v _)) ⟨false, h, rfl⟩)
        replace h := h.2 dc348
        refine Runs.skip ?_
        refine Runs.seq ?_
        refine Runs.seqE Ty_ok (by decide) fun k' hk' => ?_
        obtain ⟨c350, ec350⟩ : ∃ v : Bool, v = decide (r347 ≠ r312.2) := ⟨_, rfl⟩
        replace h := h c350 ec350
        have f351 := ib_neq (k := .i64) ec350
        simp [h16, h19, h156, f351, dc8, dc12, dc17, dc21, db169, dr194, dr211, dr215, dr219, db307, dc323, dc325, db342, dc348, -intBin]
        refine hk' _ _ _ ?_
        refine Runs.ite (b := c350) (by simp [h16, h19, h156, dc8, dc12, dc17, dc21, db169, dr194, dr211, dr215, dr219, db307, dc323, dc325, db342, dc348]) (fun dc350 => ?_) (fun dc350 => ?_)
        · replace h := h.1 dc350
          refine Runs.seqE Ty_ok (by decide) fun k' hk' => ?_
          simp [h16, h19, h156, dc8, dc12, dc17, dc21, db169, dr194, dr211, dr215, dr219, db307, dc323, dc325, db342, dc348, dc350]
          refine hk' _ _ _ ?_
          exact Runs.ret1 (v := bool false) Tryz.func5 Tryz.results5 (by simp [h16, h19, h156, dc8, dc12, dc17, dc21, db169, dr194, dr211, dr215, dr219, db307, dc323, dc325, db342, dc348, dc350]) (hQ _ _ _ _ (.of (.v _)) ⟨false, h, rfl⟩)
        replace h := h.2 dc350
        refine Runs.skip ?_
        refine Runs.seqE Ty_ok (by decide) fun k' hk' => ?_
        simp [h16, h19, h156, dc8, dc12, dc17, dc21, db169, dr194, dr211, dr215, dr219, db307, dc323, dc325, db342, dc348, dc350]
        refine hk' _ _ _ ?_
        exact Runs.ret1 (v := bool true) Tryz.func5 Tryz.results5 (by simp [h16, h19, h156, dc8, dc12, dc17, dc21, db169, dr194, dr211, dr215, dr219, db307, dc323, dc325, db342, dc348, dc350]) (hQ _ _ _ _ (.of (.v _)) ⟨true, h, rfl⟩)
      replace h := hJ340
      obtain ⟨hb352, h⟩ := h
      obtain ⟨r353, er353⟩ : ∃ v : Bool, v = decide (r336.1 = r32.1) := ⟨_, rfl⟩
      replace h := h r353 er353
      simp [h10, h11, h16, h19, h21, h22, dc8, dc12, dc17, dc21, db169, dr194, dr211, dr215, dr219, db307, dc323, dc325]
      refine RunK.callA Ty_ok (eqIntS_ok r336.1 r32.1 hb352) e21 (.cons (argI true r336.1) (.cons (argI true r32.1) .nil)) (by decide) (by decide) rfl (by simp [h10, h11, h16, h19, h21, h22, dc8, dc12, dc17, dc21, db169, dr194, dr211, dr215, dr219, db307, dc323, dc325]) ?_
      rintro _ rfl
      rw [← er353]
      rcases Bool.eq_false_or_eq_true r353 with dr353 | dr353
      · replace h := h.1 dr353
        obtain ⟨c354, ec354⟩ : ∃ v : Bool, v = !(r336.2 == r32.2) := ⟨_, rfl⟩
        replace h := h c354 ec354
        have f355 := bb_neq ec354
        simp [h10, h11, h16, h19, h21, h22, f355, dc8, dc12, dc17, dc21, db169, dr194, dr211, dr215, dr219, db307, dc323, dc325, dr353, -boolBin]
        exact fin344 (c354) _ _ _ h (by refine ⟨v337, ?_, ?_, ?_, sp⟩ <;> simp [h10, h11, h16, h19, h21, h22, f355, dc8, dc12, dc17, dc21, db169, dr194, dr211, dr215, dr219, db307, dc323, dc325, dr353, -boolBin])
      replace h := h.2 dr353
      simp [h10, h11, h16, h19, h21, h22, dc8, dc12, dc17, dc21, db169, dr194, dr211, dr215, dr219, db307, dc323, dc325, dr353]
      exact fin344 (true) _ _ _ h (by refine ⟨v337, ?_, ?_, ?_, sp⟩ <;> simp [h10, h11, h16, h19, h21, h22, dc8, dc12, dc17, dc21, db169, dr194, dr211, dr215, dr219, db307, dc323, dc325, dr353])
    replace h := hJ305
    obtain ⟨c356, ec356⟩ : ∃ v : Bool, v = decide (r292.2 < 0) := ⟨_, rfl⟩
    replace h := h c356 ec356
    have f357 := ib_lss (k := .i64) ec356
    rcases Bool.eq_false_or_eq_true c356 with dc356 | dc356
    · replace h := h.1 dc356
      simp [h0, h5, h6, h7, h10, h11, h16, h17, h18, m5_1, m6_2, m7_3, f357, dc8, dc12, dc17, dc21, db169, dr194, dr211, dr215, dr219, dc356, -intBin]
      exact fin309 (true) _ _ _ h (by refine ⟨v302, ?_, ?_, ?_, ?_, ?_, ?_, ?_, ?_, ?_, ?_, ?_, sp⟩ <;> simp [h0, h5, h6, h7, h10, h11, h16, h17, h18, m5_1, m6_2, m7_3, f357, dc8, dc12, dc17, dc21, db169, dr194, dr211, dr215, dr219, dc356, -intBin])
    replace h := h.2 dc356
    obtain ⟨hb358, h⟩ := h
    obtain ⟨r359, er359⟩ : ∃ v : Bool, v = decide (r141.1 = r32.1) := ⟨_, rfl⟩
    replace h := h r359 er359
    simp [h0, h5, h6, h7, h10, h11, h16, h17, h18, m5_1, m6_2, m7_3, f357, dc8, dc12, dc17, dc21, db169, dr194, dr211, dr215, dr219, dc356, -intBin]
    refine RunK.callA Ty_ok (eqIntS_ok r141.1 r32.1 hb358) e21 (.cons (Sep.argOk' sp (old_listF (by simp))) (.cons (argI true r32.1) .nil)) (by decide) (by decide) rfl (by simp [h0, h5, h6, h7, h10, h11, h16, h17, h18, m5_1, m6_2, m7_3, f357, dc8, dc12, dc17, dc21, db169, dr194, dr211, dr215, dr219, dc356, -intBin]) ?_
    rintro _ rfl
    rw [← er359]
    rcases Bool.eq_false_or_eq_true r359 with dr359 | dr359
    · replace h := h.1 dr359
      obtain ⟨c360, ec360⟩ : ∃ v : Bool, v = !(r141.2 == r32.2) := ⟨_, rfl⟩
      replace h := h c360 ec360
      have f361 := bb_neq ec360
      simp [h0, h5, h6, h7, h10, h11, h16, h17, h18, m5_1, m6_2, m7_3, f357, f361, dc8, dc12, dc17, dc21, db169, dr194, dr211, dr215, dr219, dc356, dr359, -boolBin, -intBin]
      exact fin309 (c360) _ _ _ h (by refine ⟨v302, ?_, ?_, ?_, ?_, ?_, ?_, ?_, ?_, ?_, ?_, ?_, sp⟩ <;> simp [h0, h5, h6, h7, h10, h11, h16, h17, h18, m5_1, m6_2, m7_3, f357, f361, dc8, dc12, dc17, dc21, db169, dr194, dr211, dr215, dr219, dc356, dr359, -boolBin, -intBin])
    replace h := h.2 dr359
    simp [h0, h5, h6, h7, h10, h11, h16, h17, h18, m5_1, m6_2, m7_3, f357, dc8, dc12, dc17, dc21, db169, dr194, dr211, dr215, dr219, dc356, dr359, -intBin]
    exact fin309 (true) _ _ _ h (by refine ⟨v302, ?_, ?_, ?_, ?_, ?_, ?_, ?_, ?_, ?_, ?_, ?_, sp⟩ <;> simp [h0, h5, h6, h7, h10, h11, h16, h17, h18, m5_1, m6_2, m7_3, f357, dc8, dc12, dc17, dc21, db169, dr194, dr211, dr215, dr219, dc356, dr359, -intBin])
  replace h := hJ167
  obtain ⟨hb362, h⟩ := h
  obtain ⟨r363, er363⟩ : ∃ v : Bool, v = decide (r141.1 = r32.1) := ⟨_, rfl⟩
  replace h := h r363 er363
  simp [h0, h5, h6, h7, h10, h11, h12, h13, h14, h15, h16, h17, m5_1, m6_2, m7_3, m13_64, m14_95, m15_124, dc8, dc12, dc17, dc21]
  refine RunK.callA Ty_ok (eqIntS_ok r141.1 r32.1 hb362) e21 (.cons (Sep.argOk' sp.f11 (old_listF (by simp))) (.cons (argI true r32.1) .nil)) (by decide) (by decide) rfl (by simp [h0, h5, h6, h7, h10, h11, h12, h13, h14, h15, h16, h17, m5_1, m6_2, m7_3, m13_64, m14_95, m15_124, dc8, dc12, dc17, dc21]) ?_
  rintro _ rfl
  rw [← er363]
  rcases Bool.eq_false_or_eq_true r363 with dr363 | dr363
  · replace h := h.1 dr363
    obtain ⟨c364, ec364⟩ : ∃ v : Bool, v = !(r141.2 == r32.2) := ⟨_, rfl⟩
    replace h := h c364 ec364
    have f365 := bb_neq ec364
    simp [h0, h5, h6, h7, h10, h11, h12, h13, h14, h15, h16, h17, m5_1, m6_2, m7_3, m13_64, m14_95, m15_124, f365, dc8, dc12, dc17, dc21, dr363, -boolBin]
    exact fin182 (c364) _ _ _ h (by refine ⟨v153, v154, v155, v156, v157, v158, v159, v160, v161, v162, v163, v164, ?_, ?_, ?_, ?_, ?_, ?_, ?_, ?_, ?_, ?_, ?_, ?_, ?_, ?_, ?_, ?_, ?_, ?_, ?_, sp.f11.f11.f11.f11.f11.f11.f11.f11.f11.f11.f11.f11⟩ <;> simp [h0, h5, h6, h7, h10, h11, h12, h13, h14, h15, h16, h17, m5_1, m6_2, m7_3, m13_64, m14_95, m15_124, f365, dc8, dc12, dc17, dc21, dr363, -boolBin])
  replace h := h.2 dr363
  simp [h0, h5, h6, h7, h10, h11, h12, h13, h14, h15, h16, h17, m5_1, m6_2, m7_3, m13_64, m14_95, m15_124, dc8, dc12, dc17, dc21, dr363]
  exact fin182 (true) _ _ _ h (by refine ⟨v153, v154, v155, v156, v157, v158, v159, v160, v161, v162, v163, v164, ?_, ?_, ?_, ?_, ?_, ?_, ?_, ?_, ?_, ?_, ?_, ?_, ?_, ?_, ?_, ?_, ?_, ?_, ?_, sp.f11.f11.f11.f11.f11.f11.f11.f11.f11.f11.f11.f11⟩ <;> simp [h0, h5, h6, h7, h10, h11, h12, h13, h14, h15, h16, h17, m5_1, m6_2, m7_3, m13_64, m14_95, m15_124, dc8, dc12, dc17, dc21, dr363])

theorem lawLinks_ok (aSig : List Control) (aRedex : Big) (aAgent : Big) (aM : Match) (hp : lawLinks_pre aSig aRedex aAgent aM) : PureC Tryz.prog 5 [.list false (aSig.map Control.cells), .agg (bC false aRedex), .agg (bC false aAgent), .agg (mC false aM)] (fun r => r = bool (lawLinks aSig aRedex aAgent aM)) := (lawLinks_walk aSig aRedex aAgent aM _ (lawLinks_vc aSig aRedex aAgent aM hp)).mono (by rintro _ ⟨_, rfl, rfl⟩; rfl)
end Go.Ab.Vg
