/- Merged texts (13 of 15) of the proof that ends in M2y: Mdw. -/
import Derived.Test.YtgdmihplkgkiiaaGreatDoorAbQm212
/- Walks by program for YtgdmihplkgkiiaaGreatDoorAbMd. -/
namespace Go.Ab.Vg
open Go.Proofs
set_option maxRecDepth 100000
set_option linter.unusedSimpArgs false
set_option linter.unusedVariables false
attribute [local simp] Control.cells GNode.cells Wire.cells intC sliceC strC bC mC pA
theorem e12 : Ent Tryz.prog 12 := Ent.of Tryz.func12 (by kernel_rfl) rfl
theorem toMatch_walk (a : Match) (Z : Match → Prop) (h : toMatch_wp a Z) : OwnS Tryz.prog 12 [.agg (mC false a)] (.a [.s [.c], .s [.c]]) (fun r => ∃ y : Match, Z y ∧ r = .agg (mC true y)) := by
  unfold toMatch_wp at h
  have sp : Sep noHeap 0 [] [] := Sep.nil (by simp)
  refine OwnS.of Tryz.func12 rfl Tryz.ntmps12 (by simp) fun Q hQ => ?_
  refine Runs.cut (fun ρ H n => ρ 0 = .agg (mC false a) ∧ Sep H n [] []) (by refine ⟨?_, sp⟩ <;> simp ) ?_
  rintro ρ H n1 ⟨h0, sp⟩
  refine Runs.seqE Ty_ok (by decide) fun k' hk' => ?_
  simp [h0]
  refine hk' _ _ _ ?_
  refine Runs.cut (fun ρ H n => ρ 1 = pA n1 1 ∧ ρ 2 = pA (n1 + 1) 2 ∧ H (n1, 1) = some ⟨2, [mC false a]⟩ ∧ H (n1 + 1, 2) = some ⟨2, [[.v (.slice none 0 0), .v (.slice none 0 0)]]⟩ ∧ Sep H n [] [(n1 + 1, 2), (n1, 1)]) (by refine ⟨?_, ?_, ?_, ?_, sp.var.var⟩ <;> simp [h0]) ?_
  clear h0
  rintro ρ H n4 ⟨h1, h2, m1_1, m2_2, sp⟩
  refine Runs.seqE Ty_ok (by decide) fun k' hk' => ?_
  simp [h1, h2, m1_1, m2_2]
  refine hk' _ _ _ ?_
  refine Runs.cut (fun ρ H n => ρ 1 = pA n1 1 ∧ ρ 2 = pA (n1 + 1) 2 ∧ ρ 3 = pA n4 3 ∧ H (n1, 1) = some ⟨2, [mC false a]⟩ ∧ H (n1 + 1, 2) = some ⟨2, [[.v (.slice none 0 0), .v (.slice none 0 0)]]⟩ ∧ H (n4, 3) = some ⟨2, [[.v (.slice none 0 0), .v (.slice none 0 0)]]⟩ ∧ Sep H n [] [(n4, 3), (n1 + 1, 2), (n1, 1)]) (by refine ⟨?_, ?_, ?_, ?_, ?_, ?_, sp.var⟩ <;> simp [h1, h2, m1_1, m2_2]) ?_
  clear h1 h2 m1_1 m2_2
  rintro ρ H n6 ⟨h1, h2, h3, m1_1, m2_2, m3_4, sp⟩
  refine Runs.seqE Ty_ok (by decide) fun k' hk' => ?_
  obtain ⟨hb7, h⟩ := h
  obtain ⟨r8, er8⟩ : ∃ v : List Int, v = toIntS a.nodes := ⟨_, rfl⟩
  replace h := h r8 er8
  simp [h1, h2, h3, m1_1, m2_2, m3_4]
  refine RunK.callW Ty_ok (toIntS_ok a.nodes hb7) e36 (.cons (argI false a.nodes) .nil) sp (by decide) (by decide) rfl (by simp [h1, h2, h3, m1_1, m2_2, m3_4]) ?_
  rintro v9 H10 n11 _ sp rfl hle13 hfr12
  rw [← er8] at sp
  have m1_1 : H10 (n1, 1) = some ⟨2, [mC false a]⟩ := (hfr12 _ (by simp)).trans (by simp [h1, h2, h3, m1_1, m2_2, m3_4, Heap.get_set])
  have m2_2 : H10 (n1 + 1, 2) = some ⟨2, [[.v (.slice none 0 0), .v (.slice none 0 0)]]⟩ := (hfr12 _ (by simp)).trans (by simp [h1, h2, h3, m1_1, m2_2, m3_4, Heap.get_set])
  have m3_4 : H10 (n4, 3) = some ⟨2, [[.v (.slice none 0 0), .v (.slice none 0 0)]]⟩ := (hfr12 _ (by simp)).trans (by simp [h1, h2, h3, m1_1, m2_2, m3_4, Heap.get_set])
  have f16 := Sep.oc sp
  simp [h1, h2, h3, m1_1, m2_2, m3_4, f16, -cellsA, -one1, cAx, o1x]
  refine hk' _ _ _ ?_
  refine Runs.cut (fun ρ H n => ∃ (v17 : AVal), ρ 1 = pA n1 1 ∧ ρ 2 = pA (n1 + 1) 2 ∧ ρ 3 = pA n4 3 ∧ H (n1, 1) = some ⟨2, [mC false a]⟩ ∧ H (n1 + 1, 2) = some ⟨2, [[.v (.slice none 0 0), .v (.slice none 0 0)]]⟩ ∧ H (n4, 3) = some ⟨2, [[v17, .v (.slice none 0 0)]]⟩ ∧ Sep H n [oI v17 r8] [(n4, 3), (n1 + 1, 2), (n1, 1)]) (by refine ⟨v9, ?_, ?_, ?_, ?_, ?_, ?_, (Sep.setVar (w := (n4, 3)) sp (by simp))⟩ <;> simp [h1, h2, h3, m1_1, m2_2, m3_4, f16, -cellsA, -one1, cAx, o1x]) ?_
  clear h1 h2 h3 m1_1 m2_2 m3_4
  rintro ρ H n18 ⟨v17, h1, h2, h3, m1_1, m2_2, m3_4, sp⟩
  refine Runs.seqE Ty_ok (by decide) fun k' hk' => ?_
  obtain ⟨hb19, h⟩ := h
  obtain ⟨r20, er20⟩ : ∃ v : List Int, v = toIntS a.roots := ⟨_, rfl⟩
  replace h := h r20 er20
  simp [h1, h2, h3, m1_1, m2_2, m3_4]
  refine RunK.callW Ty_ok (toIntS_ok a.roots hb19) e36 (.cons (argI false a.roots) .nil) sp (by decide) (by decide) rfl (by simp [h1, h2, h3, m1_1, m2_2, m3_4]) ?_
  rintro v21 H22 n23 _ sp rfl hle25 hfr24
  rw [← er20] at sp
  have m1_1 : H22 (n1, 1) = some ⟨2, [mC false a]⟩ := (hfr24 _ (by simp)).trans (by simp [h1, h2, h3, m1_1, m2_2, m3_4, Heap.get_set])
  have m2_2 : H22 (n1 + 1, 2) = some ⟨2, [[.v (.slice none 0 0), .v (.slice none 0 0)]]⟩ := (hfr24 _ (by simp)).trans (by simp [h1, h2, h3, m1_1, m2_2, m3_4, Heap.get_set])
  have m3_4 : H22 (n4, 3) = some ⟨2, [[v17, .v (.slice none 0 0)]]⟩ := (hfr24 _ (by simp)).trans (by simp [h1, h2, h3, m1_1, m2_2, m3_4, Heap.get_set])
  have f28 := Sep.oc sp
  simp [h1, h2, h3, m1_1, m2_2, m3_4, f28, -cellsA, -one1, cAx, o1x]
  refine hk' _ _ _ ?_
  refine Runs.cut (fun ρ H n => ∃ (v29 v30 : AVal), ρ 2 = pA (n1 + 1) 2 ∧ ρ 3 = pA n4 3 ∧ H (n1 + 1, 2) = some ⟨2, [[.v (.slice none 0 0), .v (.slice none 0 0)]]⟩ ∧ H (n4, 3) = some ⟨2, [[v30, v29]]⟩ ∧ Sep H n [oI v29 r20, oI v30 r8] [(n4, 3), (n1 + 1, 2)]) (by refine ⟨v21, v17, ?_, ?_, ?_, ?_, (Sep.sub (Sep.f1 (Sep.f1 (Sep.setVar (w := (n4, 3)) sp (by simp)))) (by simp +contextual))⟩ <;> simp [h1, h2, h3, m1_1, m2_2, m3_4, f28, -cellsA, -one1, cAx, o1x]) ?_
  clear h1 h2 h3 m1_1 m2_2 m3_4
  rintro ρ H n31 ⟨v29, v30, h2, h3, m2_2, m3_4, sp⟩
  refine Runs.seqE Ty_ok (by decide) fun k' hk' => ?_
  have f32 := Sep.oc sp.f1
  have f33 := Sep.oc sp
  simp [h2, h3, m2_2, m3_4, f32, f33, -cellsA, -one1, cAx, o1x]
  refine hk' _ _ _ ?_
  refine Runs.cut (fun ρ H n => ∃ (v34 v35 : AVal), ρ 2 = pA (n1 + 1) 2 ∧ H (n1 + 1, 2) = some ⟨2, [[v35, v34]]⟩ ∧ Sep H n [oI v34 r20, oI v35 r8] [(n1 + 1, 2)]) (by refine ⟨v29, v30, ?_, ?_, (Sep.sub (Sep.f1 (Sep.f1 (Sep.setVar (w := (n1 + 1, 2)) sp (by simp)))) (by simp +contextual))⟩ <;> simp [h2, h3, m2_2, m3_4, f32, f33, -cellsA, -one1, cAx, o1x]) ?_
  clear h2 h3 m2_2 m3_4
  rintro ρ H n36 ⟨v34, v35, h2, m2_2, sp⟩
  exact Runs.res1 Ty_ok (v := .agg [v35, v34]) Tryz.func12 Tryz.results12 (by simp [h2, m2_2, resA]) (hQ _ _ _ _ (Sep.sub (ids' := []) (Sep.pack (Fill.own (Fill.own Fill.nil)) sp.f1) (by simp)) ⟨(Match.mk r8 r20), h, rfl⟩)

theorem toMatch_ok (a : Match) (hp : toMatch_pre a) : OwnS Tryz.prog 12 [.agg (mC false a)] (.a [.s [.c], .s [.c]]) (fun r => r = .agg [.list true (((toMatch a).nodes).map intC), .list true (((toMatch a).roots).map intC)]) := (toMatch_walk a _ (toMatch_vc a hp)).mono (by rintro _ ⟨_, rfl, rfl⟩; rfl)

theorem e8 : Ent Tryz.prog 8 := Ent.of Tryz.func8 (by kernel_rfl) rfl
theorem szM_walk (a : Match) (left : Int) (Z : Int → Prop) (h : szM_wp a left Z) : PureC Tryz.prog 8 [.agg (mC false a), int left] (fun r => ∃ y : Int, Z y ∧ r = int y) := by
  unfold szM_wp at h
  refine PureC.of Tryz.func8 rfl Tryz.ntmps8 (by simp) fun Q hQ => ?_
  refine Runs.cut (fun ρ H n => ρ 0 = .agg (mC false a) ∧ ρ 1 = int left) (by refine ⟨?_, ?_⟩ <;> simp ) ?_
  rintro ρ H n1 ⟨h0, h1⟩
  refine Runs.seqE Ty_ok (by decide) fun k' hk' => ?_
  simp [h0, h1]
  refine hk' _ _ _ ?_
  refine Runs.cut (fun ρ H n => ρ 1 = int left ∧ ρ 2 = pA n1 2 ∧ H (n1, 2) = some ⟨2, [mC false a]⟩) (by refine ⟨?_, ?_, ?_⟩ <;> simp [h0, h1]) ?_
  clear h0 h1
  rintro ρ H n3 ⟨h1, h2, m2_1⟩
  refine Runs.seqE Ty_ok (by decide) fun k' hk' => ?_
  obtain ⟨hb4, h⟩ := h
  obtain ⟨r5, er5⟩ : ∃ v : Int, v = szI a.nodes left := ⟨_, rfl⟩
  replace h := h r5 er5
  simp [h1, h2, m2_1]
  refine RunK.callA Ty_ok (szIntS_ok a.nodes left hb4.1.1 hb4.1.2 hb4.2) e29 (.cons (argI false a.nodes) (.cons (.v _ _ _) .nil)) (by decide) (by decide) rfl (by simp [h1, h2, m2_1]) ?_
  rintro _ rfl
  rw [← er5]
  simp [h1, h2, m2_1]
  refine hk' _ _ _ ?_
  refine Runs.seq ?_
  refine Runs.seqE Ty_ok (by decide) fun k' hk' => ?_
  obtain ⟨c6, ec6⟩ : ∃ v : Bool, v = decide (r5 < 0) := ⟨_, rfl⟩
  replace h := h c6 ec6
  have f7 := ib_lss (k := .i64) ec6
  simp [h1, h2, m2_1, f7, -intBin]
  refine hk' _ _ _ ?_
  refine Runs.ite (b := c6) (by simp [h1, h2, m2_1]) (fun dc6 => ?_) (fun dc6 => ?_)
  · replace h := h.1 dc6
    refine Runs.seqE Ty_ok (by decide) fun k' hk' => ?_
    simp [h1, h2, m2_1, dc6]
    refine hk' _ _ _ ?_
    exact Runs.ret1 (v := int (-1)) Tryz.func8 Tryz.results8 (by simp [h1, h2, m2_1, dc6]) (hQ _ _ _ _ (.of (.v _)) ⟨(-1), h, rfl⟩)
  replace h := h.2 dc6
  refine Runs.skip ?_
  refine Runs.seqE Ty_ok (by decide) fun k' hk' => ?_
  obtain ⟨hb8, h⟩ := h
  obtain ⟨r9, er9⟩ : ∃ v : Int, v = szI a.roots r5 := ⟨_, rfl⟩
  replace h := h r9 er9
  simp [h1, h2, m2_1, dc6]
  refine RunK.callA Ty_ok (szIntS_ok a.roots r5 hb8.1.1 hb8.1.2 hb8.2) e29 (.cons (argI false a.roots) (.cons (.v _ _ _) .nil)) (by decide) (by decide) rfl (by simp [h1, h2, m2_1, dc6]) ?_
  rintro _ rfl
  rw [← er9]
  simp [h1, h2, m2_1, dc6]
  refine hk' _ _ _ ?_
  refine Runs.seq ?_
  refine Runs.seqE Ty_ok (by decide) fun k' hk' => ?_
  obtain ⟨c10, ec10⟩ : ∃ v : Bool, v = decide (r9 < 0) := ⟨_, rfl⟩
  replace h := h c10 ec10
  have f11 := ib_lss (k := .i64) ec10
  simp [h1, h2, m2_1, f11, dc6, -intBin]
  refine hk' _ _ _ ?_
  refine Runs.ite (b := c10) (by simp [h1, h2, m2_1, dc6]) (fun dc10 => ?_) (fun dc10 => ?_)
  · replace h := h.1 dc10
    refine Runs.seqE Ty_ok (by decide) fun k' hk' => ?_
    simp [h1, h2, m2_1, dc6, dc10]
    refine hk' _ _ _ ?_
    refine Runs.cut (fun ρ H n => ρ 4 = int (-1)) (by simp [h1, h2, m2_1, dc6, dc10]) ?_
    clear h1 h2 m2_1
    rintro ρ H n12 h4
    exact Runs.ret1 (v := int (-1)) Tryz.func8 Tryz.results8 (by simp [h4, dc6, dc10]) (hQ _ _ _ _ (.of (.v _)) ⟨(-1), h, rfl⟩)
  replace h := h.2 dc10
  refine Runs.skip ?_
  refine Runs.seqE Ty_ok (by decide) fun k' hk' => ?_
  simp [h1, h2, m2_1, dc6, dc10]
  refine hk' _ _ _ ?_
  refine Runs.cut (fun ρ H n => ρ 4 = int r9) (by simp [h1, h2, m2_1, dc6, dc10]) ?_
  clear h1 h2 m2_1
  rintro ρ H n13 h4
  exact Runs.ret1 (v := int r9) Tryz.func8 Tryz.results8 (by simp [h4, dc6, dc10]) (hQ _ _ _ _ (.of (.v _)) ⟨r9, h, rfl⟩)

theorem szM_ok (a : Match) (left : Int) (hp : szM_pre a left) : PureC Tryz.prog 8 [.agg (mC false a), int left] (fun r => r = int (szM a left)) := (szM_walk a left _ (szM_vc a left hp)).mono (by rintro _ ⟨_, rfl, rfl⟩; rfl)

theorem e16 : Ent Tryz.prog 16 := Ent.of Tryz.func16 (by kernel_rfl) rfl
theorem eqM_walk (a : Match) (b : Match) (Z : Bool → Prop) (h : eqM_wp a b Z) : PureC Tryz.prog 16 [.agg (mC false a), .agg (mC false b)] (fun r => ∃ y : Bool, Z y ∧ r = bool y) := by
  unfold eqM_wp at h
  refine PureC.of Tryz.func16 rfl Tryz.ntmps16 (by simp) fun Q hQ => ?_
  refine Runs.cut (fun ρ H n => ρ 0 = .agg (mC false a) ∧ ρ 1 = .agg (mC false b)) (by refine ⟨?_, ?_⟩ <;> simp ) ?_
  rintro ρ H n1 ⟨h0, h1⟩
  refine Runs.seqE Ty_ok (by decide) fun k' hk' => ?_
  simp [h0, h1]
  refine hk' _ _ _ ?_
  refine Runs.cut (fun ρ H n => ρ 2 = pA n1 2 ∧ ρ 3 = pA (n1 + 1) 3 ∧ H (n1, 2) = some ⟨2, [mC false a]⟩ ∧ H (n1 + 1, 3) = some ⟨2, [mC false b]⟩) (by refine ⟨?_, ?_, ?_, ?_⟩ <;> simp [h0, h1]) ?_
  clear h0 h1
  rintro ρ H n4 ⟨h2, h3, m2_1, m3_2⟩
  refine Runs.seq ?_
  refine Runs.seqE Ty_ok (by decide) fun k' hk' => ?_
  obtain ⟨hb5, h⟩ := h
  obtain ⟨r6, er6⟩ : ∃ v : Bool, v = decide (a.nodes = b.nodes) := ⟨_, rfl⟩
  replace h := h r6 er6
  simp [h2, h3, m2_1, m3_2]
  refine RunK.callA Ty_ok (eqIntS_ok a.nodes b.nodes hb5) e21 (.cons (argI false a.nodes) (.cons (argI false b.nodes) .nil)) (by decide) (by decide) rfl (by simp [h2, h3, m2_1, m3_2]) ?_
  rintro _ rfl
  rw [← er6]
  simp [h2, h3, m2_1, m3_2]
  refine hk' _ _ _ ?_
  refine Runs.ite (b := (!r6)) (by simp [h2, h3, m2_1, m3_2]) (fun dr6 => ?_) (fun dr6 => ?_)
  · have dr6 : r6 = false := by simpa using dr6
    replace h := h.2 dr6
    refine Runs.seqE Ty_ok (by decide) fun k' hk' => ?_
    simp [h2, h3, m2_1, m3_2, dr6]
    refine hk' _ _ _ ?_
    exact Runs.ret1 (v := bool false) Tryz.func16 Tryz.results16 (by simp [h2, h3, m2_1, m3_2, dr6]) (hQ _ _ _ _ (.of (.v _)) ⟨false, h, rfl⟩)
  have dr6 : r6 = true := by simpa using dr6
  replace h := h.1 dr6
  refine Runs.skip ?_
  refine Runs.seq ?_
  refine Runs.seqE Ty_ok (by decide) fun k' hk' => ?_
  obtain ⟨hb7, h⟩ := h
  obtain ⟨r8, er8⟩ : ∃ v : Bool, v = decide (a.roots = b.roots) := ⟨_, rfl⟩
  replace h := h r8 er8
  simp [h2, h3, m2_1, m3_2, dr6]
  refine RunK.callA Ty_ok (eqIntS_ok a.roots b.roots hb7) e21 (.cons (argI false a.roots) (.cons (argI false b.roots) .nil)) (by decide) (by decide) rfl (by simp [h2, h3, m2_1, m3_2, dr6]) ?_
  rintro _ rfl
  rw [← er8]
  simp [h2, h3, m2_1, m3_2, dr6]
  refine hk' _ _ _ ?_
  refine Runs.ite (b := (!r8)) (by simp [h2, h3, m2_1, m3_2, dr6]) (fun dr8 => ?_) (fun dr8 => ?_)
  · have dr8 : r8 = false := by simpa using dr8
    replace h := h.2 dr8
    refine Runs.seqE Ty_ok (by decide) fun k' hk' => ?_
    simp [h2, h3, m2_1, m3_2, dr6, dr8]
    refine hk' _ _ _ ?_
    exact Runs.ret1 (v := bool false) Tryz.func16 Tryz.results16 (by simp [h2, h3, m2_1, m3_2, dr6, dr8]) (hQ _ _ _ _ (.of (.v _)) ⟨false, h, rfl⟩)
  have dr8 : r8 = true := by simpa using dr8
  replace h := h.1 dr8
  refine Runs.skip ?_
  refine Runs.seqE Ty_ok (by decide) fun k' hk' => ?_
  simp [h2, h3, m2_1, m3_2, dr6, dr8]
  refine hk' _ _ _ ?_
  exact Runs.ret1 (v := bool true) Tryz.func16 Tryz.results16 (by simp [h2, h3, m2_1, m3_2, dr6, dr8]) (hQ _ _ _ _ (.of (.v _)) ⟨true, h, rfl⟩)

theorem eqM_ok (a : Match) (b : Match) (hp : eqM_pre a b) : PureC Tryz.prog 16 [.agg (mC false a), .agg (mC false b)] (fun r => r = bool (eqM a b)) := (eqM_walk a b _ (eqM_vc a b hp)).mono (by rintro _ ⟨_, rfl, rfl⟩; rfl)

theorem e3 : Ent Tryz.prog 3 := Ent.of Tryz.func3 (by kernel_rfl) rfl
theorem e4 : Ent Tryz.prog 4 := Ent.of Tryz.func4 (by kernel_rfl) rfl
theorem lawActive_walk (aSig : List Control) (aRedex : Big) (aAgent : Big) (aM : Match) (Z : Bool → Prop) (h : lawActive_wp aSig aRedex aAgent aM Z) : PureC Tryz.prog 4 [.list false (aSig.map Control.cells), .agg (bC false aRedex), .agg (bC false aAgent), .agg (mC false aM)] (fun r => ∃ y : Bool, Z y ∧ r = bool y) := by
  unfold lawActive_wp at h
  have sp : Sep noHeap 0 [] [] := Sep.nil (by simp)
  refine PureC.of Tryz.func4 rfl Tryz.ntmps4 (by simp) fun Q hQ => ?_
  refine Runs.cut (fun ρ H n => ρ 0 = .list false (aSig.map Control.cells) ∧ ρ 1 = .agg (bC false aRedex) ∧ ρ 2 = .agg (bC false aAgent) ∧ ρ 3 = .agg (mC false aM) ∧ Sep H n [] []) (by refine ⟨?_, ?_, ?_, ?_, sp⟩ <;> simp ) ?_
  rintro ρ H n1 ⟨h0, h1, h2, h3, sp⟩
  refine Runs.seqE Ty_ok (by decide) fun k' hk' => ?_
  simp [h0, h1, h2, h3]
  refine hk' _ _ _ ?_
  refine Runs.cut (fun ρ H n => ρ 0 = .list false (aSig.map Control.cells) ∧ ρ 5 = pA n1 5 ∧ ρ 6 = pA (n1 + 1) 6 ∧ ρ 7 = pA (n1 + 2) 7 ∧ H (n1, 5) = some ⟨6, [bC false aRedex]⟩ ∧ H (n1 + 1, 6) = some ⟨6, [bC false aAgent]⟩ ∧ H (n1 + 2, 7) = some ⟨2, [mC false aM]⟩ ∧ Sep H n [] [(n1 + 2, 7), (n1 + 1, 6), (n1, 5)]) (by refine ⟨?_, ?_, ?_, ?_, ?_, ?_, ?_, sp.var.var.var⟩ <;> simp [h0, h1, h2, h3]) ?_
  clear h0 h1 h2 h3
  rintro ρ H n5 ⟨h0, h5, h6, h7, m5_1, m6_2, m7_3, sp⟩
  refine Runs.seqE Ty_ok (by decide) fun k' hk' => ?_
  simp [h0, h5, h6, h7, m5_1, m6_2, m7_3]
  refine hk' _ _ _ ?_
  refine Runs.seqE Ty_ok (by decide) fun k' hk' => ?_
  obtain ⟨hb6, h⟩ := h
  obtain ⟨r7, er7⟩ : ∃ v : Int, v = szS szC aSig 1048576 := ⟨_, rfl⟩
  replace h := h r7 er7
  simp [h0, h5, h6, h7, m5_1, m6_2, m7_3]
  refine RunK.callA Ty_ok (szControlS_ok aSig 1048576 hb6.1.1 hb6.1.2 hb6.2.len hb6.2.names) e6 (.cons (argC false aSig) (.cons (.v _ _ _) .nil)) (by decide) (by decide) rfl (by simp [h0, h5, h6, h7, m5_1, m6_2, m7_3]) ?_
  rintro _ rfl
  rw [← er7]
  simp [h0, h5, h6, h7, m5_1, m6_2, m7_3]
  refine hk' _ _ _ ?_
  refine Runs.seq ?_
  refine Runs.seqE Ty_ok (by decide) fun k' hk' => ?_
  obtain ⟨c8, ec8⟩ : ∃ v : Bool, v = decide (r7 < 0) := ⟨_, rfl⟩
  replace h := h c8 ec8
  have f9 := ib_lss (k := .i64) ec8
  simp [h0, h5, h6, h7, m5_1, m6_2, m7_3, f9, -intBin]
  refine hk' _ _ _ ?_
  refine Runs.ite (b := c8) (by simp [h0, h5, h6, h7, m5_1, m6_2, m7_3]) (fun dc8 => ?_) (fun dc8 => ?_)
  · replace h := h.1 dc8
    refine Runs.seqE Ty_ok (by decide) fun k' hk' => ?_
    simp [h0, h5, h6, h7, m5_1, m6_2, m7_3, dc8]
    refine hk' _ _ _ ?_
    exact Runs.ret1 (v := bool true) Tryz.func4 Tryz.results4 (by simp [h0, h5, h6, h7, m5_1, m6_2, m7_3, dc8]) (hQ _ _ _ _ (.of (.v _)) ⟨true, h, rfl⟩)
  replace h := h.2 dc8
  refine Runs.skip ?_
  refine Runs.seqE Ty_ok (by decide) fun k' hk' => ?_
  obtain ⟨hb10, h⟩ := h
  obtain ⟨r11, er11⟩ : ∃ v : Int, v = szB aRedex r7 := ⟨_, rfl⟩
  replace h := h r11 er11
  simp [h0, h5, h6, h7, m5_1, m6_2, m7_3, dc8]
  refine RunK.callA Ty_ok (szBigraph_ok aRedex r7 hb10.1.1 hb10.1.2 hb10.2) e7 (.cons (argB false aRedex) (.cons (.v _ _ _) .nil)) (by decide) (by decide) rfl (by simp [h0, h5, h6, h7, m5_1, m6_2, m7_3, dc8]) ?_
  rintro _ rfl
  rw [← er11]
  simp [h0, h5, h6, h7, m5_1, m6_2, m7_3, dc8]
  refine hk' _ _ _ ?_
  refine Runs.seq ?_
  refine Runs.seqE Ty_ok (by decide) fun k' hk' => ?_
  obtain ⟨c12, ec12⟩ : ∃ v : Bool, v = decide (r11 < 0) := ⟨_, rfl⟩
  replace h := h c12 ec12
  have f13 := ib_lss (k := .i64) ec12
  simp [h0, h5, h6, h7, m5_1, m6_2, m7_3, f13, dc8, -intBin]
  refine hk' _ _ _ ?_
  refine Runs.ite (b := c12) (by simp [h0, h5, h6, h7, m5_1, m6_2, m7_3, dc8]) (fun dc12 => ?_) (fun dc12 => ?_)
  · replace h := h.1 dc12
    refine Runs.seqE Ty_ok (by decide) fun k' hk' => ?_
    simp [h0, h5, h6, h7, m5_1, m6_2, m7_3, dc8, dc12]
    refine hk' _ _ _ ?_
    exact Runs.ret1 (v := bool true) Tryz.func4 Tryz.results4 (by simp [h0, h5, h6, h7, m5_1, m6_2, m7_3, dc8, dc12]) (hQ _ _ _ _ (.of (.v _)) ⟨true, h, rfl⟩)
  replace h := h.2 dc12
  refine Runs.skip ?_
  refine Runs.seqE Ty_ok (by decide) fun k' hk' => ?_
  obtain ⟨hb14, h⟩ := h
  obtain ⟨r15, er15⟩ : ∃ v : Int, v = szB aAgent r11 := ⟨_, rfl⟩
  replace h := h r15 er15
  simp [h0, h5, h6, h7, m5_1, m6_2, m7_3, dc8, dc12]
  refine RunK.callA Ty_ok (szBigraph_ok aAgent r11 hb14.1.1 hb14.1.2 hb14.2) e7 (.cons (argB false aAgent) (.cons (.v _ _ _) .nil)) (by decide) (by decide) rfl (by simp [h0, h5, h6, h7, m5_1, m6_2, m7_3, dc8, dc12]) ?_
  rintro _ rfl
  rw [← er15]
  simp [h0, h5, h6, h7, m5_1, m6_2, m7_3, dc8, dc12]
  refine hk' _ _ _ ?_
  refine Runs.cut (fun ρ H n => ρ 0 = .list false (aSig.map Control.cells) ∧ ρ 5 = pA n1 5 ∧ ρ 6 = pA (n1 + 1) 6 ∧ ρ 7 = pA (n1 + 2) 7 ∧ ρ 9 = int r15 ∧ H (n1, 5) = some ⟨6, [bC false aRedex]⟩ ∧ H (n1 + 1, 6) = some ⟨6, [bC false aAgent]⟩ ∧ H (n1 + 2, 7) = some ⟨2, [mC false aM]⟩ ∧ Sep H n [] [(n1 + 2, 7), (n1 + 1, 6), (n1, 5)]) (by refine ⟨?_, ?_, ?_, ?_, ?_, ?_, ?_, ?_, sp⟩ <;> simp [h0, h5, h6, h7, m5_1, m6_2, m7_3, dc8, dc12]) ?_
  clear h0 h5 h6 h7 m5_1 m6_2 m7_3
  rintro ρ H n16 ⟨h0, h5, h6, h7, h9, m5_1, m6_2, m7_3, sp⟩
  refine Runs.seq ?_
  refine Runs.seqE Ty_ok (by decide) fun k' hk' => ?_
  obtain ⟨c17, ec17⟩ : ∃ v : Bool, v = decide (r15 < 0) := ⟨_, rfl⟩
  replace h := h c17 ec17
  have f18 := ib_lss (k := .i64) ec17
  simp [h0, h5, h6, h7, h9, m5_1, m6_2, m7_3, f18, dc8, dc12, -intBin]
  refine hk' _ _ _ ?_
  refine Runs.ite (b := c17) (by simp [h0, h5, h6, h7, h9, m5_1, m6_2, m7_3, dc8, dc12]) (fun dc17 => ?_) (fun dc17 => ?_)
  · replace h := h.1 dc17
    refine Runs.seqE Ty_ok (by decide) fun k' hk' => ?_
    simp [h0, h5, h6, h7, h9, m5_1, m6_2, m7_3, dc8, dc12, dc17]
    refine hk' _ _ _ ?_
    exact Runs.ret1 (v := bool true) Tryz.func4 Tryz.results4 (by simp [h0, h5, h6, h7, h9, m5_1, m6_2, m7_3, dc8, dc12, dc17]) (hQ _ _ _ _ (.of (.v _)) ⟨true, h, rfl⟩)
  replace h := h.2 dc17
  refine Runs.skip ?_
  refine Runs.seqE Ty_ok (by decide) fun k' hk' => ?_
  obtain ⟨hb19, h⟩ := h
  obtain ⟨r20, er20⟩ : ∃ v : Int, v = szM aM r15 := ⟨_, rfl⟩
  replace h := h r20 er20
  simp [h0, h5, h6, h7, h9, m5_1, m6_2, m7_3, dc8, dc12, dc17]
  refine RunK.callA Ty_ok (szM_ok aM r15 hb19) e8 (.cons (argM false aM) (.cons (.v _ _ _) .nil)) (by decide) (by decide) rfl (by simp [h0, h5, h6, h7, h9, m5_1, m6_2, m7_3, dc8, dc12, dc17]) ?_
  rintro _ rfl
  rw [← er20]
  simp [h0, h5, h6, h7, h9, m5_1, m6_2, m7_3, dc8, dc12, dc17]
  refine hk' _ _ _ ?_
  refine Runs.seq ?_
  refine Runs.seqE Ty_ok (by decide) fun k' hk' => ?_
  obtain ⟨c21, ec21⟩ : ∃ v : Bool, v = decide (r20 < 0) := ⟨_, rfl⟩
  replace h := h c21 ec21
  have f22 := ib_lss (k := .i64) ec21
  simp [h0, h5, h6, h7, h9, m5_1, m6_2, m7_3, f22, dc8, dc12, dc17, -intBin]
  refine hk' _ _ _ ?_
  refine Runs.ite (b := c21) (by simp [h0, h5, h6, h7, h9, m5_1, m6_2, m7_3, dc8, dc12, dc17]) (fun dc21 => ?_) (fun dc21 => ?_)
  · replace h := h.1 dc21
    refine Runs.seqE Ty_ok (by decide) fun k' hk' => ?_
    simp [h0, h5, h6, h7, h9, m5_1, m6_2, m7_3, dc8, dc12, dc17, dc21]
    refine hk' _ _ _ ?_
    exact Runs.ret1 (v := bool true) Tryz.func4 Tryz.results4 (by simp [h0, h5, h6, h7, h9, m5_1, m6_2, m7_3, dc8, dc12, dc17, dc21]) (hQ _ _ _ _ (.of (.v _)) ⟨true, h, rfl⟩)
  replace h := h.2 dc21
  refine Runs.skip ?_
  refine Runs.seqD Ty_ok kindOp_ok draws (by decide) (by kernel_rfl) fun k' hk' => ?_
  obtain ⟨hb23, h⟩ := h
  obtain ⟨r24, er24⟩ : ∃ v : List Control, v = toControlS aSig := ⟨_, rfl⟩
  replace h := h r24 er24
  simp [h0, h5, h6, h7, h9, m5_1, m6_2, m7_3, dc8, dc12, dc17, dc21]
  refine RunDK.callA Ty_ok kindOp_ok ((toControlS_ok aSig hb23).pure) e10 (.cons (argC false aSig) .nil) (by decide) rfl (by simp [h0, h5, h6, h7, h9, m5_1, m6_2, m7_3, dc8, dc12, dc17, dc21]) ?_
  rw [← er24]
  obtain ⟨hb25, h⟩ := h
  obtain ⟨r26, er26⟩ : ∃ v : Big, v = toBigraph aRedex := ⟨_, rfl⟩
  replace h := h r26 er26
  simp [h0, h5, h6, h7, h9, m5_1, m6_2, m7_3, dc8, dc12, dc17, dc21]
  refine RunDK.callA Ty_ok kindOp_ok ((toBigraph_ok aRedex hb25).pure) e11 (.cons (argB false aRedex) .nil) (by decide) rfl (by simp [h0, h5, h6, h7, h9, m5_1, m6_2, m7_3, dc8, dc12, dc17, dc21]) ?_
  rw [← er26]
  obtain ⟨hb27, h⟩ := h
  obtain ⟨r28, er28⟩ : ∃ v : Big, v = toBigraph aAgent := ⟨_, rfl⟩
  replace h := h r28 er28
  simp [h0, h5, h6, h7, h9, m5_1, m6_2, m7_3, dc8, dc12, dc17, dc21]
  refine RunDK.callA Ty_ok kindOp_ok ((toBigraph_ok aAgent hb27).pure) e11 (.cons (argB false aAgent) .nil) (by decide) rfl (by simp [h0, h5, h6, h7, h9, m5_1, m6_2, m7_3, dc8, dc12, dc17, dc21]) ?_
  rw [← er28]
  obtain ⟨hb29, h⟩ := h
  obtain ⟨r30, er30⟩ : ∃ v : Match, v = toMatch aM := ⟨_, rfl⟩
  replace h := h r30 er30
  simp [h0, h5, h6, h7, h9, m5_1, m6_2, m7_3, dc8, dc12, dc17, dc21]
  refine RunDK.callA Ty_ok kindOp_ok ((toMatch_ok aM hb29).pure) e12 (.cons (argM false aM) .nil) (by decide) rfl (by simp [h0, h5, h6, h7, h9, m5_1, m6_2, m7_3, dc8, dc12, dc17, dc21]) ?_
  rw [← er30]
  obtain ⟨hb31, h⟩ := h
  obtain ⟨r32, er32⟩ : ∃ v : Bool × Bool, v = sIsActiveMatch r24 r26 r28 r30 := ⟨_, rfl⟩
  replace h := h r32 er32
  simp [h0, h5, h6, h7, h9, m5_1, m6_2, m7_3, dc8, dc12, dc17, dc21]
  refine RunDK.callA Ty_ok kindOp_ok (sIsActiveMatch_ok r24 r26 r28 r30 hb31) e17 (.cons (argC true r24) (.cons (argB true r26) (.cons (argB true r28) (.cons (argM true r30) .nil)))) (by decide) rfl (by simp [h0, h5, h6, h7, h9, m5_1, m6_2, m7_3, dc8, dc12, dc17, dc21]) ?_
  rw [← er32]
  simp [h0, h5, h6, h7, h9, m5_1, m6_2, m7_3, dc8, dc12, dc17, dc21]
  refine hk' _ _ _ ?_
  refine Runs.cut (fun ρ H n => ρ 0 = .list false (aSig.map Control.cells) ∧ ρ 5 = pA n1 5 ∧ ρ 6 = pA (n1 + 1) 6 ∧ ρ 7 = pA (n1 + 2) 7 ∧ ρ 10 = bool r32.1 ∧ ρ 11 = bool r32.2 ∧ H (n1, 5) = some ⟨6, [bC false aRedex]⟩ ∧ H (n1 + 1, 6) = some ⟨6, [bC false aAgent]⟩ ∧ H (n1 + 2, 7) = some ⟨2, [mC false aM]⟩ ∧ Sep H n [] [(n1 + 2, 7), (n1 + 1, 6), (n1, 5)]) (by refine ⟨?_, ?_, ?_, ?_, ?_, ?_, ?_, ?_, ?_, sp⟩ <;> simp [h0, h5, h6, h7, h9, m5_1, m6_2, m7_3, dc8, dc12, dc17, dc21]) ?_
  clear h0 h5 h6 h7 h9 m5_1 m6_2 m7_3
  rintro ρ H n33 ⟨h0, h5, h6, h7, h10, h11, m5_1, m6_2, m7_3, sp⟩
  refine Runs.seqE Ty_ok (by decide) fun k' hk' => ?_
  obtain ⟨hb34, h⟩ := h
  obtain ⟨r35, er35⟩ : ∃ v : List Control, v = toControlS aSig := ⟨_, rfl⟩
  replace h := h r35 er35
  simp [h0, h5, h6, h7, h10, h11, m5_1, m6_2, m7_3, dc8, dc12, dc17, dc21]
  refine RunK.callW Ty_ok (toControlS_ok aSig hb34) e10 (.cons (argC false aSig) .nil) sp (by decide) (by decide) rfl (by simp [h0, h5, h6, h7, h10, h11, m5_1, m6_2, m7_3, dc8, dc12, dc17, dc21]) ?_
  rintro v36 H37 n38 _ sp rfl hle40 hfr39
  rw [← er35] at sp
  have m5_1 : H37 (n1, 5) = some ⟨6, [bC false aRedex]⟩ := (hfr39 _ (by simp)).trans (by simp [h0, h5, h6, h7, h10, h11, m5_1, m6_2, m7_3, Heap.get_set])
  have m6_2 : H37 (n1 + 1, 6) = some ⟨6, [bC false aAgent]⟩ := (hfr39 _ (by simp)).trans (by simp [h0, h5, h6, h7, h10, h11, m5_1, m6_2, m7_3, Heap.get_set])
  have m7_3 : H37 (n1 + 2, 7) = some ⟨2, [mC false aM]⟩ := (hfr39 _ (by simp)).trans (by simp [h0, h5, h6, h7, h10, h11, m5_1, m6_2, m7_3, Heap.get_set])
  simp [h0, h5, h6, h7, h10, h11, m5_1, m6_2, m7_3, dc8, dc12, dc17, dc21]
  refine hk' _ _ _ ?_
  refine Runs.cut (fun ρ H n => ∃ (v43 : AVal), ρ 0 = .list false (aSig.map Control.cells) ∧ ρ 5 = pA n1 5 ∧ ρ 6 = pA (n1 + 1) 6 ∧ ρ 7 = pA (n1 + 2) 7 ∧ ρ 10 = bool r32.1 ∧ ρ 11 = bool r32.2 ∧ ρ 12 = v43 ∧ H (n1, 5) = some ⟨6, [bC false aRedex]⟩ ∧ H (n1 + 1, 6) = some ⟨6, [bC false aAgent]⟩ ∧ H (n1 + 2, 7) = some ⟨2, [mC false aM]⟩ ∧ Sep H n [oE [.c, .c, .c] Control.cells v43 r35] [(n1 + 2, 7), (n1 + 1, 6), (n1, 5)]) (by refine ⟨v36, ?_, ?_, ?_, ?_, ?_, ?_, ?_, ?_, ?_, ?_, sp⟩ <;> simp [h0, h5, h6, h7, h10, h11, m5_1, m6_2, m7_3, dc8, dc12, dc17, dc21]) ?_
  clear h0 h5 h6 h7 h10 h11 m5_1 m6_2 m7_3
  rintro ρ H n44 ⟨v43, h0, h5, h6, h7, h10, h11, h12, m5_1, m6_2, m7_3, sp⟩
  refine Runs.seqE Ty_ok (by decide) fun k' hk' => ?_
  obtain ⟨hb45, h⟩ := h
  obtain ⟨r46, er46⟩ : ∃ v : Big, v = toBigraph aRedex := ⟨_, rfl⟩
  replace h := h r46 er46
  simp [h0, h5, h6, h7, h10, h11, h12, m5_1, m6_2, m7_3, dc8, dc12, dc17, dc21]
  refine RunK.callW Ty_ok (toBigraph_ok aRedex hb45) e11 (.cons (argB false aRedex) .nil) sp (by decide) (by decide) rfl (by simp [h0, h5, h6, h7, h10, h11, h12, m5_1, m6_2, m7_3, dc8, dc12, dc17, dc21]) ?_
  rintro v47 H48 n49 _ sp rfl hle51 hfr50
  rw [← er46] at sp
  have m5_1 : H48 (n1, 5) = some ⟨6, [bC false aRedex]⟩ := (hfr50 _ (by simp)).trans (by simp [h0, h5, h6, h7, h10, h11, h12, m5_1, m6_2, m7_3, Heap.get_set])
  have m6_2 : H48 (n1 + 1, 6) = some ⟨6, [bC false aAgent]⟩ := (hfr50 _ (by simp)).trans (by simp [h0, h5, h6, h7, h10, h11, h12, m5_1, m6_2, m7_3, Heap.get_set])
  have m7_3 : H48 (n1 + 2, 7) = some ⟨2, [mC false aM]⟩ := (hfr50 _ (by simp)).trans (by simp [h0, h5, h6, h7, h10, h11, h12, m5_1, m6_2, m7_3, Heap.get_set])
  replace sp := Sep.unpack sp
  obtain ⟨L59, hv, hl60, sp⟩ := sp
  subst hv
  obtain ⟨v53, v54, v55, v56, v57, v58, hv⟩ := len6 (by simpa using hl60)
  subst hv
  simp only [zip3, List.cons_append, List.nil_append] at sp
  replace sp := Sep.scalar sp
  obtain ⟨hv, sp⟩ := sp
  subst hv
  replace sp := Sep.rot sp
  try simp only [List.cons_append, List.nil_append, List.append_assoc] at sp
  replace sp := Sep.rot sp
  try simp only [List.cons_append, List.nil_append, List.append_assoc] at sp
  replace sp := Sep.scalar sp
  obtain ⟨hv, sp⟩ := sp
  subst hv
  replace sp := Sep.rot sp
  try simp only [List.cons_append, List.nil_append, List.append_assoc] at sp
  replace sp := Sep.rot sp
  try simp only [List.cons_append, List.nil_append, List.append_assoc] at sp
  replace sp : Sep H48 n49 [oE [.c, .c, .c] Control.cells v43 r35, oN v54 r46.nodes, oI v55 r46.sites, oS v57 r46.outer, oW v58 r46.inner] [(n1 + 2, 7), (n1 + 1, 6), (n1, 5)] := sp
  have f66 := Sep.oc sp.f1
  have f67 := Sep.oc sp.f2
  have f68 := Sep.oc sp.f3
  have f69 := Sep.oc sp.f4
  simp [h0, h5, h6, h7, h10, h11, h12, m5_1, m6_2, m7_3, f66, f67, f68, f69, dc8, dc12, dc17, dc21, -cellsA, -one1, cAx, o1x]
  refine hk' _ _ _ ?_
  refine Runs.cut (fun ρ H n => ∃ (v70 v71 v72 v73 v74 : AVal), ρ 0 = .list false (aSig.map Control.cells) ∧ ρ 5 = pA n1 5 ∧ ρ 6 = pA (n1 + 1) 6 ∧ ρ 7 = pA (n1 + 2) 7 ∧ ρ 10 = bool r32.1 ∧ ρ 11 = bool r32.2 ∧ ρ 12 = v70 ∧ ρ 13 = pA n49 13 ∧ H (n1, 5) = some ⟨6, [bC false aRedex]⟩ ∧ H (n1 + 1, 6) = some ⟨6, [bC false aAgent]⟩ ∧ H (n1 + 2, 7) = some ⟨2, [mC false aM]⟩ ∧ H (n49, 13) = some ⟨6, [[int r46.roots, v71, v72, int r46.edges, v73, v74]]⟩ ∧ Sep H n [oE [.c, .c, .c] Control.cells v70 r35, oN v71 r46.nodes, oI v72 r46.sites, oS v73 r46.outer, oW v74 r46.inner] [(n49, 13), (n1 + 2, 7), (n1 + 1, 6), (n1, 5)]) (by refine ⟨v43, v54, v55, v57, v58, ?_, ?_, ?_, ?_, ?_, ?_, ?_, ?_, ?_, ?_, ?_, ?_, sp.var.f4.f4.f4.f4.f4⟩ <;> simp [h0, h5, h6, h7, h10, h11, h12, m5_1, m6_2, m7_3, f66, f67, f68, f69, dc8, dc12, dc17, dc21, -cellsA, -one1, cAx, o1x]) ?_
  clear h0 h5 h6 h7 h10 h11 h12 m5_1 m6_2 m7_3
  rintro ρ H n75 ⟨v70, v71, v72, v73, v74, h0, h5, h6, h7, h10, h11, h12, h13, m5_1, m6_2, m7_3, m13_64, sp⟩
  refine Runs.seqE Ty_ok (by decide) fun k' hk' => ?_
  obtain ⟨hb76, h⟩ := h
  obtain ⟨r77, er77⟩ : ∃ v : Big, v = toBigraph aAgent := ⟨_, rfl⟩
  replace h := h r77 er77
  simp [h0, h5, h6, h7, h10, h11, h12, h13, m5_1, m6_2, m7_3, m13_64, dc8, dc12, dc17, dc21]
  refine RunK.callW Ty_ok (toBigraph_ok aAgent hb76) e11 (.cons (argB false aAgent) .nil) sp (by decide) (by decide) rfl (by simp [h0, h5, h6, h7, h10, h11, h12, h13, m5_1, m6_2, m7_3, m13_64, dc8, dc12, dc17, dc21]) ?_
  rintro v78 H79 n80 _ sp rfl hle82 hfr81
  rw [← er77] at sp
  have m5_1 : H79 (n1, 5) = some ⟨6, [bC false aRedex]⟩ := (hfr81 _ (by simp)).trans (by simp [h0, h5, h6, h7, h10, h11, h12, h13, m5_1, m6_2, m7_3, m13_64, Heap.get_set])
  have m6_2 : H79 (n1 + 1, 6) = some ⟨6, [bC false aAgent]⟩ := (hfr81 _ (by simp)).trans (by simp [h0, h5, h6, h7, h10, h11, h12, h13, m5_1, m6_2, m7_3, m13_64, Heap.get_set])
  have m7_3 : H79 (n1 + 2, 7) = some ⟨2, [mC false aM]⟩ := (hfr81 _ (by simp)).trans (by simp [h0, h5, h6, h7, h10, h11, h12, h13, m5_1, m6_2, m7_3, m13_64, Heap.get_set])
  have m13_64 : H79 (n49, 13) = some ⟨6, [[int r46.roots, v71, v72, int r46.edges, v73, v74]]⟩ := (hfr81 _ (by simp)).trans (by simp [h0, h5, h6, h7, h10, h11, h12, h13, m5_1, m6_2, m7_3, m13_64, Heap.get_set])
  replace sp := Sep.unpack sp
  obtain ⟨L90, hv, hl91, sp⟩ := sp
  subst hv
  obtain ⟨v84, v85, v86, v87, v88, v89, hv⟩ := len6 (by simpa using hl91)
  subst hv
  simp only [zip3, List.cons_append, List.nil_append] at sp
  replace sp := Sep.scalar sp
  obtain ⟨hv, sp⟩ := sp
  subst hv
  replace sp := Sep.rot sp
  try simp only [List.cons_append, List.nil_append, List.append_assoc] at sp
  replace sp := Sep.rot sp
  try simp only [List.cons_append, List.nil_append, List.append_assoc] at sp
  replace sp := Sep.scalar sp
  obtain ⟨hv, sp⟩ := sp
  subst hv
  replace sp := Sep.rot sp
  try simp only [List.cons_append, List.nil_append, List.append_assoc] at sp
  replace sp := Sep.rot sp
  try simp only [List.cons_append, List.nil_append, List.append_assoc] at sp
  replace sp : Sep H79 n80 [oE [.c, .c, .c] Control.cells v70 r35, oN v71 r46.nodes, oI v72 r46.sites, oS v73 r46.outer, oW v74 r46.inner, oN v85 r77.nodes, oI v86 r77.sites, oS v88 r77.outer, oW v89 r77.inner] [(n49, 13), (n1 + 2, 7), (n1 + 1, 6), (n1, 5)] := sp
  have f97 := Sep.oc sp.f5
  have f98 := Sep.oc sp.f6
  have f99 := Sep.oc sp.f7
  have f100 := Sep.oc sp.f8
  simp [h0, h5, h6, h7, h10, h11, h12, h13, m5_1, m6_2, m7_3, m13_64, f97, f98, f99, f100, dc8, dc12, dc17, dc21, -cellsA, -one1, cAx, o1x]
  refine hk' _ _ _ ?_
  refine Runs.cut (fun ρ H n => ∃ (v101 v102 v103 v104 v105 v106 v107 v108 v109 : AVal), ρ 0 = .list false (aSig.map Control.cells) ∧ ρ 5 = pA n1 5 ∧ ρ 6 = pA (n1 + 1) 6 ∧ ρ 7 = pA (n1 + 2) 7 ∧ ρ 10 = bool r32.1 ∧ ρ 11 = bool r32.2 ∧ ρ 12 = v101 ∧ ρ 13 = pA n49 13 ∧ ρ 14 = pA n80 14 ∧ H (n1, 5) = some ⟨6, [bC false aRedex]⟩ ∧ H (n1 + 1, 6) = some ⟨6, [bC false aAgent]⟩ ∧ H (n1 + 2, 7) = some ⟨2, [mC false aM]⟩ ∧ H (n49, 13) = some ⟨6, [[int r46.roots, v102, v103, int r46.edges, v104, v105]]⟩ ∧ H (n80, 14) = some ⟨6, [[int r77.roots, v106, v107, int r77.edges, v108, v109]]⟩ ∧ Sep H n [oE [.c, .c, .c] Control.cells v101 r35, oN v102 r46.nodes, oI v103 r46.sites, oS v104 r46.outer, oW v105 r46.inner, oN v106 r77.nodes, oI v107 r77.sites, oS v108 r77.outer, oW v109 r77.inner] [(n80, 14), (n49, 13), (n1 + 2, 7), (n1 + 1, 6), (n1, 5)]) (by refine ⟨v70, v71, v72, v73, v74, v85, v86, v88, v89, ?_, ?_, ?_, ?_, ?_, ?_, ?_, ?_, ?_, ?_, ?_, ?_, ?_, ?_, sp.var.f8.f8.f8.f8.f8.f8.f8.f8.f8⟩ <;> simp [h0, h5, h6, h7, h10, h11, h12, h13, m5_1, m6_2, m7_3, m13_64, f97, f98, f99, f100, dc8, dc12, dc17, dc21, -cellsA, -one1, cAx, o1x]) ?_
  clear h0 h5 h6 h7 h10 h11 h12 h13 m5_1 m6_2 m7_3 m13_64
  rintro ρ H n110 ⟨v101, v102, v103, v104, v105, v106, v107, v108, v109, h0, h5, h6, h7, h10, h11, h12, h13, h14, m5_1, m6_2, m7_3, m13_64, m14_95, sp⟩
  refine Runs.seqE Ty_ok (by decide) fun k' hk' => ?_
  obtain ⟨hb111, h⟩ := h
  obtain ⟨r112, er112⟩ : ∃ v : Match, v = toMatch aM := ⟨_, rfl⟩
  replace h := h r112 er112
  simp [h0, h5, h6, h7, h10, h11, h12, h13, h14, m5_1, m6_2, m7_3, m13_64, m14_95, dc8, dc12, dc17, dc21]
  refine RunK.callW Ty_ok (toMatch_ok aM hb111) e12 (.cons (argM false aM) .nil) sp (by decide) (by decide) rfl (by simp [h0, h5, h6, h7, h10, h11, h12, h13, h14, m5_1, m6_2, m7_3, m13_64, m14_95, dc8, dc12, dc17, dc21]) ?_
  rintro v113 H114 n115 _ sp rfl hle117 hfr116
  rw [← er112] at sp
  have m5_1 : H114 (n1, 5) = some ⟨6, [bC false aRedex]⟩ := (hfr116 _ (by simp)).trans (by simp [h0, h5, h6, h7, h10, h11, h12, h13, h14, m5_1, m6_2, m7_3, m13_64, m14_95, Heap.get_set])
  have m6_2 : H114 (n1 + 1, 6) = some ⟨6, [bC false aAgent]⟩ := (hfr116 _ (by simp)).trans (by simp [h0, h5, h6, h7, h10, h11, h12, h13, h14, m5_1, m6_2, m7_3, m13_64, m14_95, Heap.get_set])
  have m7_3 : H114 (n1 + 2, 7) = some ⟨2, [mC false aM]⟩ := (hfr116 _ (by simp)).trans (by simp [h0, h5, h6, h7, h10, h11, h12, h13, h14, m5_1, m6_2, m7_3, m13_64, m14_95, Heap.get_set])
  have m13_64 : H114 (n49, 13) = some ⟨6, [[int r46.roots, v102, v103, int r46.edges, v104, v105]]⟩ := (hfr116 _ (by simp)).trans (by simp [h0, h5, h6, h7, h10, h11, h12, h13, h14, m5_1, m6_2, m7_3, m13_64, m14_95, Heap.get_set])
  have m14_95 : H114 (n80, 14) = some ⟨6, [[int r77.roots, v106, v107, int r77.edges, v108, v109]]⟩ := (hfr116 _ (by simp)).trans (by simp [h0, h5, h6, h7, h10, h11, h12, h13, h14, m5_1, m6_2, m7_3, m13_64, m14_95, Heap.get_set])
  replace sp := Sep.unpack sp
  obtain ⟨L121, hv, hl122, sp⟩ := sp
  subst hv
  obtain ⟨v119, v120, hv⟩ := len2 (by simpa using hl122)
  subst hv
  simp only [zip3, List.cons_append, List.nil_append] at sp
  replace sp := Sep.rot sp
  try simp only [List.cons_append, List.nil_append, List.append_assoc] at sp
  replace sp := Sep.rot sp
  try simp only [List.cons_append, List.nil_append, List.append_assoc] at sp
  replace sp : Sep H114 n115 [oE [.c, .c, .c] Control.cells v101 r35, oN v102 r46.nodes, oI v103 r46.sites, oS v104 r46.outer, oW v105 r46.inner, oN v106 r77.nodes, oI v107 r77.sites, oS v108 r77.outer, oW v109 r77.inner, oI v119 r112.nodes, oI v120 r112.roots] [(n80, 14), (n49, 13), (n1 + 2, 7), (n1 + 1, 6), (n1, 5)] := sp
  have f126 := Sep.oc sp.f9
  have f127 := Sep.oc sp.f10
  simp [h0, h5, h6, h7, h10, h11, h12, h13, h14, m5_1, m6_2, m7_3, m13_64, m14_95, f126, f127, dc8, dc12, dc17, dc21, -cellsA, -one1, cAx, o1x]
  refine hk' _ _ _ ?_
  refine Runs.cut (fun ρ H n => ∃ (v128 v129 v130 v131 v132 v133 v134 v135 v136 v137 v138 : AVal), ρ 0 = .list false (aSig.map Control.cells) ∧ ρ 5 = pA n1 5 ∧ ρ 6 = pA (n1 + 1) 6 ∧ ρ 7 = pA (n1 + 2) 7 ∧ ρ 10 = bool r32.1 ∧ ρ 11 = bool r32.2 ∧ ρ 12 = v128 ∧ ρ 13 = pA n49 13 ∧ ρ 14 = pA n80 14 ∧ ρ 15 = pA n115 15 ∧ H (n1, 5) = some ⟨6, [bC false aRedex]⟩ ∧ H (n1 + 1, 6) = some ⟨6, [bC false aAgent]⟩ ∧ H (n1 + 2, 7) = some ⟨2, [mC false aM]⟩ ∧ H (n49, 13) = some ⟨6, [[int r46.roots, v129, v130, int r46.edges, v131, v132]]⟩ ∧ H (n80, 14) = some ⟨6, [[int r77.roots, v133, v134, int r77.edges, v135, v136]]⟩ ∧ H (n115, 15) = some ⟨2, [[v137, v138]]⟩ ∧ Sep H n [oE [.c, .c, .c] Control.cells v128 r35, oN v129 r46.nodes, oI v130 r46.sites, oS v131 r46.outer, oW v132 r46.inner, oN v133 r77.nodes, oI v134 r77.sites, oS v135 r77.outer, oW v136 r77.inner, oI v137 r112.nodes, oI v138 r112.roots] [(n115, 15), (n80, 14), (n49, 13), (n1 + 2, 7), (n1 + 1, 6), (n1, 5)]) (by refine ⟨v101, v102, v103, v104, v105, v106, v107, v108, v109, v119, v120, ?_, ?_, ?_, ?_, ?_, ?_, ?_, ?_, ?_, ?_, ?_, ?_, ?_, ?_, ?_, ?_, sp.var.f10.f10.f10.f10.f10.f10.f10.f10.f10.f10.f10⟩ <;> simp [h0, h5, h6, h7, h10, h11, h12, h13, h14, m5_1, m6_2, m7_3, m13_64, m14_95, f126, f127, dc8, dc12, dc17, dc21, -cellsA, -one1, cAx, o1x]) ?_
  clear h0 h5 h6 h7 h10 h11 h12 h13 h14 m5_1 m6_2 m7_3 m13_64 m14_95
  rintro ρ H n139 ⟨v128, v129, v130, v131, v132, v133, v134, v135, v136, v137, v138, h0, h5, h6, h7, h10, h11, h12, h13, h14, h15, m5_1, m6_2, m7_3, m13_64, m14_95, m15_124, sp⟩
  refine Runs.seqE Ty_ok (by decide) fun k' hk' => ?_
  obtain ⟨hb140, h⟩ := h
  obtain ⟨r141, er141⟩ : ∃ v : Bool × Bool, v = IsActiveMatch r35 r46 r77 r112 := ⟨_, rfl⟩
  replace h := h r141 er141
  simp [h0, h5, h6, h7, h10, h11, h12, h13, h14, h15, m5_1, m6_2, m7_3, m13_64, m14_95, m15_124, dc8, dc12, dc17, dc21]
  refine RunK.callA Ty_ok (IsActiveMatch_ok r35 r46 r77 r112 hb140) e18 (.cons (Sep.argOk' sp (old_listF (by simp))) (.cons (ArgOk.agg (.cons (.v _ _ _) (.cons (Sep.argOk' sp.f1 (old_nest_Node true r46.nodes)) (.cons (Sep.argOk' sp.f2 (old_listF (by simp))) (.cons (.v _ _ _) (.cons (Sep.argOk' sp.f3 (old_listF (by simp))) (.cons (Sep.argOk' sp.f4 (old_listF (by simp))) .nil))))))) (.cons (ArgOk.agg (.cons (.v _ _ _) (.cons (Sep.argOk' sp.f5 (old_nest_Node true r77.nodes)) (.cons (Sep.argOk' sp.f6 (old_listF (by simp))) (.cons (.v _ _ _) (.cons (Sep.argOk' sp.f7 (old_listF (by simp))) (.cons (Sep.argOk' sp.f8 (old_listF (by simp))) .nil))))))) (.cons (ArgOk.agg (.cons (Sep.argOk' sp.f9 (old_listF (by simp))) (.cons (Sep.argOk' sp.f10 (old_listF (by simp))) .nil))) .nil)))) (by decide) (by decide) rfl (by simp [h0, h5, h6, h7, h10, h11, h12, h13, h14, h15, m5_1, m6_2, m7_3, m13_64, m14_95, m15_124, dc8, dc12, dc17, dc21]) ?_
  rintro _ rfl
  rw [← er141]
  simp [h0, h5, h6, h7, h10, h11, h12, h13, h14, h15, m5_1, m6_2, m7_3, m13_64, m14_95, m15_124, dc8, dc12, dc17, dc21]
  refine hk' _ _ _ ?_
  refine Runs.seq ?_
  refine Runs.seqE Ty_ok (by decide) fun k' hk' => ?_
  obtain ⟨J142, hJ143, hr144⟩ := h
  have fin157 : ∀ (sJ : Bool) (ρ : Env) (H : Heap) (n : Nat), J142 sJ → (match sJ with | b145 => ∃ (v146 v147 v148 v149 v150 v151 v152 v153 v154 v155 v156 : AVal), ρ 0 = .list false (aSig.map Control.cells) ∧ ρ 5 = pA n1 5 ∧ ρ 6 = pA (n1 + 1) 6 ∧ ρ 7 = pA (n1 + 2) 7 ∧ ρ 12 = v146 ∧ ρ 13 = pA n49 13 ∧ ρ 14 = pA n80 14 ∧ ρ 15 = pA n115 15 ∧ ρ 73 = bool b145 ∧ H (n1, 5) = some ⟨6, [bC false aRedex]⟩ ∧ H (n1 + 1, 6) = some ⟨6, [bC false aAgent]⟩ ∧ H (n1 + 2, 7) = some ⟨2, [mC false aM]⟩ ∧ H (n49, 13) = some ⟨6, [[int r46.roots, v147, v148, int r46.edges, v149, v150]]⟩ ∧ H (n80, 14) = some ⟨6, [[int r77.roots, v151, v152, int r77.edges, v153, v154]]⟩ ∧ H (n115, 15) = some ⟨2, [[v155, v156]]⟩ ∧ Sep H n [oE [.c, .c, .c] Control.cells v146 r35, oN v147 r46.nodes, oI v148 r46.sites, oS v149 r46.outer, oW v150 r46.inner, oN v151 r77.nodes, oI v152 r77.sites, oS v153 r77.outer, oW v154 r77.inner, oI v155 r112.nodes, oI v156 r112.roots] [(n115, 15), (n80, 14), (n49, 13), (n1 + 2, 7), (n1 + 1, 6), (n1, 5)]) → Runs Tryz.prog 4 94 k' ρ H n Q := by
    rintro b145 ρ H n158 h ⟨v146, v147, v148, v149, v150, v151, v152, v153, v154, v155, v156, h0, h5, h6, h7, h12, h13, h14, h15, h73, m5_1, m6_2, m7_3, m13_64, m14_95, m15_124, sp⟩
    replace h := hr144 _ h
    refine hk' _ _ _ ?_
    refine Runs.ite (b := b145) (by simp [h0, h5, h6, h7, h12, h13, h14, h15, h73, m5_1, m6_2, m7_3, m13_64, m14_95, m15_124, dc8, dc12, dc17, dc21]) (fun db145 => ?_) (fun db145 => ?_)
    · replace h := h.1 db145
      refine Runs.seqE Ty_ok (by decide) fun k' hk' => ?_
      simp [h0, h5, h6, h7, h12, h13, h14, h15, h73, m5_1, m6_2, m7_3, m13_64, m14_95, m15_124, dc8, dc12, dc17, dc21, db145]
      refine hk' _ _ _ ?_
      exact Runs.ret1 (v := bool false) Tryz.func4 Tryz.results4 (by simp [h0, h5, h6, h7, h12, h13, h14, h15, h73, m5_1, m6_2, m7_3, m13_64, m14_95, m15_124, dc8, dc12, dc17, dc21, db145]) (hQ _ _ _ _ (.of (.v _)) ⟨false, h, rfl⟩)
    replace h := h.2 db145
    refine Runs.skip ?_
    refine Runs.seq ?_
    refine Runs.seqE Ty_ok (by decide) fun k' hk' => ?_
    obtain ⟨hb159, h⟩ := h
    obtain ⟨r160, er160⟩ : ∃ v : List Control, v = toControlS aSig := ⟨_, rfl⟩
    replace h := h r160 er160
    simp [h0, h5, h6, h7, h12, h13, h14, h15, h73, m5_1, m6_2, m7_3, m13_64, m14_95, m15_124, dc8, dc12, dc17, dc21, db145]
    refine RunK.callW Ty_ok (toControlS_ok aSig hb159) e10 (.cons (argC false aSig) .nil) sp (by decide) (by decide) rfl (by simp [h0, h5, h6, h7, h12, h13, h14, h15, h73, m5_1, m6_2, m7_3, m13_64, m14_95, m15_124, dc8, dc12, dc17, dc21, db145]) ?_
    rintro v161 H162 n163 _ sp rfl hle165 hfr164
    rw [← er160] at sp
    have m5_1 : H162 (n1, 5) = some ⟨6, [bC false aRedex]⟩ := (hfr164 _ (by simp)).trans (by simp [h0, h5, h6, h7, h12, h13, h14, h15, h73, m5_1, m6_2, m7_3, m13_64, m14_95, m15_124, Heap.get_set])
    have m6_2 : H162 (n1 + 1, 6) = some ⟨6, [bC false aAgent]⟩ := (hfr164 _ (by simp)).trans (by simp [h0, h5, h6, h7, h12, h13, h14, h15, h73, m5_1, m6_2, m7_3, m13_64, m14_95, m15_124, Heap.get_set])
    have m7_3 : H162 (n1 + 2, 7) = some ⟨2, [mC false aM]⟩ := (hfr164 _ (by simp)).trans (by simp [h0, h5, h6, h7, h12, h13, h14, h15, h73, m5_1, m6_2, m7_3, m13_64, m14_95, m15_124, Heap.get_set])
    have m13_64 : H162 (n49, 13) = some ⟨6, [[int r46.roots, v147, v148, int r46.edges, v149, v150]]⟩ := (hfr164 _ (by simp)).trans (by simp [h0, h5, h6, h7, h12, h13, h14, h15, h73, m5_1, m6_2, m7_3, m13_64, m14_95, m15_124, Heap.get_set])
    have m14_95 : H162 (n80, 14) = some ⟨6, [[int r77.roots, v151, v152, int r77.edges, v153, v154]]⟩ := (hfr164 _ (by simp)).trans (by simp [h0, h5, h6, h7, h12, h13, h14, h15, h73, m5_1, m6_2, m7_3, m13_64, m14_95, m15_124, Heap.get_set])
    have m15_124 : H162 (n115, 15) = some ⟨2, [[v155, v156]]⟩ := (hfr164 _ (by simp)).trans (by simp [h0, h5, h6, h7, h12, h13, h14, h15, h73, m5_1, m6_2, m7_3, m13_64, m14_95, m15_124, Heap.get_set])
    obtain ⟨hb168, h⟩ := h
    obtain ⟨r169, er169⟩ : ∃ v : Bool, v = decide (r35 = r160) := ⟨_, rfl⟩
    replace h := h r169 er169
    simp [h0, h5, h6, h7, h12, h13, h14, h15, h73, m5_1, m6_2, m7_3, m13_64, m14_95, m15_124, dc8, dc12, dc17, dc21, db145]
    refine RunK.callA Ty_ok (eqControlS_ok r35 r160 hb168) e14 (.cons (Sep.argOk' sp.f1 (old_listF (by simp))) (.cons (Sep.argOk' sp (old_listF (by simp))) .nil)) (by decide) (by decide) rfl (by simp [h0, h5, h6, h7, h12, h13, h14, h15, h73, m5_1, m6_2, m7_3, m13_64, m14_95, m15_124, dc8, dc12, dc17, dc21, db145]) ?_
    rintro _ rfl
    rw [← er169]
    simp [h0, h5, h6, h7, h12, h13, h14, h15, h73, m5_1, m6_2, m7_3, m13_64, m14_95, m15_124, dc8, dc12, dc17, dc21, db145]
    refine hk' _ _ _ ?_
    refine Runs.cut (fun ρ H n => ∃ (v170 v171 v172 v173 v174 v175 v176 v177 v178 v179 : AVal), ρ 5 = pA n1 5 ∧ ρ 6 = pA (n1 + 1) 6 ∧ ρ 7 = pA (n1 + 2) 7 ∧ ρ 13 = pA n49 13 ∧ ρ 14 = pA n80 14 ∧ ρ 15 = pA n115 15 ∧ ρ 78 = bool (!r169) ∧ H (n1, 5) = some ⟨6, [bC false aRedex]⟩ ∧ H (n1 + 1, 6) = some ⟨6, [bC false aAgent]⟩ ∧ H (n1 + 2, 7) = some ⟨2, [mC false aM]⟩ ∧ H (n49, 13) = some ⟨6, [[int r46.roots, v170, v171, int r46.edges, v172, v173]]⟩ ∧ H (n80, 14) = some ⟨6, [[int r77.roots, v174, v175, int r77.edges, v176, v177]]⟩ ∧ H (n115, 15) = some ⟨2, [[v178, v179]]⟩ ∧ Sep H n [oN v170 r46.nodes, oI v171 r46.sites, oS v172 r46.outer, oW v173 r46.inner, oN v174 r77.nodes, oI v175 r77.sites, oS v176 r77.outer, oW v177 r77.inner, oI v178 r112.nodes, oI v179 r112.roots] [(n115, 15), (n80, 14), (n49, 13), (n1 + 2, 7), (n1 + 1, 6), (n1, 5)]) (by refine ⟨v147, v148, v149, v150, v151, v152, v153, v154, v155, v156, ?_, ?_, ?_, ?_, ?_, ?_, ?_, ?_, ?_, ?_, ?_, ?_, ?_, sp.dr.dr.f9.f9.f9.f9.f9.f9.f9.f9.f9.f9⟩ <;> simp [h0, h5, h6, h7, h12, h13, h14, h15, h73, m5_1, m6_2, m7_3, m13_64, m14_95, m15_124, dc8, dc12, dc17, dc21, db145]) ?_
    clear h0 h5 h6 h7 h12 h13 h14 h15 h73 m5_1 m6_2 m7_3 m13_64 m14_95 m15_124
    rintro ρ H n180 ⟨v170, v171, v172, v173, v174, v175, v176, v177, v178, v179, h5, h6, h7, h13, h14, h15, h78, m5_1, m6_2, m7_3, m13_64, m14_95, m15_124, sp⟩
    refine Runs.ite (b := (!r169)) (by simp [h5, h6, h7, h13, h14, h15, h78, m5_1, m6_2, m7_3, m13_64, m14_95, m15_124, dc8, dc12, dc17, dc21, db145]) (fun dr169 => ?_) (fun dr169 => ?_)
    · have dr169 : r169 = false := by simpa using dr169
      replace h := h.2 dr169
      refine Runs.seqE Ty_ok (by decide) fun k' hk' => ?_
      simp [h5, h6, h7, h13, h14, h15, h78, m5_1, m6_2, m7_3, m13_64, m14_95, m15_124, dc8, dc12, dc17, dc21, db145, dr169]
      refine hk' _ _ _ ?_
      exact Runs.ret1 (v := bool false) Tryz.func4 Tryz.results4 (by simp [h5, h6, h7, h13, h14, h15, h78, m5_1, m6_2, m7_3, m13_64, m14_95, m15_124, dc8, dc12, dc17, dc21, db145, dr169]) (hQ _ _ _ _ (.of (.v _)) ⟨false, h, rfl⟩)
    have dr169 : r169 = true := by simpa using dr169
    replace h := h.1 dr169
    refine Runs.skip ?_
    refine Runs.seq ?_
    refine Runs.seqD Ty_ok kindOp_ok draws (by decide) (by kernel_rfl) fun k' hk' => ?_
    obtain ⟨hb181, h⟩ := h
    obtain ⟨r182, er182⟩ : ∃ v : Big, v = toBigraph aRedex := ⟨_, rfl⟩
    replace h := h r182 er182
    simp [h5, h6, h7, h13, h14, h15, h78, m5_1, m6_2, m7_3, m13_64, m14_95, m15_124, dc8, dc12, dc17, dc21, db145, dr169]
    refine RunDK.callA Ty_ok kindOp_ok ((toBigraph_ok aRedex hb181).pure) e11 (.cons (argB false aRedex) .nil) (by decide) rfl (by simp [h5, h6, h7, h13, h14, h15, h78, m5_1, m6_2, m7_3, m13_64, m14_95, m15_124, dc8, dc12, dc17, dc21, db145, dr169]) ?_
    rw [← er182]
    obtain ⟨hb183, h⟩ := h
    obtain ⟨r184, er184⟩ : ∃ v : Bool, v = decide (r46 = r182) := ⟨_, rfl⟩
    replace h := h r184 er184
    simp [h5, h6, h7, h13, h14, h15, h78, m5_1, m6_2, m7_3, m13_64, m14_95, m15_124, dc8, dc12, dc17, dc21, db145, dr169]
    refine RunDK.callA Ty_ok kindOp_ok (eqBigraph_ok r46 r182 hb183) e15 (.cons (ArgOk.agg (.cons (.v _ _ _) (.cons (Sep.argOk' sp (old_nest_Node true r46.nodes)) (.cons (Sep.argOk' sp.f1 (old_listF (by simp))) (.cons (.v _ _ _) (.cons (Sep.argOk' sp.f2 (old_listF (by simp))) (.cons (Sep.argOk' sp.f3 (old_listF (by simp))) .nil))))))) (.cons (argB true r182) .nil)) (by decide) rfl (by simp [h5, h6, h7, h13, h14, h15, h78, m5_1, m6_2, m7_3, m13_64, m14_95, m15_124, dc8, dc12, dc17, dc21, db145, dr169]) ?_
    rw [← er184]
    simp [h5, h6, h7, h13, h14, h15, h78, m5_1, m6_2, m7_3, m13_64, m14_95, m15_124, dc8, dc12, dc17, dc21, db145, dr169]
    refine hk' _ _ _ ?_
    refine Runs.ite (b := (!r184)) (by simp [h5, h6, h7, h13, h14, h15, h78, m5_1, m6_2, m7_3, m13_64, m14_95, m15_124, dc8, dc12, dc17, dc21, db145, dr169]) (fun dr184 => ?_) (fun dr184 => ?_)
    · have dr184 : r184 = false := by simpa using dr184
      replace h := h.2 dr184
      refine Runs.seqE Ty_ok (by decide) fun k' hk' => ?_
      simp [h5, h6, h7, h13, h14, h15, h78, m5_1, m6_2, m7_3, m13_64, m14_95, m15_124, dc8, dc12, dc17, dc21, db145, dr169, dr184]
      refine hk' _ _ _ ?_
      exact Runs.ret1 (v := bool false) Tryz.func4 Tryz.results4 (by simp [h5, h6, h7, h13, h14, h15, h78, m5_1, m6_2, m7_3, m13_64, m14_95, m15_124, dc8, dc12, dc17, dc21, db145, dr169, dr184]) (hQ _ _ _ _ (.of (.v _)) ⟨false, h, rfl⟩)
    have dr184 : r184 = true := by simpa using dr184
    replace h := h.1 dr184
    refine Runs.skip ?_
    refine Runs.seq ?_
    refine Runs.seqD Ty_ok kindOp_ok draws (by decide) (by kernel_rfl) fun k' hk' => ?_
    obtain ⟨hb185, h⟩ := h
    obtain ⟨r186, er186⟩ : ∃ v : Big, v = toBigraph aAgent := ⟨_, rfl⟩
    replace h := h r186 er186
    simp [h5, h6, h7, h13, h14, h15, h78, m5_1, m6_2, m7_3, m13_64, m14_95, m15_124, dc8, dc12, dc17, dc21, db145, dr169, dr184]
    refine RunDK.callA Ty_ok kindOp_ok ((toBigraph_ok aAgent hb185).pure) e11 (.cons (argB false aAgent) .nil) (by decide) rfl (by simp [h5, h6, h7, h13, h14, h15, h78, m5_1, m6_2, m7_3, m13_64, m14_95, m15_124, dc8, dc12, dc17, dc21, db145, dr169, dr184]) ?_
    rw [← er186]
    obtain ⟨hb187, h⟩ := h
    obtain ⟨r188, er188⟩ : ∃ v : Bool, v = decide (r77 = r186) := ⟨_, rfl⟩
    replace h := h r188 er188
    simp [h5, h6, h7, h13, h14, h15, h78, m5_1, m6_2, m7_3, m13_64, m14_95, m15_124, dc8, dc12, dc17, dc21, db145, dr169, dr184]
    refine RunDK.callA Ty_ok kindOp_ok (eqBigraph_ok r77 r186 hb187) e15 (.cons (ArgOk.agg (.cons (.v _ _ _) (.cons (Sep.argOk' sp.f4 (old_nest_Node true r77.nodes)) (.cons (Sep.argOk' sp.f5 (old_listF (by simp))) (.cons (.v _ _ _) (.cons (Sep.argOk' sp.f6 (old_listF (by simp))) (.cons (Sep.argOk' sp.f7 (old_listF (by simp))) .nil))))))) (.cons (argB true r186) .nil)) (by decide) rfl (by simp [h5, h6, h7, h13, h14, h15, h78, m5_1, m6_2, m7_3, m13_64, m14_95, m15_124, dc8, dc12, dc17, dc21, db145, dr169, dr184]) ?_
    rw [← er188]
    simp [h5, h6, h7, h13, h14, h15, h78, m5_1, m6_2, m7_3, m13_64, m14_95, m15_124, dc8, dc12, dc17, dc21, db145, dr169, dr184]
    refine hk' _ _ _ ?_
    refine Runs.ite (b := (!r188)) (by simp [h5, h6, h7, h13, h14, h15, h78, m5_1, m6_2, m7_3, m13_64, m14_95, m15_124, dc8, dc12, dc17, dc21, db145, dr169, dr184]) (fun dr188 => ?_) (fun dr188 => ?_)
    · have dr188 : r188 = false := by simpa using dr188
      replace h := h.2 dr188
      refine Runs.seqE Ty_ok (by decide) fun k' hk' => ?_
      simp [h5, h6, h7, h13, h14, h15, h78, m5_1, m6_2, m7_3, m13_64, m14_95, m15_124, dc8, dc12, dc17, dc21, db145, dr169, dr184, dr188]
      refine hk' _ _ _ ?_
      exact Runs.ret1 (v := bool false) Tryz.func4 Tryz.results4 (by simp [h5, h6, h7, h13, h14, h15, h78, m5_1, m6_2, m7_3, m13_64, m14_95, m15_124, dc8, dc12, dc17, dc21, db145, dr169, dr184, dr188]) (hQ _ _ _ _ (.of (.v _)) ⟨false, h, rfl⟩)
    have dr188 : r188 = true := by simpa using dr188
    replace h := h.1 dr188
    refine Runs.skip ?_
    refine Runs.seq ?_
    refine Runs.seqD Ty_ok kindOp_ok draws (by decide) (by kernel_rfl) fun k' hk' => ?_
    obtain ⟨hb189, h⟩ := h
    obtain ⟨r190, er190⟩ : ∃ v : Match, v = toMatch aM := ⟨_, rfl⟩
    replace h := h r190 er190
    simp [h5, h6, h7, h13, h14, h15, h78, m5_1, m6_2, m7_3, m13_64, m14_95, m15_124, dc8, dc12, dc17, dc21, db145, dr169, dr184, dr188]
    refine RunDK.callA Ty_ok kindOp_ok ((toMatch_ok aM hb189).pure) e12 (.cons (argM false aM) .nil) (by decide) rfl (by simp [h5, h6, h7, h13, h14, h15, h78, m5_1, m6_2, m7_3, m13_64, m14_95, m15_124, dc8, dc12, dc17, dc21, db145, dr169, dr184, dr188]) ?_
    rw [← er190]
    obtain ⟨hb191, h⟩ := h
    obtain ⟨r192, er192⟩ : ∃ v : Bool, v = eqM r112 r190 := ⟨_, rfl⟩
    replace h := h r192 er192
    simp [h5, h6, h7, h13, h14, h15, h78, m5_1, m6_2, m7_3, m13_64, m14_95, m15_124, dc8, dc12, dc17, dc21, db145, dr169, dr184, dr188]
    refine RunDK.callA Ty_ok kindOp_ok (eqM_ok r112 r190 hb191) e16 (.cons (ArgOk.agg (.cons (Sep.argOk' sp.f8 (old_listF (by simp))) (.cons (Sep.argOk' sp.f9 (old_listF (by simp))) .nil))) (.cons (argM true r190) .nil)) (by decide) rfl (by simp [h5, h6, h7, h13, h14, h15, h78, m5_1, m6_2, m7_3, m13_64, m14_95, m15_124, dc8, dc12, dc17, dc21, db145, dr169, dr184, dr188]) ?_
    rw [← er192]
    simp [h5, h6, h7, h13, h14, h15, h78, m5_1, m6_2, m7_3, m13_64, m14_95, m15_124, dc8, dc12, dc17, dc21, db145, dr169, dr184, dr188]
    refine hk' _ _ _ ?_
    refine Runs.cut (fun ρ H n => ρ 93 = bool (!r192) ∧ Sep H n [] []) (by refine ⟨?_, (Sep.sub sp.dr.dr.dr.dr.dr.dr.dr.dr.dr.dr (by simp +contextual))⟩ <;> simp [h5, h6, h7, h13, h14, h15, h78, m5_1, m6_2, m7_3, m13_64, m14_95, m15_124, dc8, dc12, dc17, dc21, db145, dr169, dr184, dr188]) ?_
    clear h5 h6 h7 h13 h14 h15 h78 m5_1 m6_2 m7_3 m13_64 m14_95 m15_124
    rintro ρ H n193 ⟨h93, sp⟩
    refine Runs.ite (b := (!r192)) (by simp [h93, dc8, dc12, dc17, dc21, db145, dr169, dr184, dr188]) (fun dr192 => ?_) (fun dr192 => ?_)
    · have dr192 : r192 = false := by simpa using dr192
      replace h := h.2 dr192
      refine Runs.seqE Ty_ok (by decide) fun k' hk' => ?_
      simp [h93, dc8, dc12, dc17, dc21, db145, dr169, dr184, dr188, dr192]
      refine hk' _ _ _ ?_
      exact Runs.ret1 (v := bool false) Tryz.func4 Tryz.results4 (by simp [h93, dc8, dc12, dc17, dc21, db145, dr169, dr184, dr188, dr192]) (hQ _ _ _ _ (.of (.v _)) ⟨false, h, rfl⟩)
    have dr192 : r192 = true := by simpa using dr192
    replace h := h.1 dr192
    refine Runs.skip ?_
    refine Runs.seqE Ty_ok (by decide) fun k' hk' => ?_
    simp [h93, dc8, dc12, dc17, dc21, db145, dr169, dr184, dr188, dr192]
    refine hk' _ _ _ ?_
    exact Runs.ret1 (v := bool true) Tryz.func4 Tryz.results4 (by simp [h93, dc8, dc12, dc17, dc21, db145, dr169, dr184, dr188, dr192]) (hQ _ _ _ _ (.of (.v _)) ⟨true, h, rfl⟩)
  replace h := hJ143
  obtain ⟨c194, ec194⟩ : ∃ v : Bool, v = !(r141.1 == r32.1) := ⟨_, rfl⟩
  replace h := h c194 ec194
  have f195 := bb_neq ec194
  rcases Bool.eq_false_or_eq_true c194 with dc194 | dc194
  · replace h := h.1 dc194
    simp [h0, h5, h6, h7, h10, h11, h12, h13, h14, h15, m5_1, m6_2, m7_3, m13_64, m14_95, m15_124, f195, dc8, dc12, dc17, dc21, dc194, -boolBin]
    exact fin157 (true) _ _ _ h (by refine ⟨v128, v129, v130, v131, v132, v133, v134, v135, v136, v137, v138, ?_, ?_, ?_, ?_, ?_, ?_, ?_, ?_, ?_, ?_, ?_, ?_, ?_, ?_, ?_, sp.f10.f10.f10.f10.f10.f10.f10.f10.f10.f10.f10⟩ <;> simp [h0, h5, h6, h7, h10, h11, h12, h13, h14, h15, m5_1, m6_2, m7_3, m13_64, m14_95, m15_124, f195, dc8, dc12, dc17, dc21, dc194, -boolBin])
  replace h := h.2 dc194
  obtain ⟨c196, ec196⟩ : ∃ v : Bool, v = !(r141.2 == r32.2) := ⟨_, rfl⟩
  replace h := h c196 ec196
  have f197 := bb_neq ec196
  simp [h0, h5, h6, h7, h10, h11, h12, h13, h14, h15, m5_1, m6_2, m7_3, m13_64, m14_95, m15_124, f195, f197, dc8, dc12, dc17, dc21, dc194, -boolBin]
  exact fin157 (c196) _ _ _ h (by refine ⟨v128, v129, v130, v131, v132, v133, v134, v135, v136, v137, v138, ?_, ?_, ?_, ?_, ?_, ?_, ?_, ?_, ?_, ?_, ?_, ?_, ?_, ?_, ?_, sp.f10.f10.f10.f10.f10.f10.f10.f10.f10.f10.f10⟩ <;> simp [h0, h5, h6, h7, h10, h11, h12, h13, h14, h15, m5_1, m6_2, m7_3, m13_64, m14_95, m15_124, f195, f197, dc8, dc12, dc17, dc21, dc194, -boolBin])

theorem lawActive_ok (aSig : List Control) (aRedex : Big) (aAgent : Big) (aM : Match) (hp : lawActive_pre aSig aRedex aAgent aM) : PureC Tryz.prog 4 [.list false (aSig.map Control.cells), .agg (bC false aRedex), .agg (bC false aAgent), .agg (mC false aM)] (fun r => r = bool (lawActive aSig aRedex aAgent aM)) := (lawActive_walk aSig aRedex aAgent aM _ (lawActive_vc aSig aRedex aAgent aM hp)).mono (by rintro _ ⟨_, rfl, rfl⟩; rfl)

end Go.Ab.Vg
