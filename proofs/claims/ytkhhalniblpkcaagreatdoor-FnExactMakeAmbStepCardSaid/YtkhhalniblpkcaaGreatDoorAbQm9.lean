/- Merged texts (9 of 11) of the proof that ends in My: Mtw Mz. -/
import Derived.Test.YtkhhalniblpkcaaGreatDoorAbQm8
/- Walks by program for YtkhhalniblpkcaaGreatDoorAbMt. -/
namespace Go.Ab.Vg
open Go.Proofs
set_option maxRecDepth 100000
set_option linter.unusedSimpArgs false
set_option linter.unusedVariables false
theorem e15 : Ent Tryz.prog 15 := Ent.of Tryz.func15 (by kernel_rfl) rfl
theorem MakeAmbStep_walk (p : Proc) (s : AmbStep) (Z : (Proc × Bool) → Prop) (h : MakeAmbStep_wp p s Z) : OwnS Tryz.prog 15 [.agg [.list false (p.map AmbNode.cells)], .agg [int s.kind, int s.cap, int s.place]] (.t [.a [.s [.c, .c, .c]], .c]) (fun r => ∃ y : Proc × Bool, Z y ∧ r = .tup [.agg [.list true (y.1.map AmbNode.cells)], bool y.2]) := by
  unfold MakeAmbStep_wp at h
  have sp : Sep noHeap 0 [] [] := Sep.nil (by simp)
  refine OwnS.of Tryz.func15 rfl Tryz.ntmps15 (by simp) fun Q hQ => ?_
  refine Runs.cut (fun ρ H n => ρ 0 = .agg [.list false (p.map AmbNode.cells)] ∧ ρ 1 = .agg [int s.kind, int s.cap, int s.place] ∧ Sep H n [] []) (by refine ⟨?_, ?_, sp⟩ <;> simp [AmbNode.cells, intC, strC]) ?_
  rintro ρ H n1 ⟨h0, h1, sp⟩
  refine Runs.seqE Ty_ok (by decide) fun k' hk' => ?_
  simp [h0, h1, AmbNode.cells, intC, strC]
  refine hk' _ _ _ ?_
  refine Runs.cut (fun ρ H n => ρ 2 = .ptr (n1, 2) 1 0 0 ∧ ρ 3 = .ptr (n1 + 1, 3) 1 0 0 ∧ ρ 4 = .ptr (n1 + 2, 4) 1 0 0 ∧ H (n1, 2) = some ⟨1, [[.list false (p.map AmbNode.cells)]]⟩ ∧ H (n1 + 1, 3) = some ⟨3, [[int s.kind, int s.cap, int s.place]]⟩ ∧ H (n1 + 2, 4) = some ⟨1, [[.v (.slice none 0 0)]]⟩ ∧ Sep H n [] [(n1 + 2, 4), (n1 + 1, 3), (n1, 2)]) (by refine ⟨?_, ?_, ?_, ?_, ?_, ?_, (Sep.var (Sep.var (Sep.var sp)))⟩ <;> simp [h0, h1, AmbNode.cells, intC, strC]) ?_
  clear h0 h1
  rintro ρ H n5 ⟨h2, h3, h4, m2_1, m3_2, m4_3, sp⟩
  refine Runs.seq ?_
  refine Runs.seqE Ty_ok (by decide) fun k' hk' => ?_
  obtain ⟨J6, hJ7, hr8⟩ := h
  have fin10 : ∀ (sJ : Bool) (ρ : Env) (H : Heap) (n : Nat), J6 sJ → (match sJ with | b9 => ρ 2 = .ptr (n1, 2) 1 0 0 ∧ ρ 3 = .ptr (n1 + 1, 3) 1 0 0 ∧ ρ 4 = .ptr (n1 + 2, 4) 1 0 0 ∧ ρ 14 = bool b9 ∧ H (n1, 2) = some ⟨1, [[.list false (p.map AmbNode.cells)]]⟩ ∧ H (n1 + 1, 3) = some ⟨3, [[int s.kind, int s.cap, int s.place]]⟩ ∧ H (n1 + 2, 4) = some ⟨1, [[.v (.slice none 0 0)]]⟩ ∧ Sep H n [] [(n1 + 2, 4), (n1 + 1, 3), (n1, 2)]) → Runs Tryz.prog 15 19 k' ρ H n Q := by
    rintro b9 ρ H n11 h ⟨h2, h3, h4, h14, m2_1, m3_2, m4_3, sp⟩
    replace h := hr8 _ h
    refine hk' _ _ _ ?_
    refine Runs.ite (b := b9) (by simp [h2, h3, h4, h14, m2_1, m3_2, m4_3, AmbNode.cells, intC, strC]) (fun db9 => ?_) (fun db9 => ?_)
    · replace h := h.1 db9
      refine Runs.seqE Ty_ok (by decide) fun k' hk' => ?_
      simp [h2, h3, h4, h14, m2_1, m3_2, m4_3, db9, AmbNode.cells, intC, strC]
      refine hk' _ _ _ ?_
      refine Runs.cut (fun ρ H n => ρ 4 = .ptr (n1 + 2, 4) 1 0 0 ∧ ρ 5 = bool false ∧ H (n1 + 2, 4) = some ⟨1, [[.v (.slice none 0 0)]]⟩ ∧ Sep H n [] [(n1 + 2, 4)]) (by refine ⟨?_, ?_, ?_, (Sep.sub (Sep.setVar (w := (n1 + 2, 4)) sp (by simp)) (by simp +contextual))⟩ <;> simp [h2, h3, h4, h14, m2_1, m3_2, m4_3, db9, AmbNode.cells, intC, strC]) ?_
      clear h2 h3 h4 h14 m2_1 m3_2 m4_3
      rintro ρ H n12 ⟨h4, h5, m4_3, sp⟩
      exact Runs.res2 Ty_ok (v := .agg [.v (.slice none 0 0)]) (w := bool false) Tryz.func15 Tryz.results15 (by simp [h4, h5, m4_3, db9, resA, AmbNode.cells, intC, strC]) (by simp [h4, h5, m4_3, db9, resA, AmbNode.cells, intC, strC]) (hQ _ _ _ _ (Sep.sub (ids' := []) (Sep.packT (K := []) (Fill.own (Fill.v _ Fill.nil)) (Sep.pack (K := []) (Fill.own Fill.nil) (Sep.addNil sp))) (by simp)) ⟨([], false), h, rfl⟩)
    · replace h := h.2 db9
      refine Runs.skip ?_
      refine Runs.seqE Ty_ok (by decide) fun k' hk' => ?_
      obtain ⟨hb16, h⟩ := h
      obtain ⟨r17, er17⟩ : ∃ v : Proc, v = result p s := ⟨_, rfl⟩
      replace h := h r17 er17
      simp [h2, h3, h4, h14, m2_1, m3_2, m4_3, db9, AmbNode.cells, intC, strC]
      refine RunK.callW Ty_ok (result_ok p s hb16) e33 (.cons (ArgOk.agg (.cons (ArgOk.listF (fr := false) (els := p.map AmbNode.cells) (by simp [AmbNode.cells, intC, strC, intC])) .nil)) (.cons (ArgOk.agg (.cons (.v _ _ _) (.cons (.v _ _ _) (.cons (.v _ _ _) .nil)))) .nil)) sp (by decide) (by decide) rfl (by simp [h2, h3, h4, h14, m2_1, m3_2, m4_3, db9, AmbNode.cells, intC, strC]) ?_
      rintro v18 H19 n20 _ sp rfl hle22 hfr21
      rw [← er17] at sp
      have m2_1 : H19 (n1, 2) = some ⟨1, [[.list false (p.map AmbNode.cells)]]⟩ := (hfr21 _ (by simp)).trans (by simp [h2, h3, h4, h14, m2_1, m3_2, m4_3, Heap.get_set])
      have m3_2 : H19 (n1 + 1, 3) = some ⟨3, [[int s.kind, int s.cap, int s.place]]⟩ := (hfr21 _ (by simp)).trans (by simp [h2, h3, h4, h14, m2_1, m3_2, m4_3, Heap.get_set])
      have m4_3 : H19 (n1 + 2, 4) = some ⟨1, [[.v (.slice none 0 0)]]⟩ := (hfr21 _ (by simp)).trans (by simp [h2, h3, h4, h14, m2_1, m3_2, m4_3, Heap.get_set])
      replace sp := Sep.unpack sp
      obtain ⟨L25, hv, hl26, sp⟩ := sp
      subst hv
      obtain ⟨v24, hv⟩ := len1 (by simpa using hl26)
      subst hv
      simp only [zip3, List.cons_append, List.nil_append] at sp
      replace sp := Sep.rot sp
      try simp only [List.cons_append, List.nil_append, List.append_assoc] at sp
      replace sp : Sep H19 n20 [(.s [.c, .c, .c], v24, .list true (r17.map AmbNode.cells))] [(n1 + 2, 4), (n1 + 1, 3), (n1, 2)] := sp
      have f28 := cell_own (Sep.cells sp)
      have f29 := cell_own (Sep.one1 sp)
      simp [h2, h3, h4, h14, m2_1, m3_2, m4_3, f28, f29, db9, AmbNode.cells, intC, strC, -cellsA, -one1, cA_int, cA_bool, cA_str, cA_nil, cA_agg, cA_list, cA_arr, cA_ptr, o1_int, o1_bool, o1_str, o1_nil, o1_list, o1_arr, o1_ptr]
      refine hk' _ _ _ ?_
      refine Runs.cut (fun ρ H n => ∃ (v30 : AVal), ρ 4 = .ptr (n1 + 2, 4) 1 0 0 ∧ ρ 5 = bool true ∧ H (n1 + 2, 4) = some ⟨1, [[v30]]⟩ ∧ Sep H n [(.s [.c, .c, .c], v30, .list true (r17.map AmbNode.cells))] [(n1 + 2, 4)]) (by refine ⟨v24, ?_, ?_, ?_, (Sep.sub (Sep.setVar (w := (n1 + 2, 4)) sp (by simp)) (by simp +contextual))⟩ <;> simp [h2, h3, h4, h14, m2_1, m3_2, m4_3, f28, f29, db9, AmbNode.cells, intC, strC, -cellsA, -one1, cA_int, cA_bool, cA_str, cA_nil, cA_agg, cA_list, cA_arr, cA_ptr, o1_int, o1_bool, o1_str, o1_nil, o1_list, o1_arr, o1_ptr]) ?_
      clear h2 h3 h4 h14 m2_1 m3_2 m4_3
      rintro ρ H n31 ⟨v30, h4, h5, m4_3, sp⟩
      exact Runs.res2 Ty_ok (v := .agg [v30]) (w := bool true) Tryz.func15 Tryz.results15 (by simp [h4, h5, m4_3, db9, resA, AmbNode.cells, intC, strC]) (by simp [h4, h5, m4_3, db9, resA, AmbNode.cells, intC, strC]) (hQ _ _ _ _ (Sep.sub (ids' := []) (Sep.packT (K := []) (Fill.own (Fill.v _ Fill.nil)) (Sep.pack (K := []) (Fill.own Fill.nil) sp)) (by simp)) ⟨(r17, true), h, rfl⟩)
  replace h := hJ7
  obtain ⟨hb34, h⟩ := h
  obtain ⟨r35, er35⟩ : ∃ v : Bool, v = goodP p := ⟨_, rfl⟩
  replace h := h r35 er35
  simp [h2, h3, h4, m2_1, m3_2, m4_3, AmbNode.cells, intC, strC]
  refine RunK.callA Ty_ok (IsProcess_ok p hb34.1 hb34.2) e25 (.cons (ArgOk.agg (.cons (ArgOk.listF (fr := false) (els := p.map AmbNode.cells) (by simp [AmbNode.cells, intC, strC, intC])) .nil)) .nil) (by decide) (by decide) rfl (by simp [h2, h3, h4, m2_1, m3_2, m4_3, AmbNode.cells, intC, strC]) ?_
  rintro _ rfl
  rw [← er35]
  rcases Bool.eq_false_or_eq_true r35 with dr35 | dr35
  · replace h := h.1 dr35
    obtain ⟨hb36, h⟩ := h
    obtain ⟨r37, er37⟩ : ∃ v : Bool, v = possible p s := ⟨_, rfl⟩
    replace h := h r37 er37
    simp [h2, h3, h4, m2_1, m3_2, m4_3, dr35, AmbNode.cells, intC, strC]
    refine RunK.callA Ty_ok (possible_ok p s hb36) e32 (.cons (ArgOk.agg (.cons (ArgOk.listF (fr := false) (els := p.map AmbNode.cells) (by simp [AmbNode.cells, intC, strC, intC])) .nil)) (.cons (ArgOk.agg (.cons (.v _ _ _) (.cons (.v _ _ _) (.cons (.v _ _ _) .nil)))) .nil)) (by decide) (by decide) rfl (by simp [h2, h3, h4, m2_1, m3_2, m4_3, dr35, AmbNode.cells, intC, strC]) ?_
    rintro _ rfl
    rw [← er37]
    simp [h2, h3, h4, m2_1, m3_2, m4_3, dr35, AmbNode.cells, intC, strC]
    exact fin10 ((!r37)) _ _ _ h (by refine ⟨?_, ?_, ?_, ?_, ?_, ?_, ?_, sp⟩ <;> simp [h2, h3, h4, m2_1, m3_2, m4_3, dr35, AmbNode.cells, intC, strC])
  · replace h := h.2 dr35
    simp [h2, h3, h4, m2_1, m3_2, m4_3, dr35, AmbNode.cells, intC, strC]
    exact fin10 (true) _ _ _ h (by refine ⟨?_, ?_, ?_, ?_, ?_, ?_, ?_, sp⟩ <;> simp [h2, h3, h4, m2_1, m3_2, m4_3, dr35, AmbNode.cells, intC, strC])

theorem MakeAmbStep_ok (p : Proc) (s : AmbStep) (hp : MakeAmbStep_pre p s) : OwnS Tryz.prog 15 [.agg [.list false (p.map AmbNode.cells)], .agg [int s.kind, int s.cap, int s.place]] (.t [.a [.s [.c, .c, .c]], .c]) (fun r => r = .tup [.agg [.list true (((MakeAmbStep p s).1).map AmbNode.cells)], bool ((MakeAmbStep p s).2)]) := (MakeAmbStep_walk p s _ (MakeAmbStep_vc p s hp)).mono (by rintro _ ⟨_, rfl, rfl⟩; rfl)

theorem e13 : Ent Tryz.prog 13 := Ent.of Tryz.func13 (by kernel_rfl) rfl
theorem sMakeAmbStep_walk (p : Proc) (s : AmbStep) (Z : (Proc × Bool) → Prop) (h : sMakeAmbStep_wp p s Z) : PureC Tryz.prog 13 [.agg [.list false (p.map AmbNode.cells)], .agg [int s.kind, int s.cap, int s.place]] (fun r => ∃ y : Proc × Bool, Z y ∧ r = .tup [.agg [.list true (y.1.map AmbNode.cells)], bool y.2]) := by
  unfold sMakeAmbStep_wp at h
  refine PureC.of Tryz.func13 rfl Tryz.ntmps13 (by simp) fun Q hQ => ?_
  refine Runs.cut (fun ρ H n => ρ 0 = .agg [.list false (p.map AmbNode.cells)] ∧ ρ 1 = .agg [int s.kind, int s.cap, int s.place]) (by refine ⟨?_, ?_⟩ <;> simp [AmbNode.cells, intC, strC]) ?_
  rintro ρ H n1 ⟨h0, h1⟩
  refine Runs.seqE Ty_ok (by decide) fun k' hk' => ?_
  simp [h0, h1, AmbNode.cells, intC, strC]
  refine hk' _ _ _ ?_
  refine Runs.cut (fun ρ H n => ρ 2 = .ptr (n1, 2) 1 0 0 ∧ ρ 3 = .ptr (n1 + 1, 3) 1 0 0 ∧ ρ 4 = .ptr (n1 + 2, 4) 1 0 0 ∧ H (n1, 2) = some ⟨1, [[.list false (p.map AmbNode.cells)]]⟩ ∧ H (n1 + 1, 3) = some ⟨3, [[int s.kind, int s.cap, int s.place]]⟩ ∧ H (n1 + 2, 4) = some ⟨1, [[.v (.slice none 0 0)]]⟩) (by refine ⟨?_, ?_, ?_, ?_, ?_, ?_⟩ <;> simp [h0, h1, AmbNode.cells, intC, strC]) ?_
  clear h0 h1
  rintro ρ H n5 ⟨h2, h3, h4, m2_1, m3_2, m4_3⟩
  refine Runs.seq ?_
  refine Runs.seqE Ty_ok (by decide) fun k' hk' => ?_
  obtain ⟨J6, hJ7, hr8⟩ := h
  have fin10 : ∀ (sJ : Bool) (ρ : Env) (H : Heap) (n : Nat), J6 sJ → (match sJ with | b9 => ρ 2 = .ptr (n1, 2) 1 0 0 ∧ ρ 3 = .ptr (n1 + 1, 3) 1 0 0 ∧ ρ 4 = .ptr (n1 + 2, 4) 1 0 0 ∧ ρ 14 = bool b9 ∧ H (n1, 2) = some ⟨1, [[.list false (p.map AmbNode.cells)]]⟩ ∧ H (n1 + 1, 3) = some ⟨3, [[int s.kind, int s.cap, int s.place]]⟩ ∧ H (n1 + 2, 4) = some ⟨1, [[.v (.slice none 0 0)]]⟩) → Runs Tryz.prog 13 19 k' ρ H n Q := by
    rintro b9 ρ H n11 h ⟨h2, h3, h4, h14, m2_1, m3_2, m4_3⟩
    replace h := hr8 _ h
    refine hk' _ _ _ ?_
    refine Runs.ite (b := b9) (by simp [h2, h3, h4, h14, m2_1, m3_2, m4_3, AmbNode.cells, intC, strC]) (fun db9 => ?_) (fun db9 => ?_)
    · replace h := h.1 db9
      refine Runs.seqE Ty_ok (by decide) fun k' hk' => ?_
      simp [h2, h3, h4, h14, m2_1, m3_2, m4_3, db9, AmbNode.cells, intC, strC]
      refine hk' _ _ _ ?_
      refine Runs.cut (fun ρ H n => ρ 4 = .ptr (n1 + 2, 4) 1 0 0 ∧ ρ 5 = bool false ∧ H (n1 + 2, 4) = some ⟨1, [[.v (.slice none 0 0)]]⟩) (by refine ⟨?_, ?_, ?_⟩ <;> simp [h2, h3, h4, h14, m2_1, m3_2, m4_3, db9, AmbNode.cells, intC, strC]) ?_
      clear h2 h3 h4 h14 m2_1 m3_2 m4_3
      rintro ρ H n12 ⟨h4, h5, m4_3⟩
      exact Runs.res2 Ty_ok (v := .agg [.v (.slice none 0 0)]) (w := bool false) Tryz.func13 Tryz.results13 (by simp [h4, h5, m4_3, db9, resA, AmbNode.cells, intC, strC]) (by simp [h4, h5, m4_3, db9, resA, AmbNode.cells, intC, strC]) (hQ _ _ _ _ (.of (.tupL (.cons (.aggL (.cons (.nil true) .nil)) (.cons (.v _) .nil)))) ⟨([], false), h, rfl⟩)
    · replace h := h.2 db9
      refine Runs.skip ?_
      refine Runs.seqE Ty_ok (by decide) fun k' hk' => ?_
      obtain ⟨hb13, h⟩ := h
      obtain ⟨r14, er14⟩ : ∃ v : Proc, v = l12Step p s := ⟨_, rfl⟩
      replace h := h r14 er14
      simp [h2, h3, h4, h14, m2_1, m3_2, m4_3, db9, AmbNode.cells, intC, strC]
      refine RunK.callA Ty_ok (l12Step_ok p s hb13) e31 (.cons (ArgOk.agg (.cons (ArgOk.listF (fr := false) (els := p.map AmbNode.cells) (by simp [AmbNode.cells, intC, strC, intC])) .nil)) (.cons (ArgOk.agg (.cons (.v _ _ _) (.cons (.v _ _ _) (.cons (.v _ _ _) .nil)))) .nil)) (by decide) (by decide) rfl (by simp [h2, h3, h4, h14, m2_1, m3_2, m4_3, db9, AmbNode.cells, intC, strC]) ?_
      rintro _ rfl
      rw [← er14]
      simp [h2, h3, h4, h14, m2_1, m3_2, m4_3, db9, AmbNode.cells, intC, strC]
      refine hk' _ _ _ ?_
      refine Runs.cut (fun ρ H n => ρ 4 = .ptr (n1 + 2, 4) 1 0 0 ∧ ρ 5 = bool true ∧ H (n1 + 2, 4) = some ⟨1, [[.list true (r14.map AmbNode.cells)]]⟩) (by refine ⟨?_, ?_, ?_⟩ <;> simp [h2, h3, h4, h14, m2_1, m3_2, m4_3, db9, AmbNode.cells, intC, strC]) ?_
      clear h2 h3 h4 h14 m2_1 m3_2 m4_3
      rintro ρ H n15 ⟨h4, h5, m4_3⟩
      exact Runs.res2 Ty_ok (v := .agg [.list true (r14.map AmbNode.cells)]) (w := bool true) Tryz.func13 Tryz.results13 (by simp [h4, h5, m4_3, db9, resA, AmbNode.cells, intC, strC]) (by simp [h4, h5, m4_3, db9, resA, AmbNode.cells, intC, strC]) (hQ _ _ _ _ (.of (.tupL (.cons (.aggL (.cons (.fresh (by simp [AmbNode.cells, intC, strC, intC])) .nil)) (.cons (.v _) .nil)))) ⟨(r14, true), h, rfl⟩)
  replace h := hJ7
  obtain ⟨hb16, h⟩ := h
  obtain ⟨r17, er17⟩ : ∃ v : Bool, v = goodP p := ⟨_, rfl⟩
  replace h := h r17 er17
  simp [h2, h3, h4, m2_1, m3_2, m4_3, AmbNode.cells, intC, strC]
  refine RunK.callA Ty_ok (l12Good_ok p hb16.1 hb16.2) e22 (.cons (ArgOk.agg (.cons (ArgOk.listF (fr := false) (els := p.map AmbNode.cells) (by simp [AmbNode.cells, intC, strC, intC])) .nil)) .nil) (by decide) (by decide) rfl (by simp [h2, h3, h4, m2_1, m3_2, m4_3, AmbNode.cells, intC, strC]) ?_
  rintro _ rfl
  rw [← er17]
  rcases Bool.eq_false_or_eq_true r17 with dr17 | dr17
  · replace h := h.1 dr17
    obtain ⟨hb18, h⟩ := h
    obtain ⟨r19, er19⟩ : ∃ v : Bool, v = sPossible p s := ⟨_, rfl⟩
    replace h := h r19 er19
    simp [h2, h3, h4, m2_1, m3_2, m4_3, dr17, AmbNode.cells, intC, strC]
    refine RunK.callA Ty_ok (sPossible_ok p s hb18) e30 (.cons (ArgOk.agg (.cons (ArgOk.listF (fr := false) (els := p.map AmbNode.cells) (by simp [AmbNode.cells, intC, strC, intC])) .nil)) (.cons (ArgOk.agg (.cons (.v _ _ _) (.cons (.v _ _ _) (.cons (.v _ _ _) .nil)))) .nil)) (by decide) (by decide) rfl (by simp [h2, h3, h4, m2_1, m3_2, m4_3, dr17, AmbNode.cells, intC, strC]) ?_
    rintro _ rfl
    rw [← er19]
    simp [h2, h3, h4, m2_1, m3_2, m4_3, dr17, AmbNode.cells, intC, strC]
    exact fin10 ((!r19)) _ _ _ h (by refine ⟨?_, ?_, ?_, ?_, ?_, ?_, ?_⟩ <;> simp [h2, h3, h4, m2_1, m3_2, m4_3, dr17, AmbNode.cells, intC, strC])
  · replace h := h.2 dr17
    simp [h2, h3, h4, m2_1, m3_2, m4_3, dr17, AmbNode.cells, intC, strC]
    exact fin10 (true) _ _ _ h (by refine ⟨?_, ?_, ?_, ?_, ?_, ?_, ?_⟩ <;> simp [h2, h3, h4, m2_1, m3_2, m4_3, dr17, AmbNode.cells, intC, strC])

theorem sMakeAmbStep_ok (p : Proc) (s : AmbStep) (hp : sMakeAmbStep_pre p s) : PureC Tryz.prog 13 [.agg [.list false (p.map AmbNode.cells)], .agg [int s.kind, int s.cap, int s.place]] (fun r => r = .tup [.agg [.list true (((sMakeAmbStep p s).1).map AmbNode.cells)], bool ((sMakeAmbStep p s).2)]) := (sMakeAmbStep_walk p s _ (sMakeAmbStep_vc p s hp)).mono (by rintro _ ⟨_, rfl, rfl⟩; rfl)

theorem e14 : Ent Tryz.prog 14 := Ent.of Tryz.func14 (by kernel_rfl) rfl
theorem toAmbStep_walk (a : AmbStep) (Z : AmbStep → Prop) (h : toAmbStep_wp a Z) : PureC Tryz.prog 14 [.agg [int a.kind, int a.cap, int a.place]] (fun r => ∃ y : AmbStep, Z y ∧ r = .agg [int y.kind, int y.cap, int y.place]) := by
  unfold toAmbStep_wp at h
  refine PureC.of Tryz.func14 rfl Tryz.ntmps14 (by simp) fun Q hQ => ?_
  refine Runs.cut (fun ρ H n => ρ 0 = .agg [int a.kind, int a.cap, int a.place]) (by simp []) ?_
  rintro ρ H n1 h0
  refine Runs.seqE Ty_ok (by decide) fun k' hk' => ?_
  simp [h0]
  refine hk' _ _ _ ?_
  refine Runs.cut (fun ρ H n => ρ 1 = .ptr (n1, 1) 1 0 0 ∧ ρ 2 = .ptr (n1 + 1, 2) 1 0 0 ∧ H (n1, 1) = some ⟨3, [[int a.kind, int a.cap, int a.place]]⟩ ∧ H (n1 + 1, 2) = some ⟨3, [[int 0, int 0, int 0]]⟩) (by refine ⟨?_, ?_, ?_, ?_⟩ <;> simp [h0]) ?_
  clear h0
  rintro ρ H n4 ⟨h1, h2, m1_1, m2_2⟩
  refine Runs.seqE Ty_ok (by decide) fun k' hk' => ?_
  simp [h1, h2, m1_1, m2_2]
  refine hk' _ _ _ ?_
  refine Runs.cut (fun ρ H n => ρ 1 = .ptr (n1, 1) 1 0 0 ∧ ρ 2 = .ptr (n1 + 1, 2) 1 0 0 ∧ ρ 3 = .ptr (n4, 3) 1 0 0 ∧ H (n1, 1) = some ⟨3, [[int a.kind, int a.cap, int a.place]]⟩ ∧ H (n1 + 1, 2) = some ⟨3, [[int 0, int 0, int 0]]⟩ ∧ H (n4, 3) = some ⟨3, [[int 0, int 0, int 0]]⟩) (by refine ⟨?_, ?_, ?_, ?_, ?_, ?_⟩ <;> simp [h1, h2, m1_1, m2_2]) ?_
  clear h1 h2 m1_1 m2_2
  rintro ρ H n6 ⟨h1, h2, h3, m1_1, m2_2, m3_4⟩
  refine Runs.seqE Ty_ok (by decide) fun k' hk' => ?_
  simp [h1, h2, h3, m1_1, m2_2, m3_4]
  refine hk' _ _ _ ?_
  refine Runs.cut (fun ρ H n => ρ 1 = .ptr (n1, 1) 1 0 0 ∧ ρ 2 = .ptr (n1 + 1, 2) 1 0 0 ∧ ρ 3 = .ptr (n4, 3) 1 0 0 ∧ H (n1, 1) = some ⟨3, [[int a.kind, int a.cap, int a.place]]⟩ ∧ H (n1 + 1, 2) = some ⟨3, [[int 0, int 0, int 0]]⟩ ∧ H (n4, 3) = some ⟨3, [[int a.kind, int 0, int 0]]⟩) (by refine ⟨?_, ?_, ?_, ?_, ?_, ?_⟩ <;> simp [h1, h2, h3, m1_1, m2_2, m3_4]) ?_
  clear h1 h2 h3 m1_1 m2_2 m3_4
  rintro ρ H n7 ⟨h1, h2, h3, m1_1, m2_2, m3_4⟩
  refine Runs.seqE Ty_ok (by decide) fun k' hk' => ?_
  simp [h1, h2, h3, m1_1, m2_2, m3_4]
  refine hk' _ _ _ ?_
  refine Runs.cut (fun ρ H n => ρ 1 = .ptr (n1, 1) 1 0 0 ∧ ρ 2 = .ptr (n1 + 1, 2) 1 0 0 ∧ ρ 3 = .ptr (n4, 3) 1 0 0 ∧ H (n1, 1) = some ⟨3, [[int a.kind, int a.cap, int a.place]]⟩ ∧ H (n1 + 1, 2) = some ⟨3, [[int 0, int 0, int 0]]⟩ ∧ H (n4, 3) = some ⟨3, [[int a.kind, int a.cap, int 0]]⟩) (by refine ⟨?_, ?_, ?_, ?_, ?_, ?_⟩ <;> simp [h1, h2, h3, m1_1, m2_2, m3_4]) ?_
  clear h1 h2 h3 m1_1 m2_2 m3_4
  rintro ρ H n8 ⟨h1, h2, h3, m1_1, m2_2, m3_4⟩
  refine Runs.seqE Ty_ok (by decide) fun k' hk' => ?_
  simp [h1, h2, h3, m1_1, m2_2, m3_4]
  refine hk' _ _ _ ?_
  refine Runs.cut (fun ρ H n => ρ 2 = .ptr (n1 + 1, 2) 1 0 0 ∧ ρ 3 = .ptr (n4, 3) 1 0 0 ∧ H (n1 + 1, 2) = some ⟨3, [[int 0, int 0, int 0]]⟩ ∧ H (n4, 3) = some ⟨3, [[int a.kind, int a.cap, int a.place]]⟩) (by refine ⟨?_, ?_, ?_, ?_⟩ <;> simp [h1, h2, h3, m1_1, m2_2, m3_4]) ?_
  clear h1 h2 h3 m1_1 m2_2 m3_4
  rintro ρ H n9 ⟨h2, h3, m2_2, m3_4⟩
  refine Runs.seqE Ty_ok (by decide) fun k' hk' => ?_
  simp [h2, h3, m2_2, m3_4]
  refine hk' _ _ _ ?_
  refine Runs.cut (fun ρ H n => ρ 2 = .ptr (n1 + 1, 2) 1 0 0 ∧ H (n1 + 1, 2) = some ⟨3, [[int a.kind, int a.cap, int a.place]]⟩) (by refine ⟨?_, ?_⟩ <;> simp [h2, h3, m2_2, m3_4]) ?_
  clear h2 h3 m2_2 m3_4
  rintro ρ H n10 ⟨h2, m2_2⟩
  exact Runs.res1 Ty_ok (v := .agg [int a.kind, int a.cap, int a.place]) Tryz.func14 Tryz.results14 (by simp [h2, m2_2, resA]) (hQ _ _ _ _ (.of (.aggL (.cons (.v _) (.cons (.v _) (.cons (.v _) .nil))))) ⟨a, h, rfl⟩)

theorem toAmbStep_ok (a : AmbStep)  : PureC Tryz.prog 14 [.agg [int a.kind, int a.cap, int a.place]] (fun r => r = .agg [int ((toAmbStep a).kind), int ((toAmbStep a).cap), int ((toAmbStep a).place)]) := (toAmbStep_walk a _ (toAmbStep_vc a )).mono (by rintro _ ⟨_, rfl, rfl⟩; rfl)

theorem e4 : Ent Tryz.prog 4 := Ent.of Tryz.func4 (by kernel_rfl) rfl
theorem lawStep_walk (aP : Proc) (aS : AmbStep) (Z : Bool → Prop) (h : lawStep_wp aP aS Z) : PureC Tryz.prog 4 [.agg [.list false (aP.map AmbNode.cells)], .agg [int aS.kind, int aS.cap, int aS.place]] (fun r => ∃ y : Bool, Z y ∧ r = bool y) := by
  unfold lawStep_wp at h
  have sp : Sep noHeap 0 [] [] := Sep.nil (by simp)
  refine PureC.of Tryz.func4 rfl Tryz.ntmps4 (by simp) fun Q hQ => ?_
  refine Runs.cut (fun ρ H n => ρ 0 = .agg [.list false (aP.map AmbNode.cells)] ∧ ρ 1 = .agg [int aS.kind, int aS.cap, int aS.place] ∧ Sep H n [] []) (by refine ⟨?_, ?_, sp⟩ <;> simp [AmbNode.cells, intC, strC]) ?_
  rintro ρ H n1 ⟨h0, h1, sp⟩
  refine Runs.seqE Ty_ok (by decide) fun k' hk' => ?_
  simp [h0, h1, AmbNode.cells, intC, strC]
  refine hk' _ _ _ ?_
  refine Runs.cut (fun ρ H n => ρ 2 = .ptr (n1, 2) 1 0 0 ∧ ρ 3 = .ptr (n1 + 1, 3) 1 0 0 ∧ H (n1, 2) = some ⟨1, [[.list false (aP.map AmbNode.cells)]]⟩ ∧ H (n1 + 1, 3) = some ⟨3, [[int aS.kind, int aS.cap, int aS.place]]⟩ ∧ Sep H n [] [(n1 + 1, 3), (n1, 2)]) (by refine ⟨?_, ?_, ?_, ?_, (Sep.var (Sep.var sp))⟩ <;> simp [h0, h1, AmbNode.cells, intC, strC]) ?_
  clear h0 h1
  rintro ρ H n4 ⟨h2, h3, m2_1, m3_2, sp⟩
  refine Runs.seqE Ty_ok (by decide) fun k' hk' => ?_
  simp [h2, h3, m2_1, m3_2, AmbNode.cells, intC, strC]
  refine hk' _ _ _ ?_
  refine Runs.seqE Ty_ok (by decide) fun k' hk' => ?_
  obtain ⟨hb5, h⟩ := h
  obtain ⟨r6, er6⟩ : ∃ v : Int, v = szT aP 1048576 := ⟨_, rfl⟩
  replace h := h r6 er6
  simp [h2, h3, m2_1, m3_2, AmbNode.cells, intC, strC]
  refine RunK.callA Ty_ok (szT_ok aP 1048576 hb5.1.1 hb5.1.2 hb5.2) e6 (.cons (ArgOk.agg (.cons (ArgOk.listF (fr := false) (els := aP.map AmbNode.cells) (by simp [AmbNode.cells, intC, strC, intC])) .nil)) (.cons (.v _ _ _) .nil)) (by decide) (by decide) rfl (by simp [h2, h3, m2_1, m3_2, AmbNode.cells, intC, strC]) ?_
  rintro _ rfl
  rw [← er6]
  simp [h2, h3, m2_1, m3_2, AmbNode.cells, intC, strC]
  refine hk' _ _ _ ?_
  refine Runs.seq ?_
  refine Runs.seqE Ty_ok (by decide) fun k' hk' => ?_
  obtain ⟨c7, ec7⟩ : ∃ v : Bool, v = decide (r6 < 0) := ⟨_, rfl⟩
  replace h := h c7 ec7
  have f8 := ib_lss (k := .i64) ec7
  simp [h2, h3, m2_1, m3_2, f8, AmbNode.cells, intC, strC, -intBin]
  refine hk' _ _ _ ?_
  refine Runs.ite (b := c7) (by simp [h2, h3, m2_1, m3_2, AmbNode.cells, intC, strC]) (fun dc7 => ?_) (fun dc7 => ?_)
  · replace h := h.1 dc7
    refine Runs.seqE Ty_ok (by decide) fun k' hk' => ?_
    simp [h2, h3, m2_1, m3_2, dc7, AmbNode.cells, intC, strC]
    refine hk' _ _ _ ?_
    exact Runs.ret1 (v := bool true) Tryz.func4 Tryz.results4 (by simp [h2, h3, m2_1, m3_2, dc7, AmbNode.cells, intC, strC]) (hQ _ _ _ _ (.of (.v _)) ⟨true, h, rfl⟩)
  · replace h := h.2 dc7
    refine Runs.skip ?_
    refine Runs.cut (fun ρ H n => ρ 2 = .ptr (n1, 2) 1 0 0 ∧ ρ 3 = .ptr (n1 + 1, 3) 1 0 0 ∧ H (n1, 2) = some ⟨1, [[.list false (aP.map AmbNode.cells)]]⟩ ∧ H (n1 + 1, 3) = some ⟨3, [[int aS.kind, int aS.cap, int aS.place]]⟩ ∧ Sep H n [] [(n1 + 1, 3), (n1, 2)]) (by refine ⟨?_, ?_, ?_, ?_, sp⟩ <;> simp [h2, h3, m2_1, m3_2, dc7, AmbNode.cells, intC, strC]) ?_
    clear h2 h3 m2_1 m3_2
    rintro ρ H n9 ⟨h2, h3, m2_1, m3_2, sp⟩
    obtain ⟨hb10, h⟩ := h
    obtain ⟨r11, er11⟩ : ∃ v : Proc, v = toProcess aP := ⟨_, rfl⟩
    replace h := h r11 er11
    obtain ⟨r12, er12⟩ : ∃ v : AmbStep, v = toAmbStep aS := ⟨_, rfl⟩
    replace h := h r12 er12
    obtain ⟨hb13, h⟩ := h
    obtain ⟨r14, er14⟩ : ∃ v : Proc × Bool, v = sMakeAmbStep r11 r12 := ⟨_, rfl⟩
    replace h := h r14 er14
    have hid16 := sp.1
    refine Runs.seq (Runs.drawI (Reg.Inv { m := 11, c := 4, a := 8, st := 9, d := 6, B := [(2, .ptr (n1, 2) 1 0 0), (3, .ptr (n1 + 1, 3) 1 0 0)], F := fun GI AI => [(0, 22, .agg [.list false (aP.map AmbNode.cells)]), (1, 23, .agg [.list true (r11.map AmbNode.cells)]), (2, 24, .agg [int aS.kind, int aS.cap, int aS.place]), (3, 25, .agg [int r12.kind, int r12.cap, int r12.place]), (4, 26, .tup [.agg [.list true (r14.1.map AmbNode.cells)], bool r14.2]), (5, 21, .tup [.agg [.list true (r14.1.map AmbNode.cells)], bool r14.2]), (6, 27, .agg [.list true (r14.1.map AmbNode.cells)]), (7, 28, bool r14.2), (8, 6, .ptr (AI, 6) 1 0 0), (10, 7, bool r14.2)], ent := fun GI => [], ob0 := ⟨1, [[.v (.slice none 0 0)]]⟩, ob1 := fun GI => ⟨1, [[.list true (r14.1.map AmbNode.cells)]]⟩, RG := fun GI => True, onC := [5, 6, 7, 9, 10], onA := [9, 10], H0 := H, n0 := n9, K := [], ids := [(n1 + 1, 3), (n1, 2)] }) draws (by decide) (Reg.init (Old.cons h2 (Old.cons h3 Old.nil)) sp) ?_ ?_)
    · rintro (_ | _ | _ | _ | _ | _ | _ | _ | _ | _ | _ | i)
      · exact Reg.det (i := 0) rfl (show (0 : Nat) < 11 by decide) rfl (show (0 : Nat) ≠ 4 ∧ (0 : Nat) ≠ 8 ∧ (0 : Nat) ≠ 9 by decide) (by simp) (by intro G' A'; simp) (by simp) (by simp) (fun L' ρ' H' n' G' A' hO hT hd hG hcl hfr sp => ⟨.agg [.list false (aP.map AmbNode.cells)], stepF_ok Ty_ok (by rw [stepF_loc]; have t2 : ρ' 2 = .ptr (n1, 2) 1 0 0 := Old.head hO; have mm3_2 := (hfr (n1 + 1, 3) (by simp)).trans m3_2; have mm2_1 := (hfr (n1, 2) (by simp)).trans m2_1; simp [t2, mm3_2, mm2_1, AmbNode.cells, intC, strC]), by simp⟩)
      · exact Reg.det (i := 1) rfl (show (1 : Nat) < 11 by decide) rfl (show (1 : Nat) ≠ 4 ∧ (1 : Nat) ≠ 8 ∧ (1 : Nat) ≠ 9 by decide) (by simp) (by intro G' A'; simp) (by simp) (by simp) (fun L' ρ' H' n' G' A' hO hT hd hG hcl hfr sp => ⟨_, OpSem.callD2 (xs := [.agg [.list false (aP.map AmbNode.cells)]]) ((toProcess_ok aP hb10).pure) e8 (.cons (ArgOk.agg (.cons (ArgOk.listF (fr := false) (els := aP.map AmbNode.cells) (by simp [AmbNode.cells, intC, strC, intC])) .nil)) .nil) (by have t22 : ρ' 22 = .agg [.list false (aP.map AmbNode.cells)] := (Told.head hT) (hd ⟨0, .data⟩ (by simp) rfl); have mm3_2 := (hfr (n1 + 1, 3) (by simp)).trans m3_2; have mm2_1 := (hfr (n1, 2) (by simp)).trans m2_1; simp [t22, mm3_2, mm2_1, AmbNode.cells, intC, strC]) (by have t22 : ρ' 22 = .agg [.list false (aP.map AmbNode.cells)] := (Told.head hT) (hd ⟨0, .data⟩ (by simp) rfl); have mm3_2 := (hfr (n1 + 1, 3) (by simp)).trans m3_2; have mm2_1 := (hfr (n1, 2) (by simp)).trans m2_1; simp [t22, mm3_2, mm2_1, AmbNode.cells, intC, strC]), by simp [er11, AmbNode.cells, intC, strC]⟩)
      · exact Reg.det (i := 2) rfl (show (2 : Nat) < 11 by decide) rfl (show (2 : Nat) ≠ 4 ∧ (2 : Nat) ≠ 8 ∧ (2 : Nat) ≠ 9 by decide) (by simp) (by intro G' A'; simp) (by simp) (by simp) (fun L' ρ' H' n' G' A' hO hT hd hG hcl hfr sp => ⟨.agg [int aS.kind, int aS.cap, int aS.place], stepF_ok Ty_ok (by rw [stepF_loc]; have t3 : ρ' 3 = .ptr (n1 + 1, 3) 1 0 0 := Old.head (Old.tail hO); have mm3_2 := (hfr (n1 + 1, 3) (by simp)).trans m3_2; have mm2_1 := (hfr (n1, 2) (by simp)).trans m2_1; simp [t3, mm3_2, mm2_1, AmbNode.cells, intC, strC]), by simp⟩)
      · exact Reg.det (i := 3) rfl (show (3 : Nat) < 11 by decide) rfl (show (3 : Nat) ≠ 4 ∧ (3 : Nat) ≠ 8 ∧ (3 : Nat) ≠ 9 by decide) (by simp) (by intro G' A'; simp) (by simp) (by simp) (fun L' ρ' H' n' G' A' hO hT hd hG hcl hfr sp => ⟨_, OpSem.callD2 (xs := [.agg [int aS.kind, int aS.cap, int aS.place]]) (toAmbStep_ok aS ) e14 (.cons (ArgOk.agg (.cons (.v _ _ _) (.cons (.v _ _ _) (.cons (.v _ _ _) .nil)))) .nil) (by have t24 : ρ' 24 = .agg [int aS.kind, int aS.cap, int aS.place] := (Told.head (Told.tail (Told.tail hT))) (hd ⟨2, .data⟩ (by simp) rfl); have mm3_2 := (hfr (n1 + 1, 3) (by simp)).trans m3_2; have mm2_1 := (hfr (n1, 2) (by simp)).trans m2_1; simp [t24, mm3_2, mm2_1, AmbNode.cells, intC, strC]) (by have t24 : ρ' 24 = .agg [int aS.kind, int aS.cap, int aS.place] := (Told.head (Told.tail (Told.tail hT))) (hd ⟨2, .data⟩ (by simp) rfl); have mm3_2 := (hfr (n1 + 1, 3) (by simp)).trans m3_2; have mm2_1 := (hfr (n1, 2) (by simp)).trans m2_1; simp [t24, mm3_2, mm2_1, AmbNode.cells, intC, strC]), by simp [er12, AmbNode.cells, intC, strC]⟩)
      · exact Reg.callP rfl (show (4 : Nat) < 11 by decide) (show (4 : Nat) ≠ 8 ∧ (4 : Nat) ≠ 9 by decide) (by simp) (by intro G' A'; simp) (by simp) (fun _ => rfl) (fun _ => trivial) (fun L' ρ' H' n' G' A' hO hT hd hfr sp => ⟨_, OpSem.callD2 (xs := [.agg [.list true (r11.map AmbNode.cells)], .agg [int r12.kind, int r12.cap, int r12.place]]) (sMakeAmbStep_ok r11 r12 hb13) e13 (.cons (ArgOk.agg (.cons (ArgOk.listF (fr := true) (els := r11.map AmbNode.cells) (by simp [AmbNode.cells, intC, strC, intC])) .nil)) (.cons (ArgOk.agg (.cons (.v _ _ _) (.cons (.v _ _ _) (.cons (.v _ _ _) .nil)))) .nil)) (by have t23 : ρ' 23 = .agg [.list true (r11.map AmbNode.cells)] := (Told.head (Told.tail hT)) (hd ⟨1, .data⟩ (by simp) rfl); have t25 : ρ' 25 = .agg [int r12.kind, int r12.cap, int r12.place] := (Told.head (Told.tail (Told.tail (Told.tail hT)))) (hd ⟨3, .data⟩ (by simp) rfl); have mm3_2 := (hfr (n1 + 1, 3) (by simp)).trans m3_2; have mm2_1 := (hfr (n1, 2) (by simp)).trans m2_1; simp [t23, t25, mm3_2, mm2_1, AmbNode.cells, intC, strC]) (by have t23 : ρ' 23 = .agg [.list true (r11.map AmbNode.cells)] := (Told.head (Told.tail hT)) (hd ⟨1, .data⟩ (by simp) rfl); have t25 : ρ' 25 = .agg [int r12.kind, int r12.cap, int r12.place] := (Told.head (Told.tail (Told.tail (Told.tail hT)))) (hd ⟨3, .data⟩ (by simp) rfl); have mm3_2 := (hfr (n1 + 1, 3) (by simp)).trans m3_2; have mm2_1 := (hfr (n1, 2) (by simp)).trans m2_1; simp [t23, t25, mm3_2, mm2_1, AmbNode.cells, intC, strC]), by simp [er14, AmbNode.cells, intC, strC]⟩)
      · exact Reg.det (i := 5) rfl (show (5 : Nat) < 11 by decide) rfl (show (5 : Nat) ≠ 4 ∧ (5 : Nat) ≠ 8 ∧ (5 : Nat) ≠ 9 by decide) (by simp) (by intro G' A'; simp) (fun _ => ⟨⟨4, .data⟩, by simp, rfl, by simp⟩) (by simp) (fun L' ρ' H' n' G' A' hO hT hd hG hcl hfr sp => ⟨.tup [.agg [.list true (r14.1.map AmbNode.cells)], bool r14.2], stepF_ok Ty_ok (by rw [stepF_loc]; have t26 : ρ' 26 = .tup [.agg [.list true (r14.1.map AmbNode.cells)], bool r14.2] := (Told.head (Told.tail (Told.tail (Told.tail (Told.tail hT))))) (hd ⟨4, .data⟩ (by simp) rfl); have mm3_2 := (hfr (n1 + 1, 3) (by simp)).trans m3_2; have mm2_1 := (hfr (n1, 2) (by simp)).trans m2_1; simp [t26, mm3_2, mm2_1, AmbNode.cells, intC, strC]), by simp⟩)
      · exact Reg.det (i := 6) rfl (show (6 : Nat) < 11 by decide) rfl (show (6 : Nat) ≠ 4 ∧ (6 : Nat) ≠ 8 ∧ (6 : Nat) ≠ 9 by decide) (by simp) (by intro G' A'; simp) (fun _ => ⟨⟨5, .data⟩, by simp, rfl, by simp⟩) (by simp) (fun L' ρ' H' n' G' A' hO hT hd hG hcl hfr sp => ⟨.agg [.list true (r14.1.map AmbNode.cells)], stepF_ok Ty_ok (by rw [stepF_loc]; have t21 : ρ' 21 = .tup [.agg [.list true (r14.1.map AmbNode.cells)], bool r14.2] := (Told.head (Told.tail (Told.tail (Told.tail (Told.tail (Told.tail hT)))))) (hd ⟨5, .data⟩ (by simp) rfl); have mm3_2 := (hfr (n1 + 1, 3) (by simp)).trans m3_2; have mm2_1 := (hfr (n1, 2) (by simp)).trans m2_1; simp [t21, mm3_2, mm2_1, AmbNode.cells, intC, strC]), by simp⟩)
      · exact Reg.det (i := 7) rfl (show (7 : Nat) < 11 by decide) rfl (show (7 : Nat) ≠ 4 ∧ (7 : Nat) ≠ 8 ∧ (7 : Nat) ≠ 9 by decide) (by simp) (by intro G' A'; simp) (fun _ => ⟨⟨5, .data⟩, by simp, rfl, by simp⟩) (by simp) (fun L' ρ' H' n' G' A' hO hT hd hG hcl hfr sp => ⟨bool r14.2, stepF_ok Ty_ok (by rw [stepF_loc]; have t21 : ρ' 21 = .tup [.agg [.list true (r14.1.map AmbNode.cells)], bool r14.2] := (Told.head (Told.tail (Told.tail (Told.tail (Told.tail (Told.tail hT)))))) (hd ⟨5, .data⟩ (by simp) rfl); have mm3_2 := (hfr (n1 + 1, 3) (by simp)).trans m3_2; have mm2_1 := (hfr (n1, 2) (by simp)).trans m2_1; simp [t21, mm3_2, mm2_1, AmbNode.cells, intC, strC]), by simp⟩)
      · exact Reg.alloc Ty_ok rfl Ty_28 rfl (show (8 : Nat) < 11 by decide) (show (8 : Nat) ≠ 4 ∧ (8 : Nat) ≠ 9 by decide) (by simp) (by intro G' A'; simp) (by intro G' A1 A2; simp) (by simp) (by simp) (by simp) (by intro G' A'; simp)
      · exact Reg.store Ty_ok rfl (show (9 : Nat) < 11 by decide) (show (9 : Nat) ≠ 4 ∧ (9 : Nat) ≠ 8 by decide) (by intro G' A'; simp) (fun i hi => hid16 i hi) ⟨⟨6, .data⟩, by simp, rfl, by simp⟩ ⟨⟨8, .data⟩, by simp, rfl, by simp⟩ (fun L' ρ' H' G' A' hO hT hd hG hw => by have t6 : ρ' 6 = .ptr (A', 6) 1 0 0 := (Told.head (Told.tail (Told.tail (Told.tail (Told.tail (Told.tail (Told.tail (Told.tail (Told.tail hT))))))))) (hd ⟨8, .data⟩ (by simp) rfl); have t27 : ρ' 27 = .agg [.list true (r14.1.map AmbNode.cells)] := (Told.head (Told.tail (Told.tail (Told.tail (Told.tail (Told.tail (Told.tail hT))))))) (hd ⟨6, .data⟩ (by simp) rfl); have hG2 : True := hG; simp [t6, t27, hG2, hw, Ty_28, -one1, o1_int, o1_bool, o1_str, o1_nil, o1_list, o1_arr, o1_ptr, AmbNode.cells, intC, strC])
      · exact Reg.det (i := 10) rfl (show (10 : Nat) < 11 by decide) rfl (show (10 : Nat) ≠ 4 ∧ (10 : Nat) ≠ 8 ∧ (10 : Nat) ≠ 9 by decide) (by simp) (by intro G' A'; simp) (fun _ => ⟨⟨7, .data⟩, by simp, rfl, by simp⟩) (fun _ => ⟨⟨9, .chain⟩, by simp, rfl, by simp⟩) (fun L' ρ' H' n' G' A' hO hT hd hG hcl hfr sp => ⟨bool r14.2, stepF_ok Ty_ok (by rw [stepF_loc]; have t28 : ρ' 28 = bool r14.2 := (Told.head (Told.tail (Told.tail (Told.tail (Told.tail (Told.tail (Told.tail (Told.tail hT)))))))) (hd ⟨7, .data⟩ (by simp) rfl); have mm3_2 := (hfr (n1 + 1, 3) (by simp)).trans m3_2; have mm2_1 := (hfr (n1, 2) (by simp)).trans m2_1; simp [t28, mm3_2, mm2_1, AmbNode.cells, intC, strC]), by simp⟩)
      · exact StepI.none (by simp)
    · rintro L' ⟨ρ, H, n19⟩ hI hr
      obtain ⟨G17, A18, hO, hT, hG, sp, hfr20, hn0_, hA_, m6_14⟩ := Reg.fin (by kernel_rfl) rfl (show (4 : Nat) < 11 ∧ (8 : Nat) < 11 ∧ (9 : Nat) < 11 by decide) (by intro G' A'; simp) hI hr
      show Runs _ _ _ _ ρ H n19 _
      have h2 : ρ 2 = .ptr (n1, 2) 1 0 0 := Old.head hO
      have h3 : ρ 3 = .ptr (n1 + 1, 3) 1 0 0 := Old.head (Old.tail hO)
      have h22 : ρ 22 = .agg [.list false (aP.map AmbNode.cells)] := AllF.head hT
      have h23 : ρ 23 = .agg [.list true (r11.map AmbNode.cells)] := AllF.head (AllF.tail hT)
      have h24 : ρ 24 = .agg [int aS.kind, int aS.cap, int aS.place] := AllF.head (AllF.tail (AllF.tail hT))
      have h25 : ρ 25 = .agg [int r12.kind, int r12.cap, int r12.place] := AllF.head (AllF.tail (AllF.tail (AllF.tail hT)))
      have h26 : ρ 26 = .tup [.agg [.list true (r14.1.map AmbNode.cells)], bool r14.2] := AllF.head (AllF.tail (AllF.tail (AllF.tail (AllF.tail hT))))
      have h21 : ρ 21 = .tup [.agg [.list true (r14.1.map AmbNode.cells)], bool r14.2] := AllF.head (AllF.tail (AllF.tail (AllF.tail (AllF.tail (AllF.tail hT)))))
      have h27 : ρ 27 = .agg [.list true (r14.1.map AmbNode.cells)] := AllF.head (AllF.tail (AllF.tail (AllF.tail (AllF.tail (AllF.tail (AllF.tail hT))))))
      have h28 : ρ 28 = bool r14.2 := AllF.head (AllF.tail (AllF.tail (AllF.tail (AllF.tail (AllF.tail (AllF.tail (AllF.tail hT)))))))
      have h6 : ρ 6 = .ptr (A18, 6) 1 0 0 := AllF.head (AllF.tail (AllF.tail (AllF.tail (AllF.tail (AllF.tail (AllF.tail (AllF.tail (AllF.tail hT))))))))
      have h7 : ρ 7 = bool r14.2 := AllF.head (AllF.tail (AllF.tail (AllF.tail (AllF.tail (AllF.tail (AllF.tail (AllF.tail (AllF.tail (AllF.tail hT)))))))))
      have m3_2 : H (n1 + 1, 3) = some ⟨3, [[int aS.kind, int aS.cap, int aS.place]]⟩ := (hfr20 (n1 + 1, 3) (by simp)).trans m3_2
      have m2_1 : H (n1, 2) = some ⟨1, [[.list false (aP.map AmbNode.cells)]]⟩ := (hfr20 (n1, 2) (by simp)).trans m2_1
      have m6_14 : H (A18, 6) = some ⟨1, [[.list true (r14.1.map AmbNode.cells)]]⟩ := m6_14
      replace sp : Sep H n19 [] [(A18, 6), (n1 + 1, 3), (n1, 2)] := sp
      refine Runs.cut (fun ρ H n => ρ 2 = .ptr (n1, 2) 1 0 0 ∧ ρ 3 = .ptr (n1 + 1, 3) 1 0 0 ∧ ρ 6 = .ptr (A18, 6) 1 0 0 ∧ ρ 7 = bool r14.2 ∧ H (n1, 2) = some ⟨1, [[.list false (aP.map AmbNode.cells)]]⟩ ∧ H (n1 + 1, 3) = some ⟨3, [[int aS.kind, int aS.cap, int aS.place]]⟩ ∧ H (A18, 6) = some ⟨1, [[.list true (r14.1.map AmbNode.cells)]]⟩ ∧ Sep H n [] [(A18, 6), (n1 + 1, 3), (n1, 2)]) (by refine ⟨?_, ?_, ?_, ?_, ?_, ?_, ?_, sp⟩ <;> simp [m2_1, m3_2, m6_14, h2, h3, h22, h23, h24, h25, h26, h21, h27, h28, h6, h7, dc7, AmbNode.cells, intC, strC]) ?_
      clear m2_1 m3_2 m6_14 h2 h3 h22 h23 h24 h25 h26 h21 h27 h28 h6 h7
      rintro ρ H n21 ⟨h2, h3, h6, h7, m2_1, m3_2, m6_14, sp⟩
      refine Runs.seqE Ty_ok (by decide) fun k' hk' => ?_
      obtain ⟨hb22, h⟩ := h
      obtain ⟨r23, er23⟩ : ∃ v : Proc, v = toProcess aP := ⟨_, rfl⟩
      replace h := h r23 er23
      simp [h2, h3, h6, h7, m2_1, m3_2, m6_14, dc7, AmbNode.cells, intC, strC]
      refine RunK.callW Ty_ok (toProcess_ok aP hb22) e8 (.cons (ArgOk.agg (.cons (ArgOk.listF (fr := false) (els := aP.map AmbNode.cells) (by simp [AmbNode.cells, intC, strC, intC])) .nil)) .nil) sp (by decide) (by decide) rfl (by simp [h2, h3, h6, h7, m2_1, m3_2, m6_14, dc7, AmbNode.cells, intC, strC]) ?_
      rintro v24 H25 n26 _ sp rfl hle28 hfr27
      rw [← er23] at sp
      have m2_1 : H25 (n1, 2) = some ⟨1, [[.list false (aP.map AmbNode.cells)]]⟩ := (hfr27 _ (by simp)).trans (by simp [h2, h3, h6, h7, m2_1, m3_2, m6_14, Heap.get_set])
      have m3_2 : H25 (n1 + 1, 3) = some ⟨3, [[int aS.kind, int aS.cap, int aS.place]]⟩ := (hfr27 _ (by simp)).trans (by simp [h2, h3, h6, h7, m2_1, m3_2, m6_14, Heap.get_set])
      have m6_14 : H25 (A18, 6) = some ⟨1, [[.list true (r14.1.map AmbNode.cells)]]⟩ := (hfr27 _ (by simp)).trans (by simp [h2, h3, h6, h7, m2_1, m3_2, m6_14, Heap.get_set])
      replace sp := Sep.unpack sp
      obtain ⟨L31, hv, hl32, sp⟩ := sp
      subst hv
      obtain ⟨v30, hv⟩ := len1 (by simpa using hl32)
      subst hv
      simp only [zip3, List.cons_append, List.nil_append] at sp
      replace sp := Sep.rot sp
      try simp only [List.cons_append, List.nil_append, List.append_assoc] at sp
      replace sp : Sep H25 n26 [(.s [.c, .c, .c], v30, .list true (r23.map AmbNode.cells))] [(A18, 6), (n1 + 1, 3), (n1, 2)] := sp
      have f35 := cell_own (Sep.cells sp)
      have f36 := cell_own (Sep.one1 sp)
      simp [h2, h3, h6, h7, m2_1, m3_2, m6_14, f35, f36, dc7, AmbNode.cells, intC, strC, -cellsA, -one1, cA_int, cA_bool, cA_str, cA_nil, cA_agg, cA_list, cA_arr, cA_ptr, o1_int, o1_bool, o1_str, o1_nil, o1_list, o1_arr, o1_ptr]
      refine hk' _ _ _ ?_
      refine Runs.cut (fun ρ H n => ∃ (v37 : AVal), ρ 2 = .ptr (n1, 2) 1 0 0 ∧ ρ 3 = .ptr (n1 + 1, 3) 1 0 0 ∧ ρ 6 = .ptr (A18, 6) 1 0 0 ∧ ρ 7 = bool r14.2 ∧ ρ 8 = .ptr (n26, 8) 1 0 0 ∧ H (n1, 2) = some ⟨1, [[.list false (aP.map AmbNode.cells)]]⟩ ∧ H (n1 + 1, 3) = some ⟨3, [[int aS.kind, int aS.cap, int aS.place]]⟩ ∧ H (A18, 6) = some ⟨1, [[.list true (r14.1.map AmbNode.cells)]]⟩ ∧ H (n26, 8) = some ⟨1, [[v37]]⟩ ∧ Sep H n [(.s [.c, .c, .c], v37, .list true (r23.map AmbNode.cells))] [(n26, 8), (A18, 6), (n1 + 1, 3), (n1, 2)]) (by refine ⟨v30, ?_, ?_, ?_, ?_, ?_, ?_, ?_, ?_, ?_, (Sep.var sp)⟩ <;> simp [h2, h3, h6, h7, m2_1, m3_2, m6_14, f35, f36, dc7, AmbNode.cells, intC, strC, -cellsA, -one1, cA_int, cA_bool, cA_str, cA_nil, cA_agg, cA_list, cA_arr, cA_ptr, o1_int, o1_bool, o1_str, o1_nil, o1_list, o1_arr, o1_ptr]) ?_
      clear h2 h3 h6 h7 m2_1 m3_2 m6_14
      rintro ρ H n38 ⟨v37, h2, h3, h6, h7, h8, m2_1, m3_2, m6_14, m8_33, sp⟩
      refine Runs.cut (fun ρ H n => ∃ (v39 : AVal), ρ 2 = .ptr (n1, 2) 1 0 0 ∧ ρ 3 = .ptr (n1 + 1, 3) 1 0 0 ∧ ρ 6 = .ptr (A18, 6) 1 0 0 ∧ ρ 7 = bool r14.2 ∧ ρ 8 = .ptr (n26, 8) 1 0 0 ∧ H (n1, 2) = some ⟨1, [[.list false (aP.map AmbNode.cells)]]⟩ ∧ H (n1 + 1, 3) = some ⟨3, [[int aS.kind, int aS.cap, int aS.place]]⟩ ∧ H (A18, 6) = some ⟨1, [[.list true (r14.1.map AmbNode.cells)]]⟩ ∧ H (n26, 8) = some ⟨1, [[v39]]⟩ ∧ Sep H n [(.s [.c, .c, .c], v39, .list true (r23.map AmbNode.cells))] [(n26, 8), (A18, 6), (n1 + 1, 3), (n1, 2)]) (by refine ⟨v37, ?_, ?_, ?_, ?_, ?_, ?_, ?_, ?_, ?_, sp⟩ <;> simp [h2, h3, h6, h7, h8, m2_1, m3_2, m6_14, m8_33, dc7, AmbNode.cells, intC, strC]) ?_
      clear h2 h3 h6 h7 h8 m2_1 m3_2 m6_14 m8_33
      rintro ρ H n40 ⟨v39, h2, h3, h6, h7, h8, m2_1, m3_2, m6_14, m8_33, sp⟩
      obtain ⟨r41, er41⟩ : ∃ v : AmbStep, v = toAmbStep aS := ⟨_, rfl⟩
      replace h := h r41 er41
      obtain ⟨hb42, h⟩ := h
      obtain ⟨r43, er43⟩ : ∃ v : Proc × Bool, v = MakeAmbStep r23 r41 := ⟨_, rfl⟩
      replace h := h r43 er43
      have hid46 := sp.1
      refine Runs.seq (Runs.drawI (Reg.Inv { m := 10, c := 3, a := 7, st := 8, d := 9, B := [(2, .ptr (n1, 2) 1 0 0), (3, .ptr (n1 + 1, 3) 1 0 0), (6, .ptr (A18, 6) 1 0 0), (7, bool r14.2), (8, .ptr (n26, 8) 1 0 0)], F := fun GI AI => [(0, 32, .agg [v39]), (1, 33, .agg [int aS.kind, int aS.cap, int aS.place]), (2, 34, .agg [int r41.kind, int r41.cap, int r41.place]), (3, 35, .tup [.agg [(gv GI 0)], bool r43.2]), (4, 31, .tup [.agg [(gv GI 0)], bool r43.2]), (5, 36, .agg [(gv GI 0)]), (6, 37, bool r43.2), (7, 9, .ptr (AI, 9) 1 0 0), (9, 10, bool r43.2)], ent := fun GI => [(.s [.c, .c, .c], (gv GI 0), .list true (r43.1.map AmbNode.cells))], ob0 := ⟨1, [[.v (.slice none 0 0)]]⟩, ob1 := fun GI => ⟨1, [[(gv GI 0)]]⟩, RG := fun GI => Ab.one1 (gv GI 0) = true, onC := [4, 5, 6, 8, 9], onA := [8, 9], H0 := H, n0 := n40, K := [(.s [.c, .c, .c], v39, .list true (r23.map AmbNode.cells))], ids := [(n26, 8), (A18, 6), (n1 + 1, 3), (n1, 2)] }) draws (by decide) (Reg.init (Old.cons h2 (Old.cons h3 (Old.cons h6 (Old.cons h7 (Old.cons h8 Old.nil))))) sp) ?_ ?_)
      · rintro (_ | _ | _ | _ | _ | _ | _ | _ | _ | _ | i)
        · exact Reg.det (i := 0) rfl (show (0 : Nat) < 10 by decide) rfl (show (0 : Nat) ≠ 3 ∧ (0 : Nat) ≠ 7 ∧ (0 : Nat) ≠ 8 by decide) (by simp) (by intro G' A'; simp) (by simp) (by simp) (fun L' ρ' H' n' G' A' hO hT hd hG hcl hfr sp => ⟨.agg [v39], stepF_ok Ty_ok (by rw [stepF_loc]; have t8 : ρ' 8 = .ptr (n26, 8) 1 0 0 := Old.head (Old.tail (Old.tail (Old.tail (Old.tail hO)))); have mm8_33 := (hfr (n26, 8) (by simp)).trans m8_33; have mm6_14 := (hfr (A18, 6) (by simp)).trans m6_14; have mm3_2 := (hfr (n1 + 1, 3) (by simp)).trans m3_2; have mm2_1 := (hfr (n1, 2) (by simp)).trans m2_1; simp [t8, mm8_33, mm6_14, mm3_2, mm2_1, AmbNode.cells, intC, strC]), by simp⟩)
        · exact Reg.det (i := 1) rfl (show (1 : Nat) < 10 by decide) rfl (show (1 : Nat) ≠ 3 ∧ (1 : Nat) ≠ 7 ∧ (1 : Nat) ≠ 8 by decide) (by simp) (by intro G' A'; simp) (by simp) (by simp) (fun L' ρ' H' n' G' A' hO hT hd hG hcl hfr sp => ⟨.agg [int aS.kind, int aS.cap, int aS.place], stepF_ok Ty_ok (by rw [stepF_loc]; have t3 : ρ' 3 = .ptr (n1 + 1, 3) 1 0 0 := Old.head (Old.tail hO); have mm8_33 := (hfr (n26, 8) (by simp)).trans m8_33; have mm6_14 := (hfr (A18, 6) (by simp)).trans m6_14; have mm3_2 := (hfr (n1 + 1, 3) (by simp)).trans m3_2; have mm2_1 := (hfr (n1, 2) (by simp)).trans m2_1; simp [t3, mm8_33, mm6_14, mm3_2, mm2_1, AmbNode.cells, intC, strC]), by simp⟩)
        · exact Reg.det (i := 2) rfl (show (2 : Nat) < 10 by decide) rfl (show (2 : Nat) ≠ 3 ∧ (2 : Nat) ≠ 7 ∧ (2 : Nat) ≠ 8 by decide) (by simp) (by intro G' A'; simp) (by simp) (by simp) (fun L' ρ' H' n' G' A' hO hT hd hG hcl hfr sp => ⟨_, OpSem.callD2 (xs := [.agg [int aS.kind, int aS.cap, int aS.place]]) (toAmbStep_ok aS ) e14 (.cons (ArgOk.agg (.cons (.v _ _ _) (.cons (.v _ _ _) (.cons (.v _ _ _) .nil)))) .nil) (by have t33 : ρ' 33 = .agg [int aS.kind, int aS.cap, int aS.place] := (Told.head (Told.tail hT)) (hd ⟨1, .data⟩ (by simp) rfl); have mm8_33 := (hfr (n26, 8) (by simp)).trans m8_33; have mm6_14 := (hfr (A18, 6) (by simp)).trans m6_14; have mm3_2 := (hfr (n1 + 1, 3) (by simp)).trans m3_2; have mm2_1 := (hfr (n1, 2) (by simp)).trans m2_1; simp [t33, mm8_33, mm6_14, mm3_2, mm2_1, AmbNode.cells, intC, strC]) (by have t33 : ρ' 33 = .agg [int aS.kind, int aS.cap, int aS.place] := (Told.head (Told.tail hT)) (hd ⟨1, .data⟩ (by simp) rfl); have mm8_33 := (hfr (n26, 8) (by simp)).trans m8_33; have mm6_14 := (hfr (A18, 6) (by simp)).trans m6_14; have mm3_2 := (hfr (n1 + 1, 3) (by simp)).trans m3_2; have mm2_1 := (hfr (n1, 2) (by simp)).trans m2_1; simp [t33, mm8_33, mm6_14, mm3_2, mm2_1, AmbNode.cells, intC, strC]), by simp [er41, AmbNode.cells, intC, strC]⟩)
        · refine Reg.call rfl (show (3 : Nat) < 10 by decide) (show (3 : Nat) ≠ 7 ∧ (3 : Nat) ≠ 8 by decide) (by simp) (by intro G' A'; simp) (by intro G1 G' A'; simp) (by simp) (by simp) (by simp) ⟨_, MakeAmbStep_ok r23 r41 hb42, fun L' ρ' H' n' G' A' hO hT hd hfr sp => ⟨by have t32 : ρ' 32 = .agg [v39] := (Told.head hT) (hd ⟨0, .data⟩ (by simp) rfl); have t34 : ρ' 34 = .agg [int r41.kind, int r41.cap, int r41.place] := (Told.head (Told.tail (Told.tail hT))) (hd ⟨2, .data⟩ (by simp) rfl); have mm8_33 := (hfr (n26, 8) (by simp)).trans m8_33; have mm6_14 := (hfr (A18, 6) (by simp)).trans m6_14; have mm3_2 := (hfr (n1 + 1, 3) (by simp)).trans m3_2; have mm2_1 := (hfr (n1, 2) (by simp)).trans m2_1; simp [t32, t34, mm8_33, mm6_14, mm3_2, mm2_1, AmbNode.cells, intC, strC], ArgsOk.of_eq (xs := [.agg [v39], .agg [int r41.kind, int r41.cap, int r41.place]]) (by have t32 : ρ' 32 = .agg [v39] := (Told.head hT) (hd ⟨0, .data⟩ (by simp) rfl); have t34 : ρ' 34 = .agg [int r41.kind, int r41.cap, int r41.place] := (Told.head (Told.tail (Told.tail hT))) (hd ⟨2, .data⟩ (by simp) rfl); have mm8_33 := (hfr (n26, 8) (by simp)).trans m8_33; have mm6_14 := (hfr (A18, 6) (by simp)).trans m6_14; have mm3_2 := (hfr (n1 + 1, 3) (by simp)).trans m3_2; have mm2_1 := (hfr (n1, 2) (by simp)).trans m2_1; simp [t32, t34, mm8_33, mm6_14, mm3_2, mm2_1, AmbNode.cells, intC, strC]) (.cons (ArgOk.agg (.cons (Sep.argOk' sp (old_listF (by simp [AmbNode.cells, intC, strC, intC]))) .nil)) (.cons (ArgOk.agg (.cons (.v _ _ _) (.cons (.v _ _ _) (.cons (.v _ _ _) .nil)))) .nil))⟩⟩ e15 ?_
          rintro H' n' v r ids sp rfl
          rw [← er43] at sp
          replace sp := Sep.unpackT sp
          obtain ⟨L49, hv, hl50, sp⟩ := sp
          subst hv
          obtain ⟨v47, v48, hv⟩ := len2 (by simpa using hl50)
          subst hv
          simp only [zip3, List.cons_append, List.nil_append] at sp
          replace sp := Sep.unpack sp
          obtain ⟨L52, hv, hl53, sp⟩ := sp
          subst hv
          obtain ⟨v51, hv⟩ := len1 (by simpa using hl53)
          subst hv
          simp only [zip3, List.cons_append, List.nil_append] at sp
          have hov51 := Sep.one1 sp
          replace sp := Sep.rot sp
          try simp only [List.cons_append, List.nil_append, List.append_assoc] at sp
          replace sp := Sep.scalar sp
          obtain ⟨hv, sp⟩ := sp
          subst hv
          replace sp := Sep.swap (K1 := ([(.s [.c, .c, .c], v39, .list true (r23.map AmbNode.cells))])) (K2 := [(.s [.c, .c, .c], v51, .list true (r43.1.map AmbNode.cells))]) sp
          exact ⟨[v51], hov51, sp, fun A' => by simp⟩
        · exact Reg.det (i := 4) rfl (show (4 : Nat) < 10 by decide) rfl (show (4 : Nat) ≠ 3 ∧ (4 : Nat) ≠ 7 ∧ (4 : Nat) ≠ 8 by decide) (by simp) (by intro G' A'; simp) (fun _ => ⟨⟨3, .data⟩, by simp, rfl, by simp⟩) (by simp) (fun L' ρ' H' n' G' A' hO hT hd hG hcl hfr sp => ⟨.tup [.agg [(gv G' 0)], bool r43.2], stepF_ok Ty_ok (by rw [stepF_loc]; have t35 : ρ' 35 = .tup [.agg [(gv G' 0)], bool r43.2] := (Told.head (Told.tail (Told.tail (Told.tail hT)))) (hd ⟨3, .data⟩ (by simp) rfl); have mm8_33 := (hfr (n26, 8) (by simp)).trans m8_33; have mm6_14 := (hfr (A18, 6) (by simp)).trans m6_14; have mm3_2 := (hfr (n1 + 1, 3) (by simp)).trans m3_2; have mm2_1 := (hfr (n1, 2) (by simp)).trans m2_1; simp [t35, mm8_33, mm6_14, mm3_2, mm2_1, AmbNode.cells, intC, strC]), by simp⟩)
        · exact Reg.det (i := 5) rfl (show (5 : Nat) < 10 by decide) rfl (show (5 : Nat) ≠ 3 ∧ (5 : Nat) ≠ 7 ∧ (5 : Nat) ≠ 8 by decide) (by simp) (by intro G' A'; simp) (fun _ => ⟨⟨4, .data⟩, by simp, rfl, by simp⟩) (by simp) (fun L' ρ' H' n' G' A' hO hT hd hG hcl hfr sp => ⟨.agg [(gv G' 0)], stepF_ok Ty_ok (by rw [stepF_loc]; have t31 : ρ' 31 = .tup [.agg [(gv G' 0)], bool r43.2] := (Told.head (Told.tail (Told.tail (Told.tail (Told.tail hT))))) (hd ⟨4, .data⟩ (by simp) rfl); have mm8_33 := (hfr (n26, 8) (by simp)).trans m8_33; have mm6_14 := (hfr (A18, 6) (by simp)).trans m6_14; have mm3_2 := (hfr (n1 + 1, 3) (by simp)).trans m3_2; have mm2_1 := (hfr (n1, 2) (by simp)).trans m2_1; simp [t31, mm8_33, mm6_14, mm3_2, mm2_1, AmbNode.cells, intC, strC]), by simp⟩)
        · exact Reg.det (i := 6) rfl (show (6 : Nat) < 10 by decide) rfl (show (6 : Nat) ≠ 3 ∧ (6 : Nat) ≠ 7 ∧ (6 : Nat) ≠ 8 by decide) (by simp) (by intro G' A'; simp) (fun _ => ⟨⟨4, .data⟩, by simp, rfl, by simp⟩) (by simp) (fun L' ρ' H' n' G' A' hO hT hd hG hcl hfr sp => ⟨bool r43.2, stepF_ok Ty_ok (by rw [stepF_loc]; have t31 : ρ' 31 = .tup [.agg [(gv G' 0)], bool r43.2] := (Told.head (Told.tail (Told.tail (Told.tail (Told.tail hT))))) (hd ⟨4, .data⟩ (by simp) rfl); have mm8_33 := (hfr (n26, 8) (by simp)).trans m8_33; have mm6_14 := (hfr (A18, 6) (by simp)).trans m6_14; have mm3_2 := (hfr (n1 + 1, 3) (by simp)).trans m3_2; have mm2_1 := (hfr (n1, 2) (by simp)).trans m2_1; simp [t31, mm8_33, mm6_14, mm3_2, mm2_1, AmbNode.cells, intC, strC]), by simp⟩)
        · exact Reg.alloc Ty_ok rfl Ty_28 rfl (show (7 : Nat) < 10 by decide) (show (7 : Nat) ≠ 3 ∧ (7 : Nat) ≠ 8 by decide) (by simp) (by intro G' A'; simp) (by intro G' A1 A2; simp) (by simp) (by simp) (by simp) (by intro G' A'; simp)
        · exact Reg.store Ty_ok rfl (show (8 : Nat) < 10 by decide) (show (8 : Nat) ≠ 3 ∧ (8 : Nat) ≠ 7 by decide) (by intro G' A'; simp) (fun i hi => hid46 i hi) ⟨⟨5, .data⟩, by simp, rfl, by simp⟩ ⟨⟨7, .data⟩, by simp, rfl, by simp⟩ (fun L' ρ' H' G' A' hO hT hd hG hw => by have t9 : ρ' 9 = .ptr (A', 9) 1 0 0 := (Told.head (Told.tail (Told.tail (Told.tail (Told.tail (Told.tail (Told.tail (Told.tail hT)))))))) (hd ⟨7, .data⟩ (by simp) rfl); have t36 : ρ' 36 = .agg [(gv G' 0)] := (Told.head (Told.tail (Told.tail (Told.tail (Told.tail (Told.tail hT)))))) (hd ⟨5, .data⟩ (by simp) rfl); have hG2 : Ab.one1 (gv G' 0) = true := hG; simp [t9, t36, hG2, hw, Ty_28, -one1, o1_int, o1_bool, o1_str, o1_nil, o1_list, o1_arr, o1_ptr, AmbNode.cells, intC, strC])
        · exact Reg.det (i := 9) rfl (show (9 : Nat) < 10 by decide) rfl (show (9 : Nat) ≠ 3 ∧ (9 : Nat) ≠ 7 ∧ (9 : Nat) ≠ 8 by decide) (by simp) (by intro G' A'; simp) (fun _ => ⟨⟨6, .data⟩, by simp, rfl, by simp⟩) (fun _ => ⟨⟨8, .chain⟩, by simp, rfl, by simp⟩) (fun L' ρ' H' n' G' A' hO hT hd hG hcl hfr sp => ⟨bool r43.2, stepF_ok Ty_ok (by rw [stepF_loc]; have t37 : ρ' 37 = bool r43.2 := (Told.head (Told.tail (Told.tail (Told.tail (Told.tail (Told.tail (Told.tail hT))))))) (hd ⟨6, .data⟩ (by simp) rfl); have mm8_33 := (hfr (n26, 8) (by simp)).trans m8_33; have mm6_14 := (hfr (A18, 6) (by simp)).trans m6_14; have mm3_2 := (hfr (n1 + 1, 3) (by simp)).trans m3_2; have mm2_1 := (hfr (n1, 2) (by simp)).trans m2_1; simp [t37, mm8_33, mm6_14, mm3_2, mm2_1, AmbNode.cells, intC, strC]), by simp⟩)
        · exact StepI.none (by simp)
      · rintro L' ⟨ρ, H, n56⟩ hI hr
        obtain ⟨G54, A55, hO, hT, hG, sp, hfr57, hn0_, hA_, m9_44⟩ := Reg.fin (by kernel_rfl) rfl (show (3 : Nat) < 10 ∧ (7 : Nat) < 10 ∧ (8 : Nat) < 10 by decide) (by intro G' A'; simp) hI hr
        show Runs _ _ _ _ ρ H n56 _
        have h2 : ρ 2 = .ptr (n1, 2) 1 0 0 := Old.head hO
        have h3 : ρ 3 = .ptr (n1 + 1, 3) 1 0 0 := Old.head (Old.tail hO)
        have h6 : ρ 6 = .ptr (A18, 6) 1 0 0 := Old.head (Old.tail (Old.tail hO))
        have h7 : ρ 7 = bool r14.2 := Old.head (Old.tail (Old.tail (Old.tail hO)))
        have h8 : ρ 8 = .ptr (n26, 8) 1 0 0 := Old.head (Old.tail (Old.tail (Old.tail (Old.tail hO))))
        have h32 : ρ 32 = .agg [v39] := AllF.head hT
        have h33 : ρ 33 = .agg [int aS.kind, int aS.cap, int aS.place] := AllF.head (AllF.tail hT)
        have h34 : ρ 34 = .agg [int r41.kind, int r41.cap, int r41.place] := AllF.head (AllF.tail (AllF.tail hT))
        have h35 : ρ 35 = .tup [.agg [(gv G54 0)], bool r43.2] := AllF.head (AllF.tail (AllF.tail (AllF.tail hT)))
        have h31 : ρ 31 = .tup [.agg [(gv G54 0)], bool r43.2] := AllF.head (AllF.tail (AllF.tail (AllF.tail (AllF.tail hT))))
        have h36 : ρ 36 = .agg [(gv G54 0)] := AllF.head (AllF.tail (AllF.tail (AllF.tail (AllF.tail (AllF.tail hT)))))
        have h37 : ρ 37 = bool r43.2 := AllF.head (AllF.tail (AllF.tail (AllF.tail (AllF.tail (AllF.tail (AllF.tail hT))))))
        have h9 : ρ 9 = .ptr (A55, 9) 1 0 0 := AllF.head (AllF.tail (AllF.tail (AllF.tail (AllF.tail (AllF.tail (AllF.tail (AllF.tail hT)))))))
        have h10 : ρ 10 = bool r43.2 := AllF.head (AllF.tail (AllF.tail (AllF.tail (AllF.tail (AllF.tail (AllF.tail (AllF.tail (AllF.tail hT))))))))
        have m8_33 : H (n26, 8) = some ⟨1, [[v39]]⟩ := (hfr57 (n26, 8) (by simp)).trans m8_33
        have m6_14 : H (A18, 6) = some ⟨1, [[.list true (r14.1.map AmbNode.cells)]]⟩ := (hfr57 (A18, 6) (by simp)).trans m6_14
        have m3_2 : H (n1 + 1, 3) = some ⟨3, [[int aS.kind, int aS.cap, int aS.place]]⟩ := (hfr57 (n1 + 1, 3) (by simp)).trans m3_2
        have m2_1 : H (n1, 2) = some ⟨1, [[.list false (aP.map AmbNode.cells)]]⟩ := (hfr57 (n1, 2) (by simp)).trans m2_1
        have m9_44 : H (A55, 9) = some ⟨1, [[(gv G54 0)]]⟩ := m9_44
        replace sp : Sep H n56 [(.s [.c, .c, .c], (gv G54 0), .list true (r43.1.map AmbNode.cells)), (.s [.c, .c, .c], v39, .list true (r23.map AmbNode.cells))] [(A55, 9), (n26, 8), (A18, 6), (n1 + 1, 3), (n1, 2)] := sp
        refine Runs.cut (fun ρ H n => ∃ (v58 : AVal) (v59 : AVal), ρ 2 = .ptr (n1, 2) 1 0 0 ∧ ρ 3 = .ptr (n1 + 1, 3) 1 0 0 ∧ ρ 6 = .ptr (A18, 6) 1 0 0 ∧ ρ 7 = bool r14.2 ∧ ρ 8 = .ptr (n26, 8) 1 0 0 ∧ ρ 9 = .ptr (A55, 9) 1 0 0 ∧ ρ 10 = bool r43.2 ∧ H (n1, 2) = some ⟨1, [[.list false (aP.map AmbNode.cells)]]⟩ ∧ H (n1 + 1, 3) = some ⟨3, [[int aS.kind, int aS.cap, int aS.place]]⟩ ∧ H (A18, 6) = some ⟨1, [[.list true (r14.1.map AmbNode.cells)]]⟩ ∧ H (n26, 8) = some ⟨1, [[v59]]⟩ ∧ H (A55, 9) = some ⟨1, [[v58]]⟩ ∧ Sep H n [(.s [.c, .c, .c], v58, .list true (r43.1.map AmbNode.cells)), (.s [.c, .c, .c], v59, .list true (r23.map AmbNode.cells))] [(A55, 9), (n26, 8), (A18, 6), (n1 + 1, 3), (n1, 2)]) (by refine ⟨(gv G54 0), v39, ?_, ?_, ?_, ?_, ?_, ?_, ?_, ?_, ?_, ?_, ?_, ?_, (Sep.front (K1 := [(.s [.c, .c, .c], v39, .list true (r23.map AmbNode.cells))]) (K2 := []) (Sep.front (K1 := [(.s [.c, .c, .c], (gv G54 0), .list true (r43.1.map AmbNode.cells))]) (K2 := []) sp))⟩ <;> simp [m2_1, m3_2, m6_14, m8_33, m9_44, h2, h3, h6, h7, h8, h32, h33, h34, h35, h31, h36, h37, h9, h10, dc7, AmbNode.cells, intC, strC]) ?_
        clear m2_1 m3_2 m6_14 m8_33 m9_44 h2 h3 h6 h7 h8 h32 h33 h34 h35 h31 h36 h37 h9 h10
        rintro ρ H n60 ⟨v58, v59, h2, h3, h6, h7, h8, h9, h10, m2_1, m3_2, m6_14, m8_33, m9_44, sp⟩
        refine Runs.seq ?_
        refine Runs.seqE Ty_ok (by decide) fun k' hk' => ?_
        obtain ⟨J61, hJ62, hr63⟩ := h
        have fin67 : ∀ (sJ : Bool) (ρ : Env) (H : Heap) (n : Nat), J61 sJ → (match sJ with | b64 => ∃ (v65 : AVal) (v66 : AVal), ρ 2 = .ptr (n1, 2) 1 0 0 ∧ ρ 3 = .ptr (n1 + 1, 3) 1 0 0 ∧ ρ 6 = .ptr (A18, 6) 1 0 0 ∧ ρ 7 = bool r14.2 ∧ ρ 8 = .ptr (n26, 8) 1 0 0 ∧ ρ 9 = .ptr (A55, 9) 1 0 0 ∧ ρ 10 = bool r43.2 ∧ ρ 46 = bool b64 ∧ H (n1, 2) = some ⟨1, [[.list false (aP.map AmbNode.cells)]]⟩ ∧ H (n1 + 1, 3) = some ⟨3, [[int aS.kind, int aS.cap, int aS.place]]⟩ ∧ H (A18, 6) = some ⟨1, [[.list true (r14.1.map AmbNode.cells)]]⟩ ∧ H (n26, 8) = some ⟨1, [[v66]]⟩ ∧ H (A55, 9) = some ⟨1, [[v65]]⟩ ∧ Sep H n [(.s [.c, .c, .c], v65, .list true (r43.1.map AmbNode.cells)), (.s [.c, .c, .c], v66, .list true (r23.map AmbNode.cells))] [(A55, 9), (n26, 8), (A18, 6), (n1 + 1, 3), (n1, 2)]) → Runs Tryz.prog 4 104 k' ρ H n Q := by
          rintro b64 ρ H n68 h ⟨v65, v66, h2, h3, h6, h7, h8, h9, h10, h46, m2_1, m3_2, m6_14, m8_33, m9_44, sp⟩
          replace h := hr63 _ h
          refine hk' _ _ _ ?_
          refine Runs.ite (b := b64) (by simp [h2, h3, h6, h7, h8, h9, h10, h46, m2_1, m3_2, m6_14, m8_33, m9_44, dc7, AmbNode.cells, intC, strC]) (fun db64 => ?_) (fun db64 => ?_)
          · replace h := h.1 db64
            refine Runs.seqE Ty_ok (by decide) fun k' hk' => ?_
            simp [h2, h3, h6, h7, h8, h9, h10, h46, m2_1, m3_2, m6_14, m8_33, m9_44, dc7, db64, AmbNode.cells, intC, strC]
            refine hk' _ _ _ ?_
            exact Runs.ret1 (v := bool false) Tryz.func4 Tryz.results4 (by simp [h2, h3, h6, h7, h8, h9, h10, h46, m2_1, m3_2, m6_14, m8_33, m9_44, dc7, db64, AmbNode.cells, intC, strC]) (hQ _ _ _ _ (.of (.v _)) ⟨false, h, rfl⟩)
          · replace h := h.2 db64
            refine Runs.skip ?_
            refine Runs.seq ?_
            refine Runs.seqD Ty_ok kindOp_ok draws (by decide) (by kernel_rfl) fun k' hk' => ?_
            obtain ⟨hb69, h⟩ := h
            obtain ⟨r70, er70⟩ : ∃ v : Proc, v = toProcess aP := ⟨_, rfl⟩
            replace h := h r70 er70
            simp [h2, h3, h6, h7, h8, h9, h10, h46, m2_1, m3_2, m6_14, m8_33, m9_44, dc7, db64, AmbNode.cells, intC, strC]
            refine RunDK.callA Ty_ok kindOp_ok ((toProcess_ok aP hb69).pure) e8 (.cons (ArgOk.agg (.cons (ArgOk.listF (fr := false) (els := aP.map AmbNode.cells) (by simp [AmbNode.cells, intC, strC, intC])) .nil)) .nil) (by decide) rfl (by simp [h2, h3, h6, h7, h8, h9, h10, h46, m2_1, m3_2, m6_14, m8_33, m9_44, dc7, db64, AmbNode.cells, intC, strC]) ?_
            rw [← er70]
            obtain ⟨hb71, h⟩ := h
            obtain ⟨r72, er72⟩ : ∃ v : Bool, v = decide (r23 = r70) := ⟨_, rfl⟩
            replace h := h r72 er72
            simp [h2, h3, h6, h7, h8, h9, h10, h46, m2_1, m3_2, m6_14, m8_33, m9_44, dc7, db64, AmbNode.cells, intC, strC]
            refine RunDK.callA Ty_ok kindOp_ok (eqProcess_ok r23 r70 hb71) e10 (.cons (ArgOk.agg (.cons (Sep.argOk' (Sep.front (K1 := [(.s [.c, .c, .c], v65, .list true (r43.1.map AmbNode.cells))]) (K2 := []) sp) (old_listF (by simp [AmbNode.cells, intC, strC, intC]))) .nil)) (.cons (ArgOk.agg (.cons (ArgOk.listF (fr := true) (els := r70.map AmbNode.cells) (by simp [AmbNode.cells, intC, strC, intC])) .nil)) .nil)) (by decide) rfl (by simp [h2, h3, h6, h7, h8, h9, h10, h46, m2_1, m3_2, m6_14, m8_33, m9_44, dc7, db64, AmbNode.cells, intC, strC]) ?_
            rw [← er72]
            simp [h2, h3, h6, h7, h8, h9, h10, h46, m2_1, m3_2, m6_14, m8_33, m9_44, dc7, db64, AmbNode.cells, intC, strC]
            refine hk' _ _ _ ?_
            refine Runs.ite (b := (!r72)) (by simp [h2, h3, h6, h7, h8, h9, h10, h46, m2_1, m3_2, m6_14, m8_33, m9_44, dc7, db64, AmbNode.cells, intC, strC]) (fun dr72 => ?_) (fun dr72 => ?_)
            · have dr72 : r72 = false := by simpa using dr72
              replace h := h.2 dr72
              refine Runs.seqE Ty_ok (by decide) fun k' hk' => ?_
              simp [h2, h3, h6, h7, h8, h9, h10, h46, m2_1, m3_2, m6_14, m8_33, m9_44, dc7, db64, dr72, AmbNode.cells, intC, strC]
              refine hk' _ _ _ ?_
              exact Runs.ret1 (v := bool false) Tryz.func4 Tryz.results4 (by simp [h2, h3, h6, h7, h8, h9, h10, h46, m2_1, m3_2, m6_14, m8_33, m9_44, dc7, db64, dr72, AmbNode.cells, intC, strC]) (hQ _ _ _ _ (.of (.v _)) ⟨false, h, rfl⟩)
            · have dr72 : r72 = true := by simpa using dr72
              replace h := h.1 dr72
              refine Runs.skip ?_
              refine Runs.seqE Ty_ok (by decide) fun k' hk' => ?_
              simp [h2, h3, h6, h7, h8, h9, h10, h46, m2_1, m3_2, m6_14, m8_33, m9_44, dc7, db64, dr72, AmbNode.cells, intC, strC]
              refine hk' _ _ _ ?_
              refine Runs.seqE Ty_ok (by decide) fun k' hk' => ?_
              obtain ⟨hb73, h⟩ := h
              obtain ⟨r74, er74⟩ : ∃ v : Proc × Int, v = markProcess r23 1 := ⟨_, rfl⟩
              replace h := h r74 er74
              have f75 := cell_own (Sep.cells (Sep.front (K1 := [(.s [.c, .c, .c], v65, .list true (r43.1.map AmbNode.cells))]) (K2 := []) sp))
              have f76 := cell_own (Sep.one1 (Sep.front (K1 := [(.s [.c, .c, .c], v65, .list true (r43.1.map AmbNode.cells))]) (K2 := []) sp))
              simp [h2, h3, h6, h7, h8, h9, h10, h46, m2_1, m3_2, m6_14, m8_33, m9_44, f75, f76, dc7, db64, dr72, AmbNode.cells, intC, strC, -cellsA, -one1, cA_int, cA_bool, cA_str, cA_nil, cA_agg, cA_list, cA_arr, cA_ptr, o1_int, o1_bool, o1_str, o1_nil, o1_list, o1_arr, o1_ptr]
              refine RunK.callM (v := .agg [v66]) Ty_ok (markProcess_ok r23 1 hb73) e11 (Sep.pack (K := [(.s [.c, .c, .c], v65, .list true (r43.1.map AmbNode.cells))]) (Fill.own Fill.nil) (Sep.front (K1 := [(.s [.c, .c, .c], v65, .list true (r43.1.map AmbNode.cells))]) (K2 := []) sp)) (by decide) (by decide) rfl (by simp [h2, h3, h6, h7, h8, h9, h10, h46, m2_1, m3_2, m6_14, m8_33, m9_44, f75, f76, dc7, db64, dr72, AmbNode.cells, intC, strC, -cellsA, -one1, cA_int, cA_bool, cA_str, cA_nil, cA_agg, cA_list, cA_arr, cA_ptr, o1_int, o1_bool, o1_str, o1_nil, o1_list, o1_arr, o1_ptr]) ?_
              rintro _ H77 n78 _ ⟨rfl, rfl⟩ sp hle80 hfr79
              rw [← er74] at sp
              rw [← er74]
              replace sp := Sep.unpack sp
              obtain ⟨L81, hv, hl82, sp⟩ := sp
              cases hv
              simp only [zip3, List.cons_append, List.nil_append] at sp
              replace sp := Sep.rot sp
              try simp only [List.cons_append, List.nil_append, List.append_assoc] at sp
              replace sp : Sep H77 n78 [(.s [.c, .c, .c], v65, .list true (r43.1.map AmbNode.cells)), (.s [.c, .c, .c], v66, .list true (r74.1.map AmbNode.cells))] [(A55, 9), (n26, 8), (A18, 6), (n1 + 1, 3), (n1, 2)] := sp
              have m2_1 : H77 (n1, 2) = some ⟨1, [[.list false (aP.map AmbNode.cells)]]⟩ := (hfr79 _ (by simp)).trans (by simp [h2, h3, h6, h7, h8, h9, h10, h46, m2_1, m3_2, m6_14, m8_33, m9_44, Heap.get_set])
              have m3_2 : H77 (n1 + 1, 3) = some ⟨3, [[int aS.kind, int aS.cap, int aS.place]]⟩ := (hfr79 _ (by simp)).trans (by simp [h2, h3, h6, h7, h8, h9, h10, h46, m2_1, m3_2, m6_14, m8_33, m9_44, Heap.get_set])
              have m6_14 : H77 (A18, 6) = some ⟨1, [[.list true (r14.1.map AmbNode.cells)]]⟩ := (hfr79 _ (by simp)).trans (by simp [h2, h3, h6, h7, h8, h9, h10, h46, m2_1, m3_2, m6_14, m8_33, m9_44, Heap.get_set])
              have m8_33 : H77 (n26, 8) = some ⟨1, [[v66]]⟩ := (hfr79 _ (by simp)).trans (by simp [h2, h3, h6, h7, h8, h9, h10, h46, m2_1, m3_2, m6_14, m8_33, m9_44, Heap.get_set])
              have m9_44 : H77 (A55, 9) = some ⟨1, [[v65]]⟩ := (hfr79 _ (by simp)).trans (by simp [h2, h3, h6, h7, h8, h9, h10, h46, m2_1, m3_2, m6_14, m8_33, m9_44, Heap.get_set])
              simp [h2, h3, h6, h7, h8, h9, h10, h46, m2_1, m3_2, m6_14, m8_33, m9_44, f75, f76, dc7, db64, dr72, AmbNode.cells, intC, strC, -cellsA, -one1, cA_int, cA_bool, cA_str, cA_nil, cA_agg, cA_list, cA_arr, cA_ptr, o1_int, o1_bool, o1_str, o1_nil, o1_list, o1_arr, o1_ptr]
              refine hk' _ _ _ ?_
              refine Runs.cut (fun ρ H n => ∃ (v84 : AVal), ρ 2 = .ptr (n1, 2) 1 0 0 ∧ ρ 3 = .ptr (n1 + 1, 3) 1 0 0 ∧ ρ 6 = .ptr (A18, 6) 1 0 0 ∧ ρ 7 = bool r14.2 ∧ ρ 9 = .ptr (A55, 9) 1 0 0 ∧ ρ 10 = bool r43.2 ∧ ρ 11 = int r74.2 ∧ H (n1, 2) = some ⟨1, [[.list false (aP.map AmbNode.cells)]]⟩ ∧ H (n1 + 1, 3) = some ⟨3, [[int aS.kind, int aS.cap, int aS.place]]⟩ ∧ H (A18, 6) = some ⟨1, [[.list true (r14.1.map AmbNode.cells)]]⟩ ∧ H (A55, 9) = some ⟨1, [[v84]]⟩ ∧ Sep H n [(.s [.c, .c, .c], v84, .list true (r43.1.map AmbNode.cells))] [(A55, 9), (A18, 6), (n1 + 1, 3), (n1, 2)]) (by refine ⟨v65, ?_, ?_, ?_, ?_, ?_, ?_, ?_, ?_, ?_, ?_, ?_, (Sep.sub (Sep.right (K1 := [(.s [.c, .c, .c], v66, .list true (r74.1.map AmbNode.cells))]) (K2 := [(.s [.c, .c, .c], v65, .list true (r43.1.map AmbNode.cells))]) (Sep.front (K1 := [(.s [.c, .c, .c], v65, .list true (r43.1.map AmbNode.cells))]) (K2 := []) sp)) (by simp +contextual))⟩ <;> simp [h2, h3, h6, h7, h8, h9, h10, h46, m2_1, m3_2, m6_14, m8_33, m9_44, f75, f76, dc7, db64, dr72, AmbNode.cells, intC, strC, -cellsA, -one1, cA_int, cA_bool, cA_str, cA_nil, cA_agg, cA_list, cA_arr, cA_ptr, o1_int, o1_bool, o1_str, o1_nil, o1_list, o1_arr, o1_ptr]) ?_
              clear h2 h3 h6 h7 h8 h9 h10 h46 m2_1 m3_2 m6_14 m8_33 m9_44
              rintro ρ H n85 ⟨v84, h2, h3, h6, h7, h9, h10, h11, m2_1, m3_2, m6_14, m9_44, sp⟩
              refine Runs.seq ?_
              refine Runs.seqE Ty_ok (by decide) fun k' hk' => ?_
              obtain ⟨J86, hJ87, hr88⟩ := h
              have fin91 : ∀ (sJ : Bool) (ρ : Env) (H : Heap) (n : Nat), J86 sJ → (match sJ with | b89 => ∃ (v90 : AVal), ρ 2 = .ptr (n1, 2) 1 0 0 ∧ ρ 3 = .ptr (n1 + 1, 3) 1 0 0 ∧ ρ 6 = .ptr (A18, 6) 1 0 0 ∧ ρ 7 = bool r14.2 ∧ ρ 9 = .ptr (A55, 9) 1 0 0 ∧ ρ 67 = bool b89 ∧ H (n1, 2) = some ⟨1, [[.list false (aP.map AmbNode.cells)]]⟩ ∧ H (n1 + 1, 3) = some ⟨3, [[int aS.kind, int aS.cap, int aS.place]]⟩ ∧ H (A18, 6) = some ⟨1, [[.list true (r14.1.map AmbNode.cells)]]⟩ ∧ H (A55, 9) = some ⟨1, [[v90]]⟩ ∧ Sep H n [(.s [.c, .c, .c], v90, .list true (r43.1.map AmbNode.cells))] [(A55, 9), (A18, 6), (n1 + 1, 3), (n1, 2)]) → Runs Tryz.prog 4 104 k' ρ H n Q := by
                rintro b89 ρ H n92 h ⟨v90, h2, h3, h6, h7, h9, h67, m2_1, m3_2, m6_14, m9_44, sp⟩
                replace h := hr88 _ h
                refine hk' _ _ _ ?_
                refine Runs.ite (b := b89) (by simp [h2, h3, h6, h7, h9, h67, m2_1, m3_2, m6_14, m9_44, dc7, db64, dr72, AmbNode.cells, intC, strC]) (fun db89 => ?_) (fun db89 => ?_)
                · replace h := h.1 db89
                  refine Runs.seqE Ty_ok (by decide) fun k' hk' => ?_
                  simp [h2, h3, h6, h7, h9, h67, m2_1, m3_2, m6_14, m9_44, dc7, db64, dr72, db89, AmbNode.cells, intC, strC]
                  refine hk' _ _ _ ?_
                  exact Runs.ret1 (v := bool false) Tryz.func4 Tryz.results4 (by simp [h2, h3, h6, h7, h9, h67, m2_1, m3_2, m6_14, m9_44, dc7, db64, dr72, db89, AmbNode.cells, intC, strC]) (hQ _ _ _ _ (.of (.v _)) ⟨false, h, rfl⟩)
                · replace h := h.2 db89
                  refine Runs.skip ?_
                  refine Runs.seqE Ty_ok (by decide) fun k' hk' => ?_
                  simp [h2, h3, h6, h7, h9, h67, m2_1, m3_2, m6_14, m9_44, dc7, db64, dr72, db89, AmbNode.cells, intC, strC]
                  refine hk' _ _ _ ?_
                  refine Runs.seqE Ty_ok (by decide) fun k' hk' => ?_
                  obtain ⟨hb93, h⟩ := h
                  obtain ⟨r94, er94⟩ : ∃ v : Proc × Int, v = markProcess r43.1 1 := ⟨_, rfl⟩
                  replace h := h r94 er94
                  have f95 := cell_own (Sep.cells sp)
                  have f96 := cell_own (Sep.one1 sp)
                  simp [h2, h3, h6, h7, h9, h67, m2_1, m3_2, m6_14, m9_44, f95, f96, dc7, db64, dr72, db89, AmbNode.cells, intC, strC, -cellsA, -one1, cA_int, cA_bool, cA_str, cA_nil, cA_agg, cA_list, cA_arr, cA_ptr, o1_int, o1_bool, o1_str, o1_nil, o1_list, o1_arr, o1_ptr]
                  refine RunK.callM (v := .agg [v90]) Ty_ok (markProcess_ok r43.1 1 hb93) e11 (Sep.pack (K := []) (Fill.own Fill.nil) sp) (by decide) (by decide) rfl (by simp [h2, h3, h6, h7, h9, h67, m2_1, m3_2, m6_14, m9_44, f95, f96, dc7, db64, dr72, db89, AmbNode.cells, intC, strC, -cellsA, -one1, cA_int, cA_bool, cA_str, cA_nil, cA_agg, cA_list, cA_arr, cA_ptr, o1_int, o1_bool, o1_str, o1_nil, o1_list, o1_arr, o1_ptr]) ?_
                  rintro _ H97 n98 _ ⟨rfl, rfl⟩ sp hle100 hfr99
                  rw [← er94] at sp
                  rw [← er94]
                  replace sp := Sep.unpack sp
                  obtain ⟨L101, hv, hl102, sp⟩ := sp
                  cases hv
                  simp only [zip3, List.cons_append, List.nil_append] at sp
                  replace sp := Sep.rot sp
                  try simp only [List.cons_append, List.nil_append, List.append_assoc] at sp
                  replace sp : Sep H97 n98 [(.s [.c, .c, .c], v90, .list true (r94.1.map AmbNode.cells))] [(A55, 9), (A18, 6), (n1 + 1, 3), (n1, 2)] := sp
                  have m2_1 : H97 (n1, 2) = some ⟨1, [[.list false (aP.map AmbNode.cells)]]⟩ := (hfr99 _ (by simp)).trans (by simp [h2, h3, h6, h7, h9, h67, m2_1, m3_2, m6_14, m9_44, Heap.get_set])
                  have m3_2 : H97 (n1 + 1, 3) = some ⟨3, [[int aS.kind, int aS.cap, int aS.place]]⟩ := (hfr99 _ (by simp)).trans (by simp [h2, h3, h6, h7, h9, h67, m2_1, m3_2, m6_14, m9_44, Heap.get_set])
                  have m6_14 : H97 (A18, 6) = some ⟨1, [[.list true (r14.1.map AmbNode.cells)]]⟩ := (hfr99 _ (by simp)).trans (by simp [h2, h3, h6, h7, h9, h67, m2_1, m3_2, m6_14, m9_44, Heap.get_set])
                  have m9_44 : H97 (A55, 9) = some ⟨1, [[v90]]⟩ := (hfr99 _ (by simp)).trans (by simp [h2, h3, h6, h7, h9, h67, m2_1, m3_2, m6_14, m9_44, Heap.get_set])
                  simp [h2, h3, h6, h7, h9, h67, m2_1, m3_2, m6_14, m9_44, f95, f96, dc7, db64, dr72, db89, AmbNode.cells, intC, strC, -cellsA, -one1, cA_int, cA_bool, cA_str, cA_nil, cA_agg, cA_list, cA_arr, cA_ptr, o1_int, o1_bool, o1_str, o1_nil, o1_list, o1_arr, o1_ptr]
                  refine hk' _ _ _ ?_
                  refine Runs.cut (fun ρ H n => ∃ (v104 : AVal), ρ 2 = .ptr (n1, 2) 1 0 0 ∧ ρ 3 = .ptr (n1 + 1, 3) 1 0 0 ∧ ρ 6 = .ptr (A18, 6) 1 0 0 ∧ ρ 7 = bool r14.2 ∧ ρ 9 = .ptr (A55, 9) 1 0 0 ∧ ρ 12 = int r94.2 ∧ H (n1, 2) = some ⟨1, [[.list false (aP.map AmbNode.cells)]]⟩ ∧ H (n1 + 1, 3) = some ⟨3, [[int aS.kind, int aS.cap, int aS.place]]⟩ ∧ H (A18, 6) = some ⟨1, [[.list true (r14.1.map AmbNode.cells)]]⟩ ∧ H (A55, 9) = some ⟨1, [[v104]]⟩ ∧ Sep H n [(.s [.c, .c, .c], v104, .list true (r94.1.map AmbNode.cells))] [(A55, 9), (A18, 6), (n1 + 1, 3), (n1, 2)]) (by refine ⟨v90, ?_, ?_, ?_, ?_, ?_, ?_, ?_, ?_, ?_, ?_, sp⟩ <;> simp [h2, h3, h6, h7, h9, h67, m2_1, m3_2, m6_14, m9_44, f95, f96, dc7, db64, dr72, db89, AmbNode.cells, intC, strC, -cellsA, -one1, cA_int, cA_bool, cA_str, cA_nil, cA_agg, cA_list, cA_arr, cA_ptr, o1_int, o1_bool, o1_str, o1_nil, o1_list, o1_arr, o1_ptr]) ?_
                  clear h2 h3 h6 h7 h9 h67 m2_1 m3_2 m6_14 m9_44
                  rintro ρ H n105 ⟨v104, h2, h3, h6, h7, h9, h12, m2_1, m3_2, m6_14, m9_44, sp⟩
                  refine Runs.seqE Ty_ok (by decide) fun k' hk' => ?_
                  simp [h2, h3, h6, h7, h9, h12, m2_1, m3_2, m6_14, m9_44, dc7, db64, dr72, db89, AmbNode.cells, intC, strC]
                  refine hk' _ _ _ ?_
                  refine Runs.seqE Ty_ok (by decide) fun k' hk' => ?_
                  obtain ⟨hb106, h⟩ := h
                  obtain ⟨r107, er107⟩ : ∃ v : Int, v = heldProcess r94.1 1 := ⟨_, rfl⟩
                  replace h := h r107 er107
                  simp [h2, h3, h6, h7, h9, h12, m2_1, m3_2, m6_14, m9_44, dc7, db64, dr72, db89, AmbNode.cells, intC, strC]
                  refine RunK.callA Ty_ok (heldProcess_ok r94.1 1 hb106) e12 (.cons (ArgOk.agg (.cons (Sep.argOk' sp (old_listF (by simp [AmbNode.cells, intC, strC, intC]))) .nil)) (.cons (.v _ _ _) .nil)) (by decide) (by decide) rfl (by simp [h2, h3, h6, h7, h9, h12, m2_1, m3_2, m6_14, m9_44, dc7, db64, dr72, db89, AmbNode.cells, intC, strC]) ?_
                  rintro _ rfl
                  rw [← er107]
                  simp [h2, h3, h6, h7, h9, h12, m2_1, m3_2, m6_14, m9_44, dc7, db64, dr72, db89, AmbNode.cells, intC, strC]
                  refine hk' _ _ _ ?_
                  refine Runs.seq ?_
                  refine Runs.seqE Ty_ok (by decide) fun k' hk' => ?_
                  obtain ⟨c108, ec108⟩ : ∃ v : Bool, v = decide (r107 < 0) := ⟨_, rfl⟩
                  replace h := h c108 ec108
                  have f109 := ib_lss (k := .i64) ec108
                  simp [h2, h3, h6, h7, h9, h12, m2_1, m3_2, m6_14, m9_44, f109, dc7, db64, dr72, db89, AmbNode.cells, intC, strC, -intBin]
                  refine hk' _ _ _ ?_
                  refine Runs.ite (b := c108) (by simp [h2, h3, h6, h7, h9, h12, m2_1, m3_2, m6_14, m9_44, dc7, db64, dr72, db89, AmbNode.cells, intC, strC]) (fun dc108 => ?_) (fun dc108 => ?_)
                  · replace h := h.1 dc108
                    refine Runs.seqE Ty_ok (by decide) fun k' hk' => ?_
                    simp [h2, h3, h6, h7, h9, h12, m2_1, m3_2, m6_14, m9_44, dc7, db64, dr72, db89, dc108, AmbNode.cells, intC, strC]
                    refine hk' _ _ _ ?_
                    exact Runs.ret1 (v := bool false) Tryz.func4 Tryz.results4 (by simp [h2, h3, h6, h7, h9, h12, m2_1, m3_2, m6_14, m9_44, dc7, db64, dr72, db89, dc108, AmbNode.cells, intC, strC]) (hQ _ _ _ _ (.of (.v _)) ⟨false, h, rfl⟩)
                  · replace h := h.2 dc108
                    refine Runs.skip ?_
                    refine Runs.seq ?_
                    refine Runs.seqE Ty_ok (by decide) fun k' hk' => ?_
                    obtain ⟨c110, ec110⟩ : ∃ v : Bool, v = decide (r107 ≠ r94.2) := ⟨_, rfl⟩
                    replace h := h c110 ec110
                    have f111 := ib_neq (k := .i64) ec110
                    simp [h2, h3, h6, h7, h9, h12, m2_1, m3_2, m6_14, m9_44, f111, dc7, db64, dr72, db89, dc108, AmbNode.cells, intC, strC, -intBin]
                    refine hk' _ _ _ ?_
                    refine Runs.ite (b := c110) (by simp [h2, h3, h6, h7, h9, h12, m2_1, m3_2, m6_14, m9_44, dc7, db64, dr72, db89, dc108, AmbNode.cells, intC, strC]) (fun dc110 => ?_) (fun dc110 => ?_)
                    · replace h := h.1 dc110
                      refine Runs.seqE Ty_ok (by decide) fun k' hk' => ?_
                      simp [h2, h3, h6, h7, h9, h12, m2_1, m3_2, m6_14, m9_44, dc7, db64, dr72, db89, dc108, dc110, AmbNode.cells, intC, strC]
                      refine hk' _ _ _ ?_
                      exact Runs.ret1 (v := bool false) Tryz.func4 Tryz.results4 (by simp [h2, h3, h6, h7, h9, h12, m2_1, m3_2, m6_14, m9_44, dc7, db64, dr72, db89, dc108, dc110, AmbNode.cells, intC, strC]) (hQ _ _ _ _ (.of (.v _)) ⟨false, h, rfl⟩)
                    · replace h := h.2 dc110
                      refine Runs.skip ?_
                      refine Runs.cut (fun ρ H n => ∃ (v112 : AVal), ρ 2 = .ptr (n1, 2) 1 0 0 ∧ ρ 3 = .ptr (n1 + 1, 3) 1 0 0 ∧ ρ 6 = .ptr (A18, 6) 1 0 0 ∧ ρ 7 = bool r14.2 ∧ ρ 9 = .ptr (A55, 9) 1 0 0 ∧ ρ 12 = int r94.2 ∧ H (n1, 2) = some ⟨1, [[.list false (aP.map AmbNode.cells)]]⟩ ∧ H (n1 + 1, 3) = some ⟨3, [[int aS.kind, int aS.cap, int aS.place]]⟩ ∧ H (A18, 6) = some ⟨1, [[.list true (r14.1.map AmbNode.cells)]]⟩ ∧ H (A55, 9) = some ⟨1, [[v112]]⟩ ∧ Sep H n [(.s [.c, .c, .c], v112, .list true (r94.1.map AmbNode.cells))] [(A55, 9), (A18, 6), (n1 + 1, 3), (n1, 2)]) (by refine ⟨v104, ?_, ?_, ?_, ?_, ?_, ?_, ?_, ?_, ?_, ?_, sp⟩ <;> simp [h2, h3, h6, h7, h9, h12, m2_1, m3_2, m6_14, m9_44, dc7, db64, dr72, db89, dc108, dc110, AmbNode.cells, intC, strC]) ?_
                      clear h2 h3 h6 h7 h9 h12 m2_1 m3_2 m6_14 m9_44
                      rintro ρ H n113 ⟨v112, h2, h3, h6, h7, h9, h12, m2_1, m3_2, m6_14, m9_44, sp⟩
                      obtain ⟨hb114, h⟩ := h
                      obtain ⟨r115, er115⟩ : ∃ v : Proc, v = toProcess aP := ⟨_, rfl⟩
                      replace h := h r115 er115
                      obtain ⟨r116, er116⟩ : ∃ v : AmbStep, v = toAmbStep aS := ⟨_, rfl⟩
                      replace h := h r116 er116
                      obtain ⟨hb117, h⟩ := h
                      obtain ⟨r118, er118⟩ : ∃ v : Proc × Bool, v = MakeAmbStep r115 r116 := ⟨_, rfl⟩
                      replace h := h r118 er118
                      have hid121 := sp.1
                      refine Runs.seq (Runs.drawI (Reg.Inv { m := 11, c := 4, a := 8, st := 9, d := 14, B := [(2, .ptr (n1, 2) 1 0 0), (3, .ptr (n1 + 1, 3) 1 0 0), (6, .ptr (A18, 6) 1 0 0), (7, bool r14.2), (9, .ptr (A55, 9) 1 0 0), (12, int r94.2)], F := fun GI AI => [(0, 80, .agg [.list false (aP.map AmbNode.cells)]), (1, 81, .agg [.list true (r115.map AmbNode.cells)]), (2, 82, .agg [int aS.kind, int aS.cap, int aS.place]), (3, 83, .agg [int r116.kind, int r116.cap, int r116.place]), (4, 84, .tup [.agg [(gv GI 0)], bool r118.2]), (5, 79, .tup [.agg [(gv GI 0)], bool r118.2]), (6, 85, .agg [(gv GI 0)]), (7, 86, bool r118.2), (8, 14, .ptr (AI, 14) 1 0 0), (10, 15, bool r118.2)], ent := fun GI => [(.s [.c, .c, .c], (gv GI 0), .list true (r118.1.map AmbNode.cells))], ob0 := ⟨1, [[.v (.slice none 0 0)]]⟩, ob1 := fun GI => ⟨1, [[(gv GI 0)]]⟩, RG := fun GI => Ab.one1 (gv GI 0) = true, onC := [5, 6, 7, 9, 10], onA := [9, 10], H0 := H, n0 := n113, K := [(.s [.c, .c, .c], v112, .list true (r94.1.map AmbNode.cells))], ids := [(A55, 9), (A18, 6), (n1 + 1, 3), (n1, 2)] }) draws (by decide) (Reg.init (Old.cons h2 (Old.cons h3 (Old.cons h6 (Old.cons h7 (Old.cons h9 (Old.cons h12 Old.nil)))))) sp) ?_ ?_)
                      · rintro (_ | _ | _ | _ | _ | _ | _ | _ | _ | _ | _ | i)
                        · exact Reg.det (i := 0) rfl (show (0 : Nat) < 11 by decide) rfl (show (0 : Nat) ≠ 4 ∧ (0 : Nat) ≠ 8 ∧ (0 : Nat) ≠ 9 by decide) (by simp) (by intro G' A'; simp) (by simp) (by simp) (fun L' ρ' H' n' G' A' hO hT hd hG hcl hfr sp => ⟨.agg [.list false (aP.map AmbNode.cells)], stepF_ok Ty_ok (by rw [stepF_loc]; have t2 : ρ' 2 = .ptr (n1, 2) 1 0 0 := Old.head hO; have mm9_44 := (hfr (A55, 9) (by simp)).trans m9_44; have mm6_14 := (hfr (A18, 6) (by simp)).trans m6_14; have mm3_2 := (hfr (n1 + 1, 3) (by simp)).trans m3_2; have mm2_1 := (hfr (n1, 2) (by simp)).trans m2_1; simp [t2, mm9_44, mm6_14, mm3_2, mm2_1, AmbNode.cells, intC, strC]), by simp⟩)
                        · exact Reg.det (i := 1) rfl (show (1 : Nat) < 11 by decide) rfl (show (1 : Nat) ≠ 4 ∧ (1 : Nat) ≠ 8 ∧ (1 : Nat) ≠ 9 by decide) (by simp) (by intro G' A'; simp) (by simp) (by simp) (fun L' ρ' H' n' G' A' hO hT hd hG hcl hfr sp => ⟨_, OpSem.callD2 (xs := [.agg [.list false (aP.map AmbNode.cells)]]) ((toProcess_ok aP hb114).pure) e8 (.cons (ArgOk.agg (.cons (ArgOk.listF (fr := false) (els := aP.map AmbNode.cells) (by simp [AmbNode.cells, intC, strC, intC])) .nil)) .nil) (by have t80 : ρ' 80 = .agg [.list false (aP.map AmbNode.cells)] := (Told.head hT) (hd ⟨0, .data⟩ (by simp) rfl); have mm9_44 := (hfr (A55, 9) (by simp)).trans m9_44; have mm6_14 := (hfr (A18, 6) (by simp)).trans m6_14; have mm3_2 := (hfr (n1 + 1, 3) (by simp)).trans m3_2; have mm2_1 := (hfr (n1, 2) (by simp)).trans m2_1; simp [t80, mm9_44, mm6_14, mm3_2, mm2_1, AmbNode.cells, intC, strC]) (by have t80 : ρ' 80 = .agg [.list false (aP.map AmbNode.cells)] := (Told.head hT) (hd ⟨0, .data⟩ (by simp) rfl); have mm9_44 := (hfr (A55, 9) (by simp)).trans m9_44; have mm6_14 := (hfr (A18, 6) (by simp)).trans m6_14; have mm3_2 := (hfr (n1 + 1, 3) (by simp)).trans m3_2; have mm2_1 := (hfr (n1, 2) (by simp)).trans m2_1; simp [t80, mm9_44, mm6_14, mm3_2, mm2_1, AmbNode.cells, intC, strC]), by simp [er115, AmbNode.cells, intC, strC]⟩)
                        · exact Reg.det (i := 2) rfl (show (2 : Nat) < 11 by decide) rfl (show (2 : Nat) ≠ 4 ∧ (2 : Nat) ≠ 8 ∧ (2 : Nat) ≠ 9 by decide) (by simp) (by intro G' A'; simp) (by simp) (by simp) (fun L' ρ' H' n' G' A' hO hT hd hG hcl hfr sp => ⟨.agg [int aS.kind, int aS.cap, int aS.place], stepF_ok Ty_ok (by rw [stepF_loc]; have t3 : ρ' 3 = .ptr (n1 + 1, 3) 1 0 0 := Old.head (Old.tail hO); have mm9_44 := (hfr (A55, 9) (by simp)).trans m9_44; have mm6_14 := (hfr (A18, 6) (by simp)).trans m6_14; have mm3_2 := (hfr (n1 + 1, 3) (by simp)).trans m3_2; have mm2_1 := (hfr (n1, 2) (by simp)).trans m2_1; simp [t3, mm9_44, mm6_14, mm3_2, mm2_1, AmbNode.cells, intC, strC]), by simp⟩)
                        · exact Reg.det (i := 3) rfl (show (3 : Nat) < 11 by decide) rfl (show (3 : Nat) ≠ 4 ∧ (3 : Nat) ≠ 8 ∧ (3 : Nat) ≠ 9 by decide) (by simp) (by intro G' A'; simp) (by simp) (by simp) (fun L' ρ' H' n' G' A' hO hT hd hG hcl hfr sp => ⟨_, OpSem.callD2 (xs := [.agg [int aS.kind, int aS.cap, int aS.place]]) (toAmbStep_ok aS ) e14 (.cons (ArgOk.agg (.cons (.v _ _ _) (.cons (.v _ _ _) (.cons (.v _ _ _) .nil)))) .nil) (by have t82 : ρ' 82 = .agg [int aS.kind, int aS.cap, int aS.place] := (Told.head (Told.tail (Told.tail hT))) (hd ⟨2, .data⟩ (by simp) rfl); have mm9_44 := (hfr (A55, 9) (by simp)).trans m9_44; have mm6_14 := (hfr (A18, 6) (by simp)).trans m6_14; have mm3_2 := (hfr (n1 + 1, 3) (by simp)).trans m3_2; have mm2_1 := (hfr (n1, 2) (by simp)).trans m2_1; simp [t82, mm9_44, mm6_14, mm3_2, mm2_1, AmbNode.cells, intC, strC]) (by have t82 : ρ' 82 = .agg [int aS.kind, int aS.cap, int aS.place] := (Told.head (Told.tail (Told.tail hT))) (hd ⟨2, .data⟩ (by simp) rfl); have mm9_44 := (hfr (A55, 9) (by simp)).trans m9_44; have mm6_14 := (hfr (A18, 6) (by simp)).trans m6_14; have mm3_2 := (hfr (n1 + 1, 3) (by simp)).trans m3_2; have mm2_1 := (hfr (n1, 2) (by simp)).trans m2_1; simp [t82, mm9_44, mm6_14, mm3_2, mm2_1, AmbNode.cells, intC, strC]), by simp [er116, AmbNode.cells, intC, strC]⟩)
                        · refine Reg.call rfl (show (4 : Nat) < 11 by decide) (show (4 : Nat) ≠ 8 ∧ (4 : Nat) ≠ 9 by decide) (by simp) (by intro G' A'; simp) (by intro G1 G' A'; simp) (by simp) (by simp) (by simp) ⟨_, MakeAmbStep_ok r115 r116 hb117, fun L' ρ' H' n' G' A' hO hT hd hfr sp => ⟨by have t81 : ρ' 81 = .agg [.list true (r115.map AmbNode.cells)] := (Told.head (Told.tail hT)) (hd ⟨1, .data⟩ (by simp) rfl); have t83 : ρ' 83 = .agg [int r116.kind, int r116.cap, int r116.place] := (Told.head (Told.tail (Told.tail (Told.tail hT)))) (hd ⟨3, .data⟩ (by simp) rfl); have mm9_44 := (hfr (A55, 9) (by simp)).trans m9_44; have mm6_14 := (hfr (A18, 6) (by simp)).trans m6_14; have mm3_2 := (hfr (n1 + 1, 3) (by simp)).trans m3_2; have mm2_1 := (hfr (n1, 2) (by simp)).trans m2_1; simp [t81, t83, mm9_44, mm6_14, mm3_2, mm2_1, AmbNode.cells, intC, strC], ArgsOk.of_eq (xs := [.agg [.list true (r115.map AmbNode.cells)], .agg [int r116.kind, int r116.cap, int r116.place]]) (by have t81 : ρ' 81 = .agg [.list true (r115.map AmbNode.cells)] := (Told.head (Told.tail hT)) (hd ⟨1, .data⟩ (by simp) rfl); have t83 : ρ' 83 = .agg [int r116.kind, int r116.cap, int r116.place] := (Told.head (Told.tail (Told.tail (Told.tail hT)))) (hd ⟨3, .data⟩ (by simp) rfl); have mm9_44 := (hfr (A55, 9) (by simp)).trans m9_44; have mm6_14 := (hfr (A18, 6) (by simp)).trans m6_14; have mm3_2 := (hfr (n1 + 1, 3) (by simp)).trans m3_2; have mm2_1 := (hfr (n1, 2) (by simp)).trans m2_1; simp [t81, t83, mm9_44, mm6_14, mm3_2, mm2_1, AmbNode.cells, intC, strC]) (.cons (ArgOk.agg (.cons (ArgOk.listF (fr := true) (els := r115.map AmbNode.cells) (by simp [AmbNode.cells, intC, strC, intC])) .nil)) (.cons (ArgOk.agg (.cons (.v _ _ _) (.cons (.v _ _ _) (.cons (.v _ _ _) .nil)))) .nil))⟩⟩ e15 ?_
                          rintro H' n' v r ids sp rfl
                          rw [← er118] at sp
                          replace sp := Sep.unpackT sp
                          obtain ⟨L124, hv, hl125, sp⟩ := sp
                          subst hv
                          obtain ⟨v122, v123, hv⟩ := len2 (by simpa using hl125)
                          subst hv
                          simp only [zip3, List.cons_append, List.nil_append] at sp
                          replace sp := Sep.unpack sp
                          obtain ⟨L127, hv, hl128, sp⟩ := sp
                          subst hv
                          obtain ⟨v126, hv⟩ := len1 (by simpa using hl128)
                          subst hv
                          simp only [zip3, List.cons_append, List.nil_append] at sp
                          have hov126 := Sep.one1 sp
                          replace sp := Sep.rot sp
                          try simp only [List.cons_append, List.nil_append, List.append_assoc] at sp
                          replace sp := Sep.scalar sp
                          obtain ⟨hv, sp⟩ := sp
                          subst hv
                          replace sp := Sep.swap (K1 := ([(.s [.c, .c, .c], v112, .list true (r94.1.map AmbNode.cells))])) (K2 := [(.s [.c, .c, .c], v126, .list true (r118.1.map AmbNode.cells))]) sp
                          exact ⟨[v126], hov126, sp, fun A' => by simp⟩
                        · exact Reg.det (i := 5) rfl (show (5 : Nat) < 11 by decide) rfl (show (5 : Nat) ≠ 4 ∧ (5 : Nat) ≠ 8 ∧ (5 : Nat) ≠ 9 by decide) (by simp) (by intro G' A'; simp) (fun _ => ⟨⟨4, .data⟩, by simp, rfl, by simp⟩) (by simp) (fun L' ρ' H' n' G' A' hO hT hd hG hcl hfr sp => ⟨.tup [.agg [(gv G' 0)], bool r118.2], stepF_ok Ty_ok (by rw [stepF_loc]; have t84 : ρ' 84 = .tup [.agg [(gv G' 0)], bool r118.2] := (Told.head (Told.tail (Told.tail (Told.tail (Told.tail hT))))) (hd ⟨4, .data⟩ (by simp) rfl); have mm9_44 := (hfr (A55, 9) (by simp)).trans m9_44; have mm6_14 := (hfr (A18, 6) (by simp)).trans m6_14; have mm3_2 := (hfr (n1 + 1, 3) (by simp)).trans m3_2; have mm2_1 := (hfr (n1, 2) (by simp)).trans m2_1; simp [t84, mm9_44, mm6_14, mm3_2, mm2_1, AmbNode.cells, intC, strC]), by simp⟩)
                        · exact Reg.det (i := 6) rfl (show (6 : Nat) < 11 by decide) rfl (show (6 : Nat) ≠ 4 ∧ (6 : Nat) ≠ 8 ∧ (6 : Nat) ≠ 9 by decide) (by simp) (by intro G' A'; simp) (fun _ => ⟨⟨5, .data⟩, by simp, rfl, by simp⟩) (by simp) (fun L' ρ' H' n' G' A' hO hT hd hG hcl hfr sp => ⟨.agg [(gv G' 0)], stepF_ok Ty_ok (by rw [stepF_loc]; have t79 : ρ' 79 = .tup [.agg [(gv G' 0)], bool r118.2] := (Told.head (Told.tail (Told.tail (Told.tail (Told.tail (Told.tail hT)))))) (hd ⟨5, .data⟩ (by simp) rfl); have mm9_44 := (hfr (A55, 9) (by simp)).trans m9_44; have mm6_14 := (hfr (A18, 6) (by simp)).trans m6_14; have mm3_2 := (hfr (n1 + 1, 3) (by simp)).trans m3_2; have mm2_1 := (hfr (n1, 2) (by simp)).trans m2_1; simp [t79, mm9_44, mm6_14, mm3_2, mm2_1, AmbNode.cells, intC, strC]), by simp⟩)
                        · exact Reg.det (i := 7) rfl (show (7 : Nat) < 11 by decide) rfl (show (7 : Nat) ≠ 4 ∧ (7 : Nat) ≠ 8 ∧ (7 : Nat) ≠ 9 by decide) (by simp) (by intro G' A'; simp) (fun _ => ⟨⟨5, .data⟩, by simp, rfl, by simp⟩) (by simp) (fun L' ρ' H' n' G' A' hO hT hd hG hcl hfr sp => ⟨bool r118.2, stepF_ok Ty_ok (by rw [stepF_loc]; have t79 : ρ' 79 = .tup [.agg [(gv G' 0)], bool r118.2] := (Told.head (Told.tail (Told.tail (Told.tail (Told.tail (Told.tail hT)))))) (hd ⟨5, .data⟩ (by simp) rfl); have mm9_44 := (hfr (A55, 9) (by simp)).trans m9_44; have mm6_14 := (hfr (A18, 6) (by simp)).trans m6_14; have mm3_2 := (hfr (n1 + 1, 3) (by simp)).trans m3_2; have mm2_1 := (hfr (n1, 2) (by simp)).trans m2_1; simp [t79, mm9_44, mm6_14, mm3_2, mm2_1, AmbNode.cells, intC, strC]), by simp⟩)
                        · exact Reg.alloc Ty_ok rfl Ty_28 rfl (show (8 : Nat) < 11 by decide) (show (8 : Nat) ≠ 4 ∧ (8 : Nat) ≠ 9 by decide) (by simp) (by intro G' A'; simp) (by intro G' A1 A2; simp) (by simp) (by simp) (by simp) (by intro G' A'; simp)
                        · exact Reg.store Ty_ok rfl (show (9 : Nat) < 11 by decide) (show (9 : Nat) ≠ 4 ∧ (9 : Nat) ≠ 8 by decide) (by intro G' A'; simp) (fun i hi => hid121 i hi) ⟨⟨6, .data⟩, by simp, rfl, by simp⟩ ⟨⟨8, .data⟩, by simp, rfl, by simp⟩ (fun L' ρ' H' G' A' hO hT hd hG hw => by have t14 : ρ' 14 = .ptr (A', 14) 1 0 0 := (Told.head (Told.tail (Told.tail (Told.tail (Told.tail (Told.tail (Told.tail (Told.tail (Told.tail hT))))))))) (hd ⟨8, .data⟩ (by simp) rfl); have t85 : ρ' 85 = .agg [(gv G' 0)] := (Told.head (Told.tail (Told.tail (Told.tail (Told.tail (Told.tail (Told.tail hT))))))) (hd ⟨6, .data⟩ (by simp) rfl); have hG2 : Ab.one1 (gv G' 0) = true := hG; simp [t14, t85, hG2, hw, Ty_28, -one1, o1_int, o1_bool, o1_str, o1_nil, o1_list, o1_arr, o1_ptr, AmbNode.cells, intC, strC])
                        · exact Reg.det (i := 10) rfl (show (10 : Nat) < 11 by decide) rfl (show (10 : Nat) ≠ 4 ∧ (10 : Nat) ≠ 8 ∧ (10 : Nat) ≠ 9 by decide) (by simp) (by intro G' A'; simp) (fun _ => ⟨⟨7, .data⟩, by simp, rfl, by simp⟩) (fun _ => ⟨⟨9, .chain⟩, by simp, rfl, by simp⟩) (fun L' ρ' H' n' G' A' hO hT hd hG hcl hfr sp => ⟨bool r118.2, stepF_ok Ty_ok (by rw [stepF_loc]; have t86 : ρ' 86 = bool r118.2 := (Told.head (Told.tail (Told.tail (Told.tail (Told.tail (Told.tail (Told.tail (Told.tail hT)))))))) (hd ⟨7, .data⟩ (by simp) rfl); have mm9_44 := (hfr (A55, 9) (by simp)).trans m9_44; have mm6_14 := (hfr (A18, 6) (by simp)).trans m6_14; have mm3_2 := (hfr (n1 + 1, 3) (by simp)).trans m3_2; have mm2_1 := (hfr (n1, 2) (by simp)).trans m2_1; simp [t86, mm9_44, mm6_14, mm3_2, mm2_1, AmbNode.cells, intC, strC]), by simp⟩)
                        · exact StepI.none (by simp)
                      · rintro L' ⟨ρ, H, n131⟩ hI hr
                        obtain ⟨G129, A130, hO, hT, hG, sp, hfr132, hn0_, hA_, m14_119⟩ := Reg.fin (by kernel_rfl) rfl (show (4 : Nat) < 11 ∧ (8 : Nat) < 11 ∧ (9 : Nat) < 11 by decide) (by intro G' A'; simp) hI hr
                        show Runs _ _ _ _ ρ H n131 _
                        have h2 : ρ 2 = .ptr (n1, 2) 1 0 0 := Old.head hO
                        have h3 : ρ 3 = .ptr (n1 + 1, 3) 1 0 0 := Old.head (Old.tail hO)
                        have h6 : ρ 6 = .ptr (A18, 6) 1 0 0 := Old.head (Old.tail (Old.tail hO))
                        have h7 : ρ 7 = bool r14.2 := Old.head (Old.tail (Old.tail (Old.tail hO)))
                        have h9 : ρ 9 = .ptr (A55, 9) 1 0 0 := Old.head (Old.tail (Old.tail (Old.tail (Old.tail hO))))
                        have h12 : ρ 12 = int r94.2 := Old.head (Old.tail (Old.tail (Old.tail (Old.tail (Old.tail hO)))))
                        have h80 : ρ 80 = .agg [.list false (aP.map AmbNode.cells)] := AllF.head hT
                        have h81 : ρ 81 = .agg [.list true (r115.map AmbNode.cells)] := AllF.head (AllF.tail hT)
                        have h82 : ρ 82 = .agg [int aS.kind, int aS.cap, int aS.place] := AllF.head (AllF.tail (AllF.tail hT))
                        have h83 : ρ 83 = .agg [int r116.kind, int r116.cap, int r116.place] := AllF.head (AllF.tail (AllF.tail (AllF.tail hT)))
                        have h84 : ρ 84 = .tup [.agg [(gv G129 0)], bool r118.2] := AllF.head (AllF.tail (AllF.tail (AllF.tail (AllF.tail hT))))
                        have h79 : ρ 79 = .tup [.agg [(gv G129 0)], bool r118.2] := AllF.head (AllF.tail (AllF.tail (AllF.tail (AllF.tail (AllF.tail hT)))))
                        have h85 : ρ 85 = .agg [(gv G129 0)] := AllF.head (AllF.tail (AllF.tail (AllF.tail (AllF.tail (AllF.tail (AllF.tail hT))))))
                        have h86 : ρ 86 = bool r118.2 := AllF.head (AllF.tail (AllF.tail (AllF.tail (AllF.tail (AllF.tail (AllF.tail (AllF.tail hT)))))))
                        have h14 : ρ 14 = .ptr (A130, 14) 1 0 0 := AllF.head (AllF.tail (AllF.tail (AllF.tail (AllF.tail (AllF.tail (AllF.tail (AllF.tail (AllF.tail hT))))))))
                        have h15 : ρ 15 = bool r118.2 := AllF.head (AllF.tail (AllF.tail (AllF.tail (AllF.tail (AllF.tail (AllF.tail (AllF.tail (AllF.tail (AllF.tail hT)))))))))
                        have m9_44 : H (A55, 9) = some ⟨1, [[v112]]⟩ := (hfr132 (A55, 9) (by simp)).trans m9_44
                        have m6_14 : H (A18, 6) = some ⟨1, [[.list true (r14.1.map AmbNode.cells)]]⟩ := (hfr132 (A18, 6) (by simp)).trans m6_14
                        have m3_2 : H (n1 + 1, 3) = some ⟨3, [[int aS.kind, int aS.cap, int aS.place]]⟩ := (hfr132 (n1 + 1, 3) (by simp)).trans m3_2
                        have m2_1 : H (n1, 2) = some ⟨1, [[.list false (aP.map AmbNode.cells)]]⟩ := (hfr132 (n1, 2) (by simp)).trans m2_1
                        have m14_119 : H (A130, 14) = some ⟨1, [[(gv G129 0)]]⟩ := m14_119
                        replace sp : Sep H n131 [(.s [.c, .c, .c], (gv G129 0), .list true (r118.1.map AmbNode.cells)), (.s [.c, .c, .c], v112, .list true (r94.1.map AmbNode.cells))] [(A130, 14), (A55, 9), (A18, 6), (n1 + 1, 3), (n1, 2)] := sp
                        refine Runs.cut (fun ρ H n => ∃ (v133 : AVal) (v134 : AVal), ρ 6 = .ptr (A18, 6) 1 0 0 ∧ ρ 7 = bool r14.2 ∧ ρ 9 = .ptr (A55, 9) 1 0 0 ∧ ρ 12 = int r94.2 ∧ ρ 14 = .ptr (A130, 14) 1 0 0 ∧ ρ 15 = bool r118.2 ∧ H (A18, 6) = some ⟨1, [[.list true (r14.1.map AmbNode.cells)]]⟩ ∧ H (A55, 9) = some ⟨1, [[v134]]⟩ ∧ H (A130, 14) = some ⟨1, [[v133]]⟩ ∧ Sep H n [(.s [.c, .c, .c], v133, .list true (r118.1.map AmbNode.cells)), (.s [.c, .c, .c], v134, .list true (r94.1.map AmbNode.cells))] [(A130, 14), (A55, 9), (A18, 6)]) (by refine ⟨(gv G129 0), v112, ?_, ?_, ?_, ?_, ?_, ?_, ?_, ?_, ?_, (Sep.sub (Sep.front (K1 := [(.s [.c, .c, .c], v112, .list true (r94.1.map AmbNode.cells))]) (K2 := []) (Sep.front (K1 := [(.s [.c, .c, .c], (gv G129 0), .list true (r118.1.map AmbNode.cells))]) (K2 := []) sp)) (by simp +contextual))⟩ <;> simp [m2_1, m3_2, m6_14, m9_44, m14_119, h2, h3, h6, h7, h9, h12, h80, h81, h82, h83, h84, h79, h85, h86, h14, h15, dc7, db64, dr72, db89, dc108, dc110, AmbNode.cells, intC, strC]) ?_
                        clear m2_1 m3_2 m6_14 m9_44 m14_119 h2 h3 h6 h7 h9 h12 h80 h81 h82 h83 h84 h79 h85 h86 h14 h15
                        rintro ρ H n135 ⟨v133, v134, h6, h7, h9, h12, h14, h15, m6_14, m9_44, m14_119, sp⟩
                        refine Runs.seq ?_
                        refine Runs.seqE Ty_ok (by decide) fun k' hk' => ?_
                        obtain ⟨J136, hJ137, hr138⟩ := h
                        have fin141 : ∀ (sJ : Bool) (ρ : Env) (H : Heap) (n : Nat), J136 sJ → (match sJ with | b139 => ∃ (v140 : AVal), ρ 9 = .ptr (A55, 9) 1 0 0 ∧ ρ 12 = int r94.2 ∧ ρ 95 = bool b139 ∧ H (A55, 9) = some ⟨1, [[v140]]⟩ ∧ Sep H n [(.s [.c, .c, .c], v140, .list true (r94.1.map AmbNode.cells))] [(A55, 9)]) → Runs Tryz.prog 4 104 k' ρ H n Q := by
                          rintro b139 ρ H n142 h ⟨v140, h9, h12, h95, m9_44, sp⟩
                          replace h := hr138 _ h
                          refine hk' _ _ _ ?_
                          refine Runs.ite (b := b139) (by simp [h9, h12, h95, m9_44, dc7, db64, dr72, db89, dc108, dc110, AmbNode.cells, intC, strC]) (fun db139 => ?_) (fun db139 => ?_)
                          · replace h := h.1 db139
                            refine Runs.seqE Ty_ok (by decide) fun k' hk' => ?_
                            simp [h9, h12, h95, m9_44, dc7, db64, dr72, db89, dc108, dc110, db139, AmbNode.cells, intC, strC]
                            refine hk' _ _ _ ?_
                            exact Runs.ret1 (v := bool false) Tryz.func4 Tryz.results4 (by simp [h9, h12, h95, m9_44, dc7, db64, dr72, db89, dc108, dc110, db139, AmbNode.cells, intC, strC]) (hQ _ _ _ _ (.of (.v _)) ⟨false, h, rfl⟩)
                          · replace h := h.2 db139
                            refine Runs.skip ?_
                            refine Runs.seqE Ty_ok (by decide) fun k' hk' => ?_
                            simp [h9, h12, h95, m9_44, dc7, db64, dr72, db89, dc108, dc110, db139, AmbNode.cells, intC, strC]
                            refine hk' _ _ _ ?_
                            refine Runs.seqE Ty_ok (by decide) fun k' hk' => ?_
                            obtain ⟨hb143, h⟩ := h
                            obtain ⟨r144, er144⟩ : ∃ v : Int, v = heldProcess r94.1 1 := ⟨_, rfl⟩
                            replace h := h r144 er144
                            simp [h9, h12, h95, m9_44, dc7, db64, dr72, db89, dc108, dc110, db139, AmbNode.cells, intC, strC]
                            refine RunK.callA Ty_ok (heldProcess_ok r94.1 1 hb143) e12 (.cons (ArgOk.agg (.cons (Sep.argOk' sp (old_listF (by simp [AmbNode.cells, intC, strC, intC]))) .nil)) (.cons (.v _ _ _) .nil)) (by decide) (by decide) rfl (by simp [h9, h12, h95, m9_44, dc7, db64, dr72, db89, dc108, dc110, db139, AmbNode.cells, intC, strC]) ?_
                            rintro _ rfl
                            rw [← er144]
                            simp [h9, h12, h95, m9_44, dc7, db64, dr72, db89, dc108, dc110, db139, AmbNode.cells, intC, strC]
                            refine hk' _ _ _ ?_
                            refine Runs.seq ?_
                            refine Runs.seqE Ty_ok (by decide) fun k' hk' => ?_
                            obtain ⟨c145, ec145⟩ : ∃ v : Bool, v = decide (r144 < 0) := ⟨_, rfl⟩
                            replace h := h c145 ec145
                            have f146 := ib_lss (k := .i64) ec145
                            simp [h9, h12, h95, m9_44, f146, dc7, db64, dr72, db89, dc108, dc110, db139, AmbNode.cells, intC, strC, -intBin]
                            refine hk' _ _ _ ?_
                            refine Runs.ite (b := c145) (by simp [h9, h12, h95, m9_44, dc7, db64, dr72, db89, dc108, dc110, db139, AmbNode.cells, intC, strC]) (fun dc145 => ?_) (fun dc145 => ?_)
                            · replace h := h.1 dc145
                              refine Runs.seqE Ty_ok (by decide) fun k' hk' => ?_
                              simp [h9, h12, h95, m9_44, dc7, db64, dr72, db89, dc108, dc110, db139, dc145, AmbNode.cells, intC, strC]
                              refine hk' _ _ _ ?_
                              exact Runs.ret1 (v := bool false) Tryz.func4 Tryz.results4 (by simp [h9, h12, h95, m9_44, dc7, db64, dr72, db89, dc108, dc110, db139, dc145, AmbNode.cells, intC, strC]) (hQ _ _ _ _ (.of (.v _)) ⟨false, h, rfl⟩)
                            · replace h := h.2 dc145
                              refine Runs.skip ?_
                              refine Runs.seq ?_
                              refine Runs.seqE Ty_ok (by decide) fun k' hk' => ?_
                              obtain ⟨c147, ec147⟩ : ∃ v : Bool, v = decide (r144 ≠ r94.2) := ⟨_, rfl⟩
                              replace h := h c147 ec147
                              have f148 := ib_neq (k := .i64) ec147
                              simp [h9, h12, h95, m9_44, f148, dc7, db64, dr72, db89, dc108, dc110, db139, dc145, AmbNode.cells, intC, strC, -intBin]
                              refine hk' _ _ _ ?_
                              refine Runs.ite (b := c147) (by simp [h9, h12, h95, m9_44, dc7, db64, dr72, db89, dc108, dc110, db139, dc145, AmbNode.cells, intC, strC]) (fun dc147 => ?_) (fun dc147 => ?_)
                              · replace h := h.1 dc147
                                refine Runs.seqE Ty_ok (by decide) fun k' hk' => ?_
                                simp [h9, h12, h95, m9_44, dc7, db64, dr72, db89, dc108, dc110, db139, dc145, dc147, AmbNode.cells, intC, strC]
                                refine hk' _ _ _ ?_
                                exact Runs.ret1 (v := bool false) Tryz.func4 Tryz.results4 (by simp [h9, h12, h95, m9_44, dc7, db64, dr72, db89, dc108, dc110, db139, dc145, dc147, AmbNode.cells, intC, strC]) (hQ _ _ _ _ (.of (.v _)) ⟨false, h, rfl⟩)
                              · replace h := h.2 dc147
                                refine Runs.skip ?_
                                refine Runs.seqE Ty_ok (by decide) fun k' hk' => ?_
                                simp [h9, h12, h95, m9_44, dc7, db64, dr72, db89, dc108, dc110, db139, dc145, dc147, AmbNode.cells, intC, strC]
                                refine hk' _ _ _ ?_
                                exact Runs.ret1 (v := bool true) Tryz.func4 Tryz.results4 (by simp [h9, h12, h95, m9_44, dc7, db64, dr72, db89, dc108, dc110, db139, dc145, dc147, AmbNode.cells, intC, strC]) (hQ _ _ _ _ (.of (.v _)) ⟨true, h, rfl⟩)
                        replace h := hJ137
                        obtain ⟨hb149, h⟩ := h
                        obtain ⟨r150, er150⟩ : ∃ v : Bool, v = decide (r118.1 = r14.1) := ⟨_, rfl⟩
                        replace h := h r150 er150
                        simp [h6, h7, h9, h12, h14, h15, m6_14, m9_44, m14_119, dc7, db64, dr72, db89, dc108, dc110, AmbNode.cells, intC, strC]
                        refine RunK.callA Ty_ok (eqProcess_ok r118.1 r14.1 hb149) e10 (.cons (ArgOk.agg (.cons (Sep.argOk' sp (old_listF (by simp [AmbNode.cells, intC, strC, intC]))) .nil)) (.cons (ArgOk.agg (.cons (ArgOk.listF (fr := true) (els := r14.1.map AmbNode.cells) (by simp [AmbNode.cells, intC, strC, intC])) .nil)) .nil)) (by decide) (by decide) rfl (by simp [h6, h7, h9, h12, h14, h15, m6_14, m9_44, m14_119, dc7, db64, dr72, db89, dc108, dc110, AmbNode.cells, intC, strC]) ?_
                        rintro _ rfl
                        rw [← er150]
                        rcases Bool.eq_false_or_eq_true r150 with dr150 | dr150
                        · replace h := h.1 dr150
                          obtain ⟨c151, ec151⟩ : ∃ v : Bool, v = !(r118.2 == r14.2) := ⟨_, rfl⟩
                          replace h := h c151 ec151
                          have f152 := bb_neq ec151
                          simp [h6, h7, h9, h12, h14, h15, m6_14, m9_44, m14_119, f152, dc7, db64, dr72, db89, dc108, dc110, dr150, AmbNode.cells, intC, strC, -boolBin]
                          exact fin141 (c151) _ _ _ h (by refine ⟨v134, ?_, ?_, ?_, ?_, (Sep.sub (Sep.right (K1 := [(.s [.c, .c, .c], v133, .list true (r118.1.map AmbNode.cells))]) (K2 := [(.s [.c, .c, .c], v134, .list true (r94.1.map AmbNode.cells))]) sp) (by simp +contextual))⟩ <;> simp [h6, h7, h9, h12, h14, h15, m6_14, m9_44, m14_119, f152, dc7, db64, dr72, db89, dc108, dc110, dr150, AmbNode.cells, intC, strC, -boolBin])
                        · replace h := h.2 dr150
                          simp [h6, h7, h9, h12, h14, h15, m6_14, m9_44, m14_119, dc7, db64, dr72, db89, dc108, dc110, dr150, AmbNode.cells, intC, strC]
                          exact fin141 (true) _ _ _ h (by refine ⟨v134, ?_, ?_, ?_, ?_, (Sep.sub (Sep.right (K1 := [(.s [.c, .c, .c], v133, .list true (r118.1.map AmbNode.cells))]) (K2 := [(.s [.c, .c, .c], v134, .list true (r94.1.map AmbNode.cells))]) sp) (by simp +contextual))⟩ <;> simp [h6, h7, h9, h12, h14, h15, m6_14, m9_44, m14_119, dc7, db64, dr72, db89, dc108, dc110, dr150, AmbNode.cells, intC, strC])
              replace h := hJ87
              obtain ⟨c153, ec153⟩ : ∃ v : Bool, v = decide (r74.2 < 0) := ⟨_, rfl⟩
              replace h := h c153 ec153
              have f154 := ib_lss (k := .i64) ec153
              rcases Bool.eq_false_or_eq_true c153 with dc153 | dc153
              · replace h := h.1 dc153
                simp [h2, h3, h6, h7, h9, h10, h11, m2_1, m3_2, m6_14, m9_44, f154, dc7, db64, dr72, dc153, AmbNode.cells, intC, strC, -intBin]
                exact fin91 (true) _ _ _ h (by refine ⟨v84, ?_, ?_, ?_, ?_, ?_, ?_, ?_, ?_, ?_, ?_, sp⟩ <;> simp [h2, h3, h6, h7, h9, h10, h11, m2_1, m3_2, m6_14, m9_44, f154, dc7, db64, dr72, dc153, AmbNode.cells, intC, strC, -intBin])
              · replace h := h.2 dc153
                obtain ⟨hb155, h⟩ := h
                obtain ⟨r156, er156⟩ : ∃ v : Bool, v = decide (r43.1 = r14.1) := ⟨_, rfl⟩
                replace h := h r156 er156
                simp [h2, h3, h6, h7, h9, h10, h11, m2_1, m3_2, m6_14, m9_44, f154, dc7, db64, dr72, dc153, AmbNode.cells, intC, strC, -intBin]
                refine RunK.callA Ty_ok (eqProcess_ok r43.1 r14.1 hb155) e10 (.cons (ArgOk.agg (.cons (Sep.argOk' sp (old_listF (by simp [AmbNode.cells, intC, strC, intC]))) .nil)) (.cons (ArgOk.agg (.cons (ArgOk.listF (fr := true) (els := r14.1.map AmbNode.cells) (by simp [AmbNode.cells, intC, strC, intC])) .nil)) .nil)) (by decide) (by decide) rfl (by simp [h2, h3, h6, h7, h9, h10, h11, m2_1, m3_2, m6_14, m9_44, f154, dc7, db64, dr72, dc153, AmbNode.cells, intC, strC, -intBin]) ?_
                rintro _ rfl
                rw [← er156]
                rcases Bool.eq_false_or_eq_true r156 with dr156 | dr156
                · replace h := h.1 dr156
                  obtain ⟨c157, ec157⟩ : ∃ v : Bool, v = !(r43.2 == r14.2) := ⟨_, rfl⟩
                  replace h := h c157 ec157
                  have f158 := bb_neq ec157
                  simp [h2, h3, h6, h7, h9, h10, h11, m2_1, m3_2, m6_14, m9_44, f154, f158, dc7, db64, dr72, dc153, dr156, AmbNode.cells, intC, strC, -boolBin, -intBin]
                  exact fin91 (c157) _ _ _ h (by refine ⟨v84, ?_, ?_, ?_, ?_, ?_, ?_, ?_, ?_, ?_, ?_, sp⟩ <;> simp [h2, h3, h6, h7, h9, h10, h11, m2_1, m3_2, m6_14, m9_44, f154, f158, dc7, db64, dr72, dc153, dr156, AmbNode.cells, intC, strC, -boolBin, -intBin])
                · replace h := h.2 dr156
                  simp [h2, h3, h6, h7, h9, h10, h11, m2_1, m3_2, m6_14, m9_44, f154, dc7, db64, dr72, dc153, dr156, AmbNode.cells, intC, strC, -intBin]
                  exact fin91 (true) _ _ _ h (by refine ⟨v84, ?_, ?_, ?_, ?_, ?_, ?_, ?_, ?_, ?_, ?_, sp⟩ <;> simp [h2, h3, h6, h7, h9, h10, h11, m2_1, m3_2, m6_14, m9_44, f154, dc7, db64, dr72, dc153, dr156, AmbNode.cells, intC, strC, -intBin])
        replace h := hJ62
        obtain ⟨hb159, h⟩ := h
        obtain ⟨r160, er160⟩ : ∃ v : Bool, v = decide (r43.1 = r14.1) := ⟨_, rfl⟩
        replace h := h r160 er160
        simp [h2, h3, h6, h7, h8, h9, h10, m2_1, m3_2, m6_14, m8_33, m9_44, dc7, AmbNode.cells, intC, strC]
        refine RunK.callA Ty_ok (eqProcess_ok r43.1 r14.1 hb159) e10 (.cons (ArgOk.agg (.cons (Sep.argOk' sp (old_listF (by simp [AmbNode.cells, intC, strC, intC]))) .nil)) (.cons (ArgOk.agg (.cons (ArgOk.listF (fr := true) (els := r14.1.map AmbNode.cells) (by simp [AmbNode.cells, intC, strC, intC])) .nil)) .nil)) (by decide) (by decide) rfl (by simp [h2, h3, h6, h7, h8, h9, h10, m2_1, m3_2, m6_14, m8_33, m9_44, dc7, AmbNode.cells, intC, strC]) ?_
        rintro _ rfl
        rw [← er160]
        rcases Bool.eq_false_or_eq_true r160 with dr160 | dr160
        · replace h := h.1 dr160
          obtain ⟨c161, ec161⟩ : ∃ v : Bool, v = !(r43.2 == r14.2) := ⟨_, rfl⟩
          replace h := h c161 ec161
          have f162 := bb_neq ec161
          simp [h2, h3, h6, h7, h8, h9, h10, m2_1, m3_2, m6_14, m8_33, m9_44, f162, dc7, dr160, AmbNode.cells, intC, strC, -boolBin]
          exact fin67 (c161) _ _ _ h (by refine ⟨v58, v59, ?_, ?_, ?_, ?_, ?_, ?_, ?_, ?_, ?_, ?_, ?_, ?_, ?_, (Sep.front (K1 := [(.s [.c, .c, .c], v59, .list true (r23.map AmbNode.cells))]) (K2 := []) (Sep.front (K1 := [(.s [.c, .c, .c], v58, .list true (r43.1.map AmbNode.cells))]) (K2 := []) sp))⟩ <;> simp [h2, h3, h6, h7, h8, h9, h10, m2_1, m3_2, m6_14, m8_33, m9_44, f162, dc7, dr160, AmbNode.cells, intC, strC, -boolBin])
        · replace h := h.2 dr160
          simp [h2, h3, h6, h7, h8, h9, h10, m2_1, m3_2, m6_14, m8_33, m9_44, dc7, dr160, AmbNode.cells, intC, strC]
          exact fin67 (true) _ _ _ h (by refine ⟨v58, v59, ?_, ?_, ?_, ?_, ?_, ?_, ?_, ?_, ?_, ?_, ?_, ?_, ?_, (Sep.front (K1 := [(.s [.c, .c, .c], v59, .list true (r23.map AmbNode.cells))]) (K2 := []) (Sep.front (K1 := [(.s [.c, .c, .c], v58, .list true (r43.1.map AmbNode.cells))]) (K2 := []) sp))⟩ <;> simp [h2, h3, h6, h7, h8, h9, h10, m2_1, m3_2, m6_14, m8_33, m9_44, dc7, dr160, AmbNode.cells, intC, strC])

theorem lawStep_ok (aP : Proc) (aS : AmbStep) (hp : lawStep_pre aP aS) : PureC Tryz.prog 4 [.agg [.list false (aP.map AmbNode.cells)], .agg [int aS.kind, int aS.cap, int aS.place]] (fun r => r = bool (lawStep aP aS)) := (lawStep_walk aP aS _ (lawStep_vc aP aS hp)).mono (by rintro _ ⟨_, rfl, rfl⟩; rfl)
end Go.Ab.Vg

/- The contract of laws.FnExactMakeAmbStep: it answers true. -/
namespace Go.Ab
open Go.Proofs
theorem exactMakeAmbStep_ok (p : Proc) (s : AmbStep) (hp : Small p) : PureC Tryz.prog 4 [encP false p, .agg s.cells] (fun r => r = bool true) := Vg.lawStep_ok p s hp
end Go.Ab
