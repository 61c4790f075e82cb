/- Merged texts (7 of 9) of the proof that ends in Ky: Caw Kz. -/
import Derived.Test.YtkhhalniblpkcaaGreatDoorAbQk6
/- Walks by program for YtkhhalniblpkcaaGreatDoorAbCa. -/
namespace Go.Ab.Vg
open Go.Proofs
set_option maxRecDepth 100000
set_option linter.unusedSimpArgs false
set_option linter.unusedVariables false
theorem parseI_ok (s : Str) (h : s.length ≤ 4294967296) : OwnS Tryz.prog 36 [str s] (.t [.a [.s [.c, .c, .c]], .c]) (fun r => r = .tup [.agg [.list true ((parse s).1.map AmbNode.cells)], bool (parse s).2]) := ParseProcess_own s h

theorem parseS_ok (s : Str) (h : s.length ≤ 4294967296) : PureC Tryz.prog 40 [str s] (fun r => r = .tup [.agg [.list true ((parse s).1.map AmbNode.cells)], bool (parse s).2]) := specParseProcess_ok s h

theorem e26 : Ent Tryz.prog 26 := Ent.of Tryz.func26 (by kernel_rfl) rfl
theorem canonicalProcess_walk (p : Proc) (Z : Proc → Prop) (h : canonicalProcess_wp p Z) : OwnS Tryz.prog 26 [.agg [.list false (p.map AmbNode.cells)]] (.a [.s [.c, .c, .c]]) (fun r => ∃ y : Proc, Z y ∧ r = .agg [.list true (y.map AmbNode.cells)]) := by
  unfold canonicalProcess_wp at h
  have sp : Sep noHeap 0 [] [] := Sep.nil (by simp)
  refine OwnS.of Tryz.func26 rfl Tryz.ntmps26 (by simp) fun Q hQ => ?_
  refine Runs.cut (fun ρ H n => ρ 0 = .agg [.list false (p.map AmbNode.cells)] ∧ Sep H n [] []) (by refine ⟨?_, sp⟩ <;> simp [AmbNode.cells, intC, strC]) ?_
  rintro ρ H n1 ⟨h0, sp⟩
  refine Runs.seqE Ty_ok (by decide) fun k' hk' => ?_
  simp [h0, AmbNode.cells, intC, strC]
  refine hk' _ _ _ ?_
  refine Runs.cut (fun ρ H n => ρ 1 = .ptr (n1, 1) 1 0 0 ∧ ρ 2 = .ptr (n1 + 1, 2) 1 0 0 ∧ H (n1, 1) = some ⟨1, [[.list false (p.map AmbNode.cells)]]⟩ ∧ H (n1 + 1, 2) = some ⟨1, [[.v (.slice none 0 0)]]⟩ ∧ Sep H n [] [(n1 + 1, 2), (n1, 1)]) (by refine ⟨?_, ?_, ?_, ?_, (Sep.var (Sep.var sp))⟩ <;> simp [h0, AmbNode.cells, intC, strC]) ?_
  clear h0
  rintro ρ H n4 ⟨h1, h2, m1_1, m2_2, sp⟩
  refine Runs.seqE Ty_ok (by decide) fun k' hk' => ?_
  obtain ⟨hb5, h⟩ := h
  obtain ⟨r6, er6⟩ : ∃ v : Str, v = sortedIn p (-1) := ⟨_, rfl⟩
  replace h := h r6 er6
  simp [h1, h2, m1_1, m2_2, AmbNode.cells, intC, strC]
  refine RunK.callA Ty_ok (sortedIn_ok p (-1) hb5) e45 (.cons (ArgOk.agg (.cons (ArgOk.listF (fr := false) (els := p.map AmbNode.cells) (by simp [AmbNode.cells, intC, strC, intC])) .nil)) (.cons (.v _ _ _) .nil)) (by decide) (by decide) rfl (by simp [h1, h2, m1_1, m2_2, AmbNode.cells, intC, strC]) ?_
  rintro _ rfl
  rw [← er6]
  obtain ⟨hb7, h⟩ := h
  obtain ⟨r8, er8⟩ : ∃ v : Proc × Bool, v = parse r6 := ⟨_, rfl⟩
  replace h := h r8 er8
  simp [h1, h2, m1_1, m2_2, AmbNode.cells, intC, strC]
  refine RunK.callW Ty_ok (parseI_ok r6 hb7) e36 (.cons (.v _ _ _) .nil) sp (by decide) (by decide) rfl (by simp [h1, h2, m1_1, m2_2, AmbNode.cells, intC, strC]) ?_
  rintro v9 H10 n11 _ sp rfl hle13 hfr12
  rw [← er8] at sp
  have m1_1 : H10 (n1, 1) = some ⟨1, [[.list false (p.map AmbNode.cells)]]⟩ := (hfr12 _ (by simp)).trans (by simp [h1, h2, m1_1, m2_2, Heap.get_set])
  have m2_2 : H10 (n1 + 1, 2) = some ⟨1, [[.v (.slice none 0 0)]]⟩ := (hfr12 _ (by simp)).trans (by simp [h1, h2, m1_1, m2_2, Heap.get_set])
  replace sp := Sep.unpackT sp
  obtain ⟨L17, hv, hl18, sp⟩ := sp
  subst hv
  obtain ⟨v15, v16, hv⟩ := len2 (by simpa using hl18)
  subst hv
  simp only [zip3, List.cons_append, List.nil_append] at sp
  replace sp := Sep.unpack sp
  obtain ⟨L20, hv, hl21, sp⟩ := sp
  subst hv
  obtain ⟨v19, hv⟩ := len1 (by simpa using hl21)
  subst hv
  simp only [zip3, List.cons_append, List.nil_append] at sp
  replace sp := Sep.rot sp
  try simp only [List.cons_append, List.nil_append, List.append_assoc] at sp
  replace sp := Sep.scalar sp
  obtain ⟨hv, sp⟩ := sp
  subst hv
  replace sp : Sep H10 n11 [(.s [.c, .c, .c], v19, .list true (r8.1.map AmbNode.cells))] [(n1 + 1, 2), (n1, 1)] := sp
  have f24 := cell_own (Sep.cells sp)
  have f25 := cell_own (Sep.one1 sp)
  simp [h1, h2, m1_1, m2_2, f24, f25, AmbNode.cells, intC, strC, -cellsA, -one1, cA_int, cA_bool, cA_str, cA_nil, cA_agg, cA_list, cA_arr, cA_ptr, o1_int, o1_bool, o1_str, o1_nil, o1_list, o1_arr, o1_ptr]
  refine hk' _ _ _ ?_
  refine Runs.cut (fun ρ H n => ∃ (v26 : AVal), ρ 2 = .ptr (n1 + 1, 2) 1 0 0 ∧ ρ 3 = .ptr (n11, 3) 1 0 0 ∧ H (n1 + 1, 2) = some ⟨1, [[.v (.slice none 0 0)]]⟩ ∧ H (n11, 3) = some ⟨1, [[v26]]⟩ ∧ Sep H n [(.s [.c, .c, .c], v26, .list true (r8.1.map AmbNode.cells))] [(n11, 3), (n1 + 1, 2)]) (by refine ⟨v19, ?_, ?_, ?_, ?_, (Sep.sub (Sep.var sp) (by simp +contextual))⟩ <;> simp [h1, h2, m1_1, m2_2, f24, f25, AmbNode.cells, intC, strC, -cellsA, -one1, cA_int, cA_bool, cA_str, cA_nil, cA_agg, cA_list, cA_arr, cA_ptr, o1_int, o1_bool, o1_str, o1_nil, o1_list, o1_arr, o1_ptr]) ?_
  clear h1 h2 m1_1 m2_2
  rintro ρ H n27 ⟨v26, h2, h3, m2_2, m3_22, sp⟩
  refine Runs.seqE Ty_ok (by decide) fun k' hk' => ?_
  have f28 := cell_own (Sep.cells sp)
  have f29 := cell_own (Sep.one1 sp)
  simp [h2, h3, m2_2, m3_22, f28, f29, AmbNode.cells, intC, strC, -cellsA, -one1, cA_int, cA_bool, cA_str, cA_nil, cA_agg, cA_list, cA_arr, cA_ptr, o1_int, o1_bool, o1_str, o1_nil, o1_list, o1_arr, o1_ptr]
  refine hk' _ _ _ ?_
  refine Runs.cut (fun ρ H n => ∃ (v30 : AVal), ρ 2 = .ptr (n1 + 1, 2) 1 0 0 ∧ H (n1 + 1, 2) = some ⟨1, [[v30]]⟩ ∧ Sep H n [(.s [.c, .c, .c], v30, .list true (r8.1.map AmbNode.cells))] [(n1 + 1, 2)]) (by refine ⟨v26, ?_, ?_, (Sep.sub (Sep.setVar (w := (n1 + 1, 2)) sp (by simp)) (by simp +contextual))⟩ <;> simp [h2, h3, m2_2, m3_22, f28, f29, AmbNode.cells, intC, strC, -cellsA, -one1, cA_int, cA_bool, cA_str, cA_nil, cA_agg, cA_list, cA_arr, cA_ptr, o1_int, o1_bool, o1_str, o1_nil, o1_list, o1_arr, o1_ptr]) ?_
  clear h2 h3 m2_2 m3_22
  rintro ρ H n31 ⟨v30, h2, m2_2, sp⟩
  exact Runs.res1 Ty_ok (v := .agg [v30]) Tryz.func26 Tryz.results26 (by simp [h2, m2_2, resA, AmbNode.cells, intC, strC]) (hQ _ _ _ _ (Sep.sub (ids' := []) (Sep.pack (K := []) (Fill.own Fill.nil) sp) (by simp)) ⟨r8.1, h, rfl⟩)

theorem canonicalProcess_ok (p : Proc) (hp : canonicalProcess_pre p) : OwnS Tryz.prog 26 [.agg [.list false (p.map AmbNode.cells)]] (.a [.s [.c, .c, .c]]) (fun r => r = .agg [.list true ((canonicalProcess p).map AmbNode.cells)]) := (canonicalProcess_walk p _ (canonicalProcess_vc p hp)).mono (by rintro _ ⟨_, rfl, rfl⟩; rfl)

theorem e9 : Ent Tryz.prog 9 := Ent.of Tryz.func9 (by kernel_rfl) rfl
theorem CanonicalProcess_walk (p : Proc) (Z : (Proc × Bool) → Prop) (h : CanonicalProcess_wp p Z) : OwnS Tryz.prog 9 [.agg [.list false (p.map AmbNode.cells)]] (.t [.a [.s [.c, .c, .c]], .c]) (fun r => ∃ y : Proc × Bool, Z y ∧ r = .tup [.agg [.list true (y.1.map AmbNode.cells)], bool y.2]) := by
  unfold CanonicalProcess_wp at h
  have sp : Sep noHeap 0 [] [] := Sep.nil (by simp)
  refine OwnS.of Tryz.func9 rfl Tryz.ntmps9 (by simp) fun Q hQ => ?_
  refine Runs.cut (fun ρ H n => ρ 0 = .agg [.list false (p.map AmbNode.cells)] ∧ Sep H n [] []) (by refine ⟨?_, sp⟩ <;> simp [AmbNode.cells, intC, strC]) ?_
  rintro ρ H n1 ⟨h0, sp⟩
  refine Runs.seqE Ty_ok (by decide) fun k' hk' => ?_
  simp [h0, AmbNode.cells, intC, strC]
  refine hk' _ _ _ ?_
  refine Runs.cut (fun ρ H n => ρ 1 = .ptr (n1, 1) 1 0 0 ∧ ρ 2 = .ptr (n1 + 1, 2) 1 0 0 ∧ H (n1, 1) = some ⟨1, [[.list false (p.map AmbNode.cells)]]⟩ ∧ H (n1 + 1, 2) = some ⟨1, [[.v (.slice none 0 0)]]⟩ ∧ Sep H n [] [(n1 + 1, 2), (n1, 1)]) (by refine ⟨?_, ?_, ?_, ?_, (Sep.var (Sep.var sp))⟩ <;> simp [h0, AmbNode.cells, intC, strC]) ?_
  clear h0
  rintro ρ H n4 ⟨h1, h2, m1_1, m2_2, sp⟩
  refine Runs.seq ?_
  refine Runs.seqE Ty_ok (by decide) fun k' hk' => ?_
  obtain ⟨hb5, h⟩ := h
  obtain ⟨r6, er6⟩ : ∃ v : Bool, v = goodP p := ⟨_, rfl⟩
  replace h := h r6 er6
  simp [h1, h2, m1_1, m2_2, AmbNode.cells, intC, strC]
  refine RunK.callA Ty_ok (IsProcess_ok p hb5.1 hb5.2) e25 (.cons (ArgOk.agg (.cons (ArgOk.listF (fr := false) (els := p.map AmbNode.cells) (by simp [AmbNode.cells, intC, strC, intC])) .nil)) .nil) (by decide) (by decide) rfl (by simp [h1, h2, m1_1, m2_2, AmbNode.cells, intC, strC]) ?_
  rintro _ rfl
  rw [← er6]
  simp [h1, h2, m1_1, m2_2, AmbNode.cells, intC, strC]
  refine hk' _ _ _ ?_
  refine Runs.ite (b := (!r6)) (by simp [h1, h2, m1_1, m2_2, AmbNode.cells, intC, strC]) (fun dr6 => ?_) (fun dr6 => ?_)
  · have dr6 : r6 = false := by simpa using dr6
    replace h := h.2 dr6
    refine Runs.seqE Ty_ok (by decide) fun k' hk' => ?_
    simp [h1, h2, m1_1, m2_2, dr6, AmbNode.cells, intC, strC]
    refine hk' _ _ _ ?_
    refine Runs.cut (fun ρ H n => ρ 2 = .ptr (n1 + 1, 2) 1 0 0 ∧ ρ 3 = bool false ∧ H (n1 + 1, 2) = some ⟨1, [[.v (.slice none 0 0)]]⟩ ∧ Sep H n [] [(n1 + 1, 2)]) (by refine ⟨?_, ?_, ?_, (Sep.sub (Sep.setVar (w := (n1 + 1, 2)) sp (by simp)) (by simp +contextual))⟩ <;> simp [h1, h2, m1_1, m2_2, dr6, AmbNode.cells, intC, strC]) ?_
    clear h1 h2 m1_1 m2_2
    rintro ρ H n7 ⟨h2, h3, m2_2, sp⟩
    exact Runs.res2 Ty_ok (v := .agg [.v (.slice none 0 0)]) (w := bool false) Tryz.func9 Tryz.results9 (by simp [h2, h3, m2_2, dr6, resA, AmbNode.cells, intC, strC]) (by simp [h2, h3, m2_2, dr6, resA, AmbNode.cells, intC, strC]) (hQ _ _ _ _ (Sep.sub (ids' := []) (Sep.packT (K := []) (Fill.own (Fill.v _ Fill.nil)) (Sep.pack (K := []) (Fill.own Fill.nil) (Sep.addNil sp))) (by simp)) ⟨([], false), h, rfl⟩)
  · have dr6 : r6 = true := by simpa using dr6
    replace h := h.1 dr6
    refine Runs.skip ?_
    refine Runs.seqE Ty_ok (by decide) fun k' hk' => ?_
    obtain ⟨hb11, h⟩ := h
    obtain ⟨r12, er12⟩ : ∃ v : Proc, v = canonicalProcess p := ⟨_, rfl⟩
    replace h := h r12 er12
    simp [h1, h2, m1_1, m2_2, dr6, AmbNode.cells, intC, strC]
    refine RunK.callW Ty_ok (canonicalProcess_ok p hb11) e26 (.cons (ArgOk.agg (.cons (ArgOk.listF (fr := false) (els := p.map AmbNode.cells) (by simp [AmbNode.cells, intC, strC, intC])) .nil)) .nil) sp (by decide) (by decide) rfl (by simp [h1, h2, m1_1, m2_2, dr6, AmbNode.cells, intC, strC]) ?_
    rintro v13 H14 n15 _ sp rfl hle17 hfr16
    rw [← er12] at sp
    have m1_1 : H14 (n1, 1) = some ⟨1, [[.list false (p.map AmbNode.cells)]]⟩ := (hfr16 _ (by simp)).trans (by simp [h1, h2, m1_1, m2_2, Heap.get_set])
    have m2_2 : H14 (n1 + 1, 2) = some ⟨1, [[.v (.slice none 0 0)]]⟩ := (hfr16 _ (by simp)).trans (by simp [h1, h2, m1_1, m2_2, Heap.get_set])
    replace sp := Sep.unpack sp
    obtain ⟨L20, hv, hl21, sp⟩ := sp
    subst hv
    obtain ⟨v19, hv⟩ := len1 (by simpa using hl21)
    subst hv
    simp only [zip3, List.cons_append, List.nil_append] at sp
    replace sp := Sep.rot sp
    try simp only [List.cons_append, List.nil_append, List.append_assoc] at sp
    replace sp : Sep H14 n15 [(.s [.c, .c, .c], v19, .list true (r12.map AmbNode.cells))] [(n1 + 1, 2), (n1, 1)] := sp
    have f23 := cell_own (Sep.cells sp)
    have f24 := cell_own (Sep.one1 sp)
    simp [h1, h2, m1_1, m2_2, f23, f24, dr6, AmbNode.cells, intC, strC, -cellsA, -one1, cA_int, cA_bool, cA_str, cA_nil, cA_agg, cA_list, cA_arr, cA_ptr, o1_int, o1_bool, o1_str, o1_nil, o1_list, o1_arr, o1_ptr]
    refine hk' _ _ _ ?_
    refine Runs.cut (fun ρ H n => ∃ (v25 : AVal), ρ 2 = .ptr (n1 + 1, 2) 1 0 0 ∧ ρ 3 = bool true ∧ H (n1 + 1, 2) = some ⟨1, [[v25]]⟩ ∧ Sep H n [(.s [.c, .c, .c], v25, .list true (r12.map AmbNode.cells))] [(n1 + 1, 2)]) (by refine ⟨v19, ?_, ?_, ?_, (Sep.sub (Sep.setVar (w := (n1 + 1, 2)) sp (by simp)) (by simp +contextual))⟩ <;> simp [h1, h2, m1_1, m2_2, f23, f24, dr6, AmbNode.cells, intC, strC, -cellsA, -one1, cA_int, cA_bool, cA_str, cA_nil, cA_agg, cA_list, cA_arr, cA_ptr, o1_int, o1_bool, o1_str, o1_nil, o1_list, o1_arr, o1_ptr]) ?_
    clear h1 h2 m1_1 m2_2
    rintro ρ H n26 ⟨v25, h2, h3, m2_2, sp⟩
    exact Runs.res2 Ty_ok (v := .agg [v25]) (w := bool true) Tryz.func9 Tryz.results9 (by simp [h2, h3, m2_2, dr6, resA, AmbNode.cells, intC, strC]) (by simp [h2, h3, m2_2, dr6, resA, AmbNode.cells, intC, strC]) (hQ _ _ _ _ (Sep.sub (ids' := []) (Sep.packT (K := []) (Fill.own (Fill.v _ Fill.nil)) (Sep.pack (K := []) (Fill.own Fill.nil) sp)) (by simp)) ⟨(r12, true), h, rfl⟩)

theorem CanonicalProcess_ok (p : Proc) (hp : CanonicalProcess_pre p) : OwnS Tryz.prog 9 [.agg [.list false (p.map AmbNode.cells)]] (.t [.a [.s [.c, .c, .c]], .c]) (fun r => r = .tup [.agg [.list true (((CanonicalProcess p).1).map AmbNode.cells)], bool ((CanonicalProcess p).2)]) := (CanonicalProcess_walk p _ (CanonicalProcess_vc p hp)).mono (by rintro _ ⟨_, rfl, rfl⟩; rfl)

theorem e23 : Ent Tryz.prog 23 := Ent.of Tryz.func23 (by kernel_rfl) rfl
theorem l12Canon_walk (p : Proc) (Z : Proc → Prop) (h : l12Canon_wp p Z) : PureC Tryz.prog 23 [.agg [.list false (p.map AmbNode.cells)]] (fun r => ∃ y : Proc, Z y ∧ r = .agg [.list true (y.map AmbNode.cells)]) := by
  unfold l12Canon_wp at h
  refine PureC.of Tryz.func23 rfl Tryz.ntmps23 (by simp) fun Q hQ => ?_
  refine Runs.cut (fun ρ H n => ρ 0 = .agg [.list false (p.map AmbNode.cells)]) (by simp [AmbNode.cells, intC, strC]) ?_
  rintro ρ H n1 h0
  refine Runs.seqE Ty_ok (by decide) fun k' hk' => ?_
  simp [h0, AmbNode.cells, intC, strC]
  refine hk' _ _ _ ?_
  refine Runs.cut (fun ρ H n => ρ 1 = .ptr (n1, 1) 1 0 0 ∧ ρ 2 = .ptr (n1 + 1, 2) 1 0 0 ∧ H (n1, 1) = some ⟨1, [[.list false (p.map AmbNode.cells)]]⟩ ∧ H (n1 + 1, 2) = some ⟨1, [[.v (.slice none 0 0)]]⟩) (by refine ⟨?_, ?_, ?_, ?_⟩ <;> simp [h0, AmbNode.cells, intC, strC]) ?_
  clear h0
  rintro ρ H n4 ⟨h1, h2, m1_1, m2_2⟩
  refine Runs.seqE Ty_ok (by decide) fun k' hk' => ?_
  obtain ⟨hb5, h⟩ := h
  obtain ⟨r6, er6⟩ : ∃ v : Str, v = l12Best p (-1) := ⟨_, rfl⟩
  replace h := h r6 er6
  simp [h1, h2, m1_1, m2_2, AmbNode.cells, intC, strC]
  refine RunK.callA Ty_ok (hb5) e41 (.cons (ArgOk.agg (.cons (ArgOk.listF (fr := false) (els := p.map AmbNode.cells) (by simp [AmbNode.cells, intC, strC, intC])) .nil)) (.cons (.v _ _ _) .nil)) (by decide) (by decide) rfl (by simp [h1, h2, m1_1, m2_2, AmbNode.cells, intC, strC]) ?_
  rintro _ rfl
  rw [← er6]
  obtain ⟨hb7, h⟩ := h
  obtain ⟨r8, er8⟩ : ∃ v : Proc × Bool, v = parse r6 := ⟨_, rfl⟩
  replace h := h r8 er8
  simp [h1, h2, m1_1, m2_2, AmbNode.cells, intC, strC]
  refine RunK.callA Ty_ok (parseS_ok r6 hb7) e40 (.cons (.v _ _ _) .nil) (by decide) (by decide) rfl (by simp [h1, h2, m1_1, m2_2, AmbNode.cells, intC, strC]) ?_
  rintro _ rfl
  rw [← er8]
  simp [h1, h2, m1_1, m2_2, AmbNode.cells, intC, strC]
  refine hk' _ _ _ ?_
  refine Runs.cut (fun ρ H n => ρ 2 = .ptr (n1 + 1, 2) 1 0 0 ∧ ρ 3 = .ptr (n4, 3) 1 0 0 ∧ H (n1 + 1, 2) = some ⟨1, [[.v (.slice none 0 0)]]⟩ ∧ H (n4, 3) = some ⟨1, [[.list true (r8.1.map AmbNode.cells)]]⟩) (by refine ⟨?_, ?_, ?_, ?_⟩ <;> simp [h1, h2, m1_1, m2_2, AmbNode.cells, intC, strC]) ?_
  clear h1 h2 m1_1 m2_2
  rintro ρ H n10 ⟨h2, h3, m2_2, m3_8⟩
  refine Runs.seqE Ty_ok (by decide) fun k' hk' => ?_
  simp [h2, h3, m2_2, m3_8, AmbNode.cells, intC, strC]
  refine hk' _ _ _ ?_
  refine Runs.cut (fun ρ H n => ρ 2 = .ptr (n1 + 1, 2) 1 0 0 ∧ H (n1 + 1, 2) = some ⟨1, [[.list true (r8.1.map AmbNode.cells)]]⟩) (by refine ⟨?_, ?_⟩ <;> simp [h2, h3, m2_2, m3_8, AmbNode.cells, intC, strC]) ?_
  clear h2 h3 m2_2 m3_8
  rintro ρ H n11 ⟨h2, m2_2⟩
  exact Runs.res1 Ty_ok (v := .agg [.list true (r8.1.map AmbNode.cells)]) Tryz.func23 Tryz.results23 (by simp [h2, m2_2, resA, AmbNode.cells, intC, strC]) (hQ _ _ _ _ (.of (.aggL (.cons (.fresh (by simp [AmbNode.cells, intC, strC, intC])) .nil))) ⟨r8.1, h, rfl⟩)

theorem l12Canon_ok (p : Proc) (hp : l12Canon_pre p) : PureC Tryz.prog 23 [.agg [.list false (p.map AmbNode.cells)]] (fun r => r = .agg [.list true ((l12Canon p).map AmbNode.cells)]) := (l12Canon_walk p _ (l12Canon_vc p hp)).mono (by rintro _ ⟨_, rfl, rfl⟩; rfl)

theorem e7 : Ent Tryz.prog 7 := Ent.of Tryz.func7 (by kernel_rfl) rfl
theorem sCanonicalProcess_walk (p : Proc) (Z : (Proc × Bool) → Prop) (h : sCanonicalProcess_wp p Z) : PureC Tryz.prog 7 [.agg [.list false (p.map AmbNode.cells)]] (fun r => ∃ y : Proc × Bool, Z y ∧ r = .tup [.agg [.list true (y.1.map AmbNode.cells)], bool y.2]) := by
  unfold sCanonicalProcess_wp at h
  refine PureC.of Tryz.func7 rfl Tryz.ntmps7 (by simp) fun Q hQ => ?_
  refine Runs.cut (fun ρ H n => ρ 0 = .agg [.list false (p.map AmbNode.cells)]) (by simp [AmbNode.cells, intC, strC]) ?_
  rintro ρ H n1 h0
  refine Runs.seqE Ty_ok (by decide) fun k' hk' => ?_
  simp [h0, AmbNode.cells, intC, strC]
  refine hk' _ _ _ ?_
  refine Runs.cut (fun ρ H n => ρ 1 = .ptr (n1, 1) 1 0 0 ∧ ρ 2 = .ptr (n1 + 1, 2) 1 0 0 ∧ H (n1, 1) = some ⟨1, [[.list false (p.map AmbNode.cells)]]⟩ ∧ H (n1 + 1, 2) = some ⟨1, [[.v (.slice none 0 0)]]⟩) (by refine ⟨?_, ?_, ?_, ?_⟩ <;> simp [h0, AmbNode.cells, intC, strC]) ?_
  clear h0
  rintro ρ H n4 ⟨h1, h2, m1_1, m2_2⟩
  refine Runs.seq ?_
  refine Runs.seqE Ty_ok (by decide) fun k' hk' => ?_
  obtain ⟨hb5, h⟩ := h
  obtain ⟨r6, er6⟩ : ∃ v : Bool, v = goodP p := ⟨_, rfl⟩
  replace h := h r6 er6
  simp [h1, h2, m1_1, m2_2, AmbNode.cells, intC, strC]
  refine RunK.callA Ty_ok (l12Good_ok p hb5.1 hb5.2) e22 (.cons (ArgOk.agg (.cons (ArgOk.listF (fr := false) (els := p.map AmbNode.cells) (by simp [AmbNode.cells, intC, strC, intC])) .nil)) .nil) (by decide) (by decide) rfl (by simp [h1, h2, m1_1, m2_2, AmbNode.cells, intC, strC]) ?_
  rintro _ rfl
  rw [← er6]
  simp [h1, h2, m1_1, m2_2, AmbNode.cells, intC, strC]
  refine hk' _ _ _ ?_
  refine Runs.ite (b := (!r6)) (by simp [h1, h2, m1_1, m2_2, AmbNode.cells, intC, strC]) (fun dr6 => ?_) (fun dr6 => ?_)
  · have dr6 : r6 = false := by simpa using dr6
    replace h := h.2 dr6
    refine Runs.seqE Ty_ok (by decide) fun k' hk' => ?_
    simp [h1, h2, m1_1, m2_2, dr6, AmbNode.cells, intC, strC]
    refine hk' _ _ _ ?_
    refine Runs.cut (fun ρ H n => ρ 2 = .ptr (n1 + 1, 2) 1 0 0 ∧ ρ 3 = bool false ∧ H (n1 + 1, 2) = some ⟨1, [[.v (.slice none 0 0)]]⟩) (by refine ⟨?_, ?_, ?_⟩ <;> simp [h1, h2, m1_1, m2_2, dr6, AmbNode.cells, intC, strC]) ?_
    clear h1 h2 m1_1 m2_2
    rintro ρ H n7 ⟨h2, h3, m2_2⟩
    exact Runs.res2 Ty_ok (v := .agg [.v (.slice none 0 0)]) (w := bool false) Tryz.func7 Tryz.results7 (by simp [h2, h3, m2_2, dr6, resA, AmbNode.cells, intC, strC]) (by simp [h2, h3, m2_2, dr6, resA, AmbNode.cells, intC, strC]) (hQ _ _ _ _ (.of (.tupL (.cons (.aggL (.cons (.nil true) .nil)) (.cons (.v _) .nil)))) ⟨([], false), h, rfl⟩)
  · have dr6 : r6 = true := by simpa using dr6
    replace h := h.1 dr6
    refine Runs.skip ?_
    refine Runs.seqE Ty_ok (by decide) fun k' hk' => ?_
    obtain ⟨hb8, h⟩ := h
    obtain ⟨r9, er9⟩ : ∃ v : Proc, v = l12Canon p := ⟨_, rfl⟩
    replace h := h r9 er9
    simp [h1, h2, m1_1, m2_2, dr6, AmbNode.cells, intC, strC]
    refine RunK.callA Ty_ok (l12Canon_ok p hb8) e23 (.cons (ArgOk.agg (.cons (ArgOk.listF (fr := false) (els := p.map AmbNode.cells) (by simp [AmbNode.cells, intC, strC, intC])) .nil)) .nil) (by decide) (by decide) rfl (by simp [h1, h2, m1_1, m2_2, dr6, AmbNode.cells, intC, strC]) ?_
    rintro _ rfl
    rw [← er9]
    simp [h1, h2, m1_1, m2_2, dr6, AmbNode.cells, intC, strC]
    refine hk' _ _ _ ?_
    refine Runs.cut (fun ρ H n => ρ 2 = .ptr (n1 + 1, 2) 1 0 0 ∧ ρ 3 = bool true ∧ H (n1 + 1, 2) = some ⟨1, [[.list true (r9.map AmbNode.cells)]]⟩) (by refine ⟨?_, ?_, ?_⟩ <;> simp [h1, h2, m1_1, m2_2, dr6, AmbNode.cells, intC, strC]) ?_
    clear h1 h2 m1_1 m2_2
    rintro ρ H n10 ⟨h2, h3, m2_2⟩
    exact Runs.res2 Ty_ok (v := .agg [.list true (r9.map AmbNode.cells)]) (w := bool true) Tryz.func7 Tryz.results7 (by simp [h2, h3, m2_2, dr6, resA, AmbNode.cells, intC, strC]) (by simp [h2, h3, m2_2, dr6, resA, AmbNode.cells, intC, strC]) (hQ _ _ _ _ (.of (.tupL (.cons (.aggL (.cons (.fresh (by simp [AmbNode.cells, intC, strC, intC])) .nil)) (.cons (.v _) .nil)))) ⟨(r9, true), h, rfl⟩)

theorem sCanonicalProcess_ok (p : Proc) (hp : sCanonicalProcess_pre p) : PureC Tryz.prog 7 [.agg [.list false (p.map AmbNode.cells)]] (fun r => r = .tup [.agg [.list true (((sCanonicalProcess p).1).map AmbNode.cells)], bool ((sCanonicalProcess p).2)]) := (sCanonicalProcess_walk p _ (sCanonicalProcess_vc p hp)).mono (by rintro _ ⟨_, rfl, rfl⟩; rfl)

theorem sCanon_ok (p : Proc) (h : procHuge p) : PureC Tryz.prog 7 [.agg [.list false (p.map AmbNode.cells)]] (fun r => r = .tup [.agg [.list true ((CanonicalProcess p).1.map AmbNode.cells)], bool (CanonicalProcess p).2]) := sCanonicalProcess_ok p ⟨h, fun hg => bestAll (goodP_valid hg) _ (-1) rfl (by omega) (by omega)⟩

theorem e3 : Ent Tryz.prog 3 := Ent.of Tryz.func3 (by kernel_rfl) rfl
theorem lawCanonical_walk (aP : Proc) (Z : Bool → Prop) (h : lawCanonical_wp aP Z) : PureC Tryz.prog 3 [.agg [.list false (aP.map AmbNode.cells)]] (fun r => ∃ y : Bool, Z y ∧ r = bool y) := by
  unfold lawCanonical_wp at h
  have sp : Sep noHeap 0 [] [] := Sep.nil (by simp)
  refine PureC.of Tryz.func3 rfl Tryz.ntmps3 (by simp) fun Q hQ => ?_
  refine Runs.cut (fun ρ H n => ρ 0 = .agg [.list false (aP.map AmbNode.cells)] ∧ Sep H n [] []) (by refine ⟨?_, sp⟩ <;> simp [AmbNode.cells, intC, strC]) ?_
  rintro ρ H n1 ⟨h0, sp⟩
  refine Runs.seqE Ty_ok (by decide) fun k' hk' => ?_
  simp [h0, AmbNode.cells, intC, strC]
  refine hk' _ _ _ ?_
  refine Runs.cut (fun ρ H n => ρ 1 = .ptr (n1, 1) 1 0 0 ∧ H (n1, 1) = some ⟨1, [[.list false (aP.map AmbNode.cells)]]⟩ ∧ Sep H n [] [(n1, 1)]) (by refine ⟨?_, ?_, (Sep.var sp)⟩ <;> simp [h0, AmbNode.cells, intC, strC]) ?_
  clear h0
  rintro ρ H n3 ⟨h1, m1_1, sp⟩
  refine Runs.seqE Ty_ok (by decide) fun k' hk' => ?_
  simp [h1, m1_1, AmbNode.cells, intC, strC]
  refine hk' _ _ _ ?_
  refine Runs.seqE Ty_ok (by decide) fun k' hk' => ?_
  obtain ⟨hb4, h⟩ := h
  obtain ⟨r5, er5⟩ : ∃ v : Int, v = szT aP 1048576 := ⟨_, rfl⟩
  replace h := h r5 er5
  simp [h1, m1_1, AmbNode.cells, intC, strC]
  refine RunK.callA Ty_ok (szT_ok aP 1048576 hb4.1.1 hb4.1.2 hb4.2) e6 (.cons (ArgOk.agg (.cons (ArgOk.listF (fr := false) (els := aP.map AmbNode.cells) (by simp [AmbNode.cells, intC, strC, intC])) .nil)) (.cons (.v _ _ _) .nil)) (by decide) (by decide) rfl (by simp [h1, m1_1, AmbNode.cells, intC, strC]) ?_
  rintro _ rfl
  rw [← er5]
  simp [h1, m1_1, AmbNode.cells, intC, strC]
  refine hk' _ _ _ ?_
  refine Runs.seq ?_
  refine Runs.seqE Ty_ok (by decide) fun k' hk' => ?_
  obtain ⟨c6, ec6⟩ : ∃ v : Bool, v = decide (r5 < 0) := ⟨_, rfl⟩
  replace h := h c6 ec6
  have f7 := ib_lss (k := .i64) ec6
  simp [h1, m1_1, f7, AmbNode.cells, intC, strC, -intBin]
  refine hk' _ _ _ ?_
  refine Runs.ite (b := c6) (by simp [h1, m1_1, AmbNode.cells, intC, strC]) (fun dc6 => ?_) (fun dc6 => ?_)
  · replace h := h.1 dc6
    refine Runs.seqE Ty_ok (by decide) fun k' hk' => ?_
    simp [h1, m1_1, dc6, AmbNode.cells, intC, strC]
    refine hk' _ _ _ ?_
    exact Runs.ret1 (v := bool true) Tryz.func3 Tryz.results3 (by simp [h1, m1_1, dc6, AmbNode.cells, intC, strC]) (hQ _ _ _ _ (.of (.v _)) ⟨true, h, rfl⟩)
  · replace h := h.2 dc6
    refine Runs.skip ?_
    refine Runs.seqE Ty_ok (by decide) fun k' hk' => ?_
    obtain ⟨hb8, h⟩ := h
    obtain ⟨r9, er9⟩ : ∃ v : Proc, v = toProcess aP := ⟨_, rfl⟩
    replace h := h r9 er9
    simp [h1, m1_1, dc6, AmbNode.cells, intC, strC]
    refine RunK.callW Ty_ok (toProcess_ok aP hb8) e8 (.cons (ArgOk.agg (.cons (ArgOk.listF (fr := false) (els := aP.map AmbNode.cells) (by simp [AmbNode.cells, intC, strC, intC])) .nil)) .nil) sp (by decide) (by decide) rfl (by simp [h1, m1_1, dc6, AmbNode.cells, intC, strC]) ?_
    rintro v10 H11 n12 _ sp rfl hle14 hfr13
    rw [← er9] at sp
    have m1_1 : H11 (n1, 1) = some ⟨1, [[.list false (aP.map AmbNode.cells)]]⟩ := (hfr13 _ (by simp)).trans (by simp [h1, m1_1, Heap.get_set])
    replace sp := Sep.unpack sp
    obtain ⟨L17, hv, hl18, sp⟩ := sp
    subst hv
    obtain ⟨v16, hv⟩ := len1 (by simpa using hl18)
    subst hv
    simp only [zip3, List.cons_append, List.nil_append] at sp
    replace sp := Sep.rot sp
    try simp only [List.cons_append, List.nil_append, List.append_assoc] at sp
    replace sp : Sep H11 n12 [(.s [.c, .c, .c], v16, .list true (r9.map AmbNode.cells))] [(n1, 1)] := sp
    obtain ⟨hb20, h⟩ := h
    obtain ⟨r21, er21⟩ : ∃ v : Proc × Bool, v = CanonicalProcess r9 := ⟨_, rfl⟩
    replace h := h r21 er21
    simp [h1, m1_1, dc6, AmbNode.cells, intC, strC]
    refine RunK.callA Ty_ok (sCanon_ok r9 hb20) e7 (.cons (ArgOk.agg (.cons (Sep.argOk' sp (old_listF (by simp [AmbNode.cells, intC, strC, intC]))) .nil)) .nil) (by decide) (by decide) rfl (by simp [h1, m1_1, dc6, AmbNode.cells, intC, strC]) ?_
    rintro _ rfl
    rw [← er21]
    simp [h1, m1_1, dc6, AmbNode.cells, intC, strC]
    refine hk' _ _ _ ?_
    refine Runs.cut (fun ρ H n => ρ 1 = .ptr (n1, 1) 1 0 0 ∧ ρ 4 = .ptr (n12, 4) 1 0 0 ∧ ρ 5 = bool r21.2 ∧ H (n1, 1) = some ⟨1, [[.list false (aP.map AmbNode.cells)]]⟩ ∧ H (n12, 4) = some ⟨1, [[.list true (r21.1.map AmbNode.cells)]]⟩ ∧ Sep H n [] [(n12, 4), (n1, 1)]) (by refine ⟨?_, ?_, ?_, ?_, ?_, (Sep.right (K1 := [(.s [.c, .c, .c], v16, .list true (r9.map AmbNode.cells))]) (K2 := []) (Sep.var sp))⟩ <;> simp [h1, m1_1, dc6, AmbNode.cells, intC, strC]) ?_
    clear h1 m1_1
    rintro ρ H n23 ⟨h1, h4, h5, m1_1, m4_21, sp⟩
    refine Runs.seqE Ty_ok (by decide) fun k' hk' => ?_
    obtain ⟨hb24, h⟩ := h
    obtain ⟨r25, er25⟩ : ∃ v : Proc, v = toProcess aP := ⟨_, rfl⟩
    replace h := h r25 er25
    simp [h1, h4, h5, m1_1, m4_21, dc6, AmbNode.cells, intC, strC]
    refine RunK.callW Ty_ok (toProcess_ok aP hb24) e8 (.cons (ArgOk.agg (.cons (ArgOk.listF (fr := false) (els := aP.map AmbNode.cells) (by simp [AmbNode.cells, intC, strC, intC])) .nil)) .nil) sp (by decide) (by decide) rfl (by simp [h1, h4, h5, m1_1, m4_21, dc6, AmbNode.cells, intC, strC]) ?_
    rintro v26 H27 n28 _ sp rfl hle30 hfr29
    rw [← er25] at sp
    have m1_1 : H27 (n1, 1) = some ⟨1, [[.list false (aP.map AmbNode.cells)]]⟩ := (hfr29 _ (by simp)).trans (by simp [h1, h4, h5, m1_1, m4_21, Heap.get_set])
    have m4_21 : H27 (n12, 4) = some ⟨1, [[.list true (r21.1.map AmbNode.cells)]]⟩ := (hfr29 _ (by simp)).trans (by simp [h1, h4, h5, m1_1, m4_21, Heap.get_set])
    replace sp := Sep.unpack sp
    obtain ⟨L33, hv, hl34, sp⟩ := sp
    subst hv
    obtain ⟨v32, hv⟩ := len1 (by simpa using hl34)
    subst hv
    simp only [zip3, List.cons_append, List.nil_append] at sp
    replace sp := Sep.rot sp
    try simp only [List.cons_append, List.nil_append, List.append_assoc] at sp
    replace sp : Sep H27 n28 [(.s [.c, .c, .c], v32, .list true (r25.map AmbNode.cells))] [(n12, 4), (n1, 1)] := sp
    have f37 := cell_own (Sep.cells sp)
    have f38 := cell_own (Sep.one1 sp)
    simp [h1, h4, h5, m1_1, m4_21, f37, f38, dc6, AmbNode.cells, intC, strC, -cellsA, -one1, cA_int, cA_bool, cA_str, cA_nil, cA_agg, cA_list, cA_arr, cA_ptr, o1_int, o1_bool, o1_str, o1_nil, o1_list, o1_arr, o1_ptr]
    refine hk' _ _ _ ?_
    refine Runs.cut (fun ρ H n => ∃ (v39 : AVal), ρ 1 = .ptr (n1, 1) 1 0 0 ∧ ρ 4 = .ptr (n12, 4) 1 0 0 ∧ ρ 5 = bool r21.2 ∧ ρ 6 = .ptr (n28, 6) 1 0 0 ∧ H (n1, 1) = some ⟨1, [[.list false (aP.map AmbNode.cells)]]⟩ ∧ H (n12, 4) = some ⟨1, [[.list true (r21.1.map AmbNode.cells)]]⟩ ∧ H (n28, 6) = some ⟨1, [[v39]]⟩ ∧ Sep H n [(.s [.c, .c, .c], v39, .list true (r25.map AmbNode.cells))] [(n28, 6), (n12, 4), (n1, 1)]) (by refine ⟨v32, ?_, ?_, ?_, ?_, ?_, ?_, ?_, (Sep.var sp)⟩ <;> simp [h1, h4, h5, m1_1, m4_21, f37, f38, dc6, AmbNode.cells, intC, strC, -cellsA, -one1, cA_int, cA_bool, cA_str, cA_nil, cA_agg, cA_list, cA_arr, cA_ptr, o1_int, o1_bool, o1_str, o1_nil, o1_list, o1_arr, o1_ptr]) ?_
    clear h1 h4 h5 m1_1 m4_21
    rintro ρ H n40 ⟨v39, h1, h4, h5, h6, m1_1, m4_21, m6_35, sp⟩
    refine Runs.seqE Ty_ok (by decide) fun k' hk' => ?_
    obtain ⟨hb41, h⟩ := h
    obtain ⟨r42, er42⟩ : ∃ v : Proc × Bool, v = CanonicalProcess r25 := ⟨_, rfl⟩
    replace h := h r42 er42
    simp [h1, h4, h5, h6, m1_1, m4_21, m6_35, dc6, AmbNode.cells, intC, strC]
    refine RunK.callW Ty_ok (CanonicalProcess_ok r25 hb41) e9 (.cons (ArgOk.agg (.cons (Sep.argOk' sp (old_listF (by simp [AmbNode.cells, intC, strC, intC]))) .nil)) .nil) sp (by decide) (by decide) rfl (by simp [h1, h4, h5, h6, m1_1, m4_21, m6_35, dc6, AmbNode.cells, intC, strC]) ?_
    rintro v43 H44 n45 _ sp rfl hle47 hfr46
    rw [← er42] at sp
    have m1_1 : H44 (n1, 1) = some ⟨1, [[.list false (aP.map AmbNode.cells)]]⟩ := (hfr46 _ (by simp)).trans (by simp [h1, h4, h5, h6, m1_1, m4_21, m6_35, Heap.get_set])
    have m4_21 : H44 (n12, 4) = some ⟨1, [[.list true (r21.1.map AmbNode.cells)]]⟩ := (hfr46 _ (by simp)).trans (by simp [h1, h4, h5, h6, m1_1, m4_21, m6_35, Heap.get_set])
    have m6_35 : H44 (n28, 6) = some ⟨1, [[v39]]⟩ := (hfr46 _ (by simp)).trans (by simp [h1, h4, h5, h6, m1_1, m4_21, m6_35, Heap.get_set])
    replace sp := Sep.unpackT sp
    obtain ⟨L51, hv, hl52, sp⟩ := sp
    subst hv
    obtain ⟨v49, v50, hv⟩ := len2 (by simpa using hl52)
    subst hv
    simp only [zip3, List.cons_append, List.nil_append] at sp
    replace sp := Sep.unpack sp
    obtain ⟨L54, hv, hl55, sp⟩ := sp
    subst hv
    obtain ⟨v53, hv⟩ := len1 (by simpa using hl55)
    subst hv
    simp only [zip3, List.cons_append, List.nil_append] at sp
    replace sp := Sep.rot sp
    try simp only [List.cons_append, List.nil_append, List.append_assoc] at sp
    replace sp := Sep.scalar sp
    obtain ⟨hv, sp⟩ := sp
    subst hv
    replace sp : Sep H44 n45 [(.s [.c, .c, .c], v39, .list true (r25.map AmbNode.cells)), (.s [.c, .c, .c], v53, .list true (r42.1.map AmbNode.cells))] [(n28, 6), (n12, 4), (n1, 1)] := sp
    have f58 := cell_own (Sep.cells (Sep.front (K1 := [(.s [.c, .c, .c], v39, .list true (r25.map AmbNode.cells))]) (K2 := []) sp))
    have f59 := cell_own (Sep.one1 (Sep.front (K1 := [(.s [.c, .c, .c], v39, .list true (r25.map AmbNode.cells))]) (K2 := []) sp))
    simp [h1, h4, h5, h6, m1_1, m4_21, m6_35, f58, f59, dc6, AmbNode.cells, intC, strC, -cellsA, -one1, cA_int, cA_bool, cA_str, cA_nil, cA_agg, cA_list, cA_arr, cA_ptr, o1_int, o1_bool, o1_str, o1_nil, o1_list, o1_arr, o1_ptr]
    refine hk' _ _ _ ?_
    refine Runs.cut (fun ρ H n => ∃ (v60 : AVal) (v61 : AVal), ρ 1 = .ptr (n1, 1) 1 0 0 ∧ ρ 4 = .ptr (n12, 4) 1 0 0 ∧ ρ 5 = bool r21.2 ∧ ρ 6 = .ptr (n28, 6) 1 0 0 ∧ ρ 7 = .ptr (n45, 7) 1 0 0 ∧ ρ 8 = bool r42.2 ∧ H (n1, 1) = some ⟨1, [[.list false (aP.map AmbNode.cells)]]⟩ ∧ H (n12, 4) = some ⟨1, [[.list true (r21.1.map AmbNode.cells)]]⟩ ∧ H (n28, 6) = some ⟨1, [[v60]]⟩ ∧ H (n45, 7) = some ⟨1, [[v61]]⟩ ∧ Sep H n [(.s [.c, .c, .c], v60, .list true (r25.map AmbNode.cells)), (.s [.c, .c, .c], v61, .list true (r42.1.map AmbNode.cells))] [(n45, 7), (n28, 6), (n12, 4), (n1, 1)]) (by refine ⟨v39, v53, ?_, ?_, ?_, ?_, ?_, ?_, ?_, ?_, ?_, ?_, (Sep.front (K1 := [(.s [.c, .c, .c], v53, .list true (r42.1.map AmbNode.cells))]) (K2 := []) (Sep.front (K1 := [(.s [.c, .c, .c], v39, .list true (r25.map AmbNode.cells))]) (K2 := []) (Sep.var sp)))⟩ <;> simp [h1, h4, h5, h6, m1_1, m4_21, m6_35, f58, f59, dc6, AmbNode.cells, intC, strC, -cellsA, -one1, cA_int, cA_bool, cA_str, cA_nil, cA_agg, cA_list, cA_arr, cA_ptr, o1_int, o1_bool, o1_str, o1_nil, o1_list, o1_arr, o1_ptr]) ?_
    clear h1 h4 h5 h6 m1_1 m4_21 m6_35
    rintro ρ H n62 ⟨v60, v61, h1, h4, h5, h6, h7, h8, m1_1, m4_21, m6_35, m7_56, sp⟩
    refine Runs.seq ?_
    refine Runs.seqE Ty_ok (by decide) fun k' hk' => ?_
    obtain ⟨J63, hJ64, hr65⟩ := h
    have fin69 : ∀ (s : Bool) (ρ : Env) (H : Heap) (n : Nat), J63 s → (match s with | b66 => ∃ (v67 : AVal) (v68 : AVal), ρ 1 = .ptr (n1, 1) 1 0 0 ∧ ρ 4 = .ptr (n12, 4) 1 0 0 ∧ ρ 5 = bool r21.2 ∧ ρ 6 = .ptr (n28, 6) 1 0 0 ∧ ρ 7 = .ptr (n45, 7) 1 0 0 ∧ ρ 8 = bool r42.2 ∧ ρ 40 = bool b66 ∧ H (n1, 1) = some ⟨1, [[.list false (aP.map AmbNode.cells)]]⟩ ∧ H (n12, 4) = some ⟨1, [[.list true (r21.1.map AmbNode.cells)]]⟩ ∧ H (n28, 6) = some ⟨1, [[v67]]⟩ ∧ H (n45, 7) = some ⟨1, [[v68]]⟩ ∧ Sep H n [(.s [.c, .c, .c], v67, .list true (r25.map AmbNode.cells)), (.s [.c, .c, .c], v68, .list true (r42.1.map AmbNode.cells))] [(n45, 7), (n28, 6), (n12, 4), (n1, 1)]) → Runs Tryz.prog 3 96 k' ρ H n Q := by
      rintro b66 ρ H n70 h ⟨v67, v68, h1, h4, h5, h6, h7, h8, h40, m1_1, m4_21, m6_35, m7_56, sp⟩
      replace h := hr65 _ h
      refine hk' _ _ _ ?_
      refine Runs.ite (b := b66) (by simp [h1, h4, h5, h6, h7, h8, h40, m1_1, m4_21, m6_35, m7_56, dc6, AmbNode.cells, intC, strC]) (fun db66 => ?_) (fun db66 => ?_)
      · replace h := h.1 db66
        refine Runs.seqE Ty_ok (by decide) fun k' hk' => ?_
        simp [h1, h4, h5, h6, h7, h8, h40, m1_1, m4_21, m6_35, m7_56, dc6, db66, AmbNode.cells, intC, strC]
        refine hk' _ _ _ ?_
        exact Runs.ret1 (v := bool false) Tryz.func3 Tryz.results3 (by simp [h1, h4, h5, h6, h7, h8, h40, m1_1, m4_21, m6_35, m7_56, dc6, db66, AmbNode.cells, intC, strC]) (hQ _ _ _ _ (.of (.v _)) ⟨false, h, rfl⟩)
      · replace h := h.2 db66
        refine Runs.skip ?_
        refine Runs.seq ?_
        refine Runs.seqD Ty_ok kindOp_ok draws (by decide) (by kernel_rfl) fun k' hk' => ?_
        obtain ⟨hb71, h⟩ := h
        obtain ⟨r72, er72⟩ : ∃ v : Proc, v = toProcess aP := ⟨_, rfl⟩
        replace h := h r72 er72
        simp [h1, h4, h5, h6, h7, h8, h40, m1_1, m4_21, m6_35, m7_56, dc6, db66, AmbNode.cells, intC, strC]
        refine RunDK.callA Ty_ok kindOp_ok ((toProcess_ok aP hb71).pure) e8 (.cons (ArgOk.agg (.cons (ArgOk.listF (fr := false) (els := aP.map AmbNode.cells) (by simp [AmbNode.cells, intC, strC, intC])) .nil)) .nil) (by decide) rfl (by simp [h1, h4, h5, h6, h7, h8, h40, m1_1, m4_21, m6_35, m7_56, dc6, db66, AmbNode.cells, intC, strC]) ?_
        rw [← er72]
        obtain ⟨hb73, h⟩ := h
        obtain ⟨r74, er74⟩ : ∃ v : Bool, v = decide (r25 = r72) := ⟨_, rfl⟩
        replace h := h r74 er74
        simp [h1, h4, h5, h6, h7, h8, h40, m1_1, m4_21, m6_35, m7_56, dc6, db66, AmbNode.cells, intC, strC]
        refine RunDK.callA Ty_ok kindOp_ok (eqProcess_ok r25 r72 hb73) e10 (.cons (ArgOk.agg (.cons (Sep.argOk' sp (old_listF (by simp [AmbNode.cells, intC, strC, intC]))) .nil)) (.cons (ArgOk.agg (.cons (ArgOk.listF (fr := true) (els := r72.map AmbNode.cells) (by simp [AmbNode.cells, intC, strC, intC])) .nil)) .nil)) (by decide) rfl (by simp [h1, h4, h5, h6, h7, h8, h40, m1_1, m4_21, m6_35, m7_56, dc6, db66, AmbNode.cells, intC, strC]) ?_
        rw [← er74]
        simp [h1, h4, h5, h6, h7, h8, h40, m1_1, m4_21, m6_35, m7_56, dc6, db66, AmbNode.cells, intC, strC]
        refine hk' _ _ _ ?_
        refine Runs.ite (b := (!r74)) (by simp [h1, h4, h5, h6, h7, h8, h40, m1_1, m4_21, m6_35, m7_56, dc6, db66, AmbNode.cells, intC, strC]) (fun dr74 => ?_) (fun dr74 => ?_)
        · have dr74 : r74 = false := by simpa using dr74
          replace h := h.2 dr74
          refine Runs.seqE Ty_ok (by decide) fun k' hk' => ?_
          simp [h1, h4, h5, h6, h7, h8, h40, m1_1, m4_21, m6_35, m7_56, dc6, db66, dr74, AmbNode.cells, intC, strC]
          refine hk' _ _ _ ?_
          exact Runs.ret1 (v := bool false) Tryz.func3 Tryz.results3 (by simp [h1, h4, h5, h6, h7, h8, h40, m1_1, m4_21, m6_35, m7_56, dc6, db66, dr74, AmbNode.cells, intC, strC]) (hQ _ _ _ _ (.of (.v _)) ⟨false, h, rfl⟩)
        · have dr74 : r74 = true := by simpa using dr74
          replace h := h.1 dr74
          refine Runs.skip ?_
          refine Runs.seqE Ty_ok (by decide) fun k' hk' => ?_
          simp [h1, h4, h5, h6, h7, h8, h40, m1_1, m4_21, m6_35, m7_56, dc6, db66, dr74, AmbNode.cells, intC, strC]
          refine hk' _ _ _ ?_
          refine Runs.seqE Ty_ok (by decide) fun k' hk' => ?_
          obtain ⟨hb75, h⟩ := h
          obtain ⟨r76, er76⟩ : ∃ v : Proc × Int, v = markProcess r25 1 := ⟨_, rfl⟩
          replace h := h r76 er76
          have f77 := cell_own (Sep.cells sp)
          have f78 := cell_own (Sep.one1 sp)
          simp [h1, h4, h5, h6, h7, h8, h40, m1_1, m4_21, m6_35, m7_56, f77, f78, dc6, db66, dr74, AmbNode.cells, intC, strC, -cellsA, -one1, cA_int, cA_bool, cA_str, cA_nil, cA_agg, cA_list, cA_arr, cA_ptr, o1_int, o1_bool, o1_str, o1_nil, o1_list, o1_arr, o1_ptr]
          refine RunK.callM (v := .agg [v67]) Ty_ok (markProcess_ok r25 1 hb75) e11 (Sep.pack (K := [(.s [.c, .c, .c], v68, .list true (r42.1.map AmbNode.cells))]) (Fill.own Fill.nil) sp) (by decide) (by decide) rfl (by simp [h1, h4, h5, h6, h7, h8, h40, m1_1, m4_21, m6_35, m7_56, f77, f78, dc6, db66, dr74, AmbNode.cells, intC, strC, -cellsA, -one1, cA_int, cA_bool, cA_str, cA_nil, cA_agg, cA_list, cA_arr, cA_ptr, o1_int, o1_bool, o1_str, o1_nil, o1_list, o1_arr, o1_ptr]) ?_
          rintro _ H79 n80 _ ⟨rfl, rfl⟩ sp hle82 hfr81
          rw [← er76] at sp
          rw [← er76]
          replace sp := Sep.unpack sp
          obtain ⟨L83, hv, hl84, sp⟩ := sp
          cases hv
          simp only [zip3, List.cons_append, List.nil_append] at sp
          replace sp := Sep.rot sp
          try simp only [List.cons_append, List.nil_append, List.append_assoc] at sp
          replace sp : Sep H79 n80 [(.s [.c, .c, .c], v68, .list true (r42.1.map AmbNode.cells)), (.s [.c, .c, .c], v67, .list true (r76.1.map AmbNode.cells))] [(n45, 7), (n28, 6), (n12, 4), (n1, 1)] := sp
          have m1_1 : H79 (n1, 1) = some ⟨1, [[.list false (aP.map AmbNode.cells)]]⟩ := (hfr81 _ (by simp)).trans (by simp [h1, h4, h5, h6, h7, h8, h40, m1_1, m4_21, m6_35, m7_56, Heap.get_set])
          have m4_21 : H79 (n12, 4) = some ⟨1, [[.list true (r21.1.map AmbNode.cells)]]⟩ := (hfr81 _ (by simp)).trans (by simp [h1, h4, h5, h6, h7, h8, h40, m1_1, m4_21, m6_35, m7_56, Heap.get_set])
          have m6_35 : H79 (n28, 6) = some ⟨1, [[v67]]⟩ := (hfr81 _ (by simp)).trans (by simp [h1, h4, h5, h6, h7, h8, h40, m1_1, m4_21, m6_35, m7_56, Heap.get_set])
          have m7_56 : H79 (n45, 7) = some ⟨1, [[v68]]⟩ := (hfr81 _ (by simp)).trans (by simp [h1, h4, h5, h6, h7, h8, h40, m1_1, m4_21, m6_35, m7_56, Heap.get_set])
          simp [h1, h4, h5, h6, h7, h8, h40, m1_1, m4_21, m6_35, m7_56, f77, f78, dc6, db66, dr74, AmbNode.cells, intC, strC, -cellsA, -one1, cA_int, cA_bool, cA_str, cA_nil, cA_agg, cA_list, cA_arr, cA_ptr, o1_int, o1_bool, o1_str, o1_nil, o1_list, o1_arr, o1_ptr]
          refine hk' _ _ _ ?_
          refine Runs.cut (fun ρ H n => ∃ (v86 : AVal), ρ 1 = .ptr (n1, 1) 1 0 0 ∧ ρ 4 = .ptr (n12, 4) 1 0 0 ∧ ρ 5 = bool r21.2 ∧ ρ 7 = .ptr (n45, 7) 1 0 0 ∧ ρ 8 = bool r42.2 ∧ ρ 9 = int r76.2 ∧ H (n1, 1) = some ⟨1, [[.list false (aP.map AmbNode.cells)]]⟩ ∧ H (n12, 4) = some ⟨1, [[.list true (r21.1.map AmbNode.cells)]]⟩ ∧ H (n45, 7) = some ⟨1, [[v86]]⟩ ∧ Sep H n [(.s [.c, .c, .c], v86, .list true (r42.1.map AmbNode.cells))] [(n45, 7), (n12, 4), (n1, 1)]) (by refine ⟨v68, ?_, ?_, ?_, ?_, ?_, ?_, ?_, ?_, ?_, (Sep.sub (Sep.right (K1 := [(.s [.c, .c, .c], v67, .list true (r76.1.map AmbNode.cells))]) (K2 := [(.s [.c, .c, .c], v68, .list true (r42.1.map AmbNode.cells))]) (Sep.front (K1 := [(.s [.c, .c, .c], v68, .list true (r42.1.map AmbNode.cells))]) (K2 := []) sp)) (by simp +contextual))⟩ <;> simp [h1, h4, h5, h6, h7, h8, h40, m1_1, m4_21, m6_35, m7_56, f77, f78, dc6, db66, dr74, AmbNode.cells, intC, strC, -cellsA, -one1, cA_int, cA_bool, cA_str, cA_nil, cA_agg, cA_list, cA_arr, cA_ptr, o1_int, o1_bool, o1_str, o1_nil, o1_list, o1_arr, o1_ptr]) ?_
          clear h1 h4 h5 h6 h7 h8 h40 m1_1 m4_21 m6_35 m7_56
          rintro ρ H n87 ⟨v86, h1, h4, h5, h7, h8, h9, m1_1, m4_21, m7_56, sp⟩
          refine Runs.seq ?_
          refine Runs.seqE Ty_ok (by decide) fun k' hk' => ?_
          obtain ⟨J88, hJ89, hr90⟩ := h
          have fin93 : ∀ (s : Bool) (ρ : Env) (H : Heap) (n : Nat), J88 s → (match s with | b91 => ∃ (v92 : AVal), ρ 1 = .ptr (n1, 1) 1 0 0 ∧ ρ 4 = .ptr (n12, 4) 1 0 0 ∧ ρ 5 = bool r21.2 ∧ ρ 7 = .ptr (n45, 7) 1 0 0 ∧ ρ 61 = bool b91 ∧ H (n1, 1) = some ⟨1, [[.list false (aP.map AmbNode.cells)]]⟩ ∧ H (n12, 4) = some ⟨1, [[.list true (r21.1.map AmbNode.cells)]]⟩ ∧ H (n45, 7) = some ⟨1, [[v92]]⟩ ∧ Sep H n [(.s [.c, .c, .c], v92, .list true (r42.1.map AmbNode.cells))] [(n45, 7), (n12, 4), (n1, 1)]) → Runs Tryz.prog 3 96 k' ρ H n Q := by
            rintro b91 ρ H n94 h ⟨v92, h1, h4, h5, h7, h61, m1_1, m4_21, m7_56, sp⟩
            replace h := hr90 _ h
            refine hk' _ _ _ ?_
            refine Runs.ite (b := b91) (by simp [h1, h4, h5, h7, h61, m1_1, m4_21, m7_56, dc6, db66, dr74, AmbNode.cells, intC, strC]) (fun db91 => ?_) (fun db91 => ?_)
            · replace h := h.1 db91
              refine Runs.seqE Ty_ok (by decide) fun k' hk' => ?_
              simp [h1, h4, h5, h7, h61, m1_1, m4_21, m7_56, dc6, db66, dr74, db91, AmbNode.cells, intC, strC]
              refine hk' _ _ _ ?_
              exact Runs.ret1 (v := bool false) Tryz.func3 Tryz.results3 (by simp [h1, h4, h5, h7, h61, m1_1, m4_21, m7_56, dc6, db66, dr74, db91, AmbNode.cells, intC, strC]) (hQ _ _ _ _ (.of (.v _)) ⟨false, h, rfl⟩)
            · replace h := h.2 db91
              refine Runs.skip ?_
              refine Runs.seqE Ty_ok (by decide) fun k' hk' => ?_
              simp [h1, h4, h5, h7, h61, m1_1, m4_21, m7_56, dc6, db66, dr74, db91, AmbNode.cells, intC, strC]
              refine hk' _ _ _ ?_
              refine Runs.seqE Ty_ok (by decide) fun k' hk' => ?_
              obtain ⟨hb95, h⟩ := h
              obtain ⟨r96, er96⟩ : ∃ v : Proc × Int, v = markProcess r42.1 1 := ⟨_, rfl⟩
              replace h := h r96 er96
              have f97 := cell_own (Sep.cells sp)
              have f98 := cell_own (Sep.one1 sp)
              simp [h1, h4, h5, h7, h61, m1_1, m4_21, m7_56, f97, f98, dc6, db66, dr74, db91, AmbNode.cells, intC, strC, -cellsA, -one1, cA_int, cA_bool, cA_str, cA_nil, cA_agg, cA_list, cA_arr, cA_ptr, o1_int, o1_bool, o1_str, o1_nil, o1_list, o1_arr, o1_ptr]
              refine RunK.callM (v := .agg [v92]) Ty_ok (markProcess_ok r42.1 1 hb95) e11 (Sep.pack (K := []) (Fill.own Fill.nil) sp) (by decide) (by decide) rfl (by simp [h1, h4, h5, h7, h61, m1_1, m4_21, m7_56, f97, f98, dc6, db66, dr74, db91, AmbNode.cells, intC, strC, -cellsA, -one1, cA_int, cA_bool, cA_str, cA_nil, cA_agg, cA_list, cA_arr, cA_ptr, o1_int, o1_bool, o1_str, o1_nil, o1_list, o1_arr, o1_ptr]) ?_
              rintro _ H99 n100 _ ⟨rfl, rfl⟩ sp hle102 hfr101
              rw [← er96] at sp
              rw [← er96]
              replace sp := Sep.unpack sp
              obtain ⟨L103, hv, hl104, sp⟩ := sp
              cases hv
              simp only [zip3, List.cons_append, List.nil_append] at sp
              replace sp := Sep.rot sp
              try simp only [List.cons_append, List.nil_append, List.append_assoc] at sp
              replace sp : Sep H99 n100 [(.s [.c, .c, .c], v92, .list true (r96.1.map AmbNode.cells))] [(n45, 7), (n12, 4), (n1, 1)] := sp
              have m1_1 : H99 (n1, 1) = some ⟨1, [[.list false (aP.map AmbNode.cells)]]⟩ := (hfr101 _ (by simp)).trans (by simp [h1, h4, h5, h7, h61, m1_1, m4_21, m7_56, Heap.get_set])
              have m4_21 : H99 (n12, 4) = some ⟨1, [[.list true (r21.1.map AmbNode.cells)]]⟩ := (hfr101 _ (by simp)).trans (by simp [h1, h4, h5, h7, h61, m1_1, m4_21, m7_56, Heap.get_set])
              have m7_56 : H99 (n45, 7) = some ⟨1, [[v92]]⟩ := (hfr101 _ (by simp)).trans (by simp [h1, h4, h5, h7, h61, m1_1, m4_21, m7_56, Heap.get_set])
              simp [h1, h4, h5, h7, h61, m1_1, m4_21, m7_56, f97, f98, dc6, db66, dr74, db91, AmbNode.cells, intC, strC, -cellsA, -one1, cA_int, cA_bool, cA_str, cA_nil, cA_agg, cA_list, cA_arr, cA_ptr, o1_int, o1_bool, o1_str, o1_nil, o1_list, o1_arr, o1_ptr]
              refine hk' _ _ _ ?_
              refine Runs.cut (fun ρ H n => ∃ (v106 : AVal), ρ 1 = .ptr (n1, 1) 1 0 0 ∧ ρ 4 = .ptr (n12, 4) 1 0 0 ∧ ρ 5 = bool r21.2 ∧ ρ 7 = .ptr (n45, 7) 1 0 0 ∧ ρ 10 = int r96.2 ∧ H (n1, 1) = some ⟨1, [[.list false (aP.map AmbNode.cells)]]⟩ ∧ H (n12, 4) = some ⟨1, [[.list true (r21.1.map AmbNode.cells)]]⟩ ∧ H (n45, 7) = some ⟨1, [[v106]]⟩ ∧ Sep H n [(.s [.c, .c, .c], v106, .list true (r96.1.map AmbNode.cells))] [(n45, 7), (n12, 4), (n1, 1)]) (by refine ⟨v92, ?_, ?_, ?_, ?_, ?_, ?_, ?_, ?_, sp⟩ <;> simp [h1, h4, h5, h7, h61, m1_1, m4_21, m7_56, f97, f98, dc6, db66, dr74, db91, AmbNode.cells, intC, strC, -cellsA, -one1, cA_int, cA_bool, cA_str, cA_nil, cA_agg, cA_list, cA_arr, cA_ptr, o1_int, o1_bool, o1_str, o1_nil, o1_list, o1_arr, o1_ptr]) ?_
              clear h1 h4 h5 h7 h61 m1_1 m4_21 m7_56
              rintro ρ H n107 ⟨v106, h1, h4, h5, h7, h10, m1_1, m4_21, m7_56, sp⟩
              refine Runs.seqE Ty_ok (by decide) fun k' hk' => ?_
              simp [h1, h4, h5, h7, h10, m1_1, m4_21, m7_56, dc6, db66, dr74, db91, AmbNode.cells, intC, strC]
              refine hk' _ _ _ ?_
              refine Runs.seqE Ty_ok (by decide) fun k' hk' => ?_
              obtain ⟨hb108, h⟩ := h
              obtain ⟨r109, er109⟩ : ∃ v : Int, v = heldProcess r96.1 1 := ⟨_, rfl⟩
              replace h := h r109 er109
              simp [h1, h4, h5, h7, h10, m1_1, m4_21, m7_56, dc6, db66, dr74, db91, AmbNode.cells, intC, strC]
              refine RunK.callA Ty_ok (heldProcess_ok r96.1 1 hb108) e12 (.cons (ArgOk.agg (.cons (Sep.argOk' sp (old_listF (by simp [AmbNode.cells, intC, strC, intC]))) .nil)) (.cons (.v _ _ _) .nil)) (by decide) (by decide) rfl (by simp [h1, h4, h5, h7, h10, m1_1, m4_21, m7_56, dc6, db66, dr74, db91, AmbNode.cells, intC, strC]) ?_
              rintro _ rfl
              rw [← er109]
              simp [h1, h4, h5, h7, h10, m1_1, m4_21, m7_56, dc6, db66, dr74, db91, AmbNode.cells, intC, strC]
              refine hk' _ _ _ ?_
              refine Runs.seq ?_
              refine Runs.seqE Ty_ok (by decide) fun k' hk' => ?_
              obtain ⟨c110, ec110⟩ : ∃ v : Bool, v = decide (r109 < 0) := ⟨_, rfl⟩
              replace h := h c110 ec110
              have f111 := ib_lss (k := .i64) ec110
              simp [h1, h4, h5, h7, h10, m1_1, m4_21, m7_56, f111, dc6, db66, dr74, db91, AmbNode.cells, intC, strC, -intBin]
              refine hk' _ _ _ ?_
              refine Runs.ite (b := c110) (by simp [h1, h4, h5, h7, h10, m1_1, m4_21, m7_56, dc6, db66, dr74, db91, AmbNode.cells, intC, strC]) (fun dc110 => ?_) (fun dc110 => ?_)
              · replace h := h.1 dc110
                refine Runs.seqE Ty_ok (by decide) fun k' hk' => ?_
                simp [h1, h4, h5, h7, h10, m1_1, m4_21, m7_56, dc6, db66, dr74, db91, dc110, AmbNode.cells, intC, strC]
                refine hk' _ _ _ ?_
                exact Runs.ret1 (v := bool false) Tryz.func3 Tryz.results3 (by simp [h1, h4, h5, h7, h10, m1_1, m4_21, m7_56, dc6, db66, dr74, db91, dc110, AmbNode.cells, intC, strC]) (hQ _ _ _ _ (.of (.v _)) ⟨false, h, rfl⟩)
              · replace h := h.2 dc110
                refine Runs.skip ?_
                refine Runs.seq ?_
                refine Runs.seqE Ty_ok (by decide) fun k' hk' => ?_
                obtain ⟨c112, ec112⟩ : ∃ v : Bool, v = decide (r109 ≠ r96.2) := ⟨_, rfl⟩
                replace h := h c112 ec112
                have f113 := ib_neq (k := .i64) ec112
                simp [h1, h4, h5, h7, h10, m1_1, m4_21, m7_56, f113, dc6, db66, dr74, db91, dc110, AmbNode.cells, intC, strC, -intBin]
                refine hk' _ _ _ ?_
                refine Runs.ite (b := c112) (by simp [h1, h4, h5, h7, h10, m1_1, m4_21, m7_56, dc6, db66, dr74, db91, dc110, AmbNode.cells, intC, strC]) (fun dc112 => ?_) (fun dc112 => ?_)
                · replace h := h.1 dc112
                  refine Runs.seqE Ty_ok (by decide) fun k' hk' => ?_
                  simp [h1, h4, h5, h7, h10, m1_1, m4_21, m7_56, dc6, db66, dr74, db91, dc110, dc112, AmbNode.cells, intC, strC]
                  refine hk' _ _ _ ?_
                  exact Runs.ret1 (v := bool false) Tryz.func3 Tryz.results3 (by simp [h1, h4, h5, h7, h10, m1_1, m4_21, m7_56, dc6, db66, dr74, db91, dc110, dc112, AmbNode.cells, intC, strC]) (hQ _ _ _ _ (.of (.v _)) ⟨false, h, rfl⟩)
                · replace h := h.2 dc112
                  refine Runs.skip ?_
                  refine Runs.seqE Ty_ok (by decide) fun k' hk' => ?_
                  obtain ⟨hb114, h⟩ := h
                  obtain ⟨r115, er115⟩ : ∃ v : Proc, v = toProcess aP := ⟨_, rfl⟩
                  replace h := h r115 er115
                  simp [h1, h4, h5, h7, h10, m1_1, m4_21, m7_56, dc6, db66, dr74, db91, dc110, dc112, AmbNode.cells, intC, strC]
                  refine RunK.callW Ty_ok (toProcess_ok aP hb114) e8 (.cons (ArgOk.agg (.cons (ArgOk.listF (fr := false) (els := aP.map AmbNode.cells) (by simp [AmbNode.cells, intC, strC, intC])) .nil)) .nil) sp (by decide) (by decide) rfl (by simp [h1, h4, h5, h7, h10, m1_1, m4_21, m7_56, dc6, db66, dr74, db91, dc110, dc112, AmbNode.cells, intC, strC]) ?_
                  rintro v116 H117 n118 _ sp rfl hle120 hfr119
                  rw [← er115] at sp
                  have m1_1 : H117 (n1, 1) = some ⟨1, [[.list false (aP.map AmbNode.cells)]]⟩ := (hfr119 _ (by simp)).trans (by simp [h1, h4, h5, h7, h10, m1_1, m4_21, m7_56, Heap.get_set])
                  have m4_21 : H117 (n12, 4) = some ⟨1, [[.list true (r21.1.map AmbNode.cells)]]⟩ := (hfr119 _ (by simp)).trans (by simp [h1, h4, h5, h7, h10, m1_1, m4_21, m7_56, Heap.get_set])
                  have m7_56 : H117 (n45, 7) = some ⟨1, [[v106]]⟩ := (hfr119 _ (by simp)).trans (by simp [h1, h4, h5, h7, h10, m1_1, m4_21, m7_56, Heap.get_set])
                  replace sp := Sep.unpack sp
                  obtain ⟨L123, hv, hl124, sp⟩ := sp
                  subst hv
                  obtain ⟨v122, hv⟩ := len1 (by simpa using hl124)
                  subst hv
                  simp only [zip3, List.cons_append, List.nil_append] at sp
                  replace sp := Sep.rot sp
                  try simp only [List.cons_append, List.nil_append, List.append_assoc] at sp
                  replace sp : Sep H117 n118 [(.s [.c, .c, .c], v106, .list true (r96.1.map AmbNode.cells)), (.s [.c, .c, .c], v122, .list true (r115.map AmbNode.cells))] [(n45, 7), (n12, 4), (n1, 1)] := sp
                  obtain ⟨hb126, h⟩ := h
                  obtain ⟨r127, er127⟩ : ∃ v : Proc × Bool, v = CanonicalProcess r115 := ⟨_, rfl⟩
                  replace h := h r127 er127
                  simp [h1, h4, h5, h7, h10, m1_1, m4_21, m7_56, dc6, db66, dr74, db91, dc110, dc112, AmbNode.cells, intC, strC]
                  refine RunK.callW Ty_ok (CanonicalProcess_ok r115 hb126) e9 (.cons (ArgOk.agg (.cons (Sep.argOk' (Sep.front (K1 := [(.s [.c, .c, .c], v106, .list true (r96.1.map AmbNode.cells))]) (K2 := []) sp) (old_listF (by simp [AmbNode.cells, intC, strC, intC]))) .nil)) .nil) sp (by decide) (by decide) rfl (by simp [h1, h4, h5, h7, h10, m1_1, m4_21, m7_56, dc6, db66, dr74, db91, dc110, dc112, AmbNode.cells, intC, strC]) ?_
                  rintro v128 H129 n130 _ sp rfl hle132 hfr131
                  rw [← er127] at sp
                  have m1_1 : H129 (n1, 1) = some ⟨1, [[.list false (aP.map AmbNode.cells)]]⟩ := (hfr131 _ (by simp)).trans (by simp [h1, h4, h5, h7, h10, m1_1, m4_21, m7_56, Heap.get_set])
                  have m4_21 : H129 (n12, 4) = some ⟨1, [[.list true (r21.1.map AmbNode.cells)]]⟩ := (hfr131 _ (by simp)).trans (by simp [h1, h4, h5, h7, h10, m1_1, m4_21, m7_56, Heap.get_set])
                  have m7_56 : H129 (n45, 7) = some ⟨1, [[v106]]⟩ := (hfr131 _ (by simp)).trans (by simp [h1, h4, h5, h7, h10, m1_1, m4_21, m7_56, Heap.get_set])
                  replace sp := Sep.unpackT sp
                  obtain ⟨L136, hv, hl137, sp⟩ := sp
                  subst hv
                  obtain ⟨v134, v135, hv⟩ := len2 (by simpa using hl137)
                  subst hv
                  simp only [zip3, List.cons_append, List.nil_append] at sp
                  replace sp := Sep.unpack sp
                  obtain ⟨L139, hv, hl140, sp⟩ := sp
                  subst hv
                  obtain ⟨v138, hv⟩ := len1 (by simpa using hl140)
                  subst hv
                  simp only [zip3, List.cons_append, List.nil_append] at sp
                  replace sp := Sep.rot sp
                  try simp only [List.cons_append, List.nil_append, List.append_assoc] at sp
                  replace sp := Sep.scalar sp
                  obtain ⟨hv, sp⟩ := sp
                  subst hv
                  replace sp : Sep H129 n130 [(.s [.c, .c, .c], v106, .list true (r96.1.map AmbNode.cells)), (.s [.c, .c, .c], v122, .list true (r115.map AmbNode.cells)), (.s [.c, .c, .c], v138, .list true (r127.1.map AmbNode.cells))] [(n45, 7), (n12, 4), (n1, 1)] := sp
                  have f143 := cell_own (Sep.cells (Sep.front (K1 := [(.s [.c, .c, .c], v106, .list true (r96.1.map AmbNode.cells)), (.s [.c, .c, .c], v122, .list true (r115.map AmbNode.cells))]) (K2 := []) sp))
                  have f144 := cell_own (Sep.one1 (Sep.front (K1 := [(.s [.c, .c, .c], v106, .list true (r96.1.map AmbNode.cells)), (.s [.c, .c, .c], v122, .list true (r115.map AmbNode.cells))]) (K2 := []) sp))
                  simp [h1, h4, h5, h7, h10, m1_1, m4_21, m7_56, f143, f144, dc6, db66, dr74, db91, dc110, dc112, AmbNode.cells, intC, strC, -cellsA, -one1, cA_int, cA_bool, cA_str, cA_nil, cA_agg, cA_list, cA_arr, cA_ptr, o1_int, o1_bool, o1_str, o1_nil, o1_list, o1_arr, o1_ptr]
                  refine hk' _ _ _ ?_
                  refine Runs.cut (fun ρ H n => ∃ (v145 : AVal) (v146 : AVal), ρ 4 = .ptr (n12, 4) 1 0 0 ∧ ρ 5 = bool r21.2 ∧ ρ 7 = .ptr (n45, 7) 1 0 0 ∧ ρ 10 = int r96.2 ∧ ρ 12 = .ptr (n130, 12) 1 0 0 ∧ ρ 13 = bool r127.2 ∧ H (n12, 4) = some ⟨1, [[.list true (r21.1.map AmbNode.cells)]]⟩ ∧ H (n45, 7) = some ⟨1, [[v145]]⟩ ∧ H (n130, 12) = some ⟨1, [[v146]]⟩ ∧ Sep H n [(.s [.c, .c, .c], v145, .list true (r96.1.map AmbNode.cells)), (.s [.c, .c, .c], v146, .list true (r127.1.map AmbNode.cells))] [(n130, 12), (n45, 7), (n12, 4)]) (by refine ⟨v106, v138, ?_, ?_, ?_, ?_, ?_, ?_, ?_, ?_, ?_, (Sep.sub (Sep.front (K1 := [(.s [.c, .c, .c], v138, .list true (r127.1.map AmbNode.cells))]) (K2 := []) (Sep.front (K1 := [(.s [.c, .c, .c], v106, .list true (r96.1.map AmbNode.cells))]) (K2 := []) (Sep.right (K1 := [(.s [.c, .c, .c], v122, .list true (r115.map AmbNode.cells))]) (K2 := [(.s [.c, .c, .c], v106, .list true (r96.1.map AmbNode.cells)), (.s [.c, .c, .c], v138, .list true (r127.1.map AmbNode.cells))]) (Sep.front (K1 := [(.s [.c, .c, .c], v106, .list true (r96.1.map AmbNode.cells))]) (K2 := [(.s [.c, .c, .c], v138, .list true (r127.1.map AmbNode.cells))]) (Sep.var sp))))) (by simp +contextual))⟩ <;> simp [h1, h4, h5, h7, h10, m1_1, m4_21, m7_56, f143, f144, dc6, db66, dr74, db91, dc110, dc112, AmbNode.cells, intC, strC, -cellsA, -one1, cA_int, cA_bool, cA_str, cA_nil, cA_agg, cA_list, cA_arr, cA_ptr, o1_int, o1_bool, o1_str, o1_nil, o1_list, o1_arr, o1_ptr]) ?_
                  clear h1 h4 h5 h7 h10 m1_1 m4_21 m7_56
                  rintro ρ H n147 ⟨v145, v146, h4, h5, h7, h10, h12, h13, m4_21, m7_56, m12_141, sp⟩
                  refine Runs.seq ?_
                  refine Runs.seqE Ty_ok (by decide) fun k' hk' => ?_
                  obtain ⟨J148, hJ149, hr150⟩ := h
                  have fin153 : ∀ (s : Bool) (ρ : Env) (H : Heap) (n : Nat), J148 s → (match s with | b151 => ∃ (v152 : AVal), ρ 7 = .ptr (n45, 7) 1 0 0 ∧ ρ 10 = int r96.2 ∧ ρ 87 = bool b151 ∧ H (n45, 7) = some ⟨1, [[v152]]⟩ ∧ Sep H n [(.s [.c, .c, .c], v152, .list true (r96.1.map AmbNode.cells))] [(n45, 7)]) → Runs Tryz.prog 3 96 k' ρ H n Q := by
                    rintro b151 ρ H n154 h ⟨v152, h7, h10, h87, m7_56, sp⟩
                    replace h := hr150 _ h
                    refine hk' _ _ _ ?_
                    refine Runs.ite (b := b151) (by simp [h7, h10, h87, m7_56, dc6, db66, dr74, db91, dc110, dc112, AmbNode.cells, intC, strC]) (fun db151 => ?_) (fun db151 => ?_)
                    · replace h := h.1 db151
                      refine Runs.seqE Ty_ok (by decide) fun k' hk' => ?_
                      simp [h7, h10, h87, m7_56, dc6, db66, dr74, db91, dc110, dc112, db151, AmbNode.cells, intC, strC]
                      refine hk' _ _ _ ?_
                      exact Runs.ret1 (v := bool false) Tryz.func3 Tryz.results3 (by simp [h7, h10, h87, m7_56, dc6, db66, dr74, db91, dc110, dc112, db151, AmbNode.cells, intC, strC]) (hQ _ _ _ _ (.of (.v _)) ⟨false, h, rfl⟩)
                    · replace h := h.2 db151
                      refine Runs.skip ?_
                      refine Runs.seqE Ty_ok (by decide) fun k' hk' => ?_
                      simp [h7, h10, h87, m7_56, dc6, db66, dr74, db91, dc110, dc112, db151, AmbNode.cells, intC, strC]
                      refine hk' _ _ _ ?_
                      refine Runs.seqE Ty_ok (by decide) fun k' hk' => ?_
                      obtain ⟨hb155, h⟩ := h
                      obtain ⟨r156, er156⟩ : ∃ v : Int, v = heldProcess r96.1 1 := ⟨_, rfl⟩
                      replace h := h r156 er156
                      simp [h7, h10, h87, m7_56, dc6, db66, dr74, db91, dc110, dc112, db151, AmbNode.cells, intC, strC]
                      refine RunK.callA Ty_ok (heldProcess_ok r96.1 1 hb155) e12 (.cons (ArgOk.agg (.cons (Sep.argOk' sp (old_listF (by simp [AmbNode.cells, intC, strC, intC]))) .nil)) (.cons (.v _ _ _) .nil)) (by decide) (by decide) rfl (by simp [h7, h10, h87, m7_56, dc6, db66, dr74, db91, dc110, dc112, db151, AmbNode.cells, intC, strC]) ?_
                      rintro _ rfl
                      rw [← er156]
                      simp [h7, h10, h87, m7_56, dc6, db66, dr74, db91, dc110, dc112, db151, AmbNode.cells, intC, strC]
                      refine hk' _ _ _ ?_
                      refine Runs.seq ?_
                      refine Runs.seqE Ty_ok (by decide) fun k' hk' => ?_
                      obtain ⟨c157, ec157⟩ : ∃ v : Bool, v = decide (r156 < 0) := ⟨_, rfl⟩
                      replace h := h c157 ec157
                      have f158 := ib_lss (k := .i64) ec157
                      simp [h7, h10, h87, m7_56, f158, dc6, db66, dr74, db91, dc110, dc112, db151, AmbNode.cells, intC, strC, -intBin]
                      refine hk' _ _ _ ?_
                      refine Runs.ite (b := c157) (by simp [h7, h10, h87, m7_56, dc6, db66, dr74, db91, dc110, dc112, db151, AmbNode.cells, intC, strC]) (fun dc157 => ?_) (fun dc157 => ?_)
                      · replace h := h.1 dc157
                        refine Runs.seqE Ty_ok (by decide) fun k' hk' => ?_
                        simp [h7, h10, h87, m7_56, dc6, db66, dr74, db91, dc110, dc112, db151, dc157, AmbNode.cells, intC, strC]
                        refine hk' _ _ _ ?_
                        exact Runs.ret1 (v := bool false) Tryz.func3 Tryz.results3 (by simp [h7, h10, h87, m7_56, dc6, db66, dr74, db91, dc110, dc112, db151, dc157, AmbNode.cells, intC, strC]) (hQ _ _ _ _ (.of (.v _)) ⟨false, h, rfl⟩)
                      · replace h := h.2 dc157
                        refine Runs.skip ?_
                        refine Runs.seq ?_
                        refine Runs.seqE Ty_ok (by decide) fun k' hk' => ?_
                        obtain ⟨c159, ec159⟩ : ∃ v : Bool, v = decide (r156 ≠ r96.2) := ⟨_, rfl⟩
                        replace h := h c159 ec159
                        have f160 := ib_neq (k := .i64) ec159
                        simp [h7, h10, h87, m7_56, f160, dc6, db66, dr74, db91, dc110, dc112, db151, dc157, AmbNode.cells, intC, strC, -intBin]
                        refine hk' _ _ _ ?_
                        refine Runs.ite (b := c159) (by simp [h7, h10, h87, m7_56, dc6, db66, dr74, db91, dc110, dc112, db151, dc157, AmbNode.cells, intC, strC]) (fun dc159 => ?_) (fun dc159 => ?_)
                        · replace h := h.1 dc159
                          refine Runs.seqE Ty_ok (by decide) fun k' hk' => ?_
                          simp [h7, h10, h87, m7_56, dc6, db66, dr74, db91, dc110, dc112, db151, dc157, dc159, AmbNode.cells, intC, strC]
                          refine hk' _ _ _ ?_
                          exact Runs.ret1 (v := bool false) Tryz.func3 Tryz.results3 (by simp [h7, h10, h87, m7_56, dc6, db66, dr74, db91, dc110, dc112, db151, dc157, dc159, AmbNode.cells, intC, strC]) (hQ _ _ _ _ (.of (.v _)) ⟨false, h, rfl⟩)
                        · replace h := h.2 dc159
                          refine Runs.skip ?_
                          refine Runs.seqE Ty_ok (by decide) fun k' hk' => ?_
                          simp [h7, h10, h87, m7_56, dc6, db66, dr74, db91, dc110, dc112, db151, dc157, dc159, AmbNode.cells, intC, strC]
                          refine hk' _ _ _ ?_
                          exact Runs.ret1 (v := bool true) Tryz.func3 Tryz.results3 (by simp [h7, h10, h87, m7_56, dc6, db66, dr74, db91, dc110, dc112, db151, dc157, dc159, AmbNode.cells, intC, strC]) (hQ _ _ _ _ (.of (.v _)) ⟨true, h, rfl⟩)
                  replace h := hJ149
                  obtain ⟨hb161, h⟩ := h
                  obtain ⟨r162, er162⟩ : ∃ v : Bool, v = decide (r127.1 = r21.1) := ⟨_, rfl⟩
                  replace h := h r162 er162
                  simp [h4, h5, h7, h10, h12, h13, m4_21, m7_56, m12_141, dc6, db66, dr74, db91, dc110, dc112, AmbNode.cells, intC, strC]
                  refine RunK.callA Ty_ok (eqProcess_ok r127.1 r21.1 hb161) e10 (.cons (ArgOk.agg (.cons (Sep.argOk' (Sep.front (K1 := [(.s [.c, .c, .c], v145, .list true (r96.1.map AmbNode.cells))]) (K2 := []) sp) (old_listF (by simp [AmbNode.cells, intC, strC, intC]))) .nil)) (.cons (ArgOk.agg (.cons (ArgOk.listF (fr := true) (els := r21.1.map AmbNode.cells) (by simp [AmbNode.cells, intC, strC, intC])) .nil)) .nil)) (by decide) (by decide) rfl (by simp [h4, h5, h7, h10, h12, h13, m4_21, m7_56, m12_141, dc6, db66, dr74, db91, dc110, dc112, AmbNode.cells, intC, strC]) ?_
                  rintro _ rfl
                  rw [← er162]
                  rcases Bool.eq_false_or_eq_true r162 with dr162 | dr162
                  · replace h := h.1 dr162
                    obtain ⟨c163, ec163⟩ : ∃ v : Bool, v = !(r127.2 == r21.2) := ⟨_, rfl⟩
                    replace h := h c163 ec163
                    have f164 := bb_neq ec163
                    simp [h4, h5, h7, h10, h12, h13, m4_21, m7_56, m12_141, f164, dc6, db66, dr74, db91, dc110, dc112, dr162, AmbNode.cells, intC, strC, -boolBin]
                    exact fin153 (c163) _ _ _ h (by refine ⟨v145, ?_, ?_, ?_, ?_, (Sep.sub (Sep.right (K1 := [(.s [.c, .c, .c], v146, .list true (r127.1.map AmbNode.cells))]) (K2 := [(.s [.c, .c, .c], v145, .list true (r96.1.map AmbNode.cells))]) (Sep.front (K1 := [(.s [.c, .c, .c], v145, .list true (r96.1.map AmbNode.cells))]) (K2 := []) sp)) (by simp +contextual))⟩ <;> simp [h4, h5, h7, h10, h12, h13, m4_21, m7_56, m12_141, f164, dc6, db66, dr74, db91, dc110, dc112, dr162, AmbNode.cells, intC, strC, -boolBin])
                  · replace h := h.2 dr162
                    simp [h4, h5, h7, h10, h12, h13, m4_21, m7_56, m12_141, dc6, db66, dr74, db91, dc110, dc112, dr162, AmbNode.cells, intC, strC]
                    exact fin153 (true) _ _ _ h (by refine ⟨v145, ?_, ?_, ?_, ?_, (Sep.sub (Sep.right (K1 := [(.s [.c, .c, .c], v146, .list true (r127.1.map AmbNode.cells))]) (K2 := [(.s [.c, .c, .c], v145, .list true (r96.1.map AmbNode.cells))]) (Sep.front (K1 := [(.s [.c, .c, .c], v145, .list true (r96.1.map AmbNode.cells))]) (K2 := []) sp)) (by simp +contextual))⟩ <;> simp [h4, h5, h7, h10, h12, h13, m4_21, m7_56, m12_141, dc6, db66, dr74, db91, dc110, dc112, dr162, AmbNode.cells, intC, strC])
          replace h := hJ89
          obtain ⟨c165, ec165⟩ : ∃ v : Bool, v = decide (r76.2 < 0) := ⟨_, rfl⟩
          replace h := h c165 ec165
          have f166 := ib_lss (k := .i64) ec165
          rcases Bool.eq_false_or_eq_true c165 with dc165 | dc165
          · replace h := h.1 dc165
            simp [h1, h4, h5, h7, h8, h9, m1_1, m4_21, m7_56, f166, dc6, db66, dr74, dc165, AmbNode.cells, intC, strC, -intBin]
            exact fin93 (true) _ _ _ h (by refine ⟨v86, ?_, ?_, ?_, ?_, ?_, ?_, ?_, ?_, sp⟩ <;> simp [h1, h4, h5, h7, h8, h9, m1_1, m4_21, m7_56, f166, dc6, db66, dr74, dc165, AmbNode.cells, intC, strC, -intBin])
          · replace h := h.2 dc165
            obtain ⟨hb167, h⟩ := h
            obtain ⟨r168, er168⟩ : ∃ v : Bool, v = decide (r42.1 = r21.1) := ⟨_, rfl⟩
            replace h := h r168 er168
            simp [h1, h4, h5, h7, h8, h9, m1_1, m4_21, m7_56, f166, dc6, db66, dr74, dc165, AmbNode.cells, intC, strC, -intBin]
            refine RunK.callA Ty_ok (eqProcess_ok r42.1 r21.1 hb167) e10 (.cons (ArgOk.agg (.cons (Sep.argOk' sp (old_listF (by simp [AmbNode.cells, intC, strC, intC]))) .nil)) (.cons (ArgOk.agg (.cons (ArgOk.listF (fr := true) (els := r21.1.map AmbNode.cells) (by simp [AmbNode.cells, intC, strC, intC])) .nil)) .nil)) (by decide) (by decide) rfl (by simp [h1, h4, h5, h7, h8, h9, m1_1, m4_21, m7_56, f166, dc6, db66, dr74, dc165, AmbNode.cells, intC, strC, -intBin]) ?_
            rintro _ rfl
            rw [← er168]
            rcases Bool.eq_false_or_eq_true r168 with dr168 | dr168
            · replace h := h.1 dr168
              obtain ⟨c169, ec169⟩ : ∃ v : Bool, v = !(r42.2 == r21.2) := ⟨_, rfl⟩
              replace h := h c169 ec169
              have f170 := bb_neq ec169
              simp [h1, h4, h5, h7, h8, h9, m1_1, m4_21, m7_56, f166, f170, dc6, db66, dr74, dc165, dr168, AmbNode.cells, intC, strC, -boolBin, -intBin]
              exact fin93 (c169) _ _ _ h (by refine ⟨v86, ?_, ?_, ?_, ?_, ?_, ?_, ?_, ?_, sp⟩ <;> simp [h1, h4, h5, h7, h8, h9, m1_1, m4_21, m7_56, f166, f170, dc6, db66, dr74, dc165, dr168, AmbNode.cells, intC, strC, -boolBin, -intBin])
            · replace h := h.2 dr168
              simp [h1, h4, h5, h7, h8, h9, m1_1, m4_21, m7_56, f166, dc6, db66, dr74, dc165, dr168, AmbNode.cells, intC, strC, -intBin]
              exact fin93 (true) _ _ _ h (by refine ⟨v86, ?_, ?_, ?_, ?_, ?_, ?_, ?_, ?_, sp⟩ <;> simp [h1, h4, h5, h7, h8, h9, m1_1, m4_21, m7_56, f166, dc6, db66, dr74, dc165, dr168, AmbNode.cells, intC, strC, -intBin])
    replace h := hJ64
    obtain ⟨hb171, h⟩ := h
    obtain ⟨r172, er172⟩ : ∃ v : Bool, v = decide (r42.1 = r21.1) := ⟨_, rfl⟩
    replace h := h r172 er172
    simp [h1, h4, h5, h6, h7, h8, m1_1, m4_21, m6_35, m7_56, dc6, AmbNode.cells, intC, strC]
    refine RunK.callA Ty_ok (eqProcess_ok r42.1 r21.1 hb171) e10 (.cons (ArgOk.agg (.cons (Sep.argOk' (Sep.front (K1 := [(.s [.c, .c, .c], v60, .list true (r25.map AmbNode.cells))]) (K2 := []) sp) (old_listF (by simp [AmbNode.cells, intC, strC, intC]))) .nil)) (.cons (ArgOk.agg (.cons (ArgOk.listF (fr := true) (els := r21.1.map AmbNode.cells) (by simp [AmbNode.cells, intC, strC, intC])) .nil)) .nil)) (by decide) (by decide) rfl (by simp [h1, h4, h5, h6, h7, h8, m1_1, m4_21, m6_35, m7_56, dc6, AmbNode.cells, intC, strC]) ?_
    rintro _ rfl
    rw [← er172]
    rcases Bool.eq_false_or_eq_true r172 with dr172 | dr172
    · replace h := h.1 dr172
      obtain ⟨c173, ec173⟩ : ∃ v : Bool, v = !(r42.2 == r21.2) := ⟨_, rfl⟩
      replace h := h c173 ec173
      have f174 := bb_neq ec173
      simp [h1, h4, h5, h6, h7, h8, m1_1, m4_21, m6_35, m7_56, f174, dc6, dr172, AmbNode.cells, intC, strC, -boolBin]
      exact fin69 (c173) _ _ _ h (by refine ⟨v60, v61, ?_, ?_, ?_, ?_, ?_, ?_, ?_, ?_, ?_, ?_, ?_, (Sep.front (K1 := [(.s [.c, .c, .c], v61, .list true (r42.1.map AmbNode.cells))]) (K2 := []) (Sep.front (K1 := [(.s [.c, .c, .c], v60, .list true (r25.map AmbNode.cells))]) (K2 := []) sp))⟩ <;> simp [h1, h4, h5, h6, h7, h8, m1_1, m4_21, m6_35, m7_56, f174, dc6, dr172, AmbNode.cells, intC, strC, -boolBin])
    · replace h := h.2 dr172
      simp [h1, h4, h5, h6, h7, h8, m1_1, m4_21, m6_35, m7_56, dc6, dr172, AmbNode.cells, intC, strC]
      exact fin69 (true) _ _ _ h (by refine ⟨v60, v61, ?_, ?_, ?_, ?_, ?_, ?_, ?_, ?_, ?_, ?_, ?_, (Sep.front (K1 := [(.s [.c, .c, .c], v61, .list true (r42.1.map AmbNode.cells))]) (K2 := []) (Sep.front (K1 := [(.s [.c, .c, .c], v60, .list true (r25.map AmbNode.cells))]) (K2 := []) sp))⟩ <;> simp [h1, h4, h5, h6, h7, h8, m1_1, m4_21, m6_35, m7_56, dc6, dr172, AmbNode.cells, intC, strC])

theorem lawCanonical_ok (aP : Proc) (hp : lawCanonical_pre aP) : PureC Tryz.prog 3 [.agg [.list false (aP.map AmbNode.cells)]] (fun r => r = bool (lawCanonical aP)) := (lawCanonical_walk aP _ (lawCanonical_vc aP hp)).mono (by rintro _ ⟨_, rfl, rfl⟩; rfl)
end Go.Ab.Vg

/- The contract of laws.FnExactCanonicalProcess: it answers true. -/
namespace Go.Ab
open Go.Proofs
theorem exactCanonicalProcess_ok (p : Proc) (hp : Small p) : PureC Tryz.prog 3 [encP false p] (fun r => r = bool true) := Vg.lawCanonical_ok p hp
end Go.Ab
