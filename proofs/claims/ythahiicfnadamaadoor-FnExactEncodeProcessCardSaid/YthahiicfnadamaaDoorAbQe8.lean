/- Merged texts (8 of 10) of the proof that ends in Ey: Enw Ez. -/
import Derived.Test.YthahiicfnadamaaDoorAbQe7
/- Walks by program for YthahiicfnadamaaDoorAbEn. -/
namespace Go.Ab.Vg
open Go.Proofs
set_option maxRecDepth 100000
set_option linter.unusedSimpArgs false
set_option linter.unusedVariables false
theorem e7 : Ent Tryd.prog 7 := Ent.of Tryd.func7 (by kernel_rfl) rfl
theorem EncodeProcess_walk (p : Proc) (Z : (Big × Bool) → Prop) (h : EncodeProcess_wp p Z) : OwnS Tryd.prog 7 [.agg [.list false (p.map AmbNode.cells)]] (.t [.a [.c, .s [.c, .c, .s [.c]], .s [.c], .c, .s [.c], .s [.c, .c]], .c]) (fun r => ∃ y : Big × Bool, Z y ∧ r = .tup [.agg [int y.1.roots, .list true (y.1.nodes.map (GNode.cells true)), .list true (y.1.sites.map intC), int y.1.edges, .list true (y.1.outer.map strC), .list true (y.1.inner.map Wire.cells)], bool y.2]) := by
  unfold EncodeProcess_wp at h
  have sp : Sep noHeap 0 [] [] := Sep.nil (by simp)
  refine OwnS.of Tryd.func7 rfl Tryd.ntmps7 (by simp) fun Q hQ => ?_
  refine Runs.cut (fun ρ H n => ρ 0 = .agg [.list false (p.map AmbNode.cells)] ∧ Sep H n [] []) (by refine ⟨?_, sp⟩ <;> simp [AmbNode.cells, intC, strC]) ?_
  rintro ρ H n1 ⟨h0, sp⟩
  refine Runs.seqE Ty_ok (by decide) fun k' hk' => ?_
  simp [h0, AmbNode.cells, intC, strC]
  refine hk' _ _ _ ?_
  refine Runs.cut (fun ρ H n => ρ 1 = .ptr (n1, 1) 1 0 0 ∧ ρ 2 = .ptr (n1 + 1, 2) 1 0 0 ∧ H (n1, 1) = some ⟨1, [[.list false (p.map AmbNode.cells)]]⟩ ∧ H (n1 + 1, 2) = some ⟨6, [[int 0, .v (.slice none 0 0), .v (.slice none 0 0), int 0, .v (.slice none 0 0), .v (.slice none 0 0)]]⟩ ∧ Sep H n [] [(n1 + 1, 2), (n1, 1)]) (by refine ⟨?_, ?_, ?_, ?_, (Sep.var (Sep.var sp))⟩ <;> simp [h0, AmbNode.cells, intC, strC]) ?_
  clear h0
  rintro ρ H n4 ⟨h1, h2, m1_1, m2_2, sp⟩
  refine Runs.seq ?_
  refine Runs.seqE Ty_ok (by decide) fun k' hk' => ?_
  obtain ⟨hb5, h⟩ := h
  obtain ⟨r6, er6⟩ : ∃ v : Bool, v = goodP p := ⟨_, rfl⟩
  replace h := h r6 er6
  simp [h1, h2, m1_1, m2_2, AmbNode.cells, intC, strC]
  refine RunK.callA Ty_ok (IsProcess_ok p hb5.1 hb5.2) e17 (.cons (ArgOk.agg (.cons (ArgOk.listF (fr := false) (els := p.map AmbNode.cells) (by simp [AmbNode.cells, intC, strC, intC])) .nil)) .nil) (by decide) (by decide) rfl (by simp [h1, h2, m1_1, m2_2, AmbNode.cells, intC, strC]) ?_
  rintro _ rfl
  rw [← er6]
  simp [h1, h2, m1_1, m2_2, AmbNode.cells, intC, strC]
  refine hk' _ _ _ ?_
  refine Runs.ite (b := (!r6)) (by simp [h1, h2, m1_1, m2_2, AmbNode.cells, intC, strC]) (fun dr6 => ?_) (fun dr6 => ?_)
  · have dr6 : r6 = false := by simpa using dr6
    replace h := h.2 dr6
    refine Runs.seqE Ty_ok (by decide) fun k' hk' => ?_
    simp [h1, h2, m1_1, m2_2, dr6, AmbNode.cells, intC, strC]
    refine hk' _ _ _ ?_
    refine Runs.cut (fun ρ H n => ρ 2 = .ptr (n1 + 1, 2) 1 0 0 ∧ ρ 3 = bool false ∧ H (n1 + 1, 2) = some ⟨6, [[int 0, .v (.slice none 0 0), .v (.slice none 0 0), int 0, .v (.slice none 0 0), .v (.slice none 0 0)]]⟩ ∧ Sep H n [] [(n1 + 1, 2)]) (by refine ⟨?_, ?_, ?_, (Sep.sub (Sep.setVar (w := (n1 + 1, 2)) sp (by simp)) (by simp +contextual))⟩ <;> simp [h1, h2, m1_1, m2_2, dr6, AmbNode.cells, intC, strC]) ?_
    clear h1 h2 m1_1 m2_2
    rintro ρ H n7 ⟨h2, h3, m2_2, sp⟩
    exact Runs.res2 Ty_ok (v := .agg [int 0, .v (.slice none 0 0), .v (.slice none 0 0), int 0, .v (.slice none 0 0), .v (.slice none 0 0)]) (w := bool false) Tryd.func7 Tryd.results7 (by simp [h2, h3, m2_2, dr6, resA, AmbNode.cells, intC, strC]) (by simp [h2, h3, m2_2, dr6, resA, AmbNode.cells, intC, strC]) (hQ _ _ _ _ (Sep.sub (ids' := []) (Sep.packT (Fill.own (Fill.v _ Fill.nil)) (Sep.pack (Fill.v _ (Fill.own (Fill.own (Fill.v _ (Fill.own (Fill.own Fill.nil)))))) (Sep.f3 (Sep.f2 (Sep.f1 (Sep.addNil (Sep.addNil (Sep.addNil (Sep.addNil sp))))))))) (by simp)) ⟨((Big.mk 0 [] [] 0 [] []), false), h, rfl⟩)
  · have dr6 : r6 = true := by simpa using dr6
    replace h := h.1 dr6
    refine Runs.skip ?_
    refine Runs.seqE Ty_ok (by decide) fun k' hk' => ?_
    obtain ⟨hb14, h⟩ := h
    obtain ⟨r15, er15⟩ : ∃ v : Big, v = encoded p := ⟨_, rfl⟩
    replace h := h r15 er15
    simp [h1, h2, m1_1, m2_2, dr6, AmbNode.cells, intC, strC]
    refine RunK.callW Ty_ok (encoded_ok p hb14) e18 (.cons (ArgOk.agg (.cons (ArgOk.listF (fr := false) (els := p.map AmbNode.cells) (by simp [AmbNode.cells, intC, strC, intC])) .nil)) .nil) sp (by decide) (by decide) rfl (by simp [h1, h2, m1_1, m2_2, dr6, AmbNode.cells, intC, strC]) ?_
    rintro v16 H17 n18 _ sp rfl hle20 hfr19
    rw [← er15] at sp
    have m1_1 : H17 (n1, 1) = some ⟨1, [[.list false (p.map AmbNode.cells)]]⟩ := (hfr19 _ (by simp)).trans (by simp [h1, h2, m1_1, m2_2, Heap.get_set])
    have m2_2 : H17 (n1 + 1, 2) = some ⟨6, [[int 0, .v (.slice none 0 0), .v (.slice none 0 0), int 0, .v (.slice none 0 0), .v (.slice none 0 0)]]⟩ := (hfr19 _ (by simp)).trans (by simp [h1, h2, m1_1, m2_2, Heap.get_set])
    replace sp := Sep.unpack sp
    obtain ⟨L28, hv, hl29, sp⟩ := sp
    subst hv
    obtain ⟨v22, v23, v24, v25, v26, v27, hv⟩ := len6 (by simpa using hl29)
    subst hv
    simp only [zip3, List.cons_append, List.nil_append] at sp
    replace sp := Sep.scalar sp
    obtain ⟨hv, sp⟩ := sp
    subst hv
    replace sp := Sep.rot sp
    try simp only [List.cons_append, List.nil_append, List.append_assoc] at sp
    replace sp := Sep.rot sp
    try simp only [List.cons_append, List.nil_append, List.append_assoc] at sp
    replace sp := Sep.scalar sp
    obtain ⟨hv, sp⟩ := sp
    subst hv
    replace sp := Sep.rot sp
    try simp only [List.cons_append, List.nil_append, List.append_assoc] at sp
    replace sp := Sep.rot sp
    try simp only [List.cons_append, List.nil_append, List.append_assoc] at sp
    replace sp : Sep H17 n18 [oN v23 r15.nodes, oI v24 r15.sites, oS v26 r15.outer, oW v27 r15.inner] [(n1 + 1, 2), (n1, 1)] := sp
    have f34 := Sep.oc sp
    have f35 := Sep.oc (Sep.f1 sp)
    have f36 := Sep.oc (Sep.f2 sp)
    have f37 := Sep.oc (Sep.f3 sp)
    simp [h1, h2, m1_1, m2_2, f34, f35, f36, f37, dr6, AmbNode.cells, intC, strC, -cellsA, -one1, cAx, o1x]
    refine hk' _ _ _ ?_
    refine Runs.cut (fun ρ H n => ∃ (v38 : AVal) (v39 : AVal) (v40 : AVal) (v41 : AVal), ρ 2 = .ptr (n1 + 1, 2) 1 0 0 ∧ ρ 3 = bool true ∧ H (n1 + 1, 2) = some ⟨6, [[int r15.roots, v38, v39, int r15.edges, v40, v41]]⟩ ∧ Sep H n [oN v38 r15.nodes, oI v39 r15.sites, oS v40 r15.outer, oW v41 r15.inner] [(n1 + 1, 2)]) (by refine ⟨v23, v24, v26, v27, ?_, ?_, ?_, (Sep.sub (Sep.f3 (Sep.f3 (Sep.f3 (Sep.f3 (Sep.setVar (w := (n1 + 1, 2)) sp (by simp)))))) (by simp +contextual))⟩ <;> simp [h1, h2, m1_1, m2_2, f34, f35, f36, f37, dr6, AmbNode.cells, intC, strC, -cellsA, -one1, cAx, o1x]) ?_
    clear h1 h2 m1_1 m2_2
    rintro ρ H n42 ⟨v38, v39, v40, v41, h2, h3, m2_2, sp⟩
    exact Runs.res2 Ty_ok (v := .agg [int r15.roots, v38, v39, int r15.edges, v40, v41]) (w := bool true) Tryd.func7 Tryd.results7 (by simp [h2, h3, m2_2, dr6, resA, AmbNode.cells, intC, strC]) (by simp [h2, h3, m2_2, dr6, resA, AmbNode.cells, intC, strC]) (hQ _ _ _ _ (Sep.sub (ids' := []) (Sep.packT (Fill.own (Fill.v _ Fill.nil)) (Sep.pack (Fill.v _ (Fill.own (Fill.own (Fill.v _ (Fill.own (Fill.own Fill.nil)))))) (Sep.f3 (Sep.f3 (Sep.f3 (Sep.f3 sp)))))) (by simp)) ⟨(r15, true), h, rfl⟩)

theorem EncodeProcess_ok (p : Proc) (hp : EncodeProcess_pre p) : OwnS Tryd.prog 7 [.agg [.list false (p.map AmbNode.cells)]] (.t [.a [.c, .s [.c, .c, .s [.c]], .s [.c], .c, .s [.c], .s [.c, .c]], .c]) (fun r => r = .tup [.agg [int (((EncodeProcess p).1).roots), .list true ((((EncodeProcess p).1).nodes).map (GNode.cells true)), .list true ((((EncodeProcess p).1).sites).map intC), int (((EncodeProcess p).1).edges), .list true ((((EncodeProcess p).1).outer).map strC), .list true ((((EncodeProcess p).1).inner).map Wire.cells)], bool ((EncodeProcess p).2)]) := (EncodeProcess_walk p _ (EncodeProcess_vc p hp)).mono (by rintro _ ⟨_, rfl, rfl⟩; rfl)

theorem e5 : Ent Tryd.prog 5 := Ent.of Tryd.func5 (by kernel_rfl) rfl
theorem sEncodeProcess_walk (p : Proc) (Z : (Big × Bool) → Prop) (h : sEncodeProcess_wp p Z) : OwnS Tryd.prog 5 [.agg [.list false (p.map AmbNode.cells)]] (.t [.a [.c, .s [.c, .c, .s [.c]], .s [.c], .c, .s [.c], .s [.c, .c]], .c]) (fun r => ∃ y : Big × Bool, Z y ∧ r = .tup [.agg [int y.1.roots, .list true (y.1.nodes.map (GNode.cells true)), .list true (y.1.sites.map intC), int y.1.edges, .list true (y.1.outer.map strC), .list true (y.1.inner.map Wire.cells)], bool y.2]) := by
  unfold sEncodeProcess_wp at h
  have sp : Sep noHeap 0 [] [] := Sep.nil (by simp)
  refine OwnS.of Tryd.func5 rfl Tryd.ntmps5 (by simp) fun Q hQ => ?_
  refine Runs.cut (fun ρ H n => ρ 0 = .agg [.list false (p.map AmbNode.cells)] ∧ Sep H n [] []) (by refine ⟨?_, sp⟩ <;> simp [AmbNode.cells, intC, strC]) ?_
  rintro ρ H n1 ⟨h0, sp⟩
  refine Runs.seqE Ty_ok (by decide) fun k' hk' => ?_
  simp [h0, AmbNode.cells, intC, strC]
  refine hk' _ _ _ ?_
  refine Runs.cut (fun ρ H n => ρ 1 = .ptr (n1, 1) 1 0 0 ∧ ρ 2 = .ptr (n1 + 1, 2) 1 0 0 ∧ H (n1, 1) = some ⟨1, [[.list false (p.map AmbNode.cells)]]⟩ ∧ H (n1 + 1, 2) = some ⟨6, [[int 0, .v (.slice none 0 0), .v (.slice none 0 0), int 0, .v (.slice none 0 0), .v (.slice none 0 0)]]⟩ ∧ Sep H n [] [(n1 + 1, 2), (n1, 1)]) (by refine ⟨?_, ?_, ?_, ?_, (Sep.var (Sep.var sp))⟩ <;> simp [h0, AmbNode.cells, intC, strC]) ?_
  clear h0
  rintro ρ H n4 ⟨h1, h2, m1_1, m2_2, sp⟩
  refine Runs.seq ?_
  refine Runs.seqE Ty_ok (by decide) fun k' hk' => ?_
  obtain ⟨hb5, h⟩ := h
  obtain ⟨r6, er6⟩ : ∃ v : Bool, v = goodP p := ⟨_, rfl⟩
  replace h := h r6 er6
  simp [h1, h2, m1_1, m2_2, AmbNode.cells, intC, strC]
  refine RunK.callA Ty_ok (l12Good_ok p hb5.1 hb5.2) e14 (.cons (ArgOk.agg (.cons (ArgOk.listF (fr := false) (els := p.map AmbNode.cells) (by simp [AmbNode.cells, intC, strC, intC])) .nil)) .nil) (by decide) (by decide) rfl (by simp [h1, h2, m1_1, m2_2, AmbNode.cells, intC, strC]) ?_
  rintro _ rfl
  rw [← er6]
  simp [h1, h2, m1_1, m2_2, AmbNode.cells, intC, strC]
  refine hk' _ _ _ ?_
  refine Runs.ite (b := (!r6)) (by simp [h1, h2, m1_1, m2_2, AmbNode.cells, intC, strC]) (fun dr6 => ?_) (fun dr6 => ?_)
  · have dr6 : r6 = false := by simpa using dr6
    replace h := h.2 dr6
    refine Runs.seqE Ty_ok (by decide) fun k' hk' => ?_
    simp [h1, h2, m1_1, m2_2, dr6, AmbNode.cells, intC, strC]
    refine hk' _ _ _ ?_
    refine Runs.cut (fun ρ H n => ρ 2 = .ptr (n1 + 1, 2) 1 0 0 ∧ ρ 3 = bool false ∧ H (n1 + 1, 2) = some ⟨6, [[int 0, .v (.slice none 0 0), .v (.slice none 0 0), int 0, .v (.slice none 0 0), .v (.slice none 0 0)]]⟩ ∧ Sep H n [] [(n1 + 1, 2)]) (by refine ⟨?_, ?_, ?_, (Sep.sub (Sep.setVar (w := (n1 + 1, 2)) sp (by simp)) (by simp +contextual))⟩ <;> simp [h1, h2, m1_1, m2_2, dr6, AmbNode.cells, intC, strC]) ?_
    clear h1 h2 m1_1 m2_2
    rintro ρ H n7 ⟨h2, h3, m2_2, sp⟩
    exact Runs.res2 Ty_ok (v := .agg [int 0, .v (.slice none 0 0), .v (.slice none 0 0), int 0, .v (.slice none 0 0), .v (.slice none 0 0)]) (w := bool false) Tryd.func5 Tryd.results5 (by simp [h2, h3, m2_2, dr6, resA, AmbNode.cells, intC, strC]) (by simp [h2, h3, m2_2, dr6, resA, AmbNode.cells, intC, strC]) (hQ _ _ _ _ (Sep.sub (ids' := []) (Sep.packT (Fill.own (Fill.v _ Fill.nil)) (Sep.pack (Fill.v _ (Fill.own (Fill.own (Fill.v _ (Fill.own (Fill.own Fill.nil)))))) (Sep.f3 (Sep.f2 (Sep.f1 (Sep.addNil (Sep.addNil (Sep.addNil (Sep.addNil sp))))))))) (by simp)) ⟨((Big.mk 0 [] [] 0 [] []), false), h, rfl⟩)
  · have dr6 : r6 = true := by simpa using dr6
    replace h := h.1 dr6
    refine Runs.skip ?_
    refine Runs.seqE Ty_ok (by decide) fun k' hk' => ?_
    obtain ⟨hb14, h⟩ := h
    obtain ⟨r15, er15⟩ : ∃ v : Big, v = l12Encode p := ⟨_, rfl⟩
    replace h := h r15 er15
    simp [h1, h2, m1_1, m2_2, dr6, AmbNode.cells, intC, strC]
    refine RunK.callW Ty_ok (l12Encode_ok p hb14) e15 (.cons (ArgOk.agg (.cons (ArgOk.listF (fr := false) (els := p.map AmbNode.cells) (by simp [AmbNode.cells, intC, strC, intC])) .nil)) .nil) sp (by decide) (by decide) rfl (by simp [h1, h2, m1_1, m2_2, dr6, AmbNode.cells, intC, strC]) ?_
    rintro v16 H17 n18 _ sp rfl hle20 hfr19
    rw [← er15] at sp
    have m1_1 : H17 (n1, 1) = some ⟨1, [[.list false (p.map AmbNode.cells)]]⟩ := (hfr19 _ (by simp)).trans (by simp [h1, h2, m1_1, m2_2, Heap.get_set])
    have m2_2 : H17 (n1 + 1, 2) = some ⟨6, [[int 0, .v (.slice none 0 0), .v (.slice none 0 0), int 0, .v (.slice none 0 0), .v (.slice none 0 0)]]⟩ := (hfr19 _ (by simp)).trans (by simp [h1, h2, m1_1, m2_2, Heap.get_set])
    replace sp := Sep.unpack sp
    obtain ⟨L28, hv, hl29, sp⟩ := sp
    subst hv
    obtain ⟨v22, v23, v24, v25, v26, v27, hv⟩ := len6 (by simpa using hl29)
    subst hv
    simp only [zip3, List.cons_append, List.nil_append] at sp
    replace sp := Sep.scalar sp
    obtain ⟨hv, sp⟩ := sp
    subst hv
    replace sp := Sep.rot sp
    try simp only [List.cons_append, List.nil_append, List.append_assoc] at sp
    replace sp := Sep.rot sp
    try simp only [List.cons_append, List.nil_append, List.append_assoc] at sp
    replace sp := Sep.scalar sp
    obtain ⟨hv, sp⟩ := sp
    subst hv
    replace sp := Sep.rot sp
    try simp only [List.cons_append, List.nil_append, List.append_assoc] at sp
    replace sp := Sep.rot sp
    try simp only [List.cons_append, List.nil_append, List.append_assoc] at sp
    replace sp : Sep H17 n18 [oN v23 r15.nodes, oI v24 r15.sites, oS v26 r15.outer, oW v27 r15.inner] [(n1 + 1, 2), (n1, 1)] := sp
    have f34 := Sep.oc sp
    have f35 := Sep.oc (Sep.f1 sp)
    have f36 := Sep.oc (Sep.f2 sp)
    have f37 := Sep.oc (Sep.f3 sp)
    simp [h1, h2, m1_1, m2_2, f34, f35, f36, f37, dr6, AmbNode.cells, intC, strC, -cellsA, -one1, cAx, o1x]
    refine hk' _ _ _ ?_
    refine Runs.cut (fun ρ H n => ∃ (v38 : AVal) (v39 : AVal) (v40 : AVal) (v41 : AVal), ρ 2 = .ptr (n1 + 1, 2) 1 0 0 ∧ ρ 3 = bool true ∧ H (n1 + 1, 2) = some ⟨6, [[int r15.roots, v38, v39, int r15.edges, v40, v41]]⟩ ∧ Sep H n [oN v38 r15.nodes, oI v39 r15.sites, oS v40 r15.outer, oW v41 r15.inner] [(n1 + 1, 2)]) (by refine ⟨v23, v24, v26, v27, ?_, ?_, ?_, (Sep.sub (Sep.f3 (Sep.f3 (Sep.f3 (Sep.f3 (Sep.setVar (w := (n1 + 1, 2)) sp (by simp)))))) (by simp +contextual))⟩ <;> simp [h1, h2, m1_1, m2_2, f34, f35, f36, f37, dr6, AmbNode.cells, intC, strC, -cellsA, -one1, cAx, o1x]) ?_
    clear h1 h2 m1_1 m2_2
    rintro ρ H n42 ⟨v38, v39, v40, v41, h2, h3, m2_2, sp⟩
    exact Runs.res2 Ty_ok (v := .agg [int r15.roots, v38, v39, int r15.edges, v40, v41]) (w := bool true) Tryd.func5 Tryd.results5 (by simp [h2, h3, m2_2, dr6, resA, AmbNode.cells, intC, strC]) (by simp [h2, h3, m2_2, dr6, resA, AmbNode.cells, intC, strC]) (hQ _ _ _ _ (Sep.sub (ids' := []) (Sep.packT (Fill.own (Fill.v _ Fill.nil)) (Sep.pack (Fill.v _ (Fill.own (Fill.own (Fill.v _ (Fill.own (Fill.own Fill.nil)))))) (Sep.f3 (Sep.f3 (Sep.f3 (Sep.f3 sp)))))) (by simp)) ⟨(r15, true), h, rfl⟩)

theorem sEncodeProcess_ok (p : Proc) (hp : sEncodeProcess_pre p) : OwnS Tryd.prog 5 [.agg [.list false (p.map AmbNode.cells)]] (.t [.a [.c, .s [.c, .c, .s [.c]], .s [.c], .c, .s [.c], .s [.c, .c]], .c]) (fun r => r = .tup [.agg [int (((sEncodeProcess p).1).roots), .list true ((((sEncodeProcess p).1).nodes).map (GNode.cells true)), .list true ((((sEncodeProcess p).1).sites).map intC), int (((sEncodeProcess p).1).edges), .list true ((((sEncodeProcess p).1).outer).map strC), .list true ((((sEncodeProcess p).1).inner).map Wire.cells)], bool ((sEncodeProcess p).2)]) := (sEncodeProcess_walk p _ (sEncodeProcess_vc p hp)).mono (by rintro _ ⟨_, rfl, rfl⟩; rfl)

theorem e3 : Ent Tryd.prog 3 := Ent.of Tryd.func3 (by kernel_rfl) rfl
theorem lawEncode_walk (aP : Proc) (Z : Bool → Prop) (h : lawEncode_wp aP Z) : PureC Tryd.prog 3 [.agg [.list false (aP.map AmbNode.cells)]] (fun r => ∃ y : Bool, Z y ∧ r = bool y) := by
  unfold lawEncode_wp at h
  have sp : Sep noHeap 0 [] [] := Sep.nil (by simp)
  refine PureC.of Tryd.func3 rfl Tryd.ntmps3 (by simp) fun Q hQ => ?_
  refine Runs.cut (fun ρ H n => ρ 0 = .agg [.list false (aP.map AmbNode.cells)] ∧ Sep H n [] []) (by refine ⟨?_, sp⟩ <;> simp [AmbNode.cells, intC, strC]) ?_
  rintro ρ H n1 ⟨h0, sp⟩
  refine Runs.seqE Ty_ok (by decide) fun k' hk' => ?_
  simp [h0, AmbNode.cells, intC, strC]
  refine hk' _ _ _ ?_
  refine Runs.cut (fun ρ H n => ρ 1 = .ptr (n1, 1) 1 0 0 ∧ H (n1, 1) = some ⟨1, [[.list false (aP.map AmbNode.cells)]]⟩ ∧ Sep H n [] [(n1, 1)]) (by refine ⟨?_, ?_, (Sep.var sp)⟩ <;> simp [h0, AmbNode.cells, intC, strC]) ?_
  clear h0
  rintro ρ H n3 ⟨h1, m1_1, sp⟩
  refine Runs.seqE Ty_ok (by decide) fun k' hk' => ?_
  simp [h1, m1_1, AmbNode.cells, intC, strC]
  refine hk' _ _ _ ?_
  refine Runs.seqE Ty_ok (by decide) fun k' hk' => ?_
  obtain ⟨hb4, h⟩ := h
  obtain ⟨r5, er5⟩ : ∃ v : Int, v = szT aP 1048576 := ⟨_, rfl⟩
  replace h := h r5 er5
  simp [h1, m1_1, AmbNode.cells, intC, strC]
  refine RunK.callA Ty_ok (szT_ok aP 1048576 hb4.1.1 hb4.1.2 hb4.2) e4 (.cons (ArgOk.agg (.cons (ArgOk.listF (fr := false) (els := aP.map AmbNode.cells) (by simp [AmbNode.cells, intC, strC, intC])) .nil)) (.cons (.v _ _ _) .nil)) (by decide) (by decide) rfl (by simp [h1, m1_1, AmbNode.cells, intC, strC]) ?_
  rintro _ rfl
  rw [← er5]
  simp [h1, m1_1, AmbNode.cells, intC, strC]
  refine hk' _ _ _ ?_
  refine Runs.seq ?_
  refine Runs.seqE Ty_ok (by decide) fun k' hk' => ?_
  obtain ⟨c6, ec6⟩ : ∃ v : Bool, v = decide (r5 < 0) := ⟨_, rfl⟩
  replace h := h c6 ec6
  have f7 := ib_lss (k := .i64) ec6
  simp [h1, m1_1, f7, AmbNode.cells, intC, strC, -intBin]
  refine hk' _ _ _ ?_
  refine Runs.ite (b := c6) (by simp [h1, m1_1, AmbNode.cells, intC, strC]) (fun dc6 => ?_) (fun dc6 => ?_)
  · replace h := h.1 dc6
    refine Runs.seqE Ty_ok (by decide) fun k' hk' => ?_
    simp [h1, m1_1, dc6, AmbNode.cells, intC, strC]
    refine hk' _ _ _ ?_
    exact Runs.ret1 (v := bool true) Tryd.func3 Tryd.results3 (by simp [h1, m1_1, dc6, AmbNode.cells, intC, strC]) (hQ _ _ _ _ (.of (.v _)) ⟨true, h, rfl⟩)
  · replace h := h.2 dc6
    refine Runs.skip ?_
    refine Runs.seqE Ty_ok (by decide) fun k' hk' => ?_
    obtain ⟨hb8, h⟩ := h
    obtain ⟨r9, er9⟩ : ∃ v : Proc, v = toProcess aP := ⟨_, rfl⟩
    replace h := h r9 er9
    simp [h1, m1_1, dc6, AmbNode.cells, intC, strC]
    refine RunK.callW Ty_ok (toProcess_ok aP hb8) e6 (.cons (ArgOk.agg (.cons (ArgOk.listF (fr := false) (els := aP.map AmbNode.cells) (by simp [AmbNode.cells, intC, strC, intC])) .nil)) .nil) sp (by decide) (by decide) rfl (by simp [h1, m1_1, dc6, AmbNode.cells, intC, strC]) ?_
    rintro v10 H11 n12 _ sp rfl hle14 hfr13
    rw [← er9] at sp
    have m1_1 : H11 (n1, 1) = some ⟨1, [[.list false (aP.map AmbNode.cells)]]⟩ := (hfr13 _ (by simp)).trans (by simp [h1, m1_1, Heap.get_set])
    replace sp := Sep.unpack sp
    obtain ⟨L17, hv, hl18, sp⟩ := sp
    subst hv
    obtain ⟨v16, hv⟩ := len1 (by simpa using hl18)
    subst hv
    simp only [zip3, List.cons_append, List.nil_append] at sp
    replace sp := Sep.rot sp
    try simp only [List.cons_append, List.nil_append, List.append_assoc] at sp
    replace sp : Sep H11 n12 [oE [.c, .c, .c] AmbNode.cells v16 r9] [(n1, 1)] := sp
    obtain ⟨hb20, h⟩ := h
    obtain ⟨r21, er21⟩ : ∃ v : Big × Bool, v = sEncodeProcess r9 := ⟨_, rfl⟩
    replace h := h r21 er21
    simp [h1, m1_1, dc6, AmbNode.cells, intC, strC]
    refine RunK.callW Ty_ok (sEncodeProcess_ok r9 hb20) e5 (.cons (ArgOk.agg (.cons (Sep.argOk' sp (old_listF (by simp [AmbNode.cells, intC, strC, intC]))) .nil)) .nil) sp (by decide) (by decide) rfl (by simp [h1, m1_1, dc6, AmbNode.cells, intC, strC]) ?_
    rintro v22 H23 n24 _ sp rfl hle26 hfr25
    rw [← er21] at sp
    have m1_1 : H23 (n1, 1) = some ⟨1, [[.list false (aP.map AmbNode.cells)]]⟩ := (hfr25 _ (by simp)).trans (by simp [h1, m1_1, Heap.get_set])
    replace sp := Sep.unpackT sp
    obtain ⟨L30, hv, hl31, sp⟩ := sp
    subst hv
    obtain ⟨v28, v29, hv⟩ := len2 (by simpa using hl31)
    subst hv
    simp only [zip3, List.cons_append, List.nil_append] at sp
    replace sp := Sep.unpack sp
    obtain ⟨L38, hv, hl39, sp⟩ := sp
    subst hv
    obtain ⟨v32, v33, v34, v35, v36, v37, hv⟩ := len6 (by simpa using hl39)
    subst hv
    simp only [zip3, List.cons_append, List.nil_append] at sp
    replace sp := Sep.scalar sp
    obtain ⟨hv, sp⟩ := sp
    subst hv
    replace sp := Sep.rot sp
    try simp only [List.cons_append, List.nil_append, List.append_assoc] at sp
    replace sp := Sep.rot sp
    try simp only [List.cons_append, List.nil_append, List.append_assoc] at sp
    replace sp := Sep.scalar sp
    obtain ⟨hv, sp⟩ := sp
    subst hv
    replace sp := Sep.rot sp
    try simp only [List.cons_append, List.nil_append, List.append_assoc] at sp
    replace sp := Sep.rot sp
    try simp only [List.cons_append, List.nil_append, List.append_assoc] at sp
    replace sp := Sep.scalar sp
    obtain ⟨hv, sp⟩ := sp
    subst hv
    replace sp : Sep H23 n24 [oE [.c, .c, .c] AmbNode.cells v16 r9, oN v33 r21.1.nodes, oI v34 r21.1.sites, oS v36 r21.1.outer, oW v37 r21.1.inner] [(n1, 1)] := sp
    have f45 := Sep.oc (Sep.f1 sp)
    have f46 := Sep.oc (Sep.f2 sp)
    have f47 := Sep.oc (Sep.f3 sp)
    have f48 := Sep.oc (Sep.f4 sp)
    simp [h1, m1_1, f45, f46, f47, f48, dc6, AmbNode.cells, intC, strC, -cellsA, -one1, cAx, o1x]
    refine hk' _ _ _ ?_
    refine Runs.cut (fun ρ H n => ∃ (v49 : AVal) (v50 : AVal) (v51 : AVal) (v52 : AVal), ρ 1 = .ptr (n1, 1) 1 0 0 ∧ ρ 4 = .ptr (n24, 4) 1 0 0 ∧ ρ 5 = bool r21.2 ∧ H (n1, 1) = some ⟨1, [[.list false (aP.map AmbNode.cells)]]⟩ ∧ H (n24, 4) = some ⟨6, [[int r21.1.roots, v49, v50, int r21.1.edges, v51, v52]]⟩ ∧ Sep H n [oN v49 r21.1.nodes, oI v50 r21.1.sites, oS v51 r21.1.outer, oW v52 r21.1.inner] [(n24, 4), (n1, 1)]) (by refine ⟨v33, v34, v36, v37, ?_, ?_, ?_, ?_, ?_, (Sep.f3 (Sep.f3 (Sep.f3 (Sep.f3 (Sep.dr (Sep.var sp))))))⟩ <;> simp [h1, m1_1, f45, f46, f47, f48, dc6, AmbNode.cells, intC, strC, -cellsA, -one1, cAx, o1x]) ?_
    clear h1 m1_1
    rintro ρ H n53 ⟨v49, v50, v51, v52, h1, h4, h5, m1_1, m4_43, sp⟩
    refine Runs.seqE Ty_ok (by decide) fun k' hk' => ?_
    obtain ⟨hb54, h⟩ := h
    obtain ⟨r55, er55⟩ : ∃ v : Proc, v = toProcess aP := ⟨_, rfl⟩
    replace h := h r55 er55
    simp [h1, h4, h5, m1_1, m4_43, dc6, AmbNode.cells, intC, strC]
    refine RunK.callW Ty_ok (toProcess_ok aP hb54) e6 (.cons (ArgOk.agg (.cons (ArgOk.listF (fr := false) (els := aP.map AmbNode.cells) (by simp [AmbNode.cells, intC, strC, intC])) .nil)) .nil) sp (by decide) (by decide) rfl (by simp [h1, h4, h5, m1_1, m4_43, dc6, AmbNode.cells, intC, strC]) ?_
    rintro v56 H57 n58 _ sp rfl hle60 hfr59
    rw [← er55] at sp
    have m1_1 : H57 (n1, 1) = some ⟨1, [[.list false (aP.map AmbNode.cells)]]⟩ := (hfr59 _ (by simp)).trans (by simp [h1, h4, h5, m1_1, m4_43, Heap.get_set])
    have m4_43 : H57 (n24, 4) = some ⟨6, [[int r21.1.roots, v49, v50, int r21.1.edges, v51, v52]]⟩ := (hfr59 _ (by simp)).trans (by simp [h1, h4, h5, m1_1, m4_43, Heap.get_set])
    replace sp := Sep.unpack sp
    obtain ⟨L63, hv, hl64, sp⟩ := sp
    subst hv
    obtain ⟨v62, hv⟩ := len1 (by simpa using hl64)
    subst hv
    simp only [zip3, List.cons_append, List.nil_append] at sp
    replace sp := Sep.rot sp
    try simp only [List.cons_append, List.nil_append, List.append_assoc] at sp
    replace sp : Sep H57 n58 [oN v49 r21.1.nodes, oI v50 r21.1.sites, oS v51 r21.1.outer, oW v52 r21.1.inner, oE [.c, .c, .c] AmbNode.cells v62 r55] [(n24, 4), (n1, 1)] := sp
    have f67 := Sep.oc (Sep.f4 sp)
    simp [h1, h4, h5, m1_1, m4_43, f67, dc6, AmbNode.cells, intC, strC, -cellsA, -one1, cAx, o1x]
    refine hk' _ _ _ ?_
    refine Runs.cut (fun ρ H n => ∃ (v68 : AVal) (v69 : AVal) (v70 : AVal) (v71 : AVal) (v72 : AVal), ρ 1 = .ptr (n1, 1) 1 0 0 ∧ ρ 4 = .ptr (n24, 4) 1 0 0 ∧ ρ 5 = bool r21.2 ∧ ρ 6 = .ptr (n58, 6) 1 0 0 ∧ H (n1, 1) = some ⟨1, [[.list false (aP.map AmbNode.cells)]]⟩ ∧ H (n24, 4) = some ⟨6, [[int r21.1.roots, v68, v69, int r21.1.edges, v70, v71]]⟩ ∧ H (n58, 6) = some ⟨1, [[v72]]⟩ ∧ Sep H n [oN v68 r21.1.nodes, oI v69 r21.1.sites, oS v70 r21.1.outer, oW v71 r21.1.inner, oE [.c, .c, .c] AmbNode.cells v72 r55] [(n58, 6), (n24, 4), (n1, 1)]) (by refine ⟨v49, v50, v51, v52, v62, ?_, ?_, ?_, ?_, ?_, ?_, ?_, (Sep.f4 (Sep.f4 (Sep.f4 (Sep.f4 (Sep.f4 (Sep.var sp))))))⟩ <;> simp [h1, h4, h5, m1_1, m4_43, f67, dc6, AmbNode.cells, intC, strC, -cellsA, -one1, cAx, o1x]) ?_
    clear h1 h4 h5 m1_1 m4_43
    rintro ρ H n73 ⟨v68, v69, v70, v71, v72, h1, h4, h5, h6, m1_1, m4_43, m6_65, sp⟩
    refine Runs.seqE Ty_ok (by decide) fun k' hk' => ?_
    obtain ⟨hb74, h⟩ := h
    obtain ⟨r75, er75⟩ : ∃ v : Big × Bool, v = EncodeProcess r55 := ⟨_, rfl⟩
    replace h := h r75 er75
    simp [h1, h4, h5, h6, m1_1, m4_43, m6_65, dc6, AmbNode.cells, intC, strC]
    refine RunK.callW Ty_ok (EncodeProcess_ok r55 hb74) e7 (.cons (ArgOk.agg (.cons (Sep.argOk' (Sep.f4 sp) (old_listF (by simp [AmbNode.cells, intC, strC, intC]))) .nil)) .nil) sp (by decide) (by decide) rfl (by simp [h1, h4, h5, h6, m1_1, m4_43, m6_65, dc6, AmbNode.cells, intC, strC]) ?_
    rintro v76 H77 n78 _ sp rfl hle80 hfr79
    rw [← er75] at sp
    have m1_1 : H77 (n1, 1) = some ⟨1, [[.list false (aP.map AmbNode.cells)]]⟩ := (hfr79 _ (by simp)).trans (by simp [h1, h4, h5, h6, m1_1, m4_43, m6_65, Heap.get_set])
    have m4_43 : H77 (n24, 4) = some ⟨6, [[int r21.1.roots, v68, v69, int r21.1.edges, v70, v71]]⟩ := (hfr79 _ (by simp)).trans (by simp [h1, h4, h5, h6, m1_1, m4_43, m6_65, Heap.get_set])
    have m6_65 : H77 (n58, 6) = some ⟨1, [[v72]]⟩ := (hfr79 _ (by simp)).trans (by simp [h1, h4, h5, h6, m1_1, m4_43, m6_65, Heap.get_set])
    replace sp := Sep.unpackT sp
    obtain ⟨L84, hv, hl85, sp⟩ := sp
    subst hv
    obtain ⟨v82, v83, hv⟩ := len2 (by simpa using hl85)
    subst hv
    simp only [zip3, List.cons_append, List.nil_append] at sp
    replace sp := Sep.unpack sp
    obtain ⟨L92, hv, hl93, sp⟩ := sp
    subst hv
    obtain ⟨v86, v87, v88, v89, v90, v91, hv⟩ := len6 (by simpa using hl93)
    subst hv
    simp only [zip3, List.cons_append, List.nil_append] at sp
    replace sp := Sep.scalar sp
    obtain ⟨hv, sp⟩ := sp
    subst hv
    replace sp := Sep.rot sp
    try simp only [List.cons_append, List.nil_append, List.append_assoc] at sp
    replace sp := Sep.rot sp
    try simp only [List.cons_append, List.nil_append, List.append_assoc] at sp
    replace sp := Sep.scalar sp
    obtain ⟨hv, sp⟩ := sp
    subst hv
    replace sp := Sep.rot sp
    try simp only [List.cons_append, List.nil_append, List.append_assoc] at sp
    replace sp := Sep.rot sp
    try simp only [List.cons_append, List.nil_append, List.append_assoc] at sp
    replace sp := Sep.scalar sp
    obtain ⟨hv, sp⟩ := sp
    subst hv
    replace sp : Sep H77 n78 [oN v68 r21.1.nodes, oI v69 r21.1.sites, oS v70 r21.1.outer, oW v71 r21.1.inner, oE [.c, .c, .c] AmbNode.cells v72 r55, oN v87 r75.1.nodes, oI v88 r75.1.sites, oS v90 r75.1.outer, oW v91 r75.1.inner] [(n58, 6), (n24, 4), (n1, 1)] := sp
    have f99 := Sep.oc (Sep.f5 sp)
    have f100 := Sep.oc (Sep.f6 sp)
    have f101 := Sep.oc (Sep.f7 sp)
    have f102 := Sep.oc (Sep.f8 sp)
    simp [h1, h4, h5, h6, m1_1, m4_43, m6_65, f99, f100, f101, f102, dc6, AmbNode.cells, intC, strC, -cellsA, -one1, cAx, o1x]
    refine hk' _ _ _ ?_
    refine Runs.cut (fun ρ H n => ∃ (v103 : AVal) (v104 : AVal) (v105 : AVal) (v106 : AVal) (v107 : AVal) (v108 : AVal) (v109 : AVal) (v110 : AVal) (v111 : AVal), ρ 1 = .ptr (n1, 1) 1 0 0 ∧ ρ 4 = .ptr (n24, 4) 1 0 0 ∧ ρ 5 = bool r21.2 ∧ ρ 6 = .ptr (n58, 6) 1 0 0 ∧ ρ 7 = .ptr (n78, 7) 1 0 0 ∧ ρ 8 = bool r75.2 ∧ H (n1, 1) = some ⟨1, [[.list false (aP.map AmbNode.cells)]]⟩ ∧ H (n24, 4) = some ⟨6, [[int r21.1.roots, v103, v104, int r21.1.edges, v105, v106]]⟩ ∧ H (n58, 6) = some ⟨1, [[v107]]⟩ ∧ H (n78, 7) = some ⟨6, [[int r75.1.roots, v108, v109, int r75.1.edges, v110, v111]]⟩ ∧ Sep H n [oN v103 r21.1.nodes, oI v104 r21.1.sites, oS v105 r21.1.outer, oW v106 r21.1.inner, oE [.c, .c, .c] AmbNode.cells v107 r55, oN v108 r75.1.nodes, oI v109 r75.1.sites, oS v110 r75.1.outer, oW v111 r75.1.inner] [(n78, 7), (n58, 6), (n24, 4), (n1, 1)]) (by refine ⟨v68, v69, v70, v71, v72, v87, v88, v90, v91, ?_, ?_, ?_, ?_, ?_, ?_, ?_, ?_, ?_, ?_, (Sep.f8 (Sep.f8 (Sep.f8 (Sep.f8 (Sep.f8 (Sep.f8 (Sep.f8 (Sep.f8 (Sep.f8 (Sep.var sp))))))))))⟩ <;> simp [h1, h4, h5, h6, m1_1, m4_43, m6_65, f99, f100, f101, f102, dc6, AmbNode.cells, intC, strC, -cellsA, -one1, cAx, o1x]) ?_
    clear h1 h4 h5 h6 m1_1 m4_43 m6_65
    rintro ρ H n112 ⟨v103, v104, v105, v106, v107, v108, v109, v110, v111, h1, h4, h5, h6, h7, h8, m1_1, m4_43, m6_65, m7_97, sp⟩
    refine Runs.seq ?_
    refine Runs.seqE Ty_ok (by decide) fun k' hk' => ?_
    obtain ⟨J113, hJ114, hr115⟩ := h
    have fin126 : ∀ (sJ : Bool) (ρ : Env) (H : Heap) (n : Nat), J113 sJ → (match sJ with | b116 => ∃ (v117 : AVal) (v118 : AVal) (v119 : AVal) (v120 : AVal) (v121 : AVal) (v122 : AVal) (v123 : AVal) (v124 : AVal) (v125 : AVal), ρ 1 = .ptr (n1, 1) 1 0 0 ∧ ρ 4 = .ptr (n24, 4) 1 0 0 ∧ ρ 5 = bool r21.2 ∧ ρ 6 = .ptr (n58, 6) 1 0 0 ∧ ρ 7 = .ptr (n78, 7) 1 0 0 ∧ ρ 8 = bool r75.2 ∧ ρ 40 = bool b116 ∧ H (n1, 1) = some ⟨1, [[.list false (aP.map AmbNode.cells)]]⟩ ∧ H (n24, 4) = some ⟨6, [[int r21.1.roots, v117, v118, int r21.1.edges, v119, v120]]⟩ ∧ H (n58, 6) = some ⟨1, [[v121]]⟩ ∧ H (n78, 7) = some ⟨6, [[int r75.1.roots, v122, v123, int r75.1.edges, v124, v125]]⟩ ∧ Sep H n [oN v117 r21.1.nodes, oI v118 r21.1.sites, oS v119 r21.1.outer, oW v120 r21.1.inner, oE [.c, .c, .c] AmbNode.cells v121 r55, oN v122 r75.1.nodes, oI v123 r75.1.sites, oS v124 r75.1.outer, oW v125 r75.1.inner] [(n78, 7), (n58, 6), (n24, 4), (n1, 1)]) → Runs Tryd.prog 3 96 k' ρ H n Q := by
      rintro b116 ρ H n127 h ⟨v117, v118, v119, v120, v121, v122, v123, v124, v125, h1, h4, h5, h6, h7, h8, h40, m1_1, m4_43, m6_65, m7_97, sp⟩
      replace h := hr115 _ h
      refine hk' _ _ _ ?_
      refine Runs.ite (b := b116) (by simp [h1, h4, h5, h6, h7, h8, h40, m1_1, m4_43, m6_65, m7_97, dc6, AmbNode.cells, intC, strC]) (fun db116 => ?_) (fun db116 => ?_)
      · replace h := h.1 db116
        refine Runs.seqE Ty_ok (by decide) fun k' hk' => ?_
        simp [h1, h4, h5, h6, h7, h8, h40, m1_1, m4_43, m6_65, m7_97, dc6, db116, AmbNode.cells, intC, strC]
        refine hk' _ _ _ ?_
        exact Runs.ret1 (v := bool false) Tryd.func3 Tryd.results3 (by simp [h1, h4, h5, h6, h7, h8, h40, m1_1, m4_43, m6_65, m7_97, dc6, db116, AmbNode.cells, intC, strC]) (hQ _ _ _ _ (.of (.v _)) ⟨false, h, rfl⟩)
      · replace h := h.2 db116
        refine Runs.skip ?_
        refine Runs.seq ?_
        refine Runs.seqD Ty_ok kindOp_ok draws (by decide) (by kernel_rfl) fun k' hk' => ?_
        obtain ⟨hb128, h⟩ := h
        obtain ⟨r129, er129⟩ : ∃ v : Proc, v = toProcess aP := ⟨_, rfl⟩
        replace h := h r129 er129
        simp [h1, h4, h5, h6, h7, h8, h40, m1_1, m4_43, m6_65, m7_97, dc6, db116, AmbNode.cells, intC, strC]
        refine RunDK.callA Ty_ok kindOp_ok ((toProcess_ok aP hb128).pure) e6 (.cons (ArgOk.agg (.cons (ArgOk.listF (fr := false) (els := aP.map AmbNode.cells) (by simp [AmbNode.cells, intC, strC, intC])) .nil)) .nil) (by decide) rfl (by simp [h1, h4, h5, h6, h7, h8, h40, m1_1, m4_43, m6_65, m7_97, dc6, db116, AmbNode.cells, intC, strC]) ?_
        rw [← er129]
        obtain ⟨hb130, h⟩ := h
        obtain ⟨r131, er131⟩ : ∃ v : Bool, v = decide (r55 = r129) := ⟨_, rfl⟩
        replace h := h r131 er131
        simp [h1, h4, h5, h6, h7, h8, h40, m1_1, m4_43, m6_65, m7_97, dc6, db116, AmbNode.cells, intC, strC]
        refine RunDK.callA Ty_ok kindOp_ok (eqProcess_ok r55 r129 hb130) e9 (.cons (ArgOk.agg (.cons (Sep.argOk' (Sep.f4 sp) (old_listF (by simp [AmbNode.cells, intC, strC, intC]))) .nil)) (.cons (ArgOk.agg (.cons (ArgOk.listF (fr := true) (els := r129.map AmbNode.cells) (by simp [AmbNode.cells, intC, strC, intC])) .nil)) .nil)) (by decide) rfl (by simp [h1, h4, h5, h6, h7, h8, h40, m1_1, m4_43, m6_65, m7_97, dc6, db116, AmbNode.cells, intC, strC]) ?_
        rw [← er131]
        simp [h1, h4, h5, h6, h7, h8, h40, m1_1, m4_43, m6_65, m7_97, dc6, db116, AmbNode.cells, intC, strC]
        refine hk' _ _ _ ?_
        refine Runs.ite (b := (!r131)) (by simp [h1, h4, h5, h6, h7, h8, h40, m1_1, m4_43, m6_65, m7_97, dc6, db116, AmbNode.cells, intC, strC]) (fun dr131 => ?_) (fun dr131 => ?_)
        · have dr131 : r131 = false := by simpa using dr131
          replace h := h.2 dr131
          refine Runs.seqE Ty_ok (by decide) fun k' hk' => ?_
          simp [h1, h4, h5, h6, h7, h8, h40, m1_1, m4_43, m6_65, m7_97, dc6, db116, dr131, AmbNode.cells, intC, strC]
          refine hk' _ _ _ ?_
          exact Runs.ret1 (v := bool false) Tryd.func3 Tryd.results3 (by simp [h1, h4, h5, h6, h7, h8, h40, m1_1, m4_43, m6_65, m7_97, dc6, db116, dr131, AmbNode.cells, intC, strC]) (hQ _ _ _ _ (.of (.v _)) ⟨false, h, rfl⟩)
        · have dr131 : r131 = true := by simpa using dr131
          replace h := h.1 dr131
          refine Runs.skip ?_
          refine Runs.seqE Ty_ok (by decide) fun k' hk' => ?_
          simp [h1, h4, h5, h6, h7, h8, h40, m1_1, m4_43, m6_65, m7_97, dc6, db116, dr131, AmbNode.cells, intC, strC]
          refine hk' _ _ _ ?_
          refine Runs.seqE Ty_ok (by decide) fun k' hk' => ?_
          obtain ⟨hb132, h⟩ := h
          obtain ⟨r133, er133⟩ : ∃ v : Proc × Int, v = markProcess r55 1 := ⟨_, rfl⟩
          replace h := h r133 er133
          have f134 := Sep.oc (Sep.f4 sp)
          simp [h1, h4, h5, h6, h7, h8, h40, m1_1, m4_43, m6_65, m7_97, f134, dc6, db116, dr131, AmbNode.cells, intC, strC, -cellsA, -one1, cAx, o1x]
          refine RunK.callM (v := .agg [v121]) Ty_ok (markProcess_ok r55 1 hb132) e10 (Sep.pack (Fill.own Fill.nil) (Sep.f4 sp)) (by decide) (by decide) rfl (by simp [h1, h4, h5, h6, h7, h8, h40, m1_1, m4_43, m6_65, m7_97, f134, dc6, db116, dr131, AmbNode.cells, intC, strC, -cellsA, -one1, cAx, o1x]) ?_
          rintro _ H135 n136 _ ⟨rfl, rfl⟩ sp hle138 hfr137
          rw [← er133] at sp
          rw [← er133]
          replace sp := Sep.unpack sp
          obtain ⟨L139, hv, hl140, sp⟩ := sp
          cases hv
          simp only [zip3, List.cons_append, List.nil_append] at sp
          replace sp := Sep.rot sp
          try simp only [List.cons_append, List.nil_append, List.append_assoc] at sp
          replace sp : Sep H135 n136 [oN v117 r21.1.nodes, oI v118 r21.1.sites, oS v119 r21.1.outer, oW v120 r21.1.inner, oN v122 r75.1.nodes, oI v123 r75.1.sites, oS v124 r75.1.outer, oW v125 r75.1.inner, oE [.c, .c, .c] AmbNode.cells v121 r133.1] [(n78, 7), (n58, 6), (n24, 4), (n1, 1)] := sp
          have m1_1 : H135 (n1, 1) = some ⟨1, [[.list false (aP.map AmbNode.cells)]]⟩ := (hfr137 _ (by simp)).trans (by simp [h1, h4, h5, h6, h7, h8, h40, m1_1, m4_43, m6_65, m7_97, Heap.get_set])
          have m4_43 : H135 (n24, 4) = some ⟨6, [[int r21.1.roots, v117, v118, int r21.1.edges, v119, v120]]⟩ := (hfr137 _ (by simp)).trans (by simp [h1, h4, h5, h6, h7, h8, h40, m1_1, m4_43, m6_65, m7_97, Heap.get_set])
          have m6_65 : H135 (n58, 6) = some ⟨1, [[v121]]⟩ := (hfr137 _ (by simp)).trans (by simp [h1, h4, h5, h6, h7, h8, h40, m1_1, m4_43, m6_65, m7_97, Heap.get_set])
          have m7_97 : H135 (n78, 7) = some ⟨6, [[int r75.1.roots, v122, v123, int r75.1.edges, v124, v125]]⟩ := (hfr137 _ (by simp)).trans (by simp [h1, h4, h5, h6, h7, h8, h40, m1_1, m4_43, m6_65, m7_97, Heap.get_set])
          simp [h1, h4, h5, h6, h7, h8, h40, m1_1, m4_43, m6_65, m7_97, f134, dc6, db116, dr131, AmbNode.cells, intC, strC, -cellsA, -one1, cAx, o1x]
          refine hk' _ _ _ ?_
          refine Runs.cut (fun ρ H n => ∃ (v142 : AVal) (v143 : AVal) (v144 : AVal) (v145 : AVal) (v146 : AVal) (v147 : AVal) (v148 : AVal) (v149 : AVal), ρ 1 = .ptr (n1, 1) 1 0 0 ∧ ρ 4 = .ptr (n24, 4) 1 0 0 ∧ ρ 5 = bool r21.2 ∧ ρ 7 = .ptr (n78, 7) 1 0 0 ∧ ρ 8 = bool r75.2 ∧ ρ 9 = int r133.2 ∧ H (n1, 1) = some ⟨1, [[.list false (aP.map AmbNode.cells)]]⟩ ∧ H (n24, 4) = some ⟨6, [[int r21.1.roots, v142, v143, int r21.1.edges, v144, v145]]⟩ ∧ H (n78, 7) = some ⟨6, [[int r75.1.roots, v146, v147, int r75.1.edges, v148, v149]]⟩ ∧ Sep H n [oN v142 r21.1.nodes, oI v143 r21.1.sites, oS v144 r21.1.outer, oW v145 r21.1.inner, oN v146 r75.1.nodes, oI v147 r75.1.sites, oS v148 r75.1.outer, oW v149 r75.1.inner] [(n78, 7), (n24, 4), (n1, 1)]) (by refine ⟨v117, v118, v119, v120, v122, v123, v124, v125, ?_, ?_, ?_, ?_, ?_, ?_, ?_, ?_, ?_, (Sep.sub (Sep.f7 (Sep.f7 (Sep.f7 (Sep.f7 (Sep.f7 (Sep.f7 (Sep.f7 (Sep.f7 (Sep.dr (Sep.f8 sp)))))))))) (by simp +contextual))⟩ <;> simp [h1, h4, h5, h6, h7, h8, h40, m1_1, m4_43, m6_65, m7_97, f134, dc6, db116, dr131, AmbNode.cells, intC, strC, -cellsA, -one1, cAx, o1x]) ?_
          clear h1 h4 h5 h6 h7 h8 h40 m1_1 m4_43 m6_65 m7_97
          rintro ρ H n150 ⟨v142, v143, v144, v145, v146, v147, v148, v149, h1, h4, h5, h7, h8, h9, m1_1, m4_43, m7_97, sp⟩
          refine Runs.seq ?_
          refine Runs.seqE Ty_ok (by decide) fun k' hk' => ?_
          obtain ⟨J151, hJ152, hr153⟩ := h
          have fin163 : ∀ (sJ : Bool) (ρ : Env) (H : Heap) (n : Nat), J151 sJ → (match sJ with | b154 => ∃ (v155 : AVal) (v156 : AVal) (v157 : AVal) (v158 : AVal) (v159 : AVal) (v160 : AVal) (v161 : AVal) (v162 : AVal), ρ 1 = .ptr (n1, 1) 1 0 0 ∧ ρ 4 = .ptr (n24, 4) 1 0 0 ∧ ρ 5 = bool r21.2 ∧ ρ 7 = .ptr (n78, 7) 1 0 0 ∧ ρ 61 = bool b154 ∧ H (n1, 1) = some ⟨1, [[.list false (aP.map AmbNode.cells)]]⟩ ∧ H (n24, 4) = some ⟨6, [[int r21.1.roots, v155, v156, int r21.1.edges, v157, v158]]⟩ ∧ H (n78, 7) = some ⟨6, [[int r75.1.roots, v159, v160, int r75.1.edges, v161, v162]]⟩ ∧ Sep H n [oN v155 r21.1.nodes, oI v156 r21.1.sites, oS v157 r21.1.outer, oW v158 r21.1.inner, oN v159 r75.1.nodes, oI v160 r75.1.sites, oS v161 r75.1.outer, oW v162 r75.1.inner] [(n78, 7), (n24, 4), (n1, 1)]) → Runs Tryd.prog 3 96 k' ρ H n Q := by
            rintro b154 ρ H n164 h ⟨v155, v156, v157, v158, v159, v160, v161, v162, h1, h4, h5, h7, h61, m1_1, m4_43, m7_97, sp⟩
            replace h := hr153 _ h
            refine hk' _ _ _ ?_
            refine Runs.ite (b := b154) (by simp [h1, h4, h5, h7, h61, m1_1, m4_43, m7_97, dc6, db116, dr131, AmbNode.cells, intC, strC]) (fun db154 => ?_) (fun db154 => ?_)
            · replace h := h.1 db154
              refine Runs.seqE Ty_ok (by decide) fun k' hk' => ?_
              simp [h1, h4, h5, h7, h61, m1_1, m4_43, m7_97, dc6, db116, dr131, db154, AmbNode.cells, intC, strC]
              refine hk' _ _ _ ?_
              exact Runs.ret1 (v := bool false) Tryd.func3 Tryd.results3 (by simp [h1, h4, h5, h7, h61, m1_1, m4_43, m7_97, dc6, db116, dr131, db154, AmbNode.cells, intC, strC]) (hQ _ _ _ _ (.of (.v _)) ⟨false, h, rfl⟩)
            · replace h := h.2 db154
              refine Runs.skip ?_
              refine Runs.seqE Ty_ok (by decide) fun k' hk' => ?_
              simp [h1, h4, h5, h7, h61, m1_1, m4_43, m7_97, dc6, db116, dr131, db154, AmbNode.cells, intC, strC]
              refine hk' _ _ _ ?_
              refine Runs.seqE Ty_ok (by decide) fun k' hk' => ?_
              obtain ⟨hb165, h⟩ := h
              obtain ⟨r166, er166⟩ : ∃ v : Big × Int, v = markBig r75.1 1 := ⟨_, rfl⟩
              replace h := h r166 er166
              have f167 := Sep.oc (Sep.f4 sp)
              have f168 := Sep.oc (Sep.f5 sp)
              have f169 := Sep.oc (Sep.f6 sp)
              have f170 := Sep.oc (Sep.f7 sp)
              simp [h1, h4, h5, h7, h61, m1_1, m4_43, m7_97, f167, f168, f169, f170, dc6, db116, dr131, db154, AmbNode.cells, intC, strC, -cellsA, -one1, cAx, o1x]
              refine RunK.callM (v := .agg [int r75.1.roots, v159, v160, int r75.1.edges, v161, v162]) Ty_ok (markBig_ok r75.1 1 hb165) e11 (Sep.pack (Fill.v _ (Fill.own (Fill.own (Fill.v _ (Fill.own (Fill.own Fill.nil)))))) (Sep.f7 (Sep.f7 (Sep.f7 (Sep.f7 sp))))) (by decide) (by decide) rfl (by simp [h1, h4, h5, h7, h61, m1_1, m4_43, m7_97, f167, f168, f169, f170, dc6, db116, dr131, db154, AmbNode.cells, intC, strC, -cellsA, -one1, cAx, o1x]) ?_
              rintro _ H171 n172 _ ⟨rfl, rfl⟩ sp hle174 hfr173
              rw [← er166] at sp
              rw [← er166]
              replace sp := Sep.unpack sp
              obtain ⟨L175, hv, hl176, sp⟩ := sp
              cases hv
              simp only [zip3, List.cons_append, List.nil_append] at sp
              replace sp := (Sep.scalar sp).2
              replace sp := Sep.rot sp
              try simp only [List.cons_append, List.nil_append, List.append_assoc] at sp
              replace sp := Sep.rot sp
              try simp only [List.cons_append, List.nil_append, List.append_assoc] at sp
              replace sp := (Sep.scalar sp).2
              replace sp := Sep.rot sp
              try simp only [List.cons_append, List.nil_append, List.append_assoc] at sp
              replace sp := Sep.rot sp
              try simp only [List.cons_append, List.nil_append, List.append_assoc] at sp
              replace sp : Sep H171 n172 [oN v155 r21.1.nodes, oI v156 r21.1.sites, oS v157 r21.1.outer, oW v158 r21.1.inner, oN v159 r166.1.nodes, oI v160 r166.1.sites, oS v161 r166.1.outer, oW v162 r166.1.inner] [(n78, 7), (n24, 4), (n1, 1)] := sp
              have m1_1 : H171 (n1, 1) = some ⟨1, [[.list false (aP.map AmbNode.cells)]]⟩ := (hfr173 _ (by simp)).trans (by simp [h1, h4, h5, h7, h61, m1_1, m4_43, m7_97, Heap.get_set])
              have m4_43 : H171 (n24, 4) = some ⟨6, [[int r21.1.roots, v155, v156, int r21.1.edges, v157, v158]]⟩ := (hfr173 _ (by simp)).trans (by simp [h1, h4, h5, h7, h61, m1_1, m4_43, m7_97, Heap.get_set])
              have m7_97 : H171 (n78, 7) = some ⟨6, [[int r75.1.roots, v159, v160, int r75.1.edges, v161, v162]]⟩ := (hfr173 _ (by simp)).trans (by simp [h1, h4, h5, h7, h61, m1_1, m4_43, m7_97, Heap.get_set])
              simp [h1, h4, h5, h7, h61, m1_1, m4_43, m7_97, f167, f168, f169, f170, dc6, db116, dr131, db154, AmbNode.cells, intC, strC, -cellsA, -one1, cAx, o1x]
              refine hk' _ _ _ ?_
              refine Runs.cut (fun ρ H n => ∃ (v178 : AVal) (v179 : AVal) (v180 : AVal) (v181 : AVal) (v182 : AVal) (v183 : AVal) (v184 : AVal) (v185 : AVal), ρ 1 = .ptr (n1, 1) 1 0 0 ∧ ρ 4 = .ptr (n24, 4) 1 0 0 ∧ ρ 5 = bool r21.2 ∧ ρ 7 = .ptr (n78, 7) 1 0 0 ∧ ρ 10 = int r166.2 ∧ H (n1, 1) = some ⟨1, [[.list false (aP.map AmbNode.cells)]]⟩ ∧ H (n24, 4) = some ⟨6, [[int r21.1.roots, v178, v179, int r21.1.edges, v180, v181]]⟩ ∧ H (n78, 7) = some ⟨6, [[int r75.1.roots, v182, v183, int r75.1.edges, v184, v185]]⟩ ∧ Sep H n [oN v178 r21.1.nodes, oI v179 r21.1.sites, oS v180 r21.1.outer, oW v181 r21.1.inner, oN v182 r166.1.nodes, oI v183 r166.1.sites, oS v184 r166.1.outer, oW v185 r166.1.inner] [(n78, 7), (n24, 4), (n1, 1)]) (by refine ⟨v155, v156, v157, v158, v159, v160, v161, v162, ?_, ?_, ?_, ?_, ?_, ?_, ?_, ?_, (Sep.f7 (Sep.f7 (Sep.f7 (Sep.f7 (Sep.f7 (Sep.f7 (Sep.f7 (Sep.f7 sp))))))))⟩ <;> simp [h1, h4, h5, h7, h61, m1_1, m4_43, m7_97, f167, f168, f169, f170, dc6, db116, dr131, db154, AmbNode.cells, intC, strC, -cellsA, -one1, cAx, o1x]) ?_
              clear h1 h4 h5 h7 h61 m1_1 m4_43 m7_97
              rintro ρ H n186 ⟨v178, v179, v180, v181, v182, v183, v184, v185, h1, h4, h5, h7, h10, m1_1, m4_43, m7_97, sp⟩
              refine Runs.seqE Ty_ok (by decide) fun k' hk' => ?_
              simp [h1, h4, h5, h7, h10, m1_1, m4_43, m7_97, dc6, db116, dr131, db154, AmbNode.cells, intC, strC]
              refine hk' _ _ _ ?_
              refine Runs.seqE Ty_ok (by decide) fun k' hk' => ?_
              obtain ⟨hb187, h⟩ := h
              obtain ⟨r188, er188⟩ : ∃ v : Int, v = heldBig (Big.mk r75.1.roots r166.1.nodes r166.1.sites r75.1.edges r166.1.outer r166.1.inner) 1 := ⟨_, rfl⟩
              replace h := h r188 er188
              simp [h1, h4, h5, h7, h10, m1_1, m4_43, m7_97, dc6, db116, dr131, db154, AmbNode.cells, intC, strC]
              refine RunK.callA Ty_ok (heldBig_ok (Big.mk r75.1.roots r166.1.nodes r166.1.sites r75.1.edges r166.1.outer r166.1.inner) 1 hb187) e12 (.cons (ArgOk.agg (.cons (.v _ _ _) (.cons (Sep.argOk' (Sep.f4 sp) (old_nest_Node true r166.1.nodes)) (.cons (Sep.argOk' (Sep.f5 sp) (old_listF (by simp [intC]))) (.cons (.v _ _ _) (.cons (Sep.argOk' (Sep.f6 sp) (old_listF (by simp [strC]))) (.cons (Sep.argOk' (Sep.f7 sp) (old_listF (by simp [Wire.cells, strC, intC]))) .nil))))))) (.cons (.v _ _ _) .nil)) (by decide) (by decide) rfl (by simp [h1, h4, h5, h7, h10, m1_1, m4_43, m7_97, dc6, db116, dr131, db154, AmbNode.cells, intC, strC]) ?_
              rintro _ rfl
              rw [← er188]
              simp [h1, h4, h5, h7, h10, m1_1, m4_43, m7_97, dc6, db116, dr131, db154, AmbNode.cells, intC, strC]
              refine hk' _ _ _ ?_
              refine Runs.seq ?_
              refine Runs.seqE Ty_ok (by decide) fun k' hk' => ?_
              obtain ⟨c189, ec189⟩ : ∃ v : Bool, v = decide (r188 < 0) := ⟨_, rfl⟩
              replace h := h c189 ec189
              have f190 := ib_lss (k := .i64) ec189
              simp [h1, h4, h5, h7, h10, m1_1, m4_43, m7_97, f190, dc6, db116, dr131, db154, AmbNode.cells, intC, strC, -intBin]
              refine hk' _ _ _ ?_
              refine Runs.ite (b := c189) (by simp [h1, h4, h5, h7, h10, m1_1, m4_43, m7_97, dc6, db116, dr131, db154, AmbNode.cells, intC, strC]) (fun dc189 => ?_) (fun dc189 => ?_)
              · replace h := h.1 dc189
                refine Runs.seqE Ty_ok (by decide) fun k' hk' => ?_
                simp [h1, h4, h5, h7, h10, m1_1, m4_43, m7_97, dc6, db116, dr131, db154, dc189, AmbNode.cells, intC, strC]
                refine hk' _ _ _ ?_
                exact Runs.ret1 (v := bool false) Tryd.func3 Tryd.results3 (by simp [h1, h4, h5, h7, h10, m1_1, m4_43, m7_97, dc6, db116, dr131, db154, dc189, AmbNode.cells, intC, strC]) (hQ _ _ _ _ (.of (.v _)) ⟨false, h, rfl⟩)
              · replace h := h.2 dc189
                refine Runs.skip ?_
                refine Runs.seq ?_
                refine Runs.seqE Ty_ok (by decide) fun k' hk' => ?_
                obtain ⟨c191, ec191⟩ : ∃ v : Bool, v = decide (r188 ≠ r166.2) := ⟨_, rfl⟩
                replace h := h c191 ec191
                have f192 := ib_neq (k := .i64) ec191
                simp [h1, h4, h5, h7, h10, m1_1, m4_43, m7_97, f192, dc6, db116, dr131, db154, dc189, AmbNode.cells, intC, strC, -intBin]
                refine hk' _ _ _ ?_
                refine Runs.ite (b := c191) (by simp [h1, h4, h5, h7, h10, m1_1, m4_43, m7_97, dc6, db116, dr131, db154, dc189, AmbNode.cells, intC, strC]) (fun dc191 => ?_) (fun dc191 => ?_)
                · replace h := h.1 dc191
                  refine Runs.seqE Ty_ok (by decide) fun k' hk' => ?_
                  simp [h1, h4, h5, h7, h10, m1_1, m4_43, m7_97, dc6, db116, dr131, db154, dc189, dc191, AmbNode.cells, intC, strC]
                  refine hk' _ _ _ ?_
                  exact Runs.ret1 (v := bool false) Tryd.func3 Tryd.results3 (by simp [h1, h4, h5, h7, h10, m1_1, m4_43, m7_97, dc6, db116, dr131, db154, dc189, dc191, AmbNode.cells, intC, strC]) (hQ _ _ _ _ (.of (.v _)) ⟨false, h, rfl⟩)
                · replace h := h.2 dc191
                  refine Runs.skip ?_
                  refine Runs.seqE Ty_ok (by decide) fun k' hk' => ?_
                  obtain ⟨hb193, h⟩ := h
                  obtain ⟨r194, er194⟩ : ∃ v : Proc, v = toProcess aP := ⟨_, rfl⟩
                  replace h := h r194 er194
                  simp [h1, h4, h5, h7, h10, m1_1, m4_43, m7_97, dc6, db116, dr131, db154, dc189, dc191, AmbNode.cells, intC, strC]
                  refine RunK.callW Ty_ok (toProcess_ok aP hb193) e6 (.cons (ArgOk.agg (.cons (ArgOk.listF (fr := false) (els := aP.map AmbNode.cells) (by simp [AmbNode.cells, intC, strC, intC])) .nil)) .nil) sp (by decide) (by decide) rfl (by simp [h1, h4, h5, h7, h10, m1_1, m4_43, m7_97, dc6, db116, dr131, db154, dc189, dc191, AmbNode.cells, intC, strC]) ?_
                  rintro v195 H196 n197 _ sp rfl hle199 hfr198
                  rw [← er194] at sp
                  have m1_1 : H196 (n1, 1) = some ⟨1, [[.list false (aP.map AmbNode.cells)]]⟩ := (hfr198 _ (by simp)).trans (by simp [h1, h4, h5, h7, h10, m1_1, m4_43, m7_97, Heap.get_set])
                  have m4_43 : H196 (n24, 4) = some ⟨6, [[int r21.1.roots, v178, v179, int r21.1.edges, v180, v181]]⟩ := (hfr198 _ (by simp)).trans (by simp [h1, h4, h5, h7, h10, m1_1, m4_43, m7_97, Heap.get_set])
                  have m7_97 : H196 (n78, 7) = some ⟨6, [[int r75.1.roots, v182, v183, int r75.1.edges, v184, v185]]⟩ := (hfr198 _ (by simp)).trans (by simp [h1, h4, h5, h7, h10, m1_1, m4_43, m7_97, Heap.get_set])
                  replace sp := Sep.unpack sp
                  obtain ⟨L202, hv, hl203, sp⟩ := sp
                  subst hv
                  obtain ⟨v201, hv⟩ := len1 (by simpa using hl203)
                  subst hv
                  simp only [zip3, List.cons_append, List.nil_append] at sp
                  replace sp := Sep.rot sp
                  try simp only [List.cons_append, List.nil_append, List.append_assoc] at sp
                  replace sp : Sep H196 n197 [oN v178 r21.1.nodes, oI v179 r21.1.sites, oS v180 r21.1.outer, oW v181 r21.1.inner, oN v182 r166.1.nodes, oI v183 r166.1.sites, oS v184 r166.1.outer, oW v185 r166.1.inner, oE [.c, .c, .c] AmbNode.cells v201 r194] [(n78, 7), (n24, 4), (n1, 1)] := sp
                  obtain ⟨hb205, h⟩ := h
                  obtain ⟨r206, er206⟩ : ∃ v : Big × Bool, v = EncodeProcess r194 := ⟨_, rfl⟩
                  replace h := h r206 er206
                  simp [h1, h4, h5, h7, h10, m1_1, m4_43, m7_97, dc6, db116, dr131, db154, dc189, dc191, AmbNode.cells, intC, strC]
                  refine RunK.callW Ty_ok (EncodeProcess_ok r194 hb205) e7 (.cons (ArgOk.agg (.cons (Sep.argOk' (Sep.f8 sp) (old_listF (by simp [AmbNode.cells, intC, strC, intC]))) .nil)) .nil) sp (by decide) (by decide) rfl (by simp [h1, h4, h5, h7, h10, m1_1, m4_43, m7_97, dc6, db116, dr131, db154, dc189, dc191, AmbNode.cells, intC, strC]) ?_
                  rintro v207 H208 n209 _ sp rfl hle211 hfr210
                  rw [← er206] at sp
                  have m1_1 : H208 (n1, 1) = some ⟨1, [[.list false (aP.map AmbNode.cells)]]⟩ := (hfr210 _ (by simp)).trans (by simp [h1, h4, h5, h7, h10, m1_1, m4_43, m7_97, Heap.get_set])
                  have m4_43 : H208 (n24, 4) = some ⟨6, [[int r21.1.roots, v178, v179, int r21.1.edges, v180, v181]]⟩ := (hfr210 _ (by simp)).trans (by simp [h1, h4, h5, h7, h10, m1_1, m4_43, m7_97, Heap.get_set])
                  have m7_97 : H208 (n78, 7) = some ⟨6, [[int r75.1.roots, v182, v183, int r75.1.edges, v184, v185]]⟩ := (hfr210 _ (by simp)).trans (by simp [h1, h4, h5, h7, h10, m1_1, m4_43, m7_97, Heap.get_set])
                  replace sp := Sep.unpackT sp
                  obtain ⟨L215, hv, hl216, sp⟩ := sp
                  subst hv
                  obtain ⟨v213, v214, hv⟩ := len2 (by simpa using hl216)
                  subst hv
                  simp only [zip3, List.cons_append, List.nil_append] at sp
                  replace sp := Sep.unpack sp
                  obtain ⟨L223, hv, hl224, sp⟩ := sp
                  subst hv
                  obtain ⟨v217, v218, v219, v220, v221, v222, hv⟩ := len6 (by simpa using hl224)
                  subst hv
                  simp only [zip3, List.cons_append, List.nil_append] at sp
                  replace sp := Sep.scalar sp
                  obtain ⟨hv, sp⟩ := sp
                  subst hv
                  replace sp := Sep.rot sp
                  try simp only [List.cons_append, List.nil_append, List.append_assoc] at sp
                  replace sp := Sep.rot sp
                  try simp only [List.cons_append, List.nil_append, List.append_assoc] at sp
                  replace sp := Sep.scalar sp
                  obtain ⟨hv, sp⟩ := sp
                  subst hv
                  replace sp := Sep.rot sp
                  try simp only [List.cons_append, List.nil_append, List.append_assoc] at sp
                  replace sp := Sep.rot sp
                  try simp only [List.cons_append, List.nil_append, List.append_assoc] at sp
                  replace sp := Sep.scalar sp
                  obtain ⟨hv, sp⟩ := sp
                  subst hv
                  replace sp : Sep H208 n209 [oN v178 r21.1.nodes, oI v179 r21.1.sites, oS v180 r21.1.outer, oW v181 r21.1.inner, oN v182 r166.1.nodes, oI v183 r166.1.sites, oS v184 r166.1.outer, oW v185 r166.1.inner, oE [.c, .c, .c] AmbNode.cells v201 r194, oN v218 r206.1.nodes, oI v219 r206.1.sites, oS v221 r206.1.outer, oW v222 r206.1.inner] [(n78, 7), (n24, 4), (n1, 1)] := sp
                  have f230 := Sep.oc (Sep.f9 sp)
                  have f231 := Sep.oc (Sep.f10 sp)
                  have f232 := Sep.oc (Sep.f11 sp)
                  have f233 := Sep.oc (Sep.f12 sp)
                  simp [h1, h4, h5, h7, h10, m1_1, m4_43, m7_97, f230, f231, f232, f233, dc6, db116, dr131, db154, dc189, dc191, AmbNode.cells, intC, strC, -cellsA, -one1, cAx, o1x]
                  refine hk' _ _ _ ?_
                  refine Runs.cut (fun ρ H n => ∃ (v234 : AVal) (v235 : AVal) (v236 : AVal) (v237 : AVal) (v238 : AVal) (v239 : AVal) (v240 : AVal) (v241 : AVal) (v242 : AVal) (v243 : AVal) (v244 : AVal) (v245 : AVal), ρ 4 = .ptr (n24, 4) 1 0 0 ∧ ρ 5 = bool r21.2 ∧ ρ 7 = .ptr (n78, 7) 1 0 0 ∧ ρ 10 = int r166.2 ∧ ρ 12 = .ptr (n209, 12) 1 0 0 ∧ ρ 13 = bool r206.2 ∧ H (n24, 4) = some ⟨6, [[int r21.1.roots, v234, v235, int r21.1.edges, v236, v237]]⟩ ∧ H (n78, 7) = some ⟨6, [[int r75.1.roots, v238, v239, int r75.1.edges, v240, v241]]⟩ ∧ H (n209, 12) = some ⟨6, [[int r206.1.roots, v242, v243, int r206.1.edges, v244, v245]]⟩ ∧ Sep H n [oN v234 r21.1.nodes, oI v235 r21.1.sites, oS v236 r21.1.outer, oW v237 r21.1.inner, oN v238 r166.1.nodes, oI v239 r166.1.sites, oS v240 r166.1.outer, oW v241 r166.1.inner, oN v242 r206.1.nodes, oI v243 r206.1.sites, oS v244 r206.1.outer, oW v245 r206.1.inner] [(n209, 12), (n78, 7), (n24, 4)]) (by refine ⟨v178, v179, v180, v181, v182, v183, v184, v185, v218, v219, v221, v222, ?_, ?_, ?_, ?_, ?_, ?_, ?_, ?_, ?_, (Sep.sub (Sep.f11 (Sep.f11 (Sep.f11 (Sep.f11 (Sep.f11 (Sep.f11 (Sep.f11 (Sep.f11 (Sep.f11 (Sep.f11 (Sep.f11 (Sep.f11 (Sep.dr (Sep.f8 (Sep.var sp))))))))))))))) (by simp +contextual))⟩ <;> simp [h1, h4, h5, h7, h10, m1_1, m4_43, m7_97, f230, f231, f232, f233, dc6, db116, dr131, db154, dc189, dc191, AmbNode.cells, intC, strC, -cellsA, -one1, cAx, o1x]) ?_
                  clear h1 h4 h5 h7 h10 m1_1 m4_43 m7_97
                  rintro ρ H n246 ⟨v234, v235, v236, v237, v238, v239, v240, v241, v242, v243, v244, v245, h4, h5, h7, h10, h12, h13, m4_43, m7_97, m12_228, sp⟩
                  refine Runs.seq ?_
                  refine Runs.seqE Ty_ok (by decide) fun k' hk' => ?_
                  obtain ⟨J247, hJ248, hr249⟩ := h
                  have fin255 : ∀ (sJ : Bool) (ρ : Env) (H : Heap) (n : Nat), J247 sJ → (match sJ with | b250 => ∃ (v251 : AVal) (v252 : AVal) (v253 : AVal) (v254 : AVal), ρ 7 = .ptr (n78, 7) 1 0 0 ∧ ρ 10 = int r166.2 ∧ ρ 87 = bool b250 ∧ H (n78, 7) = some ⟨6, [[int r75.1.roots, v251, v252, int r75.1.edges, v253, v254]]⟩ ∧ Sep H n [oN v251 r166.1.nodes, oI v252 r166.1.sites, oS v253 r166.1.outer, oW v254 r166.1.inner] [(n78, 7)]) → Runs Tryd.prog 3 96 k' ρ H n Q := by
                    rintro b250 ρ H n256 h ⟨v251, v252, v253, v254, h7, h10, h87, m7_97, sp⟩
                    replace h := hr249 _ h
                    refine hk' _ _ _ ?_
                    refine Runs.ite (b := b250) (by simp [h7, h10, h87, m7_97, dc6, db116, dr131, db154, dc189, dc191, AmbNode.cells, intC, strC]) (fun db250 => ?_) (fun db250 => ?_)
                    · replace h := h.1 db250
                      refine Runs.seqE Ty_ok (by decide) fun k' hk' => ?_
                      simp [h7, h10, h87, m7_97, dc6, db116, dr131, db154, dc189, dc191, db250, AmbNode.cells, intC, strC]
                      refine hk' _ _ _ ?_
                      exact Runs.ret1 (v := bool false) Tryd.func3 Tryd.results3 (by simp [h7, h10, h87, m7_97, dc6, db116, dr131, db154, dc189, dc191, db250, AmbNode.cells, intC, strC]) (hQ _ _ _ _ (.of (.v _)) ⟨false, h, rfl⟩)
                    · replace h := h.2 db250
                      refine Runs.skip ?_
                      refine Runs.seqE Ty_ok (by decide) fun k' hk' => ?_
                      simp [h7, h10, h87, m7_97, dc6, db116, dr131, db154, dc189, dc191, db250, AmbNode.cells, intC, strC]
                      refine hk' _ _ _ ?_
                      refine Runs.seqE Ty_ok (by decide) fun k' hk' => ?_
                      obtain ⟨hb257, h⟩ := h
                      obtain ⟨r258, er258⟩ : ∃ v : Int, v = heldBig (Big.mk r75.1.roots r166.1.nodes r166.1.sites r75.1.edges r166.1.outer r166.1.inner) 1 := ⟨_, rfl⟩
                      replace h := h r258 er258
                      simp [h7, h10, h87, m7_97, dc6, db116, dr131, db154, dc189, dc191, db250, AmbNode.cells, intC, strC]
                      refine RunK.callA Ty_ok (heldBig_ok (Big.mk r75.1.roots r166.1.nodes r166.1.sites r75.1.edges r166.1.outer r166.1.inner) 1 hb257) e12 (.cons (ArgOk.agg (.cons (.v _ _ _) (.cons (Sep.argOk' sp (old_nest_Node true r166.1.nodes)) (.cons (Sep.argOk' (Sep.f1 sp) (old_listF (by simp [intC]))) (.cons (.v _ _ _) (.cons (Sep.argOk' (Sep.f2 sp) (old_listF (by simp [strC]))) (.cons (Sep.argOk' (Sep.f3 sp) (old_listF (by simp [Wire.cells, strC, intC]))) .nil))))))) (.cons (.v _ _ _) .nil)) (by decide) (by decide) rfl (by simp [h7, h10, h87, m7_97, dc6, db116, dr131, db154, dc189, dc191, db250, AmbNode.cells, intC, strC]) ?_
                      rintro _ rfl
                      rw [← er258]
                      simp [h7, h10, h87, m7_97, dc6, db116, dr131, db154, dc189, dc191, db250, AmbNode.cells, intC, strC]
                      refine hk' _ _ _ ?_
                      refine Runs.seq ?_
                      refine Runs.seqE Ty_ok (by decide) fun k' hk' => ?_
                      obtain ⟨c259, ec259⟩ : ∃ v : Bool, v = decide (r258 < 0) := ⟨_, rfl⟩
                      replace h := h c259 ec259
                      have f260 := ib_lss (k := .i64) ec259
                      simp [h7, h10, h87, m7_97, f260, dc6, db116, dr131, db154, dc189, dc191, db250, AmbNode.cells, intC, strC, -intBin]
                      refine hk' _ _ _ ?_
                      refine Runs.ite (b := c259) (by simp [h7, h10, h87, m7_97, dc6, db116, dr131, db154, dc189, dc191, db250, AmbNode.cells, intC, strC]) (fun dc259 => ?_) (fun dc259 => ?_)
                      · replace h := h.1 dc259
                        refine Runs.seqE Ty_ok (by decide) fun k' hk' => ?_
                        simp [h7, h10, h87, m7_97, dc6, db116, dr131, db154, dc189, dc191, db250, dc259, AmbNode.cells, intC, strC]
                        refine hk' _ _ _ ?_
                        exact Runs.ret1 (v := bool false) Tryd.func3 Tryd.results3 (by simp [h7, h10, h87, m7_97, dc6, db116, dr131, db154, dc189, dc191, db250, dc259, AmbNode.cells, intC, strC]) (hQ _ _ _ _ (.of (.v _)) ⟨false, h, rfl⟩)
                      · replace h := h.2 dc259
                        refine Runs.skip ?_
                        refine Runs.seq ?_
                        refine Runs.seqE Ty_ok (by decide) fun k' hk' => ?_
                        obtain ⟨c261, ec261⟩ : ∃ v : Bool, v = decide (r258 ≠ r166.2) := ⟨_, rfl⟩
                        replace h := h c261 ec261
                        have f262 := ib_neq (k := .i64) ec261
                        simp [h7, h10, h87, m7_97, f262, dc6, db116, dr131, db154, dc189, dc191, db250, dc259, AmbNode.cells, intC, strC, -intBin]
                        refine hk' _ _ _ ?_
                        refine Runs.ite (b := c261) (by simp [h7, h10, h87, m7_97, dc6, db116, dr131, db154, dc189, dc191, db250, dc259, AmbNode.cells, intC, strC]) (fun dc261 => ?_) (fun dc261 => ?_)
                        · replace h := h.1 dc261
                          refine Runs.seqE Ty_ok (by decide) fun k' hk' => ?_
                          simp [h7, h10, h87, m7_97, dc6, db116, dr131, db154, dc189, dc191, db250, dc259, dc261, AmbNode.cells, intC, strC]
                          refine hk' _ _ _ ?_
                          exact Runs.ret1 (v := bool false) Tryd.func3 Tryd.results3 (by simp [h7, h10, h87, m7_97, dc6, db116, dr131, db154, dc189, dc191, db250, dc259, dc261, AmbNode.cells, intC, strC]) (hQ _ _ _ _ (.of (.v _)) ⟨false, h, rfl⟩)
                        · replace h := h.2 dc261
                          refine Runs.skip ?_
                          refine Runs.seqE Ty_ok (by decide) fun k' hk' => ?_
                          simp [h7, h10, h87, m7_97, dc6, db116, dr131, db154, dc189, dc191, db250, dc259, dc261, AmbNode.cells, intC, strC]
                          refine hk' _ _ _ ?_
                          exact Runs.ret1 (v := bool true) Tryd.func3 Tryd.results3 (by simp [h7, h10, h87, m7_97, dc6, db116, dr131, db154, dc189, dc191, db250, dc259, dc261, AmbNode.cells, intC, strC]) (hQ _ _ _ _ (.of (.v _)) ⟨true, h, rfl⟩)
                  replace h := hJ248
                  obtain ⟨hb263, h⟩ := h
                  obtain ⟨r264, er264⟩ : ∃ v : Bool, v = decide (r206.1 = r21.1) := ⟨_, rfl⟩
                  replace h := h r264 er264
                  simp [h4, h5, h7, h10, h12, h13, m4_43, m7_97, m12_228, dc6, db116, dr131, db154, dc189, dc191, AmbNode.cells, intC, strC]
                  refine RunK.callA Ty_ok (eqBigraph_ok r206.1 r21.1 hb263) e8 (.cons (ArgOk.agg (.cons (.v _ _ _) (.cons (Sep.argOk' (Sep.f8 sp) (old_nest_Node true r206.1.nodes)) (.cons (Sep.argOk' (Sep.f9 sp) (old_listF (by simp [intC]))) (.cons (.v _ _ _) (.cons (Sep.argOk' (Sep.f10 sp) (old_listF (by simp [strC]))) (.cons (Sep.argOk' (Sep.f11 sp) (old_listF (by simp [Wire.cells, strC, intC]))) .nil))))))) (.cons (ArgOk.agg (.cons (.v _ _ _) (.cons (Sep.argOk' sp (old_nest_Node true r21.1.nodes)) (.cons (Sep.argOk' (Sep.f1 sp) (old_listF (by simp [intC]))) (.cons (.v _ _ _) (.cons (Sep.argOk' (Sep.f2 sp) (old_listF (by simp [strC]))) (.cons (Sep.argOk' (Sep.f3 sp) (old_listF (by simp [Wire.cells, strC, intC]))) .nil))))))) .nil)) (by decide) (by decide) rfl (by simp [h4, h5, h7, h10, h12, h13, m4_43, m7_97, m12_228, dc6, db116, dr131, db154, dc189, dc191, AmbNode.cells, intC, strC]) ?_
                  rintro _ rfl
                  rw [← er264]
                  rcases Bool.eq_false_or_eq_true r264 with dr264 | dr264
                  · replace h := h.1 dr264
                    obtain ⟨c265, ec265⟩ : ∃ v : Bool, v = !(r206.2 == r21.2) := ⟨_, rfl⟩
                    replace h := h c265 ec265
                    have f266 := bb_neq ec265
                    simp [h4, h5, h7, h10, h12, h13, m4_43, m7_97, m12_228, f266, dc6, db116, dr131, db154, dc189, dc191, dr264, AmbNode.cells, intC, strC, -boolBin]
                    exact fin255 (c265) _ _ _ h (by refine ⟨v238, v239, v240, v241, ?_, ?_, ?_, ?_, (Sep.sub (Sep.f3 (Sep.f3 (Sep.f3 (Sep.f3 (Sep.dr (Sep.f4 (Sep.dr (Sep.f4 (Sep.dr (Sep.f4 (Sep.dr (Sep.f4 (Sep.dr (Sep.dr (Sep.dr (Sep.dr sp)))))))))))))))) (by simp +contextual))⟩ <;> simp [h4, h5, h7, h10, h12, h13, m4_43, m7_97, m12_228, f266, dc6, db116, dr131, db154, dc189, dc191, dr264, AmbNode.cells, intC, strC, -boolBin])
                  · replace h := h.2 dr264
                    simp [h4, h5, h7, h10, h12, h13, m4_43, m7_97, m12_228, dc6, db116, dr131, db154, dc189, dc191, dr264, AmbNode.cells, intC, strC]
                    exact fin255 (true) _ _ _ h (by refine ⟨v238, v239, v240, v241, ?_, ?_, ?_, ?_, (Sep.sub (Sep.f3 (Sep.f3 (Sep.f3 (Sep.f3 (Sep.dr (Sep.f4 (Sep.dr (Sep.f4 (Sep.dr (Sep.f4 (Sep.dr (Sep.f4 (Sep.dr (Sep.dr (Sep.dr (Sep.dr sp)))))))))))))))) (by simp +contextual))⟩ <;> simp [h4, h5, h7, h10, h12, h13, m4_43, m7_97, m12_228, dc6, db116, dr131, db154, dc189, dc191, dr264, AmbNode.cells, intC, strC])
          replace h := hJ152
          obtain ⟨c267, ec267⟩ : ∃ v : Bool, v = decide (r133.2 < 0) := ⟨_, rfl⟩
          replace h := h c267 ec267
          have f268 := ib_lss (k := .i64) ec267
          rcases Bool.eq_false_or_eq_true c267 with dc267 | dc267
          · replace h := h.1 dc267
            simp [h1, h4, h5, h7, h8, h9, m1_1, m4_43, m7_97, f268, dc6, db116, dr131, dc267, AmbNode.cells, intC, strC, -intBin]
            exact fin163 (true) _ _ _ h (by refine ⟨v142, v143, v144, v145, v146, v147, v148, v149, ?_, ?_, ?_, ?_, ?_, ?_, ?_, ?_, (Sep.f7 (Sep.f7 (Sep.f7 (Sep.f7 (Sep.f7 (Sep.f7 (Sep.f7 (Sep.f7 sp))))))))⟩ <;> simp [h1, h4, h5, h7, h8, h9, m1_1, m4_43, m7_97, f268, dc6, db116, dr131, dc267, AmbNode.cells, intC, strC, -intBin])
          · replace h := h.2 dc267
            obtain ⟨hb269, h⟩ := h
            obtain ⟨r270, er270⟩ : ∃ v : Bool, v = decide (r75.1 = r21.1) := ⟨_, rfl⟩
            replace h := h r270 er270
            simp [h1, h4, h5, h7, h8, h9, m1_1, m4_43, m7_97, f268, dc6, db116, dr131, dc267, AmbNode.cells, intC, strC, -intBin]
            refine RunK.callA Ty_ok (eqBigraph_ok r75.1 r21.1 hb269) e8 (.cons (ArgOk.agg (.cons (.v _ _ _) (.cons (Sep.argOk' (Sep.f4 sp) (old_nest_Node true r75.1.nodes)) (.cons (Sep.argOk' (Sep.f5 sp) (old_listF (by simp [intC]))) (.cons (.v _ _ _) (.cons (Sep.argOk' (Sep.f6 sp) (old_listF (by simp [strC]))) (.cons (Sep.argOk' (Sep.f7 sp) (old_listF (by simp [Wire.cells, strC, intC]))) .nil))))))) (.cons (ArgOk.agg (.cons (.v _ _ _) (.cons (Sep.argOk' sp (old_nest_Node true r21.1.nodes)) (.cons (Sep.argOk' (Sep.f1 sp) (old_listF (by simp [intC]))) (.cons (.v _ _ _) (.cons (Sep.argOk' (Sep.f2 sp) (old_listF (by simp [strC]))) (.cons (Sep.argOk' (Sep.f3 sp) (old_listF (by simp [Wire.cells, strC, intC]))) .nil))))))) .nil)) (by decide) (by decide) rfl (by simp [h1, h4, h5, h7, h8, h9, m1_1, m4_43, m7_97, f268, dc6, db116, dr131, dc267, AmbNode.cells, intC, strC, -intBin]) ?_
            rintro _ rfl
            rw [← er270]
            rcases Bool.eq_false_or_eq_true r270 with dr270 | dr270
            · replace h := h.1 dr270
              obtain ⟨c271, ec271⟩ : ∃ v : Bool, v = !(r75.2 == r21.2) := ⟨_, rfl⟩
              replace h := h c271 ec271
              have f272 := bb_neq ec271
              simp [h1, h4, h5, h7, h8, h9, m1_1, m4_43, m7_97, f268, f272, dc6, db116, dr131, dc267, dr270, AmbNode.cells, intC, strC, -boolBin, -intBin]
              exact fin163 (c271) _ _ _ h (by refine ⟨v142, v143, v144, v145, v146, v147, v148, v149, ?_, ?_, ?_, ?_, ?_, ?_, ?_, ?_, (Sep.f7 (Sep.f7 (Sep.f7 (Sep.f7 (Sep.f7 (Sep.f7 (Sep.f7 (Sep.f7 sp))))))))⟩ <;> simp [h1, h4, h5, h7, h8, h9, m1_1, m4_43, m7_97, f268, f272, dc6, db116, dr131, dc267, dr270, AmbNode.cells, intC, strC, -boolBin, -intBin])
            · replace h := h.2 dr270
              simp [h1, h4, h5, h7, h8, h9, m1_1, m4_43, m7_97, f268, dc6, db116, dr131, dc267, dr270, AmbNode.cells, intC, strC, -intBin]
              exact fin163 (true) _ _ _ h (by refine ⟨v142, v143, v144, v145, v146, v147, v148, v149, ?_, ?_, ?_, ?_, ?_, ?_, ?_, ?_, (Sep.f7 (Sep.f7 (Sep.f7 (Sep.f7 (Sep.f7 (Sep.f7 (Sep.f7 (Sep.f7 sp))))))))⟩ <;> simp [h1, h4, h5, h7, h8, h9, m1_1, m4_43, m7_97, f268, dc6, db116, dr131, dc267, dr270, AmbNode.cells, intC, strC, -intBin])
    replace h := hJ114
    obtain ⟨hb273, h⟩ := h
    obtain ⟨r274, er274⟩ : ∃ v : Bool, v = decide (r75.1 = r21.1) := ⟨_, rfl⟩
    replace h := h r274 er274
    simp [h1, h4, h5, h6, h7, h8, m1_1, m4_43, m6_65, m7_97, dc6, AmbNode.cells, intC, strC]
    refine RunK.callA Ty_ok (eqBigraph_ok r75.1 r21.1 hb273) e8 (.cons (ArgOk.agg (.cons (.v _ _ _) (.cons (Sep.argOk' (Sep.f5 sp) (old_nest_Node true r75.1.nodes)) (.cons (Sep.argOk' (Sep.f6 sp) (old_listF (by simp [intC]))) (.cons (.v _ _ _) (.cons (Sep.argOk' (Sep.f7 sp) (old_listF (by simp [strC]))) (.cons (Sep.argOk' (Sep.f8 sp) (old_listF (by simp [Wire.cells, strC, intC]))) .nil))))))) (.cons (ArgOk.agg (.cons (.v _ _ _) (.cons (Sep.argOk' sp (old_nest_Node true r21.1.nodes)) (.cons (Sep.argOk' (Sep.f1 sp) (old_listF (by simp [intC]))) (.cons (.v _ _ _) (.cons (Sep.argOk' (Sep.f2 sp) (old_listF (by simp [strC]))) (.cons (Sep.argOk' (Sep.f3 sp) (old_listF (by simp [Wire.cells, strC, intC]))) .nil))))))) .nil)) (by decide) (by decide) rfl (by simp [h1, h4, h5, h6, h7, h8, m1_1, m4_43, m6_65, m7_97, dc6, AmbNode.cells, intC, strC]) ?_
    rintro _ rfl
    rw [← er274]
    rcases Bool.eq_false_or_eq_true r274 with dr274 | dr274
    · replace h := h.1 dr274
      obtain ⟨c275, ec275⟩ : ∃ v : Bool, v = !(r75.2 == r21.2) := ⟨_, rfl⟩
      replace h := h c275 ec275
      have f276 := bb_neq ec275
      simp [h1, h4, h5, h6, h7, h8, m1_1, m4_43, m6_65, m7_97, f276, dc6, dr274, AmbNode.cells, intC, strC, -boolBin]
      exact fin126 (c275) _ _ _ h (by refine ⟨v103, v104, v105, v106, v107, v108, v109, v110, v111, ?_, ?_, ?_, ?_, ?_, ?_, ?_, ?_, ?_, ?_, ?_, (Sep.f8 (Sep.f8 (Sep.f8 (Sep.f8 (Sep.f8 (Sep.f8 (Sep.f8 (Sep.f8 (Sep.f8 sp)))))))))⟩ <;> simp [h1, h4, h5, h6, h7, h8, m1_1, m4_43, m6_65, m7_97, f276, dc6, dr274, AmbNode.cells, intC, strC, -boolBin])
    · replace h := h.2 dr274
      simp [h1, h4, h5, h6, h7, h8, m1_1, m4_43, m6_65, m7_97, dc6, dr274, AmbNode.cells, intC, strC]
      exact fin126 (true) _ _ _ h (by refine ⟨v103, v104, v105, v106, v107, v108, v109, v110, v111, ?_, ?_, ?_, ?_, ?_, ?_, ?_, ?_, ?_, ?_, ?_, (Sep.f8 (Sep.f8 (Sep.f8 (Sep.f8 (Sep.f8 (Sep.f8 (Sep.f8 (Sep.f8 (Sep.f8 sp)))))))))⟩ <;> simp [h1, h4, h5, h6, h7, h8, m1_1, m4_43, m6_65, m7_97, dc6, dr274, AmbNode.cells, intC, strC])

theorem lawEncode_ok (aP : Proc) (hp : lawEncode_pre aP) : PureC Tryd.prog 3 [.agg [.list false (aP.map AmbNode.cells)]] (fun r => r = bool (lawEncode aP)) := (lawEncode_walk aP _ (lawEncode_vc aP hp)).mono (by rintro _ ⟨_, rfl, rfl⟩; rfl)
end Go.Ab.Vg

/- The contract of laws.FnExactEncodeProcess: it answers true. -/
namespace Go.Ab
open Go.Proofs
theorem exactEncodeProcess_ok (a0 : Proc) (h0 : Small a0) : PureC Tryd.prog 3 [encP false a0] (fun r => r = bool true) := Vg.lawEncode_ok a0 h0
end Go.Ab
