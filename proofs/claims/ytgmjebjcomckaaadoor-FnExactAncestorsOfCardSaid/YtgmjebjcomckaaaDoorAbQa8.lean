/- Merged texts (8 of 10) of the proof that ends in Ly: Law Laz. -/
import Derived.Test.YtgmjebjcomckaaaDoorAbQa7
/- Walks by program for YtgmjebjcomckaaaDoorAbLa. -/
namespace Go.Ab.Vg
open Go.Proofs
set_option linter.unusedSimpArgs false
set_option linter.unusedVariables false
theorem e64 : Ent Tryd.prog 64 := Ent.of Tryd.func64 (by kernel_rfl) rfl
theorem ancestorsOf_walk (b : Big) (node : Int) (Z : (List Int) → Prop) (h : ancestorsOf_wp b node Z) : OwnS Tryd.prog 64 [.agg [int b.roots, .list false (b.nodes.map (GNode.cells false)), .list false (b.sites.map intC), int b.edges, .list false (b.outer.map strC), .list false (b.inner.map Wire.cells)], int node] (.s [.c]) (fun r => ∃ y : List Int, Z y ∧ r = .list true (y.map intC)) := by
  unfold ancestorsOf_wp at h
  have sp : Sep noHeap 0 [] [] := Sep.nil (by simp)
  refine OwnS.of Tryd.func64 rfl Tryd.ntmps64 (by simp) fun Q hQ => ?_
  refine Runs.cut (fun ρ H n => ρ 0 = .agg [int b.roots, .list false (b.nodes.map (GNode.cells false)), .list false (b.sites.map intC), int b.edges, .list false (b.outer.map strC), .list false (b.inner.map Wire.cells)] ∧ ρ 1 = int node ∧ Sep H n [] []) (by refine ⟨?_, ?_, sp⟩ <;> simp [GNode.cells, Wire.cells, intC, sliceC, strC]) ?_
  rintro ρ H n1 ⟨h0, h1, sp⟩
  refine Runs.seqE Ty_ok (by decide) fun k' hk' => ?_
  simp [h0, h1, GNode.cells, Wire.cells, intC, sliceC, strC]
  refine hk' _ _ _ ?_
  refine Runs.cut (fun ρ H n => ρ 1 = int node ∧ ρ 2 = .ptr (n1, 2) 1 0 0 ∧ H (n1, 2) = some ⟨6, [[int b.roots, .list false (b.nodes.map (GNode.cells false)), .list false (b.sites.map intC), int b.edges, .list false (b.outer.map strC), .list false (b.inner.map Wire.cells)]]⟩ ∧ Sep H n [] [(n1, 2)]) (by refine ⟨?_, ?_, ?_, (Sep.var sp)⟩ <;> simp [h0, h1, GNode.cells, Wire.cells, intC, sliceC, strC]) ?_
  clear h0 h1
  rintro ρ H n3 ⟨h1, h2, m2_1, sp⟩
  refine Runs.seqE Ty_ok (by decide) fun k' hk' => ?_
  simp [h1, h2, m2_1, GNode.cells, Wire.cells, intC, sliceC, strC]
  refine hk' _ _ _ ?_
  refine Runs.cut (fun ρ H n => ∃ (v5 : AVal), ρ 1 = int node ∧ ρ 2 = .ptr (n1, 2) 1 0 0 ∧ ρ 5 = v5 ∧ H (n1, 2) = some ⟨6, [[int b.roots, .list false (b.nodes.map (GNode.cells false)), .list false (b.sites.map intC), int b.edges, .list false (b.outer.map strC), .list false (b.inner.map Wire.cells)]]⟩ ∧ Sep H n [(.s [.c], v5, .list true (([] : List Int).map intC))] [(n1, 2)]) (by refine ⟨.arr (n3, 6) 0 0 0, ?_, ?_, ?_, ?_, (Sep.addEmpty sp)⟩ <;> simp [h1, h2, m2_1, GNode.cells, Wire.cells, intC, sliceC, strC]) ?_
  clear h1 h2 m2_1
  rintro ρ H n6 ⟨v5, h1, h2, h5, m2_1, sp⟩
  refine Runs.seq ?_
  refine Runs.block ?_
  refine Runs.loopW h (fun (s : Int × (List Int)) ρ H n => match s with | (node14, l15) => ∃ (v16 : AVal), ρ 1 = int node14 ∧ ρ 2 = .ptr (n1, 2) 1 0 0 ∧ ρ 5 = v16 ∧ H (n1, 2) = some ⟨6, [[int b.roots, .list false (b.nodes.map (GNode.cells false)), .list false (b.sites.map intC), int b.edges, .list false (b.outer.map strC), .list false (b.inner.map Wire.cells)]]⟩ ∧ Sep H n [(.s [.c], v16, .list true (l15.map intC))] [(n1, 2)]) (by refine ⟨v5, ?_, ?_, ?_, ?_, sp⟩ <;> simp [h1, h2, h5, m2_1, GNode.cells, Wire.cells, intC, sliceC, strC]) ?_
  clear h1 h2 h5 m2_1
  rintro ⟨node14, l15⟩ ρ H n17 K h ⟨v16, h1, h2, h5, m2_1, sp⟩ IH
  refine Runs.seq ?_
  refine Runs.seqE Ty_ok (by decide) fun k' hk' => ?_
  obtain ⟨c19, ec19⟩ : ∃ v : Bool, v = decide (0 ≤ node14) := ⟨_, rfl⟩
  replace h := h c19 ec19
  have f20 := ib_geq (k := .i64) ec19
  simp [h1, h2, h5, m2_1, f20, GNode.cells, Wire.cells, intC, sliceC, strC, -intBin]
  refine hk' _ _ _ ?_
  refine Runs.ite (b := c19) (by simp [h1, h2, h5, m2_1, GNode.cells, Wire.cells, intC, sliceC, strC]) (fun dc19 => ?_) (fun dc19 => ?_)
  · replace h := h.1 dc19
    refine Runs.skip ?_
    refine Runs.block ?_
    refine Runs.seqE Ty_ok (by decide) fun k' hk' => ?_
    obtain ⟨hb21, h⟩ := h
    obtain ⟨x22, ex22⟩ : ∃ v : GNode, v = at' b.nodes node14 := ⟨_, rfl⟩
    replace h := h x22 ex22
    have f23 := fun H => ix_list (H := H) (fr := false) (f := (GNode.cells false)) (k := .i64) kd_46 (fun _ => rfl) hb21 ex22
    simp [h1, h2, h5, m2_1, f23, dc19, GNode.cells, Wire.cells, intC, sliceC, strC, -indexAddrF]
    refine hk' _ _ _ ?_
    refine Runs.evalE Ty_ok (by decide) fun k' hk' => ?_
    obtain ⟨hb24, h⟩ := h
    obtain ⟨l25, el25⟩ : ∃ v : List Int, v = l15 ++ [x22.parent] := ⟨_, rfl⟩
    replace h := h l25 el25
    simp [h1, h2, h5, m2_1, dc19, GNode.cells, Wire.cells, intC, sliceC, strC, -appendF]
    refine bind_append [] [] [[int x22.parent]] [intC x22.parent] sp kd_47 (by simp) (by simp) (by simp [GNode.cells, Wire.cells, intC, sliceC, strC]) (by simp [-one1, o1_int, o1_bool, o1_str, o1_nil, o1_list, o1_arr, o1_ptr]) (rows_one (Fill.v _ Fill.nil)) (by simp) (by simpa using hb24) ?_
    rintro v26 H27 n28 sp hfr29 hle30
    replace sp : Sep H27 n28 [(.s [.c], v26, .list true (l25.map intC))] [(n1, 2)] := by rw [el25, List.map_append]; exact sp
    have m2_1 : H27 (n1, 2) = some ⟨6, [[int b.roots, .list false (b.nodes.map (GNode.cells false)), .list false (b.sites.map intC), int b.edges, .list false (b.outer.map strC), .list false (b.inner.map Wire.cells)]]⟩ := (hfr29 _ (by simp)).trans (by simp [h1, h2, h5, m2_1, Heap.get_set])
    simp [h1, h2, h5, m2_1, dc19, GNode.cells, Wire.cells, intC, sliceC, strC]
    refine hk' _ _ _ ?_
    refine Runs.cut (fun ρ H n => ∃ (v31 : AVal), ρ 1 = int x22.parent ∧ ρ 2 = .ptr (n1, 2) 1 0 0 ∧ ρ 5 = v31 ∧ H (n1, 2) = some ⟨6, [[int b.roots, .list false (b.nodes.map (GNode.cells false)), .list false (b.sites.map intC), int b.edges, .list false (b.outer.map strC), .list false (b.inner.map Wire.cells)]]⟩ ∧ Sep H n [(.s [.c], v31, .list true (l25.map intC))] [(n1, 2)]) (by refine ⟨v26, ?_, ?_, ?_, ?_, sp⟩ <;> simp [h1, h2, h5, m2_1, dc19, GNode.cells, Wire.cells, intC, sliceC, strC]) ?_
    clear h1 h2 h5 m2_1
    rintro ρ H n32 ⟨v31, h1, h2, h5, m2_1, sp⟩
    refine Runs.inBlock ?_
    refine IH (x22.parent, l25) _ _ _ h (by refine ⟨v31, ?_, ?_, ?_, ?_, sp⟩ <;> simp [h1, h2, h5, m2_1, dc19, GNode.cells, Wire.cells, intC, sliceC, strC])
  · replace h := h.2 dc19
    refine Runs.exit rfl ?_
    refine Runs.seqE Ty_ok (by decide) fun k' hk' => ?_
    simp [h1, h2, h5, m2_1, dc19, GNode.cells, Wire.cells, intC, sliceC, strC]
    refine hk' _ _ _ ?_
    exact Runs.ret1 (v := v16) Tryd.func64 Tryd.results64 (by simp [h1, h2, h5, m2_1, dc19, GNode.cells, Wire.cells, intC, sliceC, strC]) (hQ _ _ _ _ (Sep.sub (ids' := []) sp (by simp)) ⟨l15, h, rfl⟩)

theorem ancestorsOf_ok (b : Big) (node : Int) (hp : ancestorsOf_pre b node) : OwnS Tryd.prog 64 [.agg [int b.roots, .list false (b.nodes.map (GNode.cells false)), .list false (b.sites.map intC), int b.edges, .list false (b.outer.map strC), .list false (b.inner.map Wire.cells)], int node] (.s [.c]) (fun r => r = .list true ((ancestorsOf b node).map intC)) := (ancestorsOf_walk b node _ (ancestorsOf_vc b node hp)).mono (by rintro _ ⟨_, rfl, rfl⟩; rfl)

theorem e68 : Ent Tryd.prog 68 := Ent.of Tryd.func68 (by kernel_rfl) rfl
theorem l2Above_walk (b : Big) (node : Int) (Z : (List Int) → Prop) (h : l2Above_wp b node Z) : OwnS Tryd.prog 68 [.agg [int b.roots, .list false (b.nodes.map (GNode.cells false)), .list false (b.sites.map intC), int b.edges, .list false (b.outer.map strC), .list false (b.inner.map Wire.cells)], int node] (.s [.c]) (fun r => ∃ y : List Int, Z y ∧ r = .list true (y.map intC)) := by
  unfold l2Above_wp at h
  have sp : Sep noHeap 0 [] [] := Sep.nil (by simp)
  refine OwnS.of Tryd.func68 rfl Tryd.ntmps68 (by simp) fun Q hQ => ?_
  refine Runs.cut (fun ρ H n => ρ 0 = .agg [int b.roots, .list false (b.nodes.map (GNode.cells false)), .list false (b.sites.map intC), int b.edges, .list false (b.outer.map strC), .list false (b.inner.map Wire.cells)] ∧ ρ 1 = int node ∧ Sep H n [] []) (by refine ⟨?_, ?_, sp⟩ <;> simp [GNode.cells, Wire.cells, intC, sliceC, strC]) ?_
  rintro ρ H n1 ⟨h0, h1, sp⟩
  refine Runs.seqE Ty_ok (by decide) fun k' hk' => ?_
  simp [h0, h1, GNode.cells, Wire.cells, intC, sliceC, strC]
  refine hk' _ _ _ ?_
  refine Runs.cut (fun ρ H n => ρ 1 = int node ∧ ρ 2 = .ptr (n1, 2) 1 0 0 ∧ H (n1, 2) = some ⟨6, [[int b.roots, .list false (b.nodes.map (GNode.cells false)), .list false (b.sites.map intC), int b.edges, .list false (b.outer.map strC), .list false (b.inner.map Wire.cells)]]⟩ ∧ Sep H n [] [(n1, 2)]) (by refine ⟨?_, ?_, ?_, (Sep.var sp)⟩ <;> simp [h0, h1, GNode.cells, Wire.cells, intC, sliceC, strC]) ?_
  clear h0 h1
  rintro ρ H n3 ⟨h1, h2, m2_1, sp⟩
  refine Runs.seqE Ty_ok (by decide) fun k' hk' => ?_
  simp [h1, h2, m2_1, GNode.cells, Wire.cells, intC, sliceC, strC]
  refine hk' _ _ _ ?_
  refine Runs.cut (fun ρ H n => ∃ (v5 : AVal), ρ 1 = int node ∧ ρ 2 = .ptr (n1, 2) 1 0 0 ∧ ρ 5 = v5 ∧ H (n1, 2) = some ⟨6, [[int b.roots, .list false (b.nodes.map (GNode.cells false)), .list false (b.sites.map intC), int b.edges, .list false (b.outer.map strC), .list false (b.inner.map Wire.cells)]]⟩ ∧ Sep H n [(.s [.c], v5, .list true (([] : List Int).map intC))] [(n1, 2)]) (by refine ⟨.arr (n3, 6) 0 0 0, ?_, ?_, ?_, ?_, (Sep.addEmpty sp)⟩ <;> simp [h1, h2, m2_1, GNode.cells, Wire.cells, intC, sliceC, strC]) ?_
  clear h1 h2 m2_1
  rintro ρ H n6 ⟨v5, h1, h2, h5, m2_1, sp⟩
  refine Runs.seq ?_
  refine Runs.block ?_
  refine Runs.loopW h (fun (s : Int × (List Int)) ρ H n => match s with | (node14, l15) => ∃ (v16 : AVal), ρ 1 = int node14 ∧ ρ 2 = .ptr (n1, 2) 1 0 0 ∧ ρ 5 = v16 ∧ H (n1, 2) = some ⟨6, [[int b.roots, .list false (b.nodes.map (GNode.cells false)), .list false (b.sites.map intC), int b.edges, .list false (b.outer.map strC), .list false (b.inner.map Wire.cells)]]⟩ ∧ Sep H n [(.s [.c], v16, .list true (l15.map intC))] [(n1, 2)]) (by refine ⟨v5, ?_, ?_, ?_, ?_, sp⟩ <;> simp [h1, h2, h5, m2_1, GNode.cells, Wire.cells, intC, sliceC, strC]) ?_
  clear h1 h2 h5 m2_1
  rintro ⟨node14, l15⟩ ρ H n17 K h ⟨v16, h1, h2, h5, m2_1, sp⟩ IH
  refine Runs.seq ?_
  refine Runs.seqE Ty_ok (by decide) fun k' hk' => ?_
  obtain ⟨c19, ec19⟩ : ∃ v : Bool, v = decide (0 ≤ node14) := ⟨_, rfl⟩
  replace h := h c19 ec19
  have f20 := ib_geq (k := .i64) ec19
  simp [h1, h2, h5, m2_1, f20, GNode.cells, Wire.cells, intC, sliceC, strC, -intBin]
  refine hk' _ _ _ ?_
  refine Runs.ite (b := c19) (by simp [h1, h2, h5, m2_1, GNode.cells, Wire.cells, intC, sliceC, strC]) (fun dc19 => ?_) (fun dc19 => ?_)
  · replace h := h.1 dc19
    refine Runs.skip ?_
    refine Runs.block ?_
    refine Runs.seqE Ty_ok (by decide) fun k' hk' => ?_
    obtain ⟨hb21, h⟩ := h
    obtain ⟨x22, ex22⟩ : ∃ v : GNode, v = at' b.nodes node14 := ⟨_, rfl⟩
    replace h := h x22 ex22
    have f23 := fun H => ix_list (H := H) (fr := false) (f := (GNode.cells false)) (k := .i64) kd_46 (fun _ => rfl) hb21 ex22
    simp [h1, h2, h5, m2_1, f23, dc19, GNode.cells, Wire.cells, intC, sliceC, strC, -indexAddrF]
    refine hk' _ _ _ ?_
    refine Runs.evalE Ty_ok (by decide) fun k' hk' => ?_
    obtain ⟨hb24, h⟩ := h
    obtain ⟨l25, el25⟩ : ∃ v : List Int, v = l15 ++ [x22.parent] := ⟨_, rfl⟩
    replace h := h l25 el25
    simp [h1, h2, h5, m2_1, dc19, GNode.cells, Wire.cells, intC, sliceC, strC, -appendF]
    refine bind_append [] [] [[int x22.parent]] [intC x22.parent] sp kd_47 (by simp) (by simp) (by simp [GNode.cells, Wire.cells, intC, sliceC, strC]) (by simp [-one1, o1_int, o1_bool, o1_str, o1_nil, o1_list, o1_arr, o1_ptr]) (rows_one (Fill.v _ Fill.nil)) (by simp) (by simpa using hb24) ?_
    rintro v26 H27 n28 sp hfr29 hle30
    replace sp : Sep H27 n28 [(.s [.c], v26, .list true (l25.map intC))] [(n1, 2)] := by rw [el25, List.map_append]; exact sp
    have m2_1 : H27 (n1, 2) = some ⟨6, [[int b.roots, .list false (b.nodes.map (GNode.cells false)), .list false (b.sites.map intC), int b.edges, .list false (b.outer.map strC), .list false (b.inner.map Wire.cells)]]⟩ := (hfr29 _ (by simp)).trans (by simp [h1, h2, h5, m2_1, Heap.get_set])
    simp [h1, h2, h5, m2_1, dc19, GNode.cells, Wire.cells, intC, sliceC, strC]
    refine hk' _ _ _ ?_
    refine Runs.cut (fun ρ H n => ∃ (v31 : AVal), ρ 1 = int x22.parent ∧ ρ 2 = .ptr (n1, 2) 1 0 0 ∧ ρ 5 = v31 ∧ H (n1, 2) = some ⟨6, [[int b.roots, .list false (b.nodes.map (GNode.cells false)), .list false (b.sites.map intC), int b.edges, .list false (b.outer.map strC), .list false (b.inner.map Wire.cells)]]⟩ ∧ Sep H n [(.s [.c], v31, .list true (l25.map intC))] [(n1, 2)]) (by refine ⟨v26, ?_, ?_, ?_, ?_, sp⟩ <;> simp [h1, h2, h5, m2_1, dc19, GNode.cells, Wire.cells, intC, sliceC, strC]) ?_
    clear h1 h2 h5 m2_1
    rintro ρ H n32 ⟨v31, h1, h2, h5, m2_1, sp⟩
    refine Runs.inBlock ?_
    refine IH (x22.parent, l25) _ _ _ h (by refine ⟨v31, ?_, ?_, ?_, ?_, sp⟩ <;> simp [h1, h2, h5, m2_1, dc19, GNode.cells, Wire.cells, intC, sliceC, strC])
  · replace h := h.2 dc19
    refine Runs.exit rfl ?_
    refine Runs.seqE Ty_ok (by decide) fun k' hk' => ?_
    simp [h1, h2, h5, m2_1, dc19, GNode.cells, Wire.cells, intC, sliceC, strC]
    refine hk' _ _ _ ?_
    exact Runs.ret1 (v := v16) Tryd.func68 Tryd.results68 (by simp [h1, h2, h5, m2_1, dc19, GNode.cells, Wire.cells, intC, sliceC, strC]) (hQ _ _ _ _ (Sep.sub (ids' := []) sp (by simp)) ⟨l15, h, rfl⟩)

theorem l2Above_ok (b : Big) (node : Int) (hp : l2Above_pre b node) : OwnS Tryd.prog 68 [.agg [int b.roots, .list false (b.nodes.map (GNode.cells false)), .list false (b.sites.map intC), int b.edges, .list false (b.outer.map strC), .list false (b.inner.map Wire.cells)], int node] (.s [.c]) (fun r => r = .list true ((l2Above b node).map intC)) := (l2Above_walk b node _ (l2Above_vc b node hp)).mono (by rintro _ ⟨_, rfl, rfl⟩; rfl)

theorem e31 : Ent Tryd.prog 31 := Ent.of Tryd.func31 (by kernel_rfl) rfl
theorem AncestorsOf_walk (sig : List Control) (b : Big) (node : Int) (Z : ((List Int) × Bool) → Prop) (h : AncestorsOf_wp sig b node Z) : OwnS Tryd.prog 31 [.list false (sig.map Control.cells), .agg [int b.roots, .list false (b.nodes.map (GNode.cells false)), .list false (b.sites.map intC), int b.edges, .list false (b.outer.map strC), .list false (b.inner.map Wire.cells)], int node] (.t [.s [.c], .c]) (fun r => ∃ y : (List Int) × Bool, Z y ∧ r = .tup [.list true (y.1.map intC), bool y.2]) := by
  unfold AncestorsOf_wp at h
  have sp : Sep noHeap 0 [] [] := Sep.nil (by simp)
  refine OwnS.of Tryd.func31 rfl Tryd.ntmps31 (by simp) fun Q hQ => ?_
  refine Runs.cut (fun ρ H n => ρ 0 = .list false (sig.map Control.cells) ∧ ρ 1 = .agg [int b.roots, .list false (b.nodes.map (GNode.cells false)), .list false (b.sites.map intC), int b.edges, .list false (b.outer.map strC), .list false (b.inner.map Wire.cells)] ∧ ρ 2 = int node ∧ Sep H n [] []) (by refine ⟨?_, ?_, ?_, sp⟩ <;> simp [Control.cells, GNode.cells, Wire.cells, intC, sliceC, strC]) ?_
  rintro ρ H n1 ⟨h0, h1, h2, sp⟩
  refine Runs.seqE Ty_ok (by decide) fun k' hk' => ?_
  simp [h0, h1, h2, Control.cells, GNode.cells, Wire.cells, intC, sliceC, strC]
  refine hk' _ _ _ ?_
  refine Runs.cut (fun ρ H n => ρ 0 = .list false (sig.map Control.cells) ∧ ρ 2 = int node ∧ ρ 4 = .ptr (n1, 4) 1 0 0 ∧ H (n1, 4) = some ⟨6, [[int b.roots, .list false (b.nodes.map (GNode.cells false)), .list false (b.sites.map intC), int b.edges, .list false (b.outer.map strC), .list false (b.inner.map Wire.cells)]]⟩ ∧ Sep H n [] [(n1, 4)]) (by refine ⟨?_, ?_, ?_, ?_, (Sep.var sp)⟩ <;> simp [h0, h1, h2, Control.cells, GNode.cells, Wire.cells, intC, sliceC, strC]) ?_
  clear h0 h1 h2
  rintro ρ H n3 ⟨h0, h2, h4, m4_1, sp⟩
  refine Runs.seq ?_
  refine Runs.seqE Ty_ok (by decide) fun k' hk' => ?_
  obtain ⟨J4, hJ5, hr6⟩ := h
  have fin8 : ∀ (s : Bool) (ρ : Env) (H : Heap) (n : Nat), J4 s → (match s with | b7 => ρ 2 = int node ∧ ρ 4 = .ptr (n1, 4) 1 0 0 ∧ ρ 17 = bool b7 ∧ H (n1, 4) = some ⟨6, [[int b.roots, .list false (b.nodes.map (GNode.cells false)), .list false (b.sites.map intC), int b.edges, .list false (b.outer.map strC), .list false (b.inner.map Wire.cells)]]⟩ ∧ Sep H n [] [(n1, 4)]) → Runs Tryd.prog 31 21 k' ρ H n Q := by
    rintro b7 ρ H n9 h ⟨h2, h4, h17, m4_1, sp⟩
    replace h := hr6 _ h
    refine hk' _ _ _ ?_
    refine Runs.ite (b := b7) (by simp [h2, h4, h17, m4_1, Control.cells, GNode.cells, Wire.cells, intC, sliceC, strC]) (fun db7 => ?_) (fun db7 => ?_)
    · replace h := h.1 db7
      refine Runs.seqE Ty_ok (by decide) fun k' hk' => ?_
      simp [h2, h4, h17, m4_1, db7, Control.cells, GNode.cells, Wire.cells, intC, sliceC, strC]
      refine hk' _ _ _ ?_
      exact Runs.ret2 (v := .v (.slice none 0 0)) (w := bool false) Tryd.func31 Tryd.results31 (by simp [h2, h4, h17, m4_1, db7, Control.cells, GNode.cells, Wire.cells, intC, sliceC, strC]) (by simp [h2, h4, h17, m4_1, db7, Control.cells, GNode.cells, Wire.cells, intC, sliceC, strC]) (hQ _ _ _ _ (Sep.sub (ids' := []) (Sep.packT (K := []) (Fill.own (Fill.v _ Fill.nil)) (Sep.addNil sp)) (by simp)) ⟨([], false), h, rfl⟩)
    · replace h := h.2 db7
      refine Runs.skip ?_
      refine Runs.seqE Ty_ok (by decide) fun k' hk' => ?_
      obtain ⟨hb12, h⟩ := h
      obtain ⟨r13, er13⟩ : ∃ v : List Int, v = ancestorsOf b node := ⟨_, rfl⟩
      replace h := h r13 er13
      simp [h2, h4, h17, m4_1, db7, Control.cells, GNode.cells, Wire.cells, intC, sliceC, strC]
      refine RunK.callW Ty_ok (ancestorsOf_ok b node hb12) e64 (.cons (ArgOk.agg (.cons (.v _ _ _) (.cons (ArgOk.nest_Node false b.nodes) (.cons (ArgOk.listF (fr := false) (els := b.sites.map intC) (by simp [intC])) (.cons (.v _ _ _) (.cons (ArgOk.listF (fr := false) (els := b.outer.map strC) (by simp [strC])) (.cons (ArgOk.listF (fr := false) (els := b.inner.map Wire.cells) (by simp [Wire.cells, strC, intC])) .nil))))))) (.cons (.v _ _ _) .nil)) sp (by decide) (by decide) rfl (by simp [h2, h4, h17, m4_1, db7, Control.cells, GNode.cells, Wire.cells, intC, sliceC, strC]) ?_
      rintro v14 H15 n16 _ sp rfl hle18 hfr17
      rw [← er13] at sp
      have m4_1 : H15 (n1, 4) = some ⟨6, [[int b.roots, .list false (b.nodes.map (GNode.cells false)), .list false (b.sites.map intC), int b.edges, .list false (b.outer.map strC), .list false (b.inner.map Wire.cells)]]⟩ := (hfr17 _ (by simp)).trans (by simp [h2, h4, h17, m4_1, Heap.get_set])
      simp [h2, h4, h17, m4_1, db7, Control.cells, GNode.cells, Wire.cells, intC, sliceC, strC]
      refine hk' _ _ _ ?_
      refine Runs.cut (fun ρ H n => ∃ (v20 : AVal), ρ 6 = v20 ∧ ρ 7 = bool true ∧ Sep H n [(.s [.c], v20, .list true (r13.map intC))] []) (by refine ⟨v14, ?_, ?_, (Sep.sub sp (by simp +contextual))⟩ <;> simp [h2, h4, h17, m4_1, db7, Control.cells, GNode.cells, Wire.cells, intC, sliceC, strC]) ?_
      clear h2 h4 h17 m4_1
      rintro ρ H n21 ⟨v20, h6, h7, sp⟩
      exact Runs.ret2 (v := v20) (w := bool true) Tryd.func31 Tryd.results31 (by simp [h6, h7, db7, Control.cells, GNode.cells, Wire.cells, intC, sliceC, strC]) (by simp [h6, h7, db7, Control.cells, GNode.cells, Wire.cells, intC, sliceC, strC]) (hQ _ _ _ _ (Sep.sub (ids' := []) (Sep.packT (K := []) (Fill.own (Fill.v _ Fill.nil)) sp) (by simp)) ⟨(r13, true), h, rfl⟩)
  replace h := hJ5
  obtain ⟨hb23, h⟩ := h
  obtain ⟨r24, er24⟩ : ∃ v : Bool, v = goodB sig b := ⟨_, rfl⟩
  replace h := h r24 er24
  simp [h0, h2, h4, m4_1, Control.cells, GNode.cells, Wire.cells, intC, sliceC, strC]
  refine RunK.callA Ty_ok (IsBigraph_ok sig b hb23) e27 (.cons (ArgOk.listF (fr := false) (els := sig.map Control.cells) (by simp [Control.cells, strC, intC, intC])) (.cons (ArgOk.agg (.cons (.v _ _ _) (.cons (ArgOk.nest_Node false b.nodes) (.cons (ArgOk.listF (fr := false) (els := b.sites.map intC) (by simp [intC])) (.cons (.v _ _ _) (.cons (ArgOk.listF (fr := false) (els := b.outer.map strC) (by simp [strC])) (.cons (ArgOk.listF (fr := false) (els := b.inner.map Wire.cells) (by simp [Wire.cells, strC, intC])) .nil))))))) .nil)) (by decide) (by decide) rfl (by simp [h0, h2, h4, m4_1, Control.cells, GNode.cells, Wire.cells, intC, sliceC, strC]) ?_
  rintro _ rfl
  rw [← er24]
  rcases Bool.eq_false_or_eq_true r24 with dr24 | dr24
  · replace h := h.1 dr24
    obtain ⟨hb25, h⟩ := h
    obtain ⟨r26, er26⟩ : ∃ v : Bool, v = isNodeB b node := ⟨_, rfl⟩
    replace h := h r26 er26
    simp [h0, h2, h4, m4_1, dr24, Control.cells, GNode.cells, Wire.cells, intC, sliceC, strC]
    refine RunK.callA Ty_ok (isNodeB_ok b node hb25) e63 (.cons (ArgOk.agg (.cons (.v _ _ _) (.cons (ArgOk.nest_Node false b.nodes) (.cons (ArgOk.listF (fr := false) (els := b.sites.map intC) (by simp [intC])) (.cons (.v _ _ _) (.cons (ArgOk.listF (fr := false) (els := b.outer.map strC) (by simp [strC])) (.cons (ArgOk.listF (fr := false) (els := b.inner.map Wire.cells) (by simp [Wire.cells, strC, intC])) .nil))))))) (.cons (.v _ _ _) .nil)) (by decide) (by decide) rfl (by simp [h0, h2, h4, m4_1, dr24, Control.cells, GNode.cells, Wire.cells, intC, sliceC, strC]) ?_
    rintro _ rfl
    rw [← er26]
    simp [h0, h2, h4, m4_1, dr24, Control.cells, GNode.cells, Wire.cells, intC, sliceC, strC]
    exact fin8 ((!r26)) _ _ _ h (by refine ⟨?_, ?_, ?_, ?_, sp⟩ <;> simp [h0, h2, h4, m4_1, dr24, Control.cells, GNode.cells, Wire.cells, intC, sliceC, strC])
  · replace h := h.2 dr24
    simp [h0, h2, h4, m4_1, dr24, Control.cells, GNode.cells, Wire.cells, intC, sliceC, strC]
    exact fin8 (true) _ _ _ h (by refine ⟨?_, ?_, ?_, ?_, sp⟩ <;> simp [h0, h2, h4, m4_1, dr24, Control.cells, GNode.cells, Wire.cells, intC, sliceC, strC])

theorem AncestorsOf_ok (sig : List Control) (b : Big) (node : Int) (hp : AncestorsOf_pre sig b node) : OwnS Tryd.prog 31 [.list false (sig.map Control.cells), .agg [int b.roots, .list false (b.nodes.map (GNode.cells false)), .list false (b.sites.map intC), int b.edges, .list false (b.outer.map strC), .list false (b.inner.map Wire.cells)], int node] (.t [.s [.c], .c]) (fun r => r = .tup [.list true (((AncestorsOf sig b node).1).map intC), bool ((AncestorsOf sig b node).2)]) := (AncestorsOf_walk sig b node _ (AncestorsOf_vc sig b node hp)).mono (by rintro _ ⟨_, rfl, rfl⟩; rfl)

theorem e32 : Ent Tryd.prog 32 := Ent.of Tryd.func32 (by kernel_rfl) rfl
theorem sAncestorsOf_walk (sig : List Control) (b : Big) (node : Int) (Z : ((List Int) × Bool) → Prop) (h : sAncestorsOf_wp sig b node Z) : OwnS Tryd.prog 32 [.list false (sig.map Control.cells), .agg [int b.roots, .list false (b.nodes.map (GNode.cells false)), .list false (b.sites.map intC), int b.edges, .list false (b.outer.map strC), .list false (b.inner.map Wire.cells)], int node] (.t [.s [.c], .c]) (fun r => ∃ y : (List Int) × Bool, Z y ∧ r = .tup [.list true (y.1.map intC), bool y.2]) := by
  unfold sAncestorsOf_wp at h
  have sp : Sep noHeap 0 [] [] := Sep.nil (by simp)
  refine OwnS.of Tryd.func32 rfl Tryd.ntmps32 (by simp) fun Q hQ => ?_
  refine Runs.cut (fun ρ H n => ρ 0 = .list false (sig.map Control.cells) ∧ ρ 1 = .agg [int b.roots, .list false (b.nodes.map (GNode.cells false)), .list false (b.sites.map intC), int b.edges, .list false (b.outer.map strC), .list false (b.inner.map Wire.cells)] ∧ ρ 2 = int node ∧ Sep H n [] []) (by refine ⟨?_, ?_, ?_, sp⟩ <;> simp [Control.cells, GNode.cells, Wire.cells, intC, sliceC, strC]) ?_
  rintro ρ H n1 ⟨h0, h1, h2, sp⟩
  refine Runs.seqE Ty_ok (by decide) fun k' hk' => ?_
  simp [h0, h1, h2, Control.cells, GNode.cells, Wire.cells, intC, sliceC, strC]
  refine hk' _ _ _ ?_
  refine Runs.cut (fun ρ H n => ρ 0 = .list false (sig.map Control.cells) ∧ ρ 2 = int node ∧ ρ 4 = .ptr (n1, 4) 1 0 0 ∧ H (n1, 4) = some ⟨6, [[int b.roots, .list false (b.nodes.map (GNode.cells false)), .list false (b.sites.map intC), int b.edges, .list false (b.outer.map strC), .list false (b.inner.map Wire.cells)]]⟩ ∧ Sep H n [] [(n1, 4)]) (by refine ⟨?_, ?_, ?_, ?_, (Sep.var sp)⟩ <;> simp [h0, h1, h2, Control.cells, GNode.cells, Wire.cells, intC, sliceC, strC]) ?_
  clear h0 h1 h2
  rintro ρ H n3 ⟨h0, h2, h4, m4_1, sp⟩
  refine Runs.seq ?_
  refine Runs.seqE Ty_ok (by decide) fun k' hk' => ?_
  obtain ⟨J4, hJ5, hr6⟩ := h
  have fin8 : ∀ (s : Bool) (ρ : Env) (H : Heap) (n : Nat), J4 s → (match s with | b7 => ρ 2 = int node ∧ ρ 4 = .ptr (n1, 4) 1 0 0 ∧ ρ 17 = bool b7 ∧ H (n1, 4) = some ⟨6, [[int b.roots, .list false (b.nodes.map (GNode.cells false)), .list false (b.sites.map intC), int b.edges, .list false (b.outer.map strC), .list false (b.inner.map Wire.cells)]]⟩ ∧ Sep H n [] [(n1, 4)]) → Runs Tryd.prog 32 22 k' ρ H n Q := by
    rintro b7 ρ H n9 h ⟨h2, h4, h17, m4_1, sp⟩
    replace h := hr6 _ h
    refine hk' _ _ _ ?_
    refine Runs.ite (b := b7) (by simp [h2, h4, h17, m4_1, Control.cells, GNode.cells, Wire.cells, intC, sliceC, strC]) (fun db7 => ?_) (fun db7 => ?_)
    · replace h := h.1 db7
      refine Runs.seqE Ty_ok (by decide) fun k' hk' => ?_
      simp [h2, h4, h17, m4_1, db7, Control.cells, GNode.cells, Wire.cells, intC, sliceC, strC]
      refine hk' _ _ _ ?_
      refine Runs.cut (fun ρ H n => ∃ (v11 : AVal), ρ 6 = v11 ∧ ρ 7 = bool false ∧ Sep H n [(.s [.c], v11, .list true (([] : List Int).map intC))] []) (by refine ⟨.arr (n9, 18) 0 0 0, ?_, ?_, (Sep.sub (Sep.addEmpty sp) (by simp +contextual))⟩ <;> simp [h2, h4, h17, m4_1, db7, Control.cells, GNode.cells, Wire.cells, intC, sliceC, strC]) ?_
      clear h2 h4 h17 m4_1
      rintro ρ H n12 ⟨v11, h6, h7, sp⟩
      exact Runs.ret2 (v := v11) (w := bool false) Tryd.func32 Tryd.results32 (by simp [h6, h7, db7, Control.cells, GNode.cells, Wire.cells, intC, sliceC, strC]) (by simp [h6, h7, db7, Control.cells, GNode.cells, Wire.cells, intC, sliceC, strC]) (hQ _ _ _ _ (Sep.sub (ids' := []) (Sep.packT (K := []) (Fill.own (Fill.v _ Fill.nil)) sp) (by simp)) ⟨(([] : List Int), false), h, rfl⟩)
    · replace h := h.2 db7
      refine Runs.skip ?_
      refine Runs.seqE Ty_ok (by decide) fun k' hk' => ?_
      obtain ⟨hb14, h⟩ := h
      obtain ⟨r15, er15⟩ : ∃ v : List Int, v = l2Above b node := ⟨_, rfl⟩
      replace h := h r15 er15
      simp [h2, h4, h17, m4_1, db7, Control.cells, GNode.cells, Wire.cells, intC, sliceC, strC]
      refine RunK.callW Ty_ok (l2Above_ok b node hb14) e68 (.cons (ArgOk.agg (.cons (.v _ _ _) (.cons (ArgOk.nest_Node false b.nodes) (.cons (ArgOk.listF (fr := false) (els := b.sites.map intC) (by simp [intC])) (.cons (.v _ _ _) (.cons (ArgOk.listF (fr := false) (els := b.outer.map strC) (by simp [strC])) (.cons (ArgOk.listF (fr := false) (els := b.inner.map Wire.cells) (by simp [Wire.cells, strC, intC])) .nil))))))) (.cons (.v _ _ _) .nil)) sp (by decide) (by decide) rfl (by simp [h2, h4, h17, m4_1, db7, Control.cells, GNode.cells, Wire.cells, intC, sliceC, strC]) ?_
      rintro v16 H17 n18 _ sp rfl hle20 hfr19
      rw [← er15] at sp
      have m4_1 : H17 (n1, 4) = some ⟨6, [[int b.roots, .list false (b.nodes.map (GNode.cells false)), .list false (b.sites.map intC), int b.edges, .list false (b.outer.map strC), .list false (b.inner.map Wire.cells)]]⟩ := (hfr19 _ (by simp)).trans (by simp [h2, h4, h17, m4_1, Heap.get_set])
      simp [h2, h4, h17, m4_1, db7, Control.cells, GNode.cells, Wire.cells, intC, sliceC, strC]
      refine hk' _ _ _ ?_
      refine Runs.cut (fun ρ H n => ∃ (v22 : AVal), ρ 6 = v22 ∧ ρ 7 = bool true ∧ Sep H n [(.s [.c], v22, .list true (r15.map intC))] []) (by refine ⟨v16, ?_, ?_, (Sep.sub sp (by simp +contextual))⟩ <;> simp [h2, h4, h17, m4_1, db7, Control.cells, GNode.cells, Wire.cells, intC, sliceC, strC]) ?_
      clear h2 h4 h17 m4_1
      rintro ρ H n23 ⟨v22, h6, h7, sp⟩
      exact Runs.ret2 (v := v22) (w := bool true) Tryd.func32 Tryd.results32 (by simp [h6, h7, db7, Control.cells, GNode.cells, Wire.cells, intC, sliceC, strC]) (by simp [h6, h7, db7, Control.cells, GNode.cells, Wire.cells, intC, sliceC, strC]) (hQ _ _ _ _ (Sep.sub (ids' := []) (Sep.packT (K := []) (Fill.own (Fill.v _ Fill.nil)) sp) (by simp)) ⟨(r15, true), h, rfl⟩)
  replace h := hJ5
  obtain ⟨hb25, h⟩ := h
  obtain ⟨r26, er26⟩ : ∃ v : Bool, v = goodB sig b := ⟨_, rfl⟩
  replace h := h r26 er26
  simp [h0, h2, h4, m4_1, Control.cells, GNode.cells, Wire.cells, intC, sliceC, strC]
  refine RunK.callA Ty_ok (l2Good_ok sig b hb25) e66 (.cons (ArgOk.listF (fr := false) (els := sig.map Control.cells) (by simp [Control.cells, strC, intC, intC])) (.cons (ArgOk.agg (.cons (.v _ _ _) (.cons (ArgOk.nest_Node false b.nodes) (.cons (ArgOk.listF (fr := false) (els := b.sites.map intC) (by simp [intC])) (.cons (.v _ _ _) (.cons (ArgOk.listF (fr := false) (els := b.outer.map strC) (by simp [strC])) (.cons (ArgOk.listF (fr := false) (els := b.inner.map Wire.cells) (by simp [Wire.cells, strC, intC])) .nil))))))) .nil)) (by decide) (by decide) rfl (by simp [h0, h2, h4, m4_1, Control.cells, GNode.cells, Wire.cells, intC, sliceC, strC]) ?_
  rintro _ rfl
  rw [← er26]
  rcases Bool.eq_false_or_eq_true r26 with dr26 | dr26
  · replace h := h.1 dr26
    obtain ⟨hb27, h⟩ := h
    obtain ⟨r28, er28⟩ : ∃ v : Bool, v = isNodeB b node := ⟨_, rfl⟩
    replace h := h r28 er28
    simp [h0, h2, h4, m4_1, dr26, Control.cells, GNode.cells, Wire.cells, intC, sliceC, strC]
    refine RunK.callA Ty_ok (l2Is_ok b node hb27) e67 (.cons (ArgOk.agg (.cons (.v _ _ _) (.cons (ArgOk.nest_Node false b.nodes) (.cons (ArgOk.listF (fr := false) (els := b.sites.map intC) (by simp [intC])) (.cons (.v _ _ _) (.cons (ArgOk.listF (fr := false) (els := b.outer.map strC) (by simp [strC])) (.cons (ArgOk.listF (fr := false) (els := b.inner.map Wire.cells) (by simp [Wire.cells, strC, intC])) .nil))))))) (.cons (.v _ _ _) .nil)) (by decide) (by decide) rfl (by simp [h0, h2, h4, m4_1, dr26, Control.cells, GNode.cells, Wire.cells, intC, sliceC, strC]) ?_
    rintro _ rfl
    rw [← er28]
    simp [h0, h2, h4, m4_1, dr26, Control.cells, GNode.cells, Wire.cells, intC, sliceC, strC]
    exact fin8 ((!r28)) _ _ _ h (by refine ⟨?_, ?_, ?_, ?_, sp⟩ <;> simp [h0, h2, h4, m4_1, dr26, Control.cells, GNode.cells, Wire.cells, intC, sliceC, strC])
  · replace h := h.2 dr26
    simp [h0, h2, h4, m4_1, dr26, Control.cells, GNode.cells, Wire.cells, intC, sliceC, strC]
    exact fin8 (true) _ _ _ h (by refine ⟨?_, ?_, ?_, ?_, sp⟩ <;> simp [h0, h2, h4, m4_1, dr26, Control.cells, GNode.cells, Wire.cells, intC, sliceC, strC])

theorem sAncestorsOf_ok (sig : List Control) (b : Big) (node : Int) (hp : sAncestorsOf_pre sig b node) : OwnS Tryd.prog 32 [.list false (sig.map Control.cells), .agg [int b.roots, .list false (b.nodes.map (GNode.cells false)), .list false (b.sites.map intC), int b.edges, .list false (b.outer.map strC), .list false (b.inner.map Wire.cells)], int node] (.t [.s [.c], .c]) (fun r => r = .tup [.list true (((sAncestorsOf sig b node).1).map intC), bool ((sAncestorsOf sig b node).2)]) := (sAncestorsOf_walk sig b node _ (sAncestorsOf_vc sig b node hp)).mono (by rintro _ ⟨_, rfl, rfl⟩; rfl)

theorem e42 : Ent Tryd.prog 42 := Ent.of Tryd.func42 (by kernel_rfl) rfl
theorem markBigraph_walk (a : Big) (k_ : Int) (Z : Int → Prop) (h : markBigraph_wp a k_ Z) : EatS Tryd.prog 42 (fun v => [v, int k_]) (.a [.c, .s [.c, .c, .s [.c]], .s [.c], .c, .s [.c], .s [.c, .c]]) (.agg [int a.roots, .list true (a.nodes.map (GNode.cells true)), .list true (a.sites.map intC), int a.edges, .list true (a.outer.map strC), .list true (a.inner.map Wire.cells)]) (fun r => ∃ y : Int, Z y ∧ r = int y) := by
  unfold markBigraph_wp at h
  refine EatS.of Tryd.func42 rfl Tryd.ntmps42 (fun _ => by simp) fun H0 n0 v0 K0 ids0 sp Q hQ => ?_
  have h00 := sp.1
  have hid : ∀ i ∈ ids0, H0 i = H0 i := fun _ _ => rfl
  have hnn : n0 ≤ n0 := Nat.le_refl _
  replace sp := Sep.unpack sp
  obtain ⟨L0, hv, hl0, sp⟩ := sp
  subst hv
  obtain ⟨a0_, a1_, a2_, a3_, a4_, a5_, hv⟩ := len6 (by simpa using hl0)
  subst hv
  simp only [zip3, List.cons_append, List.nil_append] at sp
  replace sp := Sep.scalar sp
  obtain ⟨hv, sp⟩ := sp
  subst hv
  replace sp := Sep.rot sp
  simp only [List.cons_append, List.nil_append, List.append_assoc] at sp
  replace sp := Sep.rot sp
  simp only [List.cons_append, List.nil_append, List.append_assoc] at sp
  replace sp := Sep.scalar sp
  obtain ⟨hv, sp⟩ := sp
  subst hv
  replace sp := Sep.rot sp
  simp only [List.cons_append, List.nil_append, List.append_assoc] at sp
  replace sp := Sep.rot sp
  simp only [List.cons_append, List.nil_append, List.append_assoc] at sp
  replace sp := Sep.swap (K1 := K0) sp
  simp only [List.cons_append, List.nil_append] at sp
  refine Runs.cut (fun ρ H n => ∃ (v5 : AVal) (v6 : AVal) (v7 : AVal) (v8 : AVal), ρ 0 = .agg [int a.roots, v5, v6, int a.edges, v7, v8] ∧ ρ 1 = int k_ ∧ n0 ≤ n ∧ (∀ i ∈ ids0, H i = H0 i) ∧ Sep H n ((.s [.c, .c, .s [.c]], v5, .list true (a.nodes.map (GNode.cells true))) :: (.s [.c], v6, .list true (a.sites.map intC)) :: (.s [.c], v7, .list true (a.outer.map strC)) :: (.s [.c, .c], v8, .list true (a.inner.map Wire.cells)) :: K0) (ids0)) (by refine ⟨a1_, a2_, a4_, a5_, ?_, ?_, (by omega), hid, (Sep.front (K1 := [(.s [.c], a2_, .list true (a.sites.map intC)), (.s [.c], a4_, .list true (a.outer.map strC)), (.s [.c, .c], a5_, .list true (a.inner.map Wire.cells))]) (K2 := (K0)) (Sep.front (K1 := [(.s [.c], a4_, .list true (a.outer.map strC)), (.s [.c, .c], a5_, .list true (a.inner.map Wire.cells)), (.s [.c, .c, .s [.c]], a1_, .list true (a.nodes.map (GNode.cells true)))]) (K2 := (K0)) (Sep.front (K1 := [(.s [.c, .c], a5_, .list true (a.inner.map Wire.cells)), (.s [.c, .c, .s [.c]], a1_, .list true (a.nodes.map (GNode.cells true))), (.s [.c], a2_, .list true (a.sites.map intC))]) (K2 := (K0)) (Sep.front (K1 := [(.s [.c, .c, .s [.c]], a1_, .list true (a.nodes.map (GNode.cells true))), (.s [.c], a2_, .list true (a.sites.map intC)), (.s [.c], a4_, .list true (a.outer.map strC))]) (K2 := (K0)) sp))))⟩ <;> simp [GNode.cells, Wire.cells, intC, sliceC, strC]) ?_
  rintro ρ H n9 ⟨v5, v6, v7, v8, h0, h1, hnn, hid, sp⟩
  have hq_n9 := hnn
  refine Runs.seqE Ty_ok (by decide) fun k' hk' => ?_
  have f10 := cell_own (Sep.cells sp)
  have f11 := cell_own (Sep.one1 sp)
  have f12 := cell_own (Sep.cells (Sep.front (K1 := [(.s [.c, .c, .s [.c]], v5, .list true (a.nodes.map (GNode.cells true)))]) (K2 := ((.s [.c], v7, .list true (a.outer.map strC)) :: (.s [.c, .c], v8, .list true (a.inner.map Wire.cells)) :: K0)) sp))
  have f13 := cell_own (Sep.one1 (Sep.front (K1 := [(.s [.c, .c, .s [.c]], v5, .list true (a.nodes.map (GNode.cells true)))]) (K2 := ((.s [.c], v7, .list true (a.outer.map strC)) :: (.s [.c, .c], v8, .list true (a.inner.map Wire.cells)) :: K0)) sp))
  have f14 := cell_own (Sep.cells (Sep.front (K1 := [(.s [.c, .c, .s [.c]], v5, .list true (a.nodes.map (GNode.cells true))), (.s [.c], v6, .list true (a.sites.map intC))]) (K2 := ((.s [.c, .c], v8, .list true (a.inner.map Wire.cells)) :: K0)) sp))
  have f15 := cell_own (Sep.one1 (Sep.front (K1 := [(.s [.c, .c, .s [.c]], v5, .list true (a.nodes.map (GNode.cells true))), (.s [.c], v6, .list true (a.sites.map intC))]) (K2 := ((.s [.c, .c], v8, .list true (a.inner.map Wire.cells)) :: K0)) sp))
  have f16 := cell_own (Sep.cells (Sep.front (K1 := [(.s [.c, .c, .s [.c]], v5, .list true (a.nodes.map (GNode.cells true))), (.s [.c], v6, .list true (a.sites.map intC)), (.s [.c], v7, .list true (a.outer.map strC))]) (K2 := (K0)) sp))
  have f17 := cell_own (Sep.one1 (Sep.front (K1 := [(.s [.c, .c, .s [.c]], v5, .list true (a.nodes.map (GNode.cells true))), (.s [.c], v6, .list true (a.sites.map intC)), (.s [.c], v7, .list true (a.outer.map strC))]) (K2 := (K0)) sp))
  simp [h0, h1, f10, f11, f12, f13, f14, f15, f16, f17, GNode.cells, Wire.cells, intC, sliceC, strC, -cellsA, -one1, cA_int, cA_bool, cA_str, cA_nil, cA_agg, cA_list, cA_arr, cA_ptr, o1_int, o1_bool, o1_str, o1_nil, o1_list, o1_arr, o1_ptr]
  refine hk' _ _ _ ?_
  refine Runs.cut (fun ρ H n => ∃ (v19 : AVal) (v20 : AVal) (v21 : AVal) (v22 : AVal), ρ 1 = int k_ ∧ ρ 2 = .ptr (n9, 2) 1 0 0 ∧ H (n9, 2) = some ⟨6, [[int a.roots, v19, v20, int a.edges, v21, v22]]⟩ ∧ n0 ≤ n ∧ (∀ i ∈ ids0, H i = H0 i) ∧ Sep H n ((.s [.c, .c, .s [.c]], v19, .list true (a.nodes.map (GNode.cells true))) :: (.s [.c], v20, .list true (a.sites.map intC)) :: (.s [.c], v21, .list true (a.outer.map strC)) :: (.s [.c, .c], v22, .list true (a.inner.map Wire.cells)) :: K0) ((n9, 2) :: ids0)) (by refine ⟨v5, v6, v7, v8, ?_, ?_, ?_, (by omega), (by intro i hi; have hlt := h00 i hi; repeat (first | exact hid i hi | rw [Heap.get_set_ne _ _ (by rintro rfl; simp at hlt; omega)])), (Sep.front (K1 := [(.s [.c], v6, .list true (a.sites.map intC)), (.s [.c], v7, .list true (a.outer.map strC)), (.s [.c, .c], v8, .list true (a.inner.map Wire.cells))]) (K2 := (K0)) (Sep.front (K1 := [(.s [.c], v7, .list true (a.outer.map strC)), (.s [.c, .c], v8, .list true (a.inner.map Wire.cells)), (.s [.c, .c, .s [.c]], v5, .list true (a.nodes.map (GNode.cells true)))]) (K2 := (K0)) (Sep.front (K1 := [(.s [.c, .c], v8, .list true (a.inner.map Wire.cells)), (.s [.c, .c, .s [.c]], v5, .list true (a.nodes.map (GNode.cells true))), (.s [.c], v6, .list true (a.sites.map intC))]) (K2 := (K0)) (Sep.front (K1 := [(.s [.c, .c, .s [.c]], v5, .list true (a.nodes.map (GNode.cells true))), (.s [.c], v6, .list true (a.sites.map intC)), (.s [.c], v7, .list true (a.outer.map strC))]) (K2 := (K0)) (Sep.var sp)))))⟩ <;> simp [h0, h1, f10, f11, f12, f13, f14, f15, f16, f17, GNode.cells, Wire.cells, intC, sliceC, strC, -cellsA, -one1, cA_int, cA_bool, cA_str, cA_nil, cA_agg, cA_list, cA_arr, cA_ptr, o1_int, o1_bool, o1_str, o1_nil, o1_list, o1_arr, o1_ptr]) ?_
  clear h0 h1
  rintro ρ H n23 ⟨v19, v20, v21, v22, h1, h2, m2_17, hnn, hid, sp⟩
  have hq_n23 := hnn
  refine Runs.seqE Ty_ok (by decide) fun k' hk' => ?_
  obtain ⟨hb24, h⟩ := h
  obtain ⟨r25, er25⟩ : ∃ v : Int, v = markNn a.nodes k_ := ⟨_, rfl⟩
  replace h := h r25 er25
  have f26 := cell_own (Sep.cells sp)
  have f27 := cell_own (Sep.one1 sp)
  simp [h1, h2, m2_17, f26, f27, GNode.cells, Wire.cells, intC, sliceC, strC, -cellsA, -one1, cA_int, cA_bool, cA_str, cA_nil, cA_agg, cA_list, cA_arr, cA_ptr, o1_int, o1_bool, o1_str, o1_nil, o1_list, o1_arr, o1_ptr]
  refine RunK.callE (v := v19) Ty_ok (markNodeS_eat a.nodes k_ hb24) e100 sp (by decide) (by decide) rfl (by simp [h1, h2, m2_17, f26, f27, GNode.cells, Wire.cells, intC, sliceC, strC, -cellsA, -one1, cA_int, cA_bool, cA_str, cA_nil, cA_agg, cA_list, cA_arr, cA_ptr, o1_int, o1_bool, o1_str, o1_nil, o1_list, o1_arr, o1_ptr]) ?_
  rintro _ H28 n29 rfl sp hle31 hfr30
  rw [← er25]
  replace sp : Sep H28 n29 ((.s [.c], v20, .list true (a.sites.map intC)) :: (.s [.c], v21, .list true (a.outer.map strC)) :: (.s [.c, .c], v22, .list true (a.inner.map Wire.cells)) :: K0) ((n9, 2) :: ids0) := sp
  have hid : ∀ i ∈ ids0, H28 i = H0 i := fun i hi => (hfr30 i (by simp [hi])).trans (hid i hi)
  have hnn : n0 ≤ n29 := by omega
  have hq_n29 := hnn
  have m2_17 : H28 (n9, 2) = some ⟨6, [[int a.roots, v19, v20, int a.edges, v21, v22]]⟩ := (hfr30 _ (by simp)).trans (by simp [h1, h2, m2_17, Heap.get_set])
  simp [h1, h2, m2_17, f26, f27, GNode.cells, Wire.cells, intC, sliceC, strC, -cellsA, -one1, cA_int, cA_bool, cA_str, cA_nil, cA_agg, cA_list, cA_arr, cA_ptr, o1_int, o1_bool, o1_str, o1_nil, o1_list, o1_arr, o1_ptr]
  refine hk' _ _ _ ?_
  refine Runs.cut (fun ρ H n => ∃ (v32 : AVal) (v33 : AVal) (v34 : AVal), ρ 1 = int r25 ∧ ρ 2 = .ptr (n9, 2) 1 0 0 ∧ H (n9, 2) = some ⟨6, [[int a.roots, v19, v32, int a.edges, v33, v34]]⟩ ∧ n0 ≤ n ∧ (∀ i ∈ ids0, H i = H0 i) ∧ Sep H n ((.s [.c], v32, .list true (a.sites.map intC)) :: (.s [.c], v33, .list true (a.outer.map strC)) :: (.s [.c, .c], v34, .list true (a.inner.map Wire.cells)) :: K0) ((n9, 2) :: ids0)) (by refine ⟨v20, v21, v22, ?_, ?_, ?_, (by omega), hid, (Sep.front (K1 := [(.s [.c], v21, .list true (a.outer.map strC)), (.s [.c, .c], v22, .list true (a.inner.map Wire.cells))]) (K2 := (K0)) (Sep.front (K1 := [(.s [.c, .c], v22, .list true (a.inner.map Wire.cells)), (.s [.c], v20, .list true (a.sites.map intC))]) (K2 := (K0)) (Sep.front (K1 := [(.s [.c], v20, .list true (a.sites.map intC)), (.s [.c], v21, .list true (a.outer.map strC))]) (K2 := (K0)) sp)))⟩ <;> simp [h1, h2, m2_17, f26, f27, GNode.cells, Wire.cells, intC, sliceC, strC, -cellsA, -one1, cA_int, cA_bool, cA_str, cA_nil, cA_agg, cA_list, cA_arr, cA_ptr, o1_int, o1_bool, o1_str, o1_nil, o1_list, o1_arr, o1_ptr]) ?_
  clear h1 h2 m2_17
  rintro ρ H n35 ⟨v32, v33, v34, h1, h2, m2_17, hnn, hid, sp⟩
  have hq_n35 := hnn
  refine Runs.seqE Ty_ok (by decide) fun k' hk' => ?_
  obtain ⟨hb36, h⟩ := h
  obtain ⟨r37, er37⟩ : ∃ v : (List Int) × Int, v = markIntS a.sites r25 := ⟨_, rfl⟩
  replace h := h r37 er37
  have f38 := cell_own (Sep.cells sp)
  have f39 := cell_own (Sep.one1 sp)
  simp [h1, h2, m2_17, f38, f39, GNode.cells, Wire.cells, intC, sliceC, strC, -cellsA, -one1, cA_int, cA_bool, cA_str, cA_nil, cA_agg, cA_list, cA_arr, cA_ptr, o1_int, o1_bool, o1_str, o1_nil, o1_list, o1_arr, o1_ptr]
  refine RunK.callM (v := v32) Ty_ok (markIntS_ok a.sites r25 hb36) e43 sp (by decide) (by decide) rfl (by simp [h1, h2, m2_17, f38, f39, GNode.cells, Wire.cells, intC, sliceC, strC, -cellsA, -one1, cA_int, cA_bool, cA_str, cA_nil, cA_agg, cA_list, cA_arr, cA_ptr, o1_int, o1_bool, o1_str, o1_nil, o1_list, o1_arr, o1_ptr]) ?_
  rintro _ H40 n41 _ ⟨rfl, rfl⟩ sp hle43 hfr42
  rw [← er37] at sp
  rw [← er37]
  replace sp : Sep H40 n41 ((.s [.c], v32, .list true (r37.1.map intC)) :: (.s [.c], v33, .list true (a.outer.map strC)) :: (.s [.c, .c], v34, .list true (a.inner.map Wire.cells)) :: K0) ((n9, 2) :: ids0) := sp
  have hid : ∀ i ∈ ids0, H40 i = H0 i := fun i hi => (hfr42 i (by simp [hi])).trans (hid i hi)
  have hnn : n0 ≤ n41 := by omega
  have hq_n41 := hnn
  have m2_17 : H40 (n9, 2) = some ⟨6, [[int a.roots, v19, v32, int a.edges, v33, v34]]⟩ := (hfr42 _ (by simp)).trans (by simp [h1, h2, m2_17, Heap.get_set])
  simp [h1, h2, m2_17, f38, f39, GNode.cells, Wire.cells, intC, sliceC, strC, -cellsA, -one1, cA_int, cA_bool, cA_str, cA_nil, cA_agg, cA_list, cA_arr, cA_ptr, o1_int, o1_bool, o1_str, o1_nil, o1_list, o1_arr, o1_ptr]
  refine hk' _ _ _ ?_
  refine Runs.cut (fun ρ H n => ∃ (v44 : AVal) (v45 : AVal) (v46 : AVal), ρ 1 = int r37.2 ∧ ρ 2 = .ptr (n9, 2) 1 0 0 ∧ H (n9, 2) = some ⟨6, [[int a.roots, v19, v44, int a.edges, v45, v46]]⟩ ∧ n0 ≤ n ∧ (∀ i ∈ ids0, H i = H0 i) ∧ Sep H n ((.s [.c], v44, .list true (r37.1.map intC)) :: (.s [.c], v45, .list true (a.outer.map strC)) :: (.s [.c, .c], v46, .list true (a.inner.map Wire.cells)) :: K0) ((n9, 2) :: ids0)) (by refine ⟨v32, v33, v34, ?_, ?_, ?_, (by omega), hid, (Sep.front (K1 := [(.s [.c], v33, .list true (a.outer.map strC)), (.s [.c, .c], v34, .list true (a.inner.map Wire.cells))]) (K2 := (K0)) (Sep.front (K1 := [(.s [.c, .c], v34, .list true (a.inner.map Wire.cells)), (.s [.c], v32, .list true (r37.1.map intC))]) (K2 := (K0)) (Sep.front (K1 := [(.s [.c], v32, .list true (r37.1.map intC)), (.s [.c], v33, .list true (a.outer.map strC))]) (K2 := (K0)) sp)))⟩ <;> simp [h1, h2, m2_17, f38, f39, GNode.cells, Wire.cells, intC, sliceC, strC, -cellsA, -one1, cA_int, cA_bool, cA_str, cA_nil, cA_agg, cA_list, cA_arr, cA_ptr, o1_int, o1_bool, o1_str, o1_nil, o1_list, o1_arr, o1_ptr]) ?_
  clear h1 h2 m2_17
  rintro ρ H n47 ⟨v44, v45, v46, h1, h2, m2_17, hnn, hid, sp⟩
  have hq_n47 := hnn
  refine Runs.seqE Ty_ok (by decide) fun k' hk' => ?_
  obtain ⟨hb48, h⟩ := h
  obtain ⟨r49, er49⟩ : ∃ v : (List Str) × Int, v = markStringS a.outer r37.2 := ⟨_, rfl⟩
  replace h := h r49 er49
  have f50 := cell_own (Sep.cells (Sep.front (K1 := [(.s [.c], v44, .list true (r37.1.map intC))]) (K2 := ((.s [.c, .c], v46, .list true (a.inner.map Wire.cells)) :: K0)) sp))
  have f51 := cell_own (Sep.one1 (Sep.front (K1 := [(.s [.c], v44, .list true (r37.1.map intC))]) (K2 := ((.s [.c, .c], v46, .list true (a.inner.map Wire.cells)) :: K0)) sp))
  simp [h1, h2, m2_17, f50, f51, GNode.cells, Wire.cells, intC, sliceC, strC, -cellsA, -one1, cA_int, cA_bool, cA_str, cA_nil, cA_agg, cA_list, cA_arr, cA_ptr, o1_int, o1_bool, o1_str, o1_nil, o1_list, o1_arr, o1_ptr]
  refine RunK.callM (v := v45) Ty_ok (markStringS_ok a.outer r37.2 hb48) e101 (Sep.front (K1 := [(.s [.c], v44, .list true (r37.1.map intC))]) (K2 := ((.s [.c, .c], v46, .list true (a.inner.map Wire.cells)) :: K0)) sp) (by decide) (by decide) rfl (by simp [h1, h2, m2_17, f50, f51, GNode.cells, Wire.cells, intC, sliceC, strC, -cellsA, -one1, cA_int, cA_bool, cA_str, cA_nil, cA_agg, cA_list, cA_arr, cA_ptr, o1_int, o1_bool, o1_str, o1_nil, o1_list, o1_arr, o1_ptr]) ?_
  rintro _ H52 n53 _ ⟨rfl, rfl⟩ sp hle55 hfr54
  rw [← er49] at sp
  rw [← er49]
  replace sp : Sep H52 n53 ((.s [.c], v45, .list true (r49.1.map strC)) :: (.s [.c], v44, .list true (r37.1.map intC)) :: (.s [.c, .c], v46, .list true (a.inner.map Wire.cells)) :: K0) ((n9, 2) :: ids0) := sp
  have hid : ∀ i ∈ ids0, H52 i = H0 i := fun i hi => (hfr54 i (by simp [hi])).trans (hid i hi)
  have hnn : n0 ≤ n53 := by omega
  have hq_n53 := hnn
  have m2_17 : H52 (n9, 2) = some ⟨6, [[int a.roots, v19, v44, int a.edges, v45, v46]]⟩ := (hfr54 _ (by simp)).trans (by simp [h1, h2, m2_17, Heap.get_set])
  simp [h1, h2, m2_17, f50, f51, GNode.cells, Wire.cells, intC, sliceC, strC, -cellsA, -one1, cA_int, cA_bool, cA_str, cA_nil, cA_agg, cA_list, cA_arr, cA_ptr, o1_int, o1_bool, o1_str, o1_nil, o1_list, o1_arr, o1_ptr]
  refine hk' _ _ _ ?_
  refine Runs.cut (fun ρ H n => ∃ (v56 : AVal) (v57 : AVal) (v58 : AVal), ρ 1 = int r49.2 ∧ ρ 2 = .ptr (n9, 2) 1 0 0 ∧ H (n9, 2) = some ⟨6, [[int a.roots, v19, v57, int a.edges, v56, v58]]⟩ ∧ n0 ≤ n ∧ (∀ i ∈ ids0, H i = H0 i) ∧ Sep H n ((.s [.c], v56, .list true (r49.1.map strC)) :: (.s [.c], v57, .list true (r37.1.map intC)) :: (.s [.c, .c], v58, .list true (a.inner.map Wire.cells)) :: K0) ((n9, 2) :: ids0)) (by refine ⟨v45, v44, v46, ?_, ?_, ?_, (by omega), hid, (Sep.front (K1 := [(.s [.c], v44, .list true (r37.1.map intC)), (.s [.c, .c], v46, .list true (a.inner.map Wire.cells))]) (K2 := (K0)) (Sep.front (K1 := [(.s [.c, .c], v46, .list true (a.inner.map Wire.cells)), (.s [.c], v45, .list true (r49.1.map strC))]) (K2 := (K0)) (Sep.front (K1 := [(.s [.c], v45, .list true (r49.1.map strC)), (.s [.c], v44, .list true (r37.1.map intC))]) (K2 := (K0)) sp)))⟩ <;> simp [h1, h2, m2_17, f50, f51, GNode.cells, Wire.cells, intC, sliceC, strC, -cellsA, -one1, cA_int, cA_bool, cA_str, cA_nil, cA_agg, cA_list, cA_arr, cA_ptr, o1_int, o1_bool, o1_str, o1_nil, o1_list, o1_arr, o1_ptr]) ?_
  clear h1 h2 m2_17
  rintro ρ H n59 ⟨v56, v57, v58, h1, h2, m2_17, hnn, hid, sp⟩
  have hq_n59 := hnn
  refine Runs.seqE Ty_ok (by decide) fun k' hk' => ?_
  obtain ⟨hb60, h⟩ := h
  obtain ⟨r61, er61⟩ : ∃ v : (List Wire) × Int, v = markWireS a.inner r49.2 := ⟨_, rfl⟩
  replace h := h r61 er61
  have f62 := cell_own (Sep.cells (Sep.front (K1 := [(.s [.c], v56, .list true (r49.1.map strC)), (.s [.c], v57, .list true (r37.1.map intC))]) (K2 := (K0)) sp))
  have f63 := cell_own (Sep.one1 (Sep.front (K1 := [(.s [.c], v56, .list true (r49.1.map strC)), (.s [.c], v57, .list true (r37.1.map intC))]) (K2 := (K0)) sp))
  simp [h1, h2, m2_17, f62, f63, GNode.cells, Wire.cells, intC, sliceC, strC, -cellsA, -one1, cA_int, cA_bool, cA_str, cA_nil, cA_agg, cA_list, cA_arr, cA_ptr, o1_int, o1_bool, o1_str, o1_nil, o1_list, o1_arr, o1_ptr]
  refine RunK.callM (v := v58) Ty_ok (markWireS_ok a.inner r49.2 hb60) e102 (Sep.front (K1 := [(.s [.c], v56, .list true (r49.1.map strC)), (.s [.c], v57, .list true (r37.1.map intC))]) (K2 := (K0)) sp) (by decide) (by decide) rfl (by simp [h1, h2, m2_17, f62, f63, GNode.cells, Wire.cells, intC, sliceC, strC, -cellsA, -one1, cA_int, cA_bool, cA_str, cA_nil, cA_agg, cA_list, cA_arr, cA_ptr, o1_int, o1_bool, o1_str, o1_nil, o1_list, o1_arr, o1_ptr]) ?_
  rintro _ H64 n65 _ ⟨rfl, rfl⟩ sp hle67 hfr66
  rw [← er61] at sp
  rw [← er61]
  replace sp : Sep H64 n65 ((.s [.c, .c], v58, .list true (r61.1.map Wire.cells)) :: (.s [.c], v56, .list true (r49.1.map strC)) :: (.s [.c], v57, .list true (r37.1.map intC)) :: K0) ((n9, 2) :: ids0) := sp
  have hid : ∀ i ∈ ids0, H64 i = H0 i := fun i hi => (hfr66 i (by simp [hi])).trans (hid i hi)
  have hnn : n0 ≤ n65 := by omega
  have hq_n65 := hnn
  have m2_17 : H64 (n9, 2) = some ⟨6, [[int a.roots, v19, v57, int a.edges, v56, v58]]⟩ := (hfr66 _ (by simp)).trans (by simp [h1, h2, m2_17, Heap.get_set])
  simp [h1, h2, m2_17, f62, f63, GNode.cells, Wire.cells, intC, sliceC, strC, -cellsA, -one1, cA_int, cA_bool, cA_str, cA_nil, cA_agg, cA_list, cA_arr, cA_ptr, o1_int, o1_bool, o1_str, o1_nil, o1_list, o1_arr, o1_ptr]
  refine hk' _ _ _ ?_
  refine Runs.cut (fun ρ H n => ρ 1 = int r61.2 ∧ n0 ≤ n ∧ (∀ i ∈ ids0, H i = H0 i) ∧ Sep H n (K0) (ids0)) (by refine ⟨?_, (by omega), hid, (Sep.sub (Sep.right (K1 := [(.s [.c], v57, .list true (r37.1.map intC))]) (K2 := (K0)) (Sep.right (K1 := [(.s [.c], v56, .list true (r49.1.map strC))]) (K2 := ((.s [.c], v57, .list true (r37.1.map intC)) :: K0)) (Sep.right (K1 := [(.s [.c, .c], v58, .list true (r61.1.map Wire.cells))]) (K2 := ((.s [.c], v56, .list true (r49.1.map strC)) :: (.s [.c], v57, .list true (r37.1.map intC)) :: K0)) sp))) (by simp +contextual))⟩ <;> simp [h1, h2, m2_17, f62, f63, GNode.cells, Wire.cells, intC, sliceC, strC, -cellsA, -one1, cA_int, cA_bool, cA_str, cA_nil, cA_agg, cA_list, cA_arr, cA_ptr, o1_int, o1_bool, o1_str, o1_nil, o1_list, o1_arr, o1_ptr]) ?_
  clear h1 h2 m2_17
  rintro ρ H n68 ⟨h1, hnn, hid, sp⟩
  have hq_n68 := hnn
  refine Runs.seqE Ty_ok (by decide) fun k' hk' => ?_
  simp [h1, GNode.cells, Wire.cells, intC, sliceC, strC]
  refine hk' _ _ _ ?_
  exact Runs.ret1 (v := int r61.2) Tryd.func42 Tryd.results42 (by simp [h1, GNode.cells, Wire.cells, intC, sliceC, strC]) (hQ _ _ _ (Sep.sub sp (by simp +contextual)) hid (by omega) ⟨r61.2, h, rfl⟩)

theorem markBigraph_ok (a : Big) (k_ : Int) (hp : markBigraph_pre a k_) : EatS Tryd.prog 42 (fun v => [v, int k_]) (.a [.c, .s [.c, .c, .s [.c]], .s [.c], .c, .s [.c], .s [.c, .c]]) (.agg [int a.roots, .list true (a.nodes.map (GNode.cells true)), .list true (a.sites.map intC), int a.edges, .list true (a.outer.map strC), .list true (a.inner.map Wire.cells)]) (fun r => r = int (markBigraph a k_)) := (markBigraph_walk a k_ _ (markBigraph_vc a k_ hp)).mono (by rintro _ ⟨_, rfl, rfl⟩; rfl)

theorem e8 : Ent Tryd.prog 8 := Ent.of Tryd.func8 (by kernel_rfl) rfl
theorem lawAncestorsOf_walk (aSig : List Control) (aB : Big) (aNode : Int) (Z : Bool → Prop) (h : lawAncestorsOf_wp aSig aB aNode Z) : PureC Tryd.prog 8 [.list false (aSig.map Control.cells), .agg [int aB.roots, .list false (aB.nodes.map (GNode.cells false)), .list false (aB.sites.map intC), int aB.edges, .list false (aB.outer.map strC), .list false (aB.inner.map Wire.cells)], int aNode] (fun r => ∃ y : Bool, Z y ∧ r = bool y) := by
  unfold lawAncestorsOf_wp at h
  have sp : Sep noHeap 0 [] [] := Sep.nil (by simp)
  refine PureC.of Tryd.func8 rfl Tryd.ntmps8 (by simp) fun Q hQ => ?_
  refine Runs.cut (fun ρ H n => ρ 0 = .list false (aSig.map Control.cells) ∧ ρ 1 = .agg [int aB.roots, .list false (aB.nodes.map (GNode.cells false)), .list false (aB.sites.map intC), int aB.edges, .list false (aB.outer.map strC), .list false (aB.inner.map Wire.cells)] ∧ ρ 2 = int aNode ∧ Sep H n [] []) (by refine ⟨?_, ?_, ?_, sp⟩ <;> simp [Control.cells, GNode.cells, Wire.cells, intC, sliceC, strC]) ?_
  rintro ρ H n1 ⟨h0, h1, h2, sp⟩
  refine Runs.seqE Ty_ok (by decide) fun k' hk' => ?_
  simp [h0, h1, h2, Control.cells, GNode.cells, Wire.cells, intC, sliceC, strC]
  refine hk' _ _ _ ?_
  refine Runs.cut (fun ρ H n => ρ 0 = .list false (aSig.map Control.cells) ∧ ρ 2 = int aNode ∧ ρ 4 = .ptr (n1, 4) 1 0 0 ∧ H (n1, 4) = some ⟨6, [[int aB.roots, .list false (aB.nodes.map (GNode.cells false)), .list false (aB.sites.map intC), int aB.edges, .list false (aB.outer.map strC), .list false (aB.inner.map Wire.cells)]]⟩ ∧ Sep H n [] [(n1, 4)]) (by refine ⟨?_, ?_, ?_, ?_, (Sep.var sp)⟩ <;> simp [h0, h1, h2, Control.cells, GNode.cells, Wire.cells, intC, sliceC, strC]) ?_
  clear h0 h1 h2
  rintro ρ H n3 ⟨h0, h2, h4, m4_1, sp⟩
  refine Runs.seqE Ty_ok (by decide) fun k' hk' => ?_
  simp [h0, h2, h4, m4_1, Control.cells, GNode.cells, Wire.cells, intC, sliceC, strC]
  refine hk' _ _ _ ?_
  refine Runs.seqE Ty_ok (by decide) fun k' hk' => ?_
  obtain ⟨hb4, h⟩ := h
  obtain ⟨r5, er5⟩ : ∃ v : Int, v = szS szC aSig 1048576 := ⟨_, rfl⟩
  replace h := h r5 er5
  simp [h0, h2, h4, m4_1, Control.cells, GNode.cells, Wire.cells, intC, sliceC, strC]
  refine RunK.callA Ty_ok (szControlS_ok aSig 1048576 hb4.1.1 hb4.1.2 hb4.2.len hb4.2.names) e34 (.cons (ArgOk.listF (fr := false) (els := aSig.map Control.cells) (by simp [Control.cells, strC, intC, intC])) (.cons (.v _ _ _) .nil)) (by decide) (by decide) rfl (by simp [h0, h2, h4, m4_1, Control.cells, GNode.cells, Wire.cells, intC, sliceC, strC]) ?_
  rintro _ rfl
  rw [← er5]
  simp [h0, h2, h4, m4_1, Control.cells, GNode.cells, Wire.cells, intC, sliceC, strC]
  refine hk' _ _ _ ?_
  refine Runs.seq ?_
  refine Runs.seqE Ty_ok (by decide) fun k' hk' => ?_
  obtain ⟨c6, ec6⟩ : ∃ v : Bool, v = decide (r5 < 0) := ⟨_, rfl⟩
  replace h := h c6 ec6
  have f7 := ib_lss (k := .i64) ec6
  simp [h0, h2, h4, m4_1, f7, Control.cells, GNode.cells, Wire.cells, intC, sliceC, strC, -intBin]
  refine hk' _ _ _ ?_
  refine Runs.ite (b := c6) (by simp [h0, h2, h4, m4_1, Control.cells, GNode.cells, Wire.cells, intC, sliceC, strC]) (fun dc6 => ?_) (fun dc6 => ?_)
  · replace h := h.1 dc6
    refine Runs.seqE Ty_ok (by decide) fun k' hk' => ?_
    simp [h0, h2, h4, m4_1, dc6, Control.cells, GNode.cells, Wire.cells, intC, sliceC, strC]
    refine hk' _ _ _ ?_
    exact Runs.ret1 (v := bool true) Tryd.func8 Tryd.results8 (by simp [h0, h2, h4, m4_1, dc6, Control.cells, GNode.cells, Wire.cells, intC, sliceC, strC]) (hQ _ _ _ _ (.of (.v _)) ⟨true, h, rfl⟩)
  · replace h := h.2 dc6
    refine Runs.skip ?_
    refine Runs.seqE Ty_ok (by decide) fun k' hk' => ?_
    obtain ⟨hb8, h⟩ := h
    obtain ⟨r9, er9⟩ : ∃ v : Int, v = szB aB r5 := ⟨_, rfl⟩
    replace h := h r9 er9
    simp [h0, h2, h4, m4_1, dc6, Control.cells, GNode.cells, Wire.cells, intC, sliceC, strC]
    refine RunK.callA Ty_ok (szBigraph_ok aB r5 hb8.1.1 hb8.1.2 hb8.2) e35 (.cons (ArgOk.agg (.cons (.v _ _ _) (.cons (ArgOk.nest_Node false aB.nodes) (.cons (ArgOk.listF (fr := false) (els := aB.sites.map intC) (by simp [intC])) (.cons (.v _ _ _) (.cons (ArgOk.listF (fr := false) (els := aB.outer.map strC) (by simp [strC])) (.cons (ArgOk.listF (fr := false) (els := aB.inner.map Wire.cells) (by simp [Wire.cells, strC, intC])) .nil))))))) (.cons (.v _ _ _) .nil)) (by decide) (by decide) rfl (by simp [h0, h2, h4, m4_1, dc6, Control.cells, GNode.cells, Wire.cells, intC, sliceC, strC]) ?_
    rintro _ rfl
    rw [← er9]
    simp [h0, h2, h4, m4_1, dc6, Control.cells, GNode.cells, Wire.cells, intC, sliceC, strC]
    refine hk' _ _ _ ?_
    refine Runs.seq ?_
    refine Runs.seqE Ty_ok (by decide) fun k' hk' => ?_
    obtain ⟨c10, ec10⟩ : ∃ v : Bool, v = decide (r9 < 0) := ⟨_, rfl⟩
    replace h := h c10 ec10
    have f11 := ib_lss (k := .i64) ec10
    simp [h0, h2, h4, m4_1, f11, dc6, Control.cells, GNode.cells, Wire.cells, intC, sliceC, strC, -intBin]
    refine hk' _ _ _ ?_
    refine Runs.ite (b := c10) (by simp [h0, h2, h4, m4_1, dc6, Control.cells, GNode.cells, Wire.cells, intC, sliceC, strC]) (fun dc10 => ?_) (fun dc10 => ?_)
    · replace h := h.1 dc10
      refine Runs.seqE Ty_ok (by decide) fun k' hk' => ?_
      simp [h0, h2, h4, m4_1, dc6, dc10, Control.cells, GNode.cells, Wire.cells, intC, sliceC, strC]
      refine hk' _ _ _ ?_
      exact Runs.ret1 (v := bool true) Tryd.func8 Tryd.results8 (by simp [h0, h2, h4, m4_1, dc6, dc10, Control.cells, GNode.cells, Wire.cells, intC, sliceC, strC]) (hQ _ _ _ _ (.of (.v _)) ⟨true, h, rfl⟩)
    · replace h := h.2 dc10
      refine Runs.skip ?_
      refine Runs.seqD Ty_ok kindOp_ok draws (by decide) (by kernel_rfl) fun k' hk' => ?_
      obtain ⟨hb12, h⟩ := h
      obtain ⟨r13, er13⟩ : ∃ v : List Control, v = toControlS aSig := ⟨_, rfl⟩
      replace h := h r13 er13
      simp [h0, h2, h4, m4_1, dc6, dc10, Control.cells, GNode.cells, Wire.cells, intC, sliceC, strC]
      refine RunDK.callA Ty_ok kindOp_ok ((toControlS_ok aSig hb12).pure) e36 (.cons (ArgOk.listF (fr := false) (els := aSig.map Control.cells) (by simp [Control.cells, strC, intC, intC])) .nil) (by decide) rfl (by simp [h0, h2, h4, m4_1, dc6, dc10, Control.cells, GNode.cells, Wire.cells, intC, sliceC, strC]) ?_
      rw [← er13]
      obtain ⟨hb14, h⟩ := h
      obtain ⟨r15, er15⟩ : ∃ v : Big, v = toBigraph aB := ⟨_, rfl⟩
      replace h := h r15 er15
      simp [h0, h2, h4, m4_1, dc6, dc10, Control.cells, GNode.cells, Wire.cells, intC, sliceC, strC]
      refine RunDK.callA Ty_ok kindOp_ok ((toBigraph_ok aB hb14).pure) e37 (.cons (ArgOk.agg (.cons (.v _ _ _) (.cons (ArgOk.nest_Node false aB.nodes) (.cons (ArgOk.listF (fr := false) (els := aB.sites.map intC) (by simp [intC])) (.cons (.v _ _ _) (.cons (ArgOk.listF (fr := false) (els := aB.outer.map strC) (by simp [strC])) (.cons (ArgOk.listF (fr := false) (els := aB.inner.map Wire.cells) (by simp [Wire.cells, strC, intC])) .nil))))))) .nil) (by decide) rfl (by simp [h0, h2, h4, m4_1, dc6, dc10, Control.cells, GNode.cells, Wire.cells, intC, sliceC, strC]) ?_
      rw [← er15]
      obtain ⟨hb16, h⟩ := h
      obtain ⟨r17, er17⟩ : ∃ v : (List Int) × Bool, v = sAncestorsOf r13 r15 aNode := ⟨_, rfl⟩
      replace h := h r17 er17
      simp [h0, h2, h4, m4_1, dc6, dc10, Control.cells, GNode.cells, Wire.cells, intC, sliceC, strC]
      refine RunDK.callA Ty_ok kindOp_ok ((sAncestorsOf_ok r13 r15 aNode hb16).pure) e32 (.cons (ArgOk.listF (fr := true) (els := r13.map Control.cells) (by simp [Control.cells, strC, intC, intC])) (.cons (ArgOk.agg (.cons (.v _ _ _) (.cons (ArgOk.nest_Node true r15.nodes) (.cons (ArgOk.listF (fr := true) (els := r15.sites.map intC) (by simp [intC])) (.cons (.v _ _ _) (.cons (ArgOk.listF (fr := true) (els := r15.outer.map strC) (by simp [strC])) (.cons (ArgOk.listF (fr := true) (els := r15.inner.map Wire.cells) (by simp [Wire.cells, strC, intC])) .nil))))))) (.cons (.v _ _ _) .nil))) (by decide) rfl (by simp [h0, h2, h4, m4_1, dc6, dc10, Control.cells, GNode.cells, Wire.cells, intC, sliceC, strC]) ?_
      rw [← er17]
      simp [h0, h2, h4, m4_1, dc6, dc10, Control.cells, GNode.cells, Wire.cells, intC, sliceC, strC]
      refine hk' _ _ _ ?_
      refine Runs.cut (fun ρ H n => ρ 0 = .list false (aSig.map Control.cells) ∧ ρ 2 = int aNode ∧ ρ 4 = .ptr (n1, 4) 1 0 0 ∧ ρ 8 = .list true (r17.1.map intC) ∧ ρ 9 = bool r17.2 ∧ H (n1, 4) = some ⟨6, [[int aB.roots, .list false (aB.nodes.map (GNode.cells false)), .list false (aB.sites.map intC), int aB.edges, .list false (aB.outer.map strC), .list false (aB.inner.map Wire.cells)]]⟩ ∧ Sep H n [] [(n1, 4)]) (by refine ⟨?_, ?_, ?_, ?_, ?_, ?_, sp⟩ <;> simp [h0, h2, h4, m4_1, dc6, dc10, Control.cells, GNode.cells, Wire.cells, intC, sliceC, strC]) ?_
      clear h0 h2 h4 m4_1
      rintro ρ H n18 ⟨h0, h2, h4, h8, h9, m4_1, sp⟩
      refine Runs.seqE Ty_ok (by decide) fun k' hk' => ?_
      obtain ⟨hb19, h⟩ := h
      obtain ⟨r20, er20⟩ : ∃ v : List Control, v = toControlS aSig := ⟨_, rfl⟩
      replace h := h r20 er20
      simp [h0, h2, h4, h8, h9, m4_1, dc6, dc10, Control.cells, GNode.cells, Wire.cells, intC, sliceC, strC]
      refine RunK.callW Ty_ok (toControlS_ok aSig hb19) e36 (.cons (ArgOk.listF (fr := false) (els := aSig.map Control.cells) (by simp [Control.cells, strC, intC, intC])) .nil) sp (by decide) (by decide) rfl (by simp [h0, h2, h4, h8, h9, m4_1, dc6, dc10, Control.cells, GNode.cells, Wire.cells, intC, sliceC, strC]) ?_
      rintro v21 H22 n23 _ sp rfl hle25 hfr24
      rw [← er20] at sp
      have m4_1 : H22 (n1, 4) = some ⟨6, [[int aB.roots, .list false (aB.nodes.map (GNode.cells false)), .list false (aB.sites.map intC), int aB.edges, .list false (aB.outer.map strC), .list false (aB.inner.map Wire.cells)]]⟩ := (hfr24 _ (by simp)).trans (by simp [h0, h2, h4, h8, h9, m4_1, Heap.get_set])
      simp [h0, h2, h4, h8, h9, m4_1, dc6, dc10, Control.cells, GNode.cells, Wire.cells, intC, sliceC, strC]
      refine hk' _ _ _ ?_
      refine Runs.cut (fun ρ H n => ∃ (v27 : AVal), ρ 0 = .list false (aSig.map Control.cells) ∧ ρ 2 = int aNode ∧ ρ 4 = .ptr (n1, 4) 1 0 0 ∧ ρ 8 = .list true (r17.1.map intC) ∧ ρ 9 = bool r17.2 ∧ ρ 10 = v27 ∧ H (n1, 4) = some ⟨6, [[int aB.roots, .list false (aB.nodes.map (GNode.cells false)), .list false (aB.sites.map intC), int aB.edges, .list false (aB.outer.map strC), .list false (aB.inner.map Wire.cells)]]⟩ ∧ Sep H n [(.s [.c, .c, .c], v27, .list true (r20.map Control.cells))] [(n1, 4)]) (by refine ⟨v21, ?_, ?_, ?_, ?_, ?_, ?_, ?_, sp⟩ <;> simp [h0, h2, h4, h8, h9, m4_1, dc6, dc10, Control.cells, GNode.cells, Wire.cells, intC, sliceC, strC]) ?_
      clear h0 h2 h4 h8 h9 m4_1
      rintro ρ H n28 ⟨v27, h0, h2, h4, h8, h9, h10, m4_1, sp⟩
      refine Runs.seqE Ty_ok (by decide) fun k' hk' => ?_
      obtain ⟨hb29, h⟩ := h
      obtain ⟨r30, er30⟩ : ∃ v : Big, v = toBigraph aB := ⟨_, rfl⟩
      replace h := h r30 er30
      simp [h0, h2, h4, h8, h9, h10, m4_1, dc6, dc10, Control.cells, GNode.cells, Wire.cells, intC, sliceC, strC]
      refine RunK.callW Ty_ok (toBigraph_ok aB hb29) e37 (.cons (ArgOk.agg (.cons (.v _ _ _) (.cons (ArgOk.nest_Node false aB.nodes) (.cons (ArgOk.listF (fr := false) (els := aB.sites.map intC) (by simp [intC])) (.cons (.v _ _ _) (.cons (ArgOk.listF (fr := false) (els := aB.outer.map strC) (by simp [strC])) (.cons (ArgOk.listF (fr := false) (els := aB.inner.map Wire.cells) (by simp [Wire.cells, strC, intC])) .nil))))))) .nil) sp (by decide) (by decide) rfl (by simp [h0, h2, h4, h8, h9, h10, m4_1, dc6, dc10, Control.cells, GNode.cells, Wire.cells, intC, sliceC, strC]) ?_
      rintro v31 H32 n33 _ sp rfl hle35 hfr34
      rw [← er30] at sp
      have m4_1 : H32 (n1, 4) = some ⟨6, [[int aB.roots, .list false (aB.nodes.map (GNode.cells false)), .list false (aB.sites.map intC), int aB.edges, .list false (aB.outer.map strC), .list false (aB.inner.map Wire.cells)]]⟩ := (hfr34 _ (by simp)).trans (by simp [h0, h2, h4, h8, h9, h10, m4_1, Heap.get_set])
      replace sp := Sep.unpack sp
      obtain ⟨L42, hv, hl43, sp⟩ := sp
      subst hv
      obtain ⟨v36, v37, v38, v39, v40, v41, hv⟩ := len6 (by simpa using hl43)
      subst hv
      simp only [zip3, List.cons_append, List.nil_append] at sp
      replace sp := Sep.scalar sp
      obtain ⟨hv, sp⟩ := sp
      subst hv
      replace sp := Sep.rot sp
      simp only [List.cons_append, List.nil_append] at sp
      replace sp := Sep.rot sp
      simp only [List.cons_append, List.nil_append] at sp
      replace sp := Sep.scalar sp
      obtain ⟨hv, sp⟩ := sp
      subst hv
      replace sp := Sep.rot sp
      simp only [List.cons_append, List.nil_append] at sp
      replace sp := Sep.rot sp
      simp only [List.cons_append, List.nil_append] at sp
      replace sp : Sep H32 n33 [(.s [.c, .c, .c], v27, .list true (r20.map Control.cells)), (.s [.c, .c, .s [.c]], v37, .list true (r30.nodes.map (GNode.cells true))), (.s [.c], v38, .list true (r30.sites.map intC)), (.s [.c], v40, .list true (r30.outer.map strC)), (.s [.c, .c], v41, .list true (r30.inner.map Wire.cells))] [(n1, 4)] := sp
      have f49 := cell_own (Sep.cells (Sep.front (K1 := [(.s [.c, .c, .c], v27, .list true (r20.map Control.cells))]) (K2 := [(.s [.c], v38, .list true (r30.sites.map intC)), (.s [.c], v40, .list true (r30.outer.map strC)), (.s [.c, .c], v41, .list true (r30.inner.map Wire.cells))]) sp))
      have f50 := cell_own (Sep.one1 (Sep.front (K1 := [(.s [.c, .c, .c], v27, .list true (r20.map Control.cells))]) (K2 := [(.s [.c], v38, .list true (r30.sites.map intC)), (.s [.c], v40, .list true (r30.outer.map strC)), (.s [.c, .c], v41, .list true (r30.inner.map Wire.cells))]) sp))
      have f51 := cell_own (Sep.cells (Sep.front (K1 := [(.s [.c, .c, .c], v27, .list true (r20.map Control.cells)), (.s [.c, .c, .s [.c]], v37, .list true (r30.nodes.map (GNode.cells true)))]) (K2 := [(.s [.c], v40, .list true (r30.outer.map strC)), (.s [.c, .c], v41, .list true (r30.inner.map Wire.cells))]) sp))
      have f52 := cell_own (Sep.one1 (Sep.front (K1 := [(.s [.c, .c, .c], v27, .list true (r20.map Control.cells)), (.s [.c, .c, .s [.c]], v37, .list true (r30.nodes.map (GNode.cells true)))]) (K2 := [(.s [.c], v40, .list true (r30.outer.map strC)), (.s [.c, .c], v41, .list true (r30.inner.map Wire.cells))]) sp))
      have f53 := cell_own (Sep.cells (Sep.front (K1 := [(.s [.c, .c, .c], v27, .list true (r20.map Control.cells)), (.s [.c, .c, .s [.c]], v37, .list true (r30.nodes.map (GNode.cells true))), (.s [.c], v38, .list true (r30.sites.map intC))]) (K2 := [(.s [.c, .c], v41, .list true (r30.inner.map Wire.cells))]) sp))
      have f54 := cell_own (Sep.one1 (Sep.front (K1 := [(.s [.c, .c, .c], v27, .list true (r20.map Control.cells)), (.s [.c, .c, .s [.c]], v37, .list true (r30.nodes.map (GNode.cells true))), (.s [.c], v38, .list true (r30.sites.map intC))]) (K2 := [(.s [.c, .c], v41, .list true (r30.inner.map Wire.cells))]) sp))
      have f55 := cell_own (Sep.cells (Sep.front (K1 := [(.s [.c, .c, .c], v27, .list true (r20.map Control.cells)), (.s [.c, .c, .s [.c]], v37, .list true (r30.nodes.map (GNode.cells true))), (.s [.c], v38, .list true (r30.sites.map intC)), (.s [.c], v40, .list true (r30.outer.map strC))]) (K2 := []) sp))
      have f56 := cell_own (Sep.one1 (Sep.front (K1 := [(.s [.c, .c, .c], v27, .list true (r20.map Control.cells)), (.s [.c, .c, .s [.c]], v37, .list true (r30.nodes.map (GNode.cells true))), (.s [.c], v38, .list true (r30.sites.map intC)), (.s [.c], v40, .list true (r30.outer.map strC))]) (K2 := []) sp))
      simp [h0, h2, h4, h8, h9, h10, m4_1, f49, f50, f51, f52, f53, f54, f55, f56, dc6, dc10, Control.cells, GNode.cells, Wire.cells, intC, sliceC, strC, -cellsA, -one1, cA_int, cA_bool, cA_str, cA_nil, cA_agg, cA_list, cA_arr, cA_ptr, o1_int, o1_bool, o1_str, o1_nil, o1_list, o1_arr, o1_ptr]
      refine hk' _ _ _ ?_
      refine Runs.cut (fun ρ H n => ∃ (v57 : AVal) (v58 : AVal) (v59 : AVal) (v60 : AVal) (v61 : AVal), ρ 0 = .list false (aSig.map Control.cells) ∧ ρ 2 = int aNode ∧ ρ 4 = .ptr (n1, 4) 1 0 0 ∧ ρ 8 = .list true (r17.1.map intC) ∧ ρ 9 = bool r17.2 ∧ ρ 10 = v57 ∧ ρ 11 = .ptr (n33, 11) 1 0 0 ∧ H (n1, 4) = some ⟨6, [[int aB.roots, .list false (aB.nodes.map (GNode.cells false)), .list false (aB.sites.map intC), int aB.edges, .list false (aB.outer.map strC), .list false (aB.inner.map Wire.cells)]]⟩ ∧ H (n33, 11) = some ⟨6, [[int r30.roots, v58, v59, int r30.edges, v60, v61]]⟩ ∧ Sep H n [(.s [.c, .c, .c], v57, .list true (r20.map Control.cells)), (.s [.c, .c, .s [.c]], v58, .list true (r30.nodes.map (GNode.cells true))), (.s [.c], v59, .list true (r30.sites.map intC)), (.s [.c], v60, .list true (r30.outer.map strC)), (.s [.c, .c], v61, .list true (r30.inner.map Wire.cells))] [(n33, 11), (n1, 4)]) (by refine ⟨v27, v37, v38, v40, v41, ?_, ?_, ?_, ?_, ?_, ?_, ?_, ?_, ?_, (Sep.front (K1 := [(.s [.c, .c, .s [.c]], v37, .list true (r30.nodes.map (GNode.cells true))), (.s [.c], v38, .list true (r30.sites.map intC)), (.s [.c], v40, .list true (r30.outer.map strC)), (.s [.c, .c], v41, .list true (r30.inner.map Wire.cells))]) (K2 := []) (Sep.front (K1 := [(.s [.c], v38, .list true (r30.sites.map intC)), (.s [.c], v40, .list true (r30.outer.map strC)), (.s [.c, .c], v41, .list true (r30.inner.map Wire.cells)), (.s [.c, .c, .c], v27, .list true (r20.map Control.cells))]) (K2 := []) (Sep.front (K1 := [(.s [.c], v40, .list true (r30.outer.map strC)), (.s [.c, .c], v41, .list true (r30.inner.map Wire.cells)), (.s [.c, .c, .c], v27, .list true (r20.map Control.cells)), (.s [.c, .c, .s [.c]], v37, .list true (r30.nodes.map (GNode.cells true)))]) (K2 := []) (Sep.front (K1 := [(.s [.c, .c], v41, .list true (r30.inner.map Wire.cells)), (.s [.c, .c, .c], v27, .list true (r20.map Control.cells)), (.s [.c, .c, .s [.c]], v37, .list true (r30.nodes.map (GNode.cells true))), (.s [.c], v38, .list true (r30.sites.map intC))]) (K2 := []) (Sep.front (K1 := [(.s [.c, .c, .c], v27, .list true (r20.map Control.cells)), (.s [.c, .c, .s [.c]], v37, .list true (r30.nodes.map (GNode.cells true))), (.s [.c], v38, .list true (r30.sites.map intC)), (.s [.c], v40, .list true (r30.outer.map strC))]) (K2 := []) (Sep.var sp))))))⟩ <;> simp [h0, h2, h4, h8, h9, h10, m4_1, f49, f50, f51, f52, f53, f54, f55, f56, dc6, dc10, Control.cells, GNode.cells, Wire.cells, intC, sliceC, strC, -cellsA, -one1, cA_int, cA_bool, cA_str, cA_nil, cA_agg, cA_list, cA_arr, cA_ptr, o1_int, o1_bool, o1_str, o1_nil, o1_list, o1_arr, o1_ptr]) ?_
      clear h0 h2 h4 h8 h9 h10 m4_1
      rintro ρ H n62 ⟨v57, v58, v59, v60, v61, h0, h2, h4, h8, h9, h10, h11, m4_1, m11_47, sp⟩
      refine Runs.seqE Ty_ok (by decide) fun k' hk' => ?_
      obtain ⟨hb63, h⟩ := h
      obtain ⟨r64, er64⟩ : ∃ v : (List Int) × Bool, v = AncestorsOf r20 r30 aNode := ⟨_, rfl⟩
      replace h := h r64 er64
      simp [h0, h2, h4, h8, h9, h10, h11, m4_1, m11_47, dc6, dc10, Control.cells, GNode.cells, Wire.cells, intC, sliceC, strC]
      refine RunK.callW Ty_ok (AncestorsOf_ok r20 r30 aNode hb63) e31 (.cons (Sep.argOk' sp (old_listF (by simp [Control.cells, strC, intC, intC]))) (.cons (ArgOk.agg (.cons (.v _ _ _) (.cons (Sep.argOk' (Sep.front (K1 := [(.s [.c, .c, .c], v57, .list true (r20.map Control.cells))]) (K2 := [(.s [.c], v59, .list true (r30.sites.map intC)), (.s [.c], v60, .list true (r30.outer.map strC)), (.s [.c, .c], v61, .list true (r30.inner.map Wire.cells))]) sp) (old_nest_Node true r30.nodes)) (.cons (Sep.argOk' (Sep.front (K1 := [(.s [.c, .c, .c], v57, .list true (r20.map Control.cells)), (.s [.c, .c, .s [.c]], v58, .list true (r30.nodes.map (GNode.cells true)))]) (K2 := [(.s [.c], v60, .list true (r30.outer.map strC)), (.s [.c, .c], v61, .list true (r30.inner.map Wire.cells))]) sp) (old_listF (by simp [intC]))) (.cons (.v _ _ _) (.cons (Sep.argOk' (Sep.front (K1 := [(.s [.c, .c, .c], v57, .list true (r20.map Control.cells)), (.s [.c, .c, .s [.c]], v58, .list true (r30.nodes.map (GNode.cells true))), (.s [.c], v59, .list true (r30.sites.map intC))]) (K2 := [(.s [.c, .c], v61, .list true (r30.inner.map Wire.cells))]) sp) (old_listF (by simp [strC]))) (.cons (Sep.argOk' (Sep.front (K1 := [(.s [.c, .c, .c], v57, .list true (r20.map Control.cells)), (.s [.c, .c, .s [.c]], v58, .list true (r30.nodes.map (GNode.cells true))), (.s [.c], v59, .list true (r30.sites.map intC)), (.s [.c], v60, .list true (r30.outer.map strC))]) (K2 := []) sp) (old_listF (by simp [Wire.cells, strC, intC]))) .nil))))))) (.cons (.v _ _ _) .nil))) sp (by decide) (by decide) rfl (by simp [h0, h2, h4, h8, h9, h10, h11, m4_1, m11_47, dc6, dc10, Control.cells, GNode.cells, Wire.cells, intC, sliceC, strC]) ?_
      rintro v65 H66 n67 _ sp rfl hle69 hfr68
      rw [← er64] at sp
      have m4_1 : H66 (n1, 4) = some ⟨6, [[int aB.roots, .list false (aB.nodes.map (GNode.cells false)), .list false (aB.sites.map intC), int aB.edges, .list false (aB.outer.map strC), .list false (aB.inner.map Wire.cells)]]⟩ := (hfr68 _ (by simp)).trans (by simp [h0, h2, h4, h8, h9, h10, h11, m4_1, m11_47, Heap.get_set])
      have m11_47 : H66 (n33, 11) = some ⟨6, [[int r30.roots, v58, v59, int r30.edges, v60, v61]]⟩ := (hfr68 _ (by simp)).trans (by simp [h0, h2, h4, h8, h9, h10, h11, m4_1, m11_47, Heap.get_set])
      replace sp := Sep.unpackT sp
      obtain ⟨L72, hv, hl73, sp⟩ := sp
      subst hv
      obtain ⟨v70, v71, hv⟩ := len2 (by simpa using hl73)
      subst hv
      simp only [zip3, List.cons_append, List.nil_append] at sp
      replace sp := Sep.rot sp
      simp only [List.cons_append, List.nil_append] at sp
      replace sp := Sep.scalar sp
      obtain ⟨hv, sp⟩ := sp
      subst hv
      replace sp : Sep H66 n67 [(.s [.c, .c, .c], v57, .list true (r20.map Control.cells)), (.s [.c, .c, .s [.c]], v58, .list true (r30.nodes.map (GNode.cells true))), (.s [.c], v59, .list true (r30.sites.map intC)), (.s [.c], v60, .list true (r30.outer.map strC)), (.s [.c, .c], v61, .list true (r30.inner.map Wire.cells)), (.s [.c], v70, .list true (r64.1.map intC))] [(n33, 11), (n1, 4)] := sp
      simp [h0, h2, h4, h8, h9, h10, h11, m4_1, m11_47, dc6, dc10, Control.cells, GNode.cells, Wire.cells, intC, sliceC, strC]
      refine hk' _ _ _ ?_
      refine Runs.cut (fun ρ H n => ∃ (v75 : AVal) (v76 : AVal) (v77 : AVal) (v78 : AVal) (v79 : AVal) (v80 : AVal), ρ 0 = .list false (aSig.map Control.cells) ∧ ρ 2 = int aNode ∧ ρ 4 = .ptr (n1, 4) 1 0 0 ∧ ρ 8 = .list true (r17.1.map intC) ∧ ρ 9 = bool r17.2 ∧ ρ 10 = v75 ∧ ρ 11 = .ptr (n33, 11) 1 0 0 ∧ ρ 12 = v80 ∧ ρ 13 = bool r64.2 ∧ H (n1, 4) = some ⟨6, [[int aB.roots, .list false (aB.nodes.map (GNode.cells false)), .list false (aB.sites.map intC), int aB.edges, .list false (aB.outer.map strC), .list false (aB.inner.map Wire.cells)]]⟩ ∧ H (n33, 11) = some ⟨6, [[int r30.roots, v76, v77, int r30.edges, v78, v79]]⟩ ∧ Sep H n [(.s [.c, .c, .c], v75, .list true (r20.map Control.cells)), (.s [.c, .c, .s [.c]], v76, .list true (r30.nodes.map (GNode.cells true))), (.s [.c], v77, .list true (r30.sites.map intC)), (.s [.c], v78, .list true (r30.outer.map strC)), (.s [.c, .c], v79, .list true (r30.inner.map Wire.cells)), (.s [.c], v80, .list true (r64.1.map intC))] [(n33, 11), (n1, 4)]) (by refine ⟨v57, v58, v59, v60, v61, v70, ?_, ?_, ?_, ?_, ?_, ?_, ?_, ?_, ?_, ?_, ?_, (Sep.front (K1 := [(.s [.c, .c, .s [.c]], v58, .list true (r30.nodes.map (GNode.cells true))), (.s [.c], v59, .list true (r30.sites.map intC)), (.s [.c], v60, .list true (r30.outer.map strC)), (.s [.c, .c], v61, .list true (r30.inner.map Wire.cells)), (.s [.c], v70, .list true (r64.1.map intC))]) (K2 := []) (Sep.front (K1 := [(.s [.c], v59, .list true (r30.sites.map intC)), (.s [.c], v60, .list true (r30.outer.map strC)), (.s [.c, .c], v61, .list true (r30.inner.map Wire.cells)), (.s [.c], v70, .list true (r64.1.map intC)), (.s [.c, .c, .c], v57, .list true (r20.map Control.cells))]) (K2 := []) (Sep.front (K1 := [(.s [.c], v60, .list true (r30.outer.map strC)), (.s [.c, .c], v61, .list true (r30.inner.map Wire.cells)), (.s [.c], v70, .list true (r64.1.map intC)), (.s [.c, .c, .c], v57, .list true (r20.map Control.cells)), (.s [.c, .c, .s [.c]], v58, .list true (r30.nodes.map (GNode.cells true)))]) (K2 := []) (Sep.front (K1 := [(.s [.c, .c], v61, .list true (r30.inner.map Wire.cells)), (.s [.c], v70, .list true (r64.1.map intC)), (.s [.c, .c, .c], v57, .list true (r20.map Control.cells)), (.s [.c, .c, .s [.c]], v58, .list true (r30.nodes.map (GNode.cells true))), (.s [.c], v59, .list true (r30.sites.map intC))]) (K2 := []) (Sep.front (K1 := [(.s [.c], v70, .list true (r64.1.map intC)), (.s [.c, .c, .c], v57, .list true (r20.map Control.cells)), (.s [.c, .c, .s [.c]], v58, .list true (r30.nodes.map (GNode.cells true))), (.s [.c], v59, .list true (r30.sites.map intC)), (.s [.c], v60, .list true (r30.outer.map strC))]) (K2 := []) (Sep.front (K1 := [(.s [.c, .c, .c], v57, .list true (r20.map Control.cells)), (.s [.c, .c, .s [.c]], v58, .list true (r30.nodes.map (GNode.cells true))), (.s [.c], v59, .list true (r30.sites.map intC)), (.s [.c], v60, .list true (r30.outer.map strC)), (.s [.c, .c], v61, .list true (r30.inner.map Wire.cells))]) (K2 := []) sp))))))⟩ <;> simp [h0, h2, h4, h8, h9, h10, h11, m4_1, m11_47, dc6, dc10, Control.cells, GNode.cells, Wire.cells, intC, sliceC, strC]) ?_
      clear h0 h2 h4 h8 h9 h10 h11 m4_1 m11_47
      rintro ρ H n81 ⟨v75, v76, v77, v78, v79, v80, h0, h2, h4, h8, h9, h10, h11, h12, h13, m4_1, m11_47, sp⟩
      refine Runs.seq ?_
      refine Runs.seqE Ty_ok (by decide) fun k' hk' => ?_
      obtain ⟨J82, hJ83, hr84⟩ := h
      have fin92 : ∀ (s : Bool) (ρ : Env) (H : Heap) (n : Nat), J82 s → (match s with | b85 => ∃ (v86 : AVal) (v87 : AVal) (v88 : AVal) (v89 : AVal) (v90 : AVal) (v91 : AVal), ρ 0 = .list false (aSig.map Control.cells) ∧ ρ 2 = int aNode ∧ ρ 4 = .ptr (n1, 4) 1 0 0 ∧ ρ 8 = .list true (r17.1.map intC) ∧ ρ 9 = bool r17.2 ∧ ρ 10 = v86 ∧ ρ 11 = .ptr (n33, 11) 1 0 0 ∧ ρ 12 = v91 ∧ ρ 13 = bool r64.2 ∧ ρ 57 = bool b85 ∧ H (n1, 4) = some ⟨6, [[int aB.roots, .list false (aB.nodes.map (GNode.cells false)), .list false (aB.sites.map intC), int aB.edges, .list false (aB.outer.map strC), .list false (aB.inner.map Wire.cells)]]⟩ ∧ H (n33, 11) = some ⟨6, [[int r30.roots, v87, v88, int r30.edges, v89, v90]]⟩ ∧ Sep H n [(.s [.c, .c, .c], v86, .list true (r20.map Control.cells)), (.s [.c, .c, .s [.c]], v87, .list true (r30.nodes.map (GNode.cells true))), (.s [.c], v88, .list true (r30.sites.map intC)), (.s [.c], v89, .list true (r30.outer.map strC)), (.s [.c, .c], v90, .list true (r30.inner.map Wire.cells)), (.s [.c], v91, .list true (r64.1.map intC))] [(n33, 11), (n1, 4)]) → Runs Tryd.prog 8 124 k' ρ H n Q := by
        rintro b85 ρ H n93 h ⟨v86, v87, v88, v89, v90, v91, h0, h2, h4, h8, h9, h10, h11, h12, h13, h57, m4_1, m11_47, sp⟩
        replace h := hr84 _ h
        refine hk' _ _ _ ?_
        refine Runs.ite (b := b85) (by simp [h0, h2, h4, h8, h9, h10, h11, h12, h13, h57, m4_1, m11_47, dc6, dc10, Control.cells, GNode.cells, Wire.cells, intC, sliceC, strC]) (fun db85 => ?_) (fun db85 => ?_)
        · replace h := h.1 db85
          refine Runs.seqE Ty_ok (by decide) fun k' hk' => ?_
          simp [h0, h2, h4, h8, h9, h10, h11, h12, h13, h57, m4_1, m11_47, dc6, dc10, db85, Control.cells, GNode.cells, Wire.cells, intC, sliceC, strC]
          refine hk' _ _ _ ?_
          exact Runs.ret1 (v := bool false) Tryd.func8 Tryd.results8 (by simp [h0, h2, h4, h8, h9, h10, h11, h12, h13, h57, m4_1, m11_47, dc6, dc10, db85, Control.cells, GNode.cells, Wire.cells, intC, sliceC, strC]) (hQ _ _ _ _ (.of (.v _)) ⟨false, h, rfl⟩)
        · replace h := h.2 db85
          refine Runs.skip ?_
          refine Runs.seq ?_
          refine Runs.seqE Ty_ok (by decide) fun k' hk' => ?_
          obtain ⟨hb94, h⟩ := h
          obtain ⟨r95, er95⟩ : ∃ v : List Control, v = toControlS aSig := ⟨_, rfl⟩
          replace h := h r95 er95
          simp [h0, h2, h4, h8, h9, h10, h11, h12, h13, h57, m4_1, m11_47, dc6, dc10, db85, Control.cells, GNode.cells, Wire.cells, intC, sliceC, strC]
          refine RunK.callW Ty_ok (toControlS_ok aSig hb94) e36 (.cons (ArgOk.listF (fr := false) (els := aSig.map Control.cells) (by simp [Control.cells, strC, intC, intC])) .nil) sp (by decide) (by decide) rfl (by simp [h0, h2, h4, h8, h9, h10, h11, h12, h13, h57, m4_1, m11_47, dc6, dc10, db85, Control.cells, GNode.cells, Wire.cells, intC, sliceC, strC]) ?_
          rintro v96 H97 n98 _ sp rfl hle100 hfr99
          rw [← er95] at sp
          have m4_1 : H97 (n1, 4) = some ⟨6, [[int aB.roots, .list false (aB.nodes.map (GNode.cells false)), .list false (aB.sites.map intC), int aB.edges, .list false (aB.outer.map strC), .list false (aB.inner.map Wire.cells)]]⟩ := (hfr99 _ (by simp)).trans (by simp [h0, h2, h4, h8, h9, h10, h11, h12, h13, h57, m4_1, m11_47, Heap.get_set])
          have m11_47 : H97 (n33, 11) = some ⟨6, [[int r30.roots, v87, v88, int r30.edges, v89, v90]]⟩ := (hfr99 _ (by simp)).trans (by simp [h0, h2, h4, h8, h9, h10, h11, h12, h13, h57, m4_1, m11_47, Heap.get_set])
          obtain ⟨hb102, h⟩ := h
          obtain ⟨r103, er103⟩ : ∃ v : Bool, v = decide (r20 = r95) := ⟨_, rfl⟩
          replace h := h r103 er103
          simp [h0, h2, h4, h8, h9, h10, h11, h12, h13, h57, m4_1, m11_47, dc6, dc10, db85, Control.cells, GNode.cells, Wire.cells, intC, sliceC, strC]
          refine RunK.callA Ty_ok (eqControlS_ok r20 r95 hb102) e38 (.cons (Sep.argOk' (Sep.front (K1 := [(.s [.c, .c, .c], v96, .list true (r95.map Control.cells))]) (K2 := [(.s [.c, .c, .s [.c]], v87, .list true (r30.nodes.map (GNode.cells true))), (.s [.c], v88, .list true (r30.sites.map intC)), (.s [.c], v89, .list true (r30.outer.map strC)), (.s [.c, .c], v90, .list true (r30.inner.map Wire.cells)), (.s [.c], v91, .list true (r64.1.map intC))]) sp) (old_listF (by simp [Control.cells, strC, intC, intC]))) (.cons (Sep.argOk' sp (old_listF (by simp [Control.cells, strC, intC, intC]))) .nil)) (by decide) (by decide) rfl (by simp [h0, h2, h4, h8, h9, h10, h11, h12, h13, h57, m4_1, m11_47, dc6, dc10, db85, Control.cells, GNode.cells, Wire.cells, intC, sliceC, strC]) ?_
          rintro _ rfl
          rw [← er103]
          simp [h0, h2, h4, h8, h9, h10, h11, h12, h13, h57, m4_1, m11_47, dc6, dc10, db85, Control.cells, GNode.cells, Wire.cells, intC, sliceC, strC]
          refine hk' _ _ _ ?_
          refine Runs.cut (fun ρ H n => ∃ (v104 : AVal) (v105 : AVal) (v106 : AVal) (v107 : AVal) (v108 : AVal) (v109 : AVal), ρ 0 = .list false (aSig.map Control.cells) ∧ ρ 2 = int aNode ∧ ρ 4 = .ptr (n1, 4) 1 0 0 ∧ ρ 8 = .list true (r17.1.map intC) ∧ ρ 9 = bool r17.2 ∧ ρ 10 = v104 ∧ ρ 11 = .ptr (n33, 11) 1 0 0 ∧ ρ 12 = v109 ∧ ρ 13 = bool r64.2 ∧ ρ 62 = bool (!r103) ∧ H (n1, 4) = some ⟨6, [[int aB.roots, .list false (aB.nodes.map (GNode.cells false)), .list false (aB.sites.map intC), int aB.edges, .list false (aB.outer.map strC), .list false (aB.inner.map Wire.cells)]]⟩ ∧ H (n33, 11) = some ⟨6, [[int r30.roots, v105, v106, int r30.edges, v107, v108]]⟩ ∧ Sep H n [(.s [.c, .c, .c], v104, .list true (r20.map Control.cells)), (.s [.c, .c, .s [.c]], v105, .list true (r30.nodes.map (GNode.cells true))), (.s [.c], v106, .list true (r30.sites.map intC)), (.s [.c], v107, .list true (r30.outer.map strC)), (.s [.c, .c], v108, .list true (r30.inner.map Wire.cells)), (.s [.c], v109, .list true (r64.1.map intC))] [(n33, 11), (n1, 4)]) (by refine ⟨v86, v87, v88, v89, v90, v91, ?_, ?_, ?_, ?_, ?_, ?_, ?_, ?_, ?_, ?_, ?_, ?_, (Sep.front (K1 := [(.s [.c, .c, .s [.c]], v87, .list true (r30.nodes.map (GNode.cells true))), (.s [.c], v88, .list true (r30.sites.map intC)), (.s [.c], v89, .list true (r30.outer.map strC)), (.s [.c, .c], v90, .list true (r30.inner.map Wire.cells)), (.s [.c], v91, .list true (r64.1.map intC))]) (K2 := []) (Sep.front (K1 := [(.s [.c], v88, .list true (r30.sites.map intC)), (.s [.c], v89, .list true (r30.outer.map strC)), (.s [.c, .c], v90, .list true (r30.inner.map Wire.cells)), (.s [.c], v91, .list true (r64.1.map intC)), (.s [.c, .c, .c], v86, .list true (r20.map Control.cells))]) (K2 := []) (Sep.front (K1 := [(.s [.c], v89, .list true (r30.outer.map strC)), (.s [.c, .c], v90, .list true (r30.inner.map Wire.cells)), (.s [.c], v91, .list true (r64.1.map intC)), (.s [.c, .c, .c], v86, .list true (r20.map Control.cells)), (.s [.c, .c, .s [.c]], v87, .list true (r30.nodes.map (GNode.cells true)))]) (K2 := []) (Sep.front (K1 := [(.s [.c, .c], v90, .list true (r30.inner.map Wire.cells)), (.s [.c], v91, .list true (r64.1.map intC)), (.s [.c, .c, .c], v86, .list true (r20.map Control.cells)), (.s [.c, .c, .s [.c]], v87, .list true (r30.nodes.map (GNode.cells true))), (.s [.c], v88, .list true (r30.sites.map intC))]) (K2 := []) (Sep.front (K1 := [(.s [.c], v91, .list true (r64.1.map intC)), (.s [.c, .c, .c], v86, .list true (r20.map Control.cells)), (.s [.c, .c, .s [.c]], v87, .list true (r30.nodes.map (GNode.cells true))), (.s [.c], v88, .list true (r30.sites.map intC)), (.s [.c], v89, .list true (r30.outer.map strC))]) (K2 := []) (Sep.front (K1 := [(.s [.c, .c, .c], v86, .list true (r20.map Control.cells)), (.s [.c, .c, .s [.c]], v87, .list true (r30.nodes.map (GNode.cells true))), (.s [.c], v88, .list true (r30.sites.map intC)), (.s [.c], v89, .list true (r30.outer.map strC)), (.s [.c, .c], v90, .list true (r30.inner.map Wire.cells))]) (K2 := []) (Sep.right (K1 := [(.s [.c, .c, .c], v96, .list true (r95.map Control.cells))]) (K2 := [(.s [.c, .c, .c], v86, .list true (r20.map Control.cells)), (.s [.c, .c, .s [.c]], v87, .list true (r30.nodes.map (GNode.cells true))), (.s [.c], v88, .list true (r30.sites.map intC)), (.s [.c], v89, .list true (r30.outer.map strC)), (.s [.c, .c], v90, .list true (r30.inner.map Wire.cells)), (.s [.c], v91, .list true (r64.1.map intC))]) sp)))))))⟩ <;> simp [h0, h2, h4, h8, h9, h10, h11, h12, h13, h57, m4_1, m11_47, dc6, dc10, db85, Control.cells, GNode.cells, Wire.cells, intC, sliceC, strC]) ?_
          clear h0 h2 h4 h8 h9 h10 h11 h12 h13 h57 m4_1 m11_47
          rintro ρ H n110 ⟨v104, v105, v106, v107, v108, v109, h0, h2, h4, h8, h9, h10, h11, h12, h13, h62, m4_1, m11_47, sp⟩
          refine Runs.ite (b := (!r103)) (by simp [h0, h2, h4, h8, h9, h10, h11, h12, h13, h62, m4_1, m11_47, dc6, dc10, db85, Control.cells, GNode.cells, Wire.cells, intC, sliceC, strC]) (fun dr103 => ?_) (fun dr103 => ?_)
          · have dr103 : r103 = false := by simpa using dr103
            replace h := h.2 dr103
            refine Runs.seqE Ty_ok (by decide) fun k' hk' => ?_
            simp [h0, h2, h4, h8, h9, h10, h11, h12, h13, h62, m4_1, m11_47, dc6, dc10, db85, dr103, Control.cells, GNode.cells, Wire.cells, intC, sliceC, strC]
            refine hk' _ _ _ ?_
            exact Runs.ret1 (v := bool false) Tryd.func8 Tryd.results8 (by simp [h0, h2, h4, h8, h9, h10, h11, h12, h13, h62, m4_1, m11_47, dc6, dc10, db85, dr103, Control.cells, GNode.cells, Wire.cells, intC, sliceC, strC]) (hQ _ _ _ _ (.of (.v _)) ⟨false, h, rfl⟩)
          · have dr103 : r103 = true := by simpa using dr103
            replace h := h.1 dr103
            refine Runs.skip ?_
            refine Runs.seq ?_
            refine Runs.seqD Ty_ok kindOp_ok draws (by decide) (by kernel_rfl) fun k' hk' => ?_
            obtain ⟨hb111, h⟩ := h
            obtain ⟨r112, er112⟩ : ∃ v : Big, v = toBigraph aB := ⟨_, rfl⟩
            replace h := h r112 er112
            simp [h0, h2, h4, h8, h9, h10, h11, h12, h13, h62, m4_1, m11_47, dc6, dc10, db85, dr103, Control.cells, GNode.cells, Wire.cells, intC, sliceC, strC]
            refine RunDK.callA Ty_ok kindOp_ok ((toBigraph_ok aB hb111).pure) e37 (.cons (ArgOk.agg (.cons (.v _ _ _) (.cons (ArgOk.nest_Node false aB.nodes) (.cons (ArgOk.listF (fr := false) (els := aB.sites.map intC) (by simp [intC])) (.cons (.v _ _ _) (.cons (ArgOk.listF (fr := false) (els := aB.outer.map strC) (by simp [strC])) (.cons (ArgOk.listF (fr := false) (els := aB.inner.map Wire.cells) (by simp [Wire.cells, strC, intC])) .nil))))))) .nil) (by decide) rfl (by simp [h0, h2, h4, h8, h9, h10, h11, h12, h13, h62, m4_1, m11_47, dc6, dc10, db85, dr103, Control.cells, GNode.cells, Wire.cells, intC, sliceC, strC]) ?_
            rw [← er112]
            obtain ⟨hb113, h⟩ := h
            obtain ⟨r114, er114⟩ : ∃ v : Bool, v = decide (r30 = r112) := ⟨_, rfl⟩
            replace h := h r114 er114
            simp [h0, h2, h4, h8, h9, h10, h11, h12, h13, h62, m4_1, m11_47, dc6, dc10, db85, dr103, Control.cells, GNode.cells, Wire.cells, intC, sliceC, strC]
            refine RunDK.callA Ty_ok kindOp_ok (eqBigraph_ok r30 r112 hb113) e39 (.cons (ArgOk.agg (.cons (.v _ _ _) (.cons (Sep.argOk' (Sep.front (K1 := [(.s [.c, .c, .c], v104, .list true (r20.map Control.cells))]) (K2 := [(.s [.c], v106, .list true (r30.sites.map intC)), (.s [.c], v107, .list true (r30.outer.map strC)), (.s [.c, .c], v108, .list true (r30.inner.map Wire.cells)), (.s [.c], v109, .list true (r64.1.map intC))]) sp) (old_nest_Node true r30.nodes)) (.cons (Sep.argOk' (Sep.front (K1 := [(.s [.c, .c, .c], v104, .list true (r20.map Control.cells)), (.s [.c, .c, .s [.c]], v105, .list true (r30.nodes.map (GNode.cells true)))]) (K2 := [(.s [.c], v107, .list true (r30.outer.map strC)), (.s [.c, .c], v108, .list true (r30.inner.map Wire.cells)), (.s [.c], v109, .list true (r64.1.map intC))]) sp) (old_listF (by simp [intC]))) (.cons (.v _ _ _) (.cons (Sep.argOk' (Sep.front (K1 := [(.s [.c, .c, .c], v104, .list true (r20.map Control.cells)), (.s [.c, .c, .s [.c]], v105, .list true (r30.nodes.map (GNode.cells true))), (.s [.c], v106, .list true (r30.sites.map intC))]) (K2 := [(.s [.c, .c], v108, .list true (r30.inner.map Wire.cells)), (.s [.c], v109, .list true (r64.1.map intC))]) sp) (old_listF (by simp [strC]))) (.cons (Sep.argOk' (Sep.front (K1 := [(.s [.c, .c, .c], v104, .list true (r20.map Control.cells)), (.s [.c, .c, .s [.c]], v105, .list true (r30.nodes.map (GNode.cells true))), (.s [.c], v106, .list true (r30.sites.map intC)), (.s [.c], v107, .list true (r30.outer.map strC))]) (K2 := [(.s [.c], v109, .list true (r64.1.map intC))]) sp) (old_listF (by simp [Wire.cells, strC, intC]))) .nil))))))) (.cons (ArgOk.agg (.cons (.v _ _ _) (.cons (ArgOk.nest_Node true r112.nodes) (.cons (ArgOk.listF (fr := true) (els := r112.sites.map intC) (by simp [intC])) (.cons (.v _ _ _) (.cons (ArgOk.listF (fr := true) (els := r112.outer.map strC) (by simp [strC])) (.cons (ArgOk.listF (fr := true) (els := r112.inner.map Wire.cells) (by simp [Wire.cells, strC, intC])) .nil))))))) .nil)) (by decide) rfl (by simp [h0, h2, h4, h8, h9, h10, h11, h12, h13, h62, m4_1, m11_47, dc6, dc10, db85, dr103, Control.cells, GNode.cells, Wire.cells, intC, sliceC, strC]) ?_
            rw [← er114]
            simp [h0, h2, h4, h8, h9, h10, h11, h12, h13, h62, m4_1, m11_47, dc6, dc10, db85, dr103, Control.cells, GNode.cells, Wire.cells, intC, sliceC, strC]
            refine hk' _ _ _ ?_
            refine Runs.ite (b := (!r114)) (by simp [h0, h2, h4, h8, h9, h10, h11, h12, h13, h62, m4_1, m11_47, dc6, dc10, db85, dr103, Control.cells, GNode.cells, Wire.cells, intC, sliceC, strC]) (fun dr114 => ?_) (fun dr114 => ?_)
            · have dr114 : r114 = false := by simpa using dr114
              replace h := h.2 dr114
              refine Runs.seqE Ty_ok (by decide) fun k' hk' => ?_
              simp [h0, h2, h4, h8, h9, h10, h11, h12, h13, h62, m4_1, m11_47, dc6, dc10, db85, dr103, dr114, Control.cells, GNode.cells, Wire.cells, intC, sliceC, strC]
              refine hk' _ _ _ ?_
              exact Runs.ret1 (v := bool false) Tryd.func8 Tryd.results8 (by simp [h0, h2, h4, h8, h9, h10, h11, h12, h13, h62, m4_1, m11_47, dc6, dc10, db85, dr103, dr114, Control.cells, GNode.cells, Wire.cells, intC, sliceC, strC]) (hQ _ _ _ _ (.of (.v _)) ⟨false, h, rfl⟩)
            · have dr114 : r114 = true := by simpa using dr114
              replace h := h.1 dr114
              refine Runs.skip ?_
              refine Runs.seqE Ty_ok (by decide) fun k' hk' => ?_
              simp [h0, h2, h4, h8, h9, h10, h11, h12, h13, h62, m4_1, m11_47, dc6, dc10, db85, dr103, dr114, Control.cells, GNode.cells, Wire.cells, intC, sliceC, strC]
              refine hk' _ _ _ ?_
              refine Runs.seqE Ty_ok (by decide) fun k' hk' => ?_
              obtain ⟨hb115, h⟩ := h
              obtain ⟨r116, er116⟩ : ∃ v : (List Control) × Int, v = markControlS r20 1 := ⟨_, rfl⟩
              replace h := h r116 er116
              have f117 := cell_own (Sep.cells sp)
              have f118 := cell_own (Sep.one1 sp)
              simp [h0, h2, h4, h8, h9, h10, h11, h12, h13, h62, m4_1, m11_47, f117, f118, dc6, dc10, db85, dr103, dr114, Control.cells, GNode.cells, Wire.cells, intC, sliceC, strC, -cellsA, -one1, cA_int, cA_bool, cA_str, cA_nil, cA_agg, cA_list, cA_arr, cA_ptr, o1_int, o1_bool, o1_str, o1_nil, o1_list, o1_arr, o1_ptr]
              refine RunK.callM (v := v104) Ty_ok (markControlS_ok r20 1 hb115) e41 sp (by decide) (by decide) rfl (by simp [h0, h2, h4, h8, h9, h10, h11, h12, h13, h62, m4_1, m11_47, f117, f118, dc6, dc10, db85, dr103, dr114, Control.cells, GNode.cells, Wire.cells, intC, sliceC, strC, -cellsA, -one1, cA_int, cA_bool, cA_str, cA_nil, cA_agg, cA_list, cA_arr, cA_ptr, o1_int, o1_bool, o1_str, o1_nil, o1_list, o1_arr, o1_ptr]) ?_
              rintro _ H119 n120 _ ⟨rfl, rfl⟩ sp hle122 hfr121
              rw [← er116] at sp
              rw [← er116]
              replace sp : Sep H119 n120 [(.s [.c, .c, .c], v104, .list true (r116.1.map Control.cells)), (.s [.c, .c, .s [.c]], v105, .list true (r30.nodes.map (GNode.cells true))), (.s [.c], v106, .list true (r30.sites.map intC)), (.s [.c], v107, .list true (r30.outer.map strC)), (.s [.c, .c], v108, .list true (r30.inner.map Wire.cells)), (.s [.c], v109, .list true (r64.1.map intC))] [(n33, 11), (n1, 4)] := sp
              have m4_1 : H119 (n1, 4) = some ⟨6, [[int aB.roots, .list false (aB.nodes.map (GNode.cells false)), .list false (aB.sites.map intC), int aB.edges, .list false (aB.outer.map strC), .list false (aB.inner.map Wire.cells)]]⟩ := (hfr121 _ (by simp)).trans (by simp [h0, h2, h4, h8, h9, h10, h11, h12, h13, h62, m4_1, m11_47, Heap.get_set])
              have m11_47 : H119 (n33, 11) = some ⟨6, [[int r30.roots, v105, v106, int r30.edges, v107, v108]]⟩ := (hfr121 _ (by simp)).trans (by simp [h0, h2, h4, h8, h9, h10, h11, h12, h13, h62, m4_1, m11_47, Heap.get_set])
              simp [h0, h2, h4, h8, h9, h10, h11, h12, h13, h62, m4_1, m11_47, f117, f118, dc6, dc10, db85, dr103, dr114, Control.cells, GNode.cells, Wire.cells, intC, sliceC, strC, -cellsA, -one1, cA_int, cA_bool, cA_str, cA_nil, cA_agg, cA_list, cA_arr, cA_ptr, o1_int, o1_bool, o1_str, o1_nil, o1_list, o1_arr, o1_ptr]
              refine hk' _ _ _ ?_
              refine Runs.cut (fun ρ H n => ∃ (v123 : AVal) (v124 : AVal) (v125 : AVal) (v126 : AVal) (v127 : AVal), ρ 0 = .list false (aSig.map Control.cells) ∧ ρ 2 = int aNode ∧ ρ 4 = .ptr (n1, 4) 1 0 0 ∧ ρ 8 = .list true (r17.1.map intC) ∧ ρ 9 = bool r17.2 ∧ ρ 11 = .ptr (n33, 11) 1 0 0 ∧ ρ 12 = v127 ∧ ρ 13 = bool r64.2 ∧ ρ 14 = int r116.2 ∧ H (n1, 4) = some ⟨6, [[int aB.roots, .list false (aB.nodes.map (GNode.cells false)), .list false (aB.sites.map intC), int aB.edges, .list false (aB.outer.map strC), .list false (aB.inner.map Wire.cells)]]⟩ ∧ H (n33, 11) = some ⟨6, [[int r30.roots, v123, v124, int r30.edges, v125, v126]]⟩ ∧ Sep H n [(.s [.c, .c, .s [.c]], v123, .list true (r30.nodes.map (GNode.cells true))), (.s [.c], v124, .list true (r30.sites.map intC)), (.s [.c], v125, .list true (r30.outer.map strC)), (.s [.c, .c], v126, .list true (r30.inner.map Wire.cells)), (.s [.c], v127, .list true (r64.1.map intC))] [(n33, 11), (n1, 4)]) (by refine ⟨v105, v106, v107, v108, v109, ?_, ?_, ?_, ?_, ?_, ?_, ?_, ?_, ?_, ?_, ?_, (Sep.front (K1 := [(.s [.c], v106, .list true (r30.sites.map intC)), (.s [.c], v107, .list true (r30.outer.map strC)), (.s [.c, .c], v108, .list true (r30.inner.map Wire.cells)), (.s [.c], v109, .list true (r64.1.map intC))]) (K2 := []) (Sep.front (K1 := [(.s [.c], v107, .list true (r30.outer.map strC)), (.s [.c, .c], v108, .list true (r30.inner.map Wire.cells)), (.s [.c], v109, .list true (r64.1.map intC)), (.s [.c, .c, .s [.c]], v105, .list true (r30.nodes.map (GNode.cells true)))]) (K2 := []) (Sep.front (K1 := [(.s [.c, .c], v108, .list true (r30.inner.map Wire.cells)), (.s [.c], v109, .list true (r64.1.map intC)), (.s [.c, .c, .s [.c]], v105, .list true (r30.nodes.map (GNode.cells true))), (.s [.c], v106, .list true (r30.sites.map intC))]) (K2 := []) (Sep.front (K1 := [(.s [.c], v109, .list true (r64.1.map intC)), (.s [.c, .c, .s [.c]], v105, .list true (r30.nodes.map (GNode.cells true))), (.s [.c], v106, .list true (r30.sites.map intC)), (.s [.c], v107, .list true (r30.outer.map strC))]) (K2 := []) (Sep.front (K1 := [(.s [.c, .c, .s [.c]], v105, .list true (r30.nodes.map (GNode.cells true))), (.s [.c], v106, .list true (r30.sites.map intC)), (.s [.c], v107, .list true (r30.outer.map strC)), (.s [.c, .c], v108, .list true (r30.inner.map Wire.cells))]) (K2 := []) (Sep.right (K1 := [(.s [.c, .c, .c], v104, .list true (r116.1.map Control.cells))]) (K2 := [(.s [.c, .c, .s [.c]], v105, .list true (r30.nodes.map (GNode.cells true))), (.s [.c], v106, .list true (r30.sites.map intC)), (.s [.c], v107, .list true (r30.outer.map strC)), (.s [.c, .c], v108, .list true (r30.inner.map Wire.cells)), (.s [.c], v109, .list true (r64.1.map intC))]) sp))))))⟩ <;> simp [h0, h2, h4, h8, h9, h10, h11, h12, h13, h62, m4_1, m11_47, f117, f118, dc6, dc10, db85, dr103, dr114, Control.cells, GNode.cells, Wire.cells, intC, sliceC, strC, -cellsA, -one1, cA_int, cA_bool, cA_str, cA_nil, cA_agg, cA_list, cA_arr, cA_ptr, o1_int, o1_bool, o1_str, o1_nil, o1_list, o1_arr, o1_ptr]) ?_
              clear h0 h2 h4 h8 h9 h10 h11 h12 h13 h62 m4_1 m11_47
              rintro ρ H n128 ⟨v123, v124, v125, v126, v127, h0, h2, h4, h8, h9, h11, h12, h13, h14, m4_1, m11_47, sp⟩
              refine Runs.seqE Ty_ok (by decide) fun k' hk' => ?_
              obtain ⟨hb129, h⟩ := h
              obtain ⟨r130, er130⟩ : ∃ v : Int, v = markBigraph r30 r116.2 := ⟨_, rfl⟩
              replace h := h r130 er130
              have f131 := cell_own (Sep.cells sp)
              have f132 := cell_own (Sep.one1 sp)
              have f133 := cell_own (Sep.cells (Sep.front (K1 := [(.s [.c, .c, .s [.c]], v123, .list true (r30.nodes.map (GNode.cells true)))]) (K2 := [(.s [.c], v125, .list true (r30.outer.map strC)), (.s [.c, .c], v126, .list true (r30.inner.map Wire.cells)), (.s [.c], v127, .list true (r64.1.map intC))]) sp))
              have f134 := cell_own (Sep.one1 (Sep.front (K1 := [(.s [.c, .c, .s [.c]], v123, .list true (r30.nodes.map (GNode.cells true)))]) (K2 := [(.s [.c], v125, .list true (r30.outer.map strC)), (.s [.c, .c], v126, .list true (r30.inner.map Wire.cells)), (.s [.c], v127, .list true (r64.1.map intC))]) sp))
              have f135 := cell_own (Sep.cells (Sep.front (K1 := [(.s [.c, .c, .s [.c]], v123, .list true (r30.nodes.map (GNode.cells true))), (.s [.c], v124, .list true (r30.sites.map intC))]) (K2 := [(.s [.c, .c], v126, .list true (r30.inner.map Wire.cells)), (.s [.c], v127, .list true (r64.1.map intC))]) sp))
              have f136 := cell_own (Sep.one1 (Sep.front (K1 := [(.s [.c, .c, .s [.c]], v123, .list true (r30.nodes.map (GNode.cells true))), (.s [.c], v124, .list true (r30.sites.map intC))]) (K2 := [(.s [.c, .c], v126, .list true (r30.inner.map Wire.cells)), (.s [.c], v127, .list true (r64.1.map intC))]) sp))
              have f137 := cell_own (Sep.cells (Sep.front (K1 := [(.s [.c, .c, .s [.c]], v123, .list true (r30.nodes.map (GNode.cells true))), (.s [.c], v124, .list true (r30.sites.map intC)), (.s [.c], v125, .list true (r30.outer.map strC))]) (K2 := [(.s [.c], v127, .list true (r64.1.map intC))]) sp))
              have f138 := cell_own (Sep.one1 (Sep.front (K1 := [(.s [.c, .c, .s [.c]], v123, .list true (r30.nodes.map (GNode.cells true))), (.s [.c], v124, .list true (r30.sites.map intC)), (.s [.c], v125, .list true (r30.outer.map strC))]) (K2 := [(.s [.c], v127, .list true (r64.1.map intC))]) sp))
              simp [h0, h2, h4, h8, h9, h11, h12, h13, h14, m4_1, m11_47, f131, f132, f133, f134, f135, f136, f137, f138, dc6, dc10, db85, dr103, dr114, Control.cells, GNode.cells, Wire.cells, intC, sliceC, strC, -cellsA, -one1, cA_int, cA_bool, cA_str, cA_nil, cA_agg, cA_list, cA_arr, cA_ptr, o1_int, o1_bool, o1_str, o1_nil, o1_list, o1_arr, o1_ptr]
              refine RunK.callE (v := .agg [int r30.roots, v123, v124, int r30.edges, v125, v126]) Ty_ok (markBigraph_ok r30 r116.2 hb129) e42 (Sep.pack (K := [(.s [.c], v127, .list true (r64.1.map intC))]) (Fill.v _ (Fill.own (Fill.own (Fill.v _ (Fill.own (Fill.own Fill.nil)))))) (Sep.front (K1 := [(.s [.c], v124, .list true (r30.sites.map intC)), (.s [.c], v125, .list true (r30.outer.map strC)), (.s [.c, .c], v126, .list true (r30.inner.map Wire.cells))]) (K2 := [(.s [.c], v127, .list true (r64.1.map intC))]) (Sep.front (K1 := [(.s [.c], v125, .list true (r30.outer.map strC)), (.s [.c, .c], v126, .list true (r30.inner.map Wire.cells)), (.s [.c, .c, .s [.c]], v123, .list true (r30.nodes.map (GNode.cells true)))]) (K2 := [(.s [.c], v127, .list true (r64.1.map intC))]) (Sep.front (K1 := [(.s [.c, .c], v126, .list true (r30.inner.map Wire.cells)), (.s [.c, .c, .s [.c]], v123, .list true (r30.nodes.map (GNode.cells true))), (.s [.c], v124, .list true (r30.sites.map intC))]) (K2 := [(.s [.c], v127, .list true (r64.1.map intC))]) (Sep.front (K1 := [(.s [.c, .c, .s [.c]], v123, .list true (r30.nodes.map (GNode.cells true))), (.s [.c], v124, .list true (r30.sites.map intC)), (.s [.c], v125, .list true (r30.outer.map strC))]) (K2 := [(.s [.c], v127, .list true (r64.1.map intC))]) sp))))) (by decide) (by decide) rfl (by simp [h0, h2, h4, h8, h9, h11, h12, h13, h14, m4_1, m11_47, f131, f132, f133, f134, f135, f136, f137, f138, dc6, dc10, db85, dr103, dr114, Control.cells, GNode.cells, Wire.cells, intC, sliceC, strC, -cellsA, -one1, cA_int, cA_bool, cA_str, cA_nil, cA_agg, cA_list, cA_arr, cA_ptr, o1_int, o1_bool, o1_str, o1_nil, o1_list, o1_arr, o1_ptr]) ?_
              rintro _ H139 n140 rfl sp hle142 hfr141
              rw [← er130]
              replace sp : Sep H139 n140 [(.s [.c], v127, .list true (r64.1.map intC))] [(n33, 11), (n1, 4)] := sp
              have m4_1 : H139 (n1, 4) = some ⟨6, [[int aB.roots, .list false (aB.nodes.map (GNode.cells false)), .list false (aB.sites.map intC), int aB.edges, .list false (aB.outer.map strC), .list false (aB.inner.map Wire.cells)]]⟩ := (hfr141 _ (by simp)).trans (by simp [h0, h2, h4, h8, h9, h11, h12, h13, h14, m4_1, m11_47, Heap.get_set])
              have m11_47 : H139 (n33, 11) = some ⟨6, [[int r30.roots, v123, v124, int r30.edges, v125, v126]]⟩ := (hfr141 _ (by simp)).trans (by simp [h0, h2, h4, h8, h9, h11, h12, h13, h14, m4_1, m11_47, Heap.get_set])
              simp [h0, h2, h4, h8, h9, h11, h12, h13, h14, m4_1, m11_47, f131, f132, f133, f134, f135, f136, f137, f138, dc6, dc10, db85, dr103, dr114, Control.cells, GNode.cells, Wire.cells, intC, sliceC, strC, -cellsA, -one1, cA_int, cA_bool, cA_str, cA_nil, cA_agg, cA_list, cA_arr, cA_ptr, o1_int, o1_bool, o1_str, o1_nil, o1_list, o1_arr, o1_ptr]
              refine hk' _ _ _ ?_
              refine Runs.cut (fun ρ H n => ∃ (v143 : AVal), ρ 0 = .list false (aSig.map Control.cells) ∧ ρ 2 = int aNode ∧ ρ 4 = .ptr (n1, 4) 1 0 0 ∧ ρ 8 = .list true (r17.1.map intC) ∧ ρ 9 = bool r17.2 ∧ ρ 12 = v143 ∧ ρ 13 = bool r64.2 ∧ ρ 14 = int r130 ∧ H (n1, 4) = some ⟨6, [[int aB.roots, .list false (aB.nodes.map (GNode.cells false)), .list false (aB.sites.map intC), int aB.edges, .list false (aB.outer.map strC), .list false (aB.inner.map Wire.cells)]]⟩ ∧ Sep H n [(.s [.c], v143, .list true (r64.1.map intC))] [(n1, 4)]) (by refine ⟨v127, ?_, ?_, ?_, ?_, ?_, ?_, ?_, ?_, ?_, (Sep.sub sp (by simp +contextual))⟩ <;> simp [h0, h2, h4, h8, h9, h11, h12, h13, h14, m4_1, m11_47, f131, f132, f133, f134, f135, f136, f137, f138, dc6, dc10, db85, dr103, dr114, Control.cells, GNode.cells, Wire.cells, intC, sliceC, strC, -cellsA, -one1, cA_int, cA_bool, cA_str, cA_nil, cA_agg, cA_list, cA_arr, cA_ptr, o1_int, o1_bool, o1_str, o1_nil, o1_list, o1_arr, o1_ptr]) ?_
              clear h0 h2 h4 h8 h9 h11 h12 h13 h14 m4_1 m11_47
              rintro ρ H n144 ⟨v143, h0, h2, h4, h8, h9, h12, h13, h14, m4_1, sp⟩
              refine Runs.seq ?_
              refine Runs.seqE Ty_ok (by decide) fun k' hk' => ?_
              obtain ⟨J145, hJ146, hr147⟩ := h
              have fin150 : ∀ (s : Bool) (ρ : Env) (H : Heap) (n : Nat), J145 s → (match s with | b148 => ∃ (v149 : AVal), ρ 0 = .list false (aSig.map Control.cells) ∧ ρ 2 = int aNode ∧ ρ 4 = .ptr (n1, 4) 1 0 0 ∧ ρ 8 = .list true (r17.1.map intC) ∧ ρ 9 = bool r17.2 ∧ ρ 12 = v149 ∧ ρ 86 = bool b148 ∧ H (n1, 4) = some ⟨6, [[int aB.roots, .list false (aB.nodes.map (GNode.cells false)), .list false (aB.sites.map intC), int aB.edges, .list false (aB.outer.map strC), .list false (aB.inner.map Wire.cells)]]⟩ ∧ Sep H n [(.s [.c], v149, .list true (r64.1.map intC))] [(n1, 4)]) → Runs Tryd.prog 8 124 k' ρ H n Q := by
                rintro b148 ρ H n151 h ⟨v149, h0, h2, h4, h8, h9, h12, h86, m4_1, sp⟩
                replace h := hr147 _ h
                refine hk' _ _ _ ?_
                refine Runs.ite (b := b148) (by simp [h0, h2, h4, h8, h9, h12, h86, m4_1, dc6, dc10, db85, dr103, dr114, Control.cells, GNode.cells, Wire.cells, intC, sliceC, strC]) (fun db148 => ?_) (fun db148 => ?_)
                · replace h := h.1 db148
                  refine Runs.seqE Ty_ok (by decide) fun k' hk' => ?_
                  simp [h0, h2, h4, h8, h9, h12, h86, m4_1, dc6, dc10, db85, dr103, dr114, db148, Control.cells, GNode.cells, Wire.cells, intC, sliceC, strC]
                  refine hk' _ _ _ ?_
                  exact Runs.ret1 (v := bool false) Tryd.func8 Tryd.results8 (by simp [h0, h2, h4, h8, h9, h12, h86, m4_1, dc6, dc10, db85, dr103, dr114, db148, Control.cells, GNode.cells, Wire.cells, intC, sliceC, strC]) (hQ _ _ _ _ (.of (.v _)) ⟨false, h, rfl⟩)
                · replace h := h.2 db148
                  refine Runs.skip ?_
                  refine Runs.seqE Ty_ok (by decide) fun k' hk' => ?_
                  simp [h0, h2, h4, h8, h9, h12, h86, m4_1, dc6, dc10, db85, dr103, dr114, db148, Control.cells, GNode.cells, Wire.cells, intC, sliceC, strC]
                  refine hk' _ _ _ ?_
                  refine Runs.seqE Ty_ok (by decide) fun k' hk' => ?_
                  obtain ⟨hb152, h⟩ := h
                  obtain ⟨r153, er153⟩ : ∃ v : (List Int) × Int, v = markIntS r64.1 1 := ⟨_, rfl⟩
                  replace h := h r153 er153
                  have f154 := cell_own (Sep.cells sp)
                  have f155 := cell_own (Sep.one1 sp)
                  simp [h0, h2, h4, h8, h9, h12, h86, m4_1, f154, f155, dc6, dc10, db85, dr103, dr114, db148, Control.cells, GNode.cells, Wire.cells, intC, sliceC, strC, -cellsA, -one1, cA_int, cA_bool, cA_str, cA_nil, cA_agg, cA_list, cA_arr, cA_ptr, o1_int, o1_bool, o1_str, o1_nil, o1_list, o1_arr, o1_ptr]
                  refine RunK.callM (v := v149) Ty_ok (markIntS_ok r64.1 1 hb152) e43 sp (by decide) (by decide) rfl (by simp [h0, h2, h4, h8, h9, h12, h86, m4_1, f154, f155, dc6, dc10, db85, dr103, dr114, db148, Control.cells, GNode.cells, Wire.cells, intC, sliceC, strC, -cellsA, -one1, cA_int, cA_bool, cA_str, cA_nil, cA_agg, cA_list, cA_arr, cA_ptr, o1_int, o1_bool, o1_str, o1_nil, o1_list, o1_arr, o1_ptr]) ?_
                  rintro _ H156 n157 _ ⟨rfl, rfl⟩ sp hle159 hfr158
                  rw [← er153] at sp
                  rw [← er153]
                  replace sp : Sep H156 n157 [(.s [.c], v149, .list true (r153.1.map intC))] [(n1, 4)] := sp
                  have m4_1 : H156 (n1, 4) = some ⟨6, [[int aB.roots, .list false (aB.nodes.map (GNode.cells false)), .list false (aB.sites.map intC), int aB.edges, .list false (aB.outer.map strC), .list false (aB.inner.map Wire.cells)]]⟩ := (hfr158 _ (by simp)).trans (by simp [h0, h2, h4, h8, h9, h12, h86, m4_1, Heap.get_set])
                  simp [h0, h2, h4, h8, h9, h12, h86, m4_1, f154, f155, dc6, dc10, db85, dr103, dr114, db148, Control.cells, GNode.cells, Wire.cells, intC, sliceC, strC, -cellsA, -one1, cA_int, cA_bool, cA_str, cA_nil, cA_agg, cA_list, cA_arr, cA_ptr, o1_int, o1_bool, o1_str, o1_nil, o1_list, o1_arr, o1_ptr]
                  refine hk' _ _ _ ?_
                  refine Runs.cut (fun ρ H n => ∃ (v160 : AVal), ρ 0 = .list false (aSig.map Control.cells) ∧ ρ 2 = int aNode ∧ ρ 4 = .ptr (n1, 4) 1 0 0 ∧ ρ 8 = .list true (r17.1.map intC) ∧ ρ 9 = bool r17.2 ∧ ρ 12 = v160 ∧ ρ 15 = int r153.2 ∧ H (n1, 4) = some ⟨6, [[int aB.roots, .list false (aB.nodes.map (GNode.cells false)), .list false (aB.sites.map intC), int aB.edges, .list false (aB.outer.map strC), .list false (aB.inner.map Wire.cells)]]⟩ ∧ Sep H n [(.s [.c], v160, .list true (r153.1.map intC))] [(n1, 4)]) (by refine ⟨v149, ?_, ?_, ?_, ?_, ?_, ?_, ?_, ?_, sp⟩ <;> simp [h0, h2, h4, h8, h9, h12, h86, m4_1, f154, f155, dc6, dc10, db85, dr103, dr114, db148, Control.cells, GNode.cells, Wire.cells, intC, sliceC, strC, -cellsA, -one1, cA_int, cA_bool, cA_str, cA_nil, cA_agg, cA_list, cA_arr, cA_ptr, o1_int, o1_bool, o1_str, o1_nil, o1_list, o1_arr, o1_ptr]) ?_
                  clear h0 h2 h4 h8 h9 h12 h86 m4_1
                  rintro ρ H n161 ⟨v160, h0, h2, h4, h8, h9, h12, h15, m4_1, sp⟩
                  refine Runs.seqE Ty_ok (by decide) fun k' hk' => ?_
                  simp [h0, h2, h4, h8, h9, h12, h15, m4_1, dc6, dc10, db85, dr103, dr114, db148, Control.cells, GNode.cells, Wire.cells, intC, sliceC, strC]
                  refine hk' _ _ _ ?_
                  refine Runs.seqE Ty_ok (by decide) fun k' hk' => ?_
                  obtain ⟨hb162, h⟩ := h
                  obtain ⟨r163, er163⟩ : ∃ v : Int, v = heldIntS r153.1 1 := ⟨_, rfl⟩
                  replace h := h r163 er163
                  simp [h0, h2, h4, h8, h9, h12, h15, m4_1, dc6, dc10, db85, dr103, dr114, db148, Control.cells, GNode.cells, Wire.cells, intC, sliceC, strC]
                  refine RunK.callA Ty_ok (heldIntS_ok r153.1 1 hb162) e44 (.cons (Sep.argOk' sp (old_listF (by simp [intC]))) (.cons (.v _ _ _) .nil)) (by decide) (by decide) rfl (by simp [h0, h2, h4, h8, h9, h12, h15, m4_1, dc6, dc10, db85, dr103, dr114, db148, Control.cells, GNode.cells, Wire.cells, intC, sliceC, strC]) ?_
                  rintro _ rfl
                  rw [← er163]
                  simp [h0, h2, h4, h8, h9, h12, h15, m4_1, dc6, dc10, db85, dr103, dr114, db148, Control.cells, GNode.cells, Wire.cells, intC, sliceC, strC]
                  refine hk' _ _ _ ?_
                  refine Runs.seq ?_
                  refine Runs.seqE Ty_ok (by decide) fun k' hk' => ?_
                  obtain ⟨c164, ec164⟩ : ∃ v : Bool, v = decide (r163 < 0) := ⟨_, rfl⟩
                  replace h := h c164 ec164
                  have f165 := ib_lss (k := .i64) ec164
                  simp [h0, h2, h4, h8, h9, h12, h15, m4_1, f165, dc6, dc10, db85, dr103, dr114, db148, Control.cells, GNode.cells, Wire.cells, intC, sliceC, strC, -intBin]
                  refine hk' _ _ _ ?_
                  refine Runs.ite (b := c164) (by simp [h0, h2, h4, h8, h9, h12, h15, m4_1, dc6, dc10, db85, dr103, dr114, db148, Control.cells, GNode.cells, Wire.cells, intC, sliceC, strC]) (fun dc164 => ?_) (fun dc164 => ?_)
                  · replace h := h.1 dc164
                    refine Runs.seqE Ty_ok (by decide) fun k' hk' => ?_
                    simp [h0, h2, h4, h8, h9, h12, h15, m4_1, dc6, dc10, db85, dr103, dr114, db148, dc164, Control.cells, GNode.cells, Wire.cells, intC, sliceC, strC]
                    refine hk' _ _ _ ?_
                    exact Runs.ret1 (v := bool false) Tryd.func8 Tryd.results8 (by simp [h0, h2, h4, h8, h9, h12, h15, m4_1, dc6, dc10, db85, dr103, dr114, db148, dc164, Control.cells, GNode.cells, Wire.cells, intC, sliceC, strC]) (hQ _ _ _ _ (.of (.v _)) ⟨false, h, rfl⟩)
                  · replace h := h.2 dc164
                    refine Runs.skip ?_
                    refine Runs.seq ?_
                    refine Runs.seqE Ty_ok (by decide) fun k' hk' => ?_
                    obtain ⟨c166, ec166⟩ : ∃ v : Bool, v = decide (r163 ≠ r153.2) := ⟨_, rfl⟩
                    replace h := h c166 ec166
                    have f167 := ib_neq (k := .i64) ec166
                    simp [h0, h2, h4, h8, h9, h12, h15, m4_1, f167, dc6, dc10, db85, dr103, dr114, db148, dc164, Control.cells, GNode.cells, Wire.cells, intC, sliceC, strC, -intBin]
                    refine hk' _ _ _ ?_
                    refine Runs.ite (b := c166) (by simp [h0, h2, h4, h8, h9, h12, h15, m4_1, dc6, dc10, db85, dr103, dr114, db148, dc164, Control.cells, GNode.cells, Wire.cells, intC, sliceC, strC]) (fun dc166 => ?_) (fun dc166 => ?_)
                    · replace h := h.1 dc166
                      refine Runs.seqE Ty_ok (by decide) fun k' hk' => ?_
                      simp [h0, h2, h4, h8, h9, h12, h15, m4_1, dc6, dc10, db85, dr103, dr114, db148, dc164, dc166, Control.cells, GNode.cells, Wire.cells, intC, sliceC, strC]
                      refine hk' _ _ _ ?_
                      exact Runs.ret1 (v := bool false) Tryd.func8 Tryd.results8 (by simp [h0, h2, h4, h8, h9, h12, h15, m4_1, dc6, dc10, db85, dr103, dr114, db148, dc164, dc166, Control.cells, GNode.cells, Wire.cells, intC, sliceC, strC]) (hQ _ _ _ _ (.of (.v _)) ⟨false, h, rfl⟩)
                    · replace h := h.2 dc166
                      refine Runs.skip ?_
                      refine Runs.seqD Ty_ok kindOp_ok draws (by decide) (by kernel_rfl) fun k' hk' => ?_
                      obtain ⟨hb168, h⟩ := h
                      obtain ⟨r169, er169⟩ : ∃ v : List Control, v = toControlS aSig := ⟨_, rfl⟩
                      replace h := h r169 er169
                      simp [h0, h2, h4, h8, h9, h12, h15, m4_1, dc6, dc10, db85, dr103, dr114, db148, dc164, dc166, Control.cells, GNode.cells, Wire.cells, intC, sliceC, strC]
                      refine RunDK.callA Ty_ok kindOp_ok ((toControlS_ok aSig hb168).pure) e36 (.cons (ArgOk.listF (fr := false) (els := aSig.map Control.cells) (by simp [Control.cells, strC, intC, intC])) .nil) (by decide) rfl (by simp [h0, h2, h4, h8, h9, h12, h15, m4_1, dc6, dc10, db85, dr103, dr114, db148, dc164, dc166, Control.cells, GNode.cells, Wire.cells, intC, sliceC, strC]) ?_
                      rw [← er169]
                      obtain ⟨hb170, h⟩ := h
                      obtain ⟨r171, er171⟩ : ∃ v : Big, v = toBigraph aB := ⟨_, rfl⟩
                      replace h := h r171 er171
                      simp [h0, h2, h4, h8, h9, h12, h15, m4_1, dc6, dc10, db85, dr103, dr114, db148, dc164, dc166, Control.cells, GNode.cells, Wire.cells, intC, sliceC, strC]
                      refine RunDK.callA Ty_ok kindOp_ok ((toBigraph_ok aB hb170).pure) e37 (.cons (ArgOk.agg (.cons (.v _ _ _) (.cons (ArgOk.nest_Node false aB.nodes) (.cons (ArgOk.listF (fr := false) (els := aB.sites.map intC) (by simp [intC])) (.cons (.v _ _ _) (.cons (ArgOk.listF (fr := false) (els := aB.outer.map strC) (by simp [strC])) (.cons (ArgOk.listF (fr := false) (els := aB.inner.map Wire.cells) (by simp [Wire.cells, strC, intC])) .nil))))))) .nil) (by decide) rfl (by simp [h0, h2, h4, h8, h9, h12, h15, m4_1, dc6, dc10, db85, dr103, dr114, db148, dc164, dc166, Control.cells, GNode.cells, Wire.cells, intC, sliceC, strC]) ?_
                      rw [← er171]
                      obtain ⟨hb172, h⟩ := h
                      obtain ⟨r173, er173⟩ : ∃ v : (List Int) × Bool, v = AncestorsOf r169 r171 aNode := ⟨_, rfl⟩
                      replace h := h r173 er173
                      simp [h0, h2, h4, h8, h9, h12, h15, m4_1, dc6, dc10, db85, dr103, dr114, db148, dc164, dc166, Control.cells, GNode.cells, Wire.cells, intC, sliceC, strC]
                      refine RunDK.callA Ty_ok kindOp_ok ((AncestorsOf_ok r169 r171 aNode hb172).pure) e31 (.cons (ArgOk.listF (fr := true) (els := r169.map Control.cells) (by simp [Control.cells, strC, intC, intC])) (.cons (ArgOk.agg (.cons (.v _ _ _) (.cons (ArgOk.nest_Node true r171.nodes) (.cons (ArgOk.listF (fr := true) (els := r171.sites.map intC) (by simp [intC])) (.cons (.v _ _ _) (.cons (ArgOk.listF (fr := true) (els := r171.outer.map strC) (by simp [strC])) (.cons (ArgOk.listF (fr := true) (els := r171.inner.map Wire.cells) (by simp [Wire.cells, strC, intC])) .nil))))))) (.cons (.v _ _ _) .nil))) (by decide) rfl (by simp [h0, h2, h4, h8, h9, h12, h15, m4_1, dc6, dc10, db85, dr103, dr114, db148, dc164, dc166, Control.cells, GNode.cells, Wire.cells, intC, sliceC, strC]) ?_
                      rw [← er173]
                      simp [h0, h2, h4, h8, h9, h12, h15, m4_1, dc6, dc10, db85, dr103, dr114, db148, dc164, dc166, Control.cells, GNode.cells, Wire.cells, intC, sliceC, strC]
                      refine hk' _ _ _ ?_
                      refine Runs.cut (fun ρ H n => ∃ (v174 : AVal), ρ 8 = .list true (r17.1.map intC) ∧ ρ 9 = bool r17.2 ∧ ρ 12 = v174 ∧ ρ 15 = int r153.2 ∧ ρ 17 = .list true (r173.1.map intC) ∧ ρ 18 = bool r173.2 ∧ Sep H n [(.s [.c], v174, .list true (r153.1.map intC))] []) (by refine ⟨v160, ?_, ?_, ?_, ?_, ?_, ?_, (Sep.sub sp (by simp +contextual))⟩ <;> simp [h0, h2, h4, h8, h9, h12, h15, m4_1, dc6, dc10, db85, dr103, dr114, db148, dc164, dc166, Control.cells, GNode.cells, Wire.cells, intC, sliceC, strC]) ?_
                      clear h0 h2 h4 h8 h9 h12 h15 m4_1
                      rintro ρ H n175 ⟨v174, h8, h9, h12, h15, h17, h18, sp⟩
                      refine Runs.seq ?_
                      refine Runs.seqE Ty_ok (by decide) fun k' hk' => ?_
                      obtain ⟨J176, hJ177, hr178⟩ := h
                      have fin181 : ∀ (s : Bool) (ρ : Env) (H : Heap) (n : Nat), J176 s → (match s with | b179 => ∃ (v180 : AVal), ρ 12 = v180 ∧ ρ 15 = int r153.2 ∧ ρ 115 = bool b179 ∧ Sep H n [(.s [.c], v180, .list true (r153.1.map intC))] []) → Runs Tryd.prog 8 124 k' ρ H n Q := by
                        rintro b179 ρ H n182 h ⟨v180, h12, h15, h115, sp⟩
                        replace h := hr178 _ h
                        refine hk' _ _ _ ?_
                        refine Runs.ite (b := b179) (by simp [h12, h15, h115, dc6, dc10, db85, dr103, dr114, db148, dc164, dc166, Control.cells, GNode.cells, Wire.cells, intC, sliceC, strC]) (fun db179 => ?_) (fun db179 => ?_)
                        · replace h := h.1 db179
                          refine Runs.seqE Ty_ok (by decide) fun k' hk' => ?_
                          simp [h12, h15, h115, dc6, dc10, db85, dr103, dr114, db148, dc164, dc166, db179, Control.cells, GNode.cells, Wire.cells, intC, sliceC, strC]
                          refine hk' _ _ _ ?_
                          exact Runs.ret1 (v := bool false) Tryd.func8 Tryd.results8 (by simp [h12, h15, h115, dc6, dc10, db85, dr103, dr114, db148, dc164, dc166, db179, Control.cells, GNode.cells, Wire.cells, intC, sliceC, strC]) (hQ _ _ _ _ (.of (.v _)) ⟨false, h, rfl⟩)
                        · replace h := h.2 db179
                          refine Runs.skip ?_
                          refine Runs.seqE Ty_ok (by decide) fun k' hk' => ?_
                          simp [h12, h15, h115, dc6, dc10, db85, dr103, dr114, db148, dc164, dc166, db179, Control.cells, GNode.cells, Wire.cells, intC, sliceC, strC]
                          refine hk' _ _ _ ?_
                          refine Runs.seqE Ty_ok (by decide) fun k' hk' => ?_
                          obtain ⟨hb183, h⟩ := h
                          obtain ⟨r184, er184⟩ : ∃ v : Int, v = heldIntS r153.1 1 := ⟨_, rfl⟩
                          replace h := h r184 er184
                          simp [h12, h15, h115, dc6, dc10, db85, dr103, dr114, db148, dc164, dc166, db179, Control.cells, GNode.cells, Wire.cells, intC, sliceC, strC]
                          refine RunK.callA Ty_ok (heldIntS_ok r153.1 1 hb183) e44 (.cons (Sep.argOk' sp (old_listF (by simp [intC]))) (.cons (.v _ _ _) .nil)) (by decide) (by decide) rfl (by simp [h12, h15, h115, dc6, dc10, db85, dr103, dr114, db148, dc164, dc166, db179, Control.cells, GNode.cells, Wire.cells, intC, sliceC, strC]) ?_
                          rintro _ rfl
                          rw [← er184]
                          simp [h12, h15, h115, dc6, dc10, db85, dr103, dr114, db148, dc164, dc166, db179, Control.cells, GNode.cells, Wire.cells, intC, sliceC, strC]
                          refine hk' _ _ _ ?_
                          refine Runs.seq ?_
                          refine Runs.seqE Ty_ok (by decide) fun k' hk' => ?_
                          obtain ⟨c185, ec185⟩ : ∃ v : Bool, v = decide (r184 < 0) := ⟨_, rfl⟩
                          replace h := h c185 ec185
                          have f186 := ib_lss (k := .i64) ec185
                          simp [h12, h15, h115, f186, dc6, dc10, db85, dr103, dr114, db148, dc164, dc166, db179, Control.cells, GNode.cells, Wire.cells, intC, sliceC, strC, -intBin]
                          refine hk' _ _ _ ?_
                          refine Runs.ite (b := c185) (by simp [h12, h15, h115, dc6, dc10, db85, dr103, dr114, db148, dc164, dc166, db179, Control.cells, GNode.cells, Wire.cells, intC, sliceC, strC]) (fun dc185 => ?_) (fun dc185 => ?_)
                          · replace h := h.1 dc185
                            refine Runs.seqE Ty_ok (by decide) fun k' hk' => ?_
                            simp [h12, h15, h115, dc6, dc10, db85, dr103, dr114, db148, dc164, dc166, db179, dc185, Control.cells, GNode.cells, Wire.cells, intC, sliceC, strC]
                            refine hk' _ _ _ ?_
                            exact Runs.ret1 (v := bool false) Tryd.func8 Tryd.results8 (by simp [h12, h15, h115, dc6, dc10, db85, dr103, dr114, db148, dc164, dc166, db179, dc185, Control.cells, GNode.cells, Wire.cells, intC, sliceC, strC]) (hQ _ _ _ _ (.of (.v _)) ⟨false, h, rfl⟩)
                          · replace h := h.2 dc185
                            refine Runs.skip ?_
                            refine Runs.seq ?_
                            refine Runs.seqE Ty_ok (by decide) fun k' hk' => ?_
                            obtain ⟨c187, ec187⟩ : ∃ v : Bool, v = decide (r184 ≠ r153.2) := ⟨_, rfl⟩
                            replace h := h c187 ec187
                            have f188 := ib_neq (k := .i64) ec187
                            simp [h12, h15, h115, f188, dc6, dc10, db85, dr103, dr114, db148, dc164, dc166, db179, dc185, Control.cells, GNode.cells, Wire.cells, intC, sliceC, strC, -intBin]
                            refine hk' _ _ _ ?_
                            refine Runs.ite (b := c187) (by simp [h12, h15, h115, dc6, dc10, db85, dr103, dr114, db148, dc164, dc166, db179, dc185, Control.cells, GNode.cells, Wire.cells, intC, sliceC, strC]) (fun dc187 => ?_) (fun dc187 => ?_)
                            · replace h := h.1 dc187
                              refine Runs.seqE Ty_ok (by decide) fun k' hk' => ?_
                              simp [h12, h15, h115, dc6, dc10, db85, dr103, dr114, db148, dc164, dc166, db179, dc185, dc187, Control.cells, GNode.cells, Wire.cells, intC, sliceC, strC]
                              refine hk' _ _ _ ?_
                              exact Runs.ret1 (v := bool false) Tryd.func8 Tryd.results8 (by simp [h12, h15, h115, dc6, dc10, db85, dr103, dr114, db148, dc164, dc166, db179, dc185, dc187, Control.cells, GNode.cells, Wire.cells, intC, sliceC, strC]) (hQ _ _ _ _ (.of (.v _)) ⟨false, h, rfl⟩)
                            · replace h := h.2 dc187
                              refine Runs.skip ?_
                              refine Runs.seqE Ty_ok (by decide) fun k' hk' => ?_
                              simp [h12, h15, h115, dc6, dc10, db85, dr103, dr114, db148, dc164, dc166, db179, dc185, dc187, Control.cells, GNode.cells, Wire.cells, intC, sliceC, strC]
                              refine hk' _ _ _ ?_
                              exact Runs.ret1 (v := bool true) Tryd.func8 Tryd.results8 (by simp [h12, h15, h115, dc6, dc10, db85, dr103, dr114, db148, dc164, dc166, db179, dc185, dc187, Control.cells, GNode.cells, Wire.cells, intC, sliceC, strC]) (hQ _ _ _ _ (.of (.v _)) ⟨true, h, rfl⟩)
                      replace h := hJ177
                      obtain ⟨hb189, h⟩ := h
                      obtain ⟨r190, er190⟩ : ∃ v : Bool, v = decide (r173.1 = r17.1) := ⟨_, rfl⟩
                      replace h := h r190 er190
                      simp [h8, h9, h12, h15, h17, h18, dc6, dc10, db85, dr103, dr114, db148, dc164, dc166, Control.cells, GNode.cells, Wire.cells, intC, sliceC, strC]
                      refine RunK.callA Ty_ok (eqIntS_ok r173.1 r17.1 hb189) e40 (.cons (ArgOk.listF (fr := true) (els := r173.1.map intC) (by simp [intC])) (.cons (ArgOk.listF (fr := true) (els := r17.1.map intC) (by simp [intC])) .nil)) (by decide) (by decide) rfl (by simp [h8, h9, h12, h15, h17, h18, dc6, dc10, db85, dr103, dr114, db148, dc164, dc166, Control.cells, GNode.cells, Wire.cells, intC, sliceC, strC]) ?_
                      rintro _ rfl
                      rw [← er190]
                      rcases Bool.eq_false_or_eq_true r190 with dr190 | dr190
                      · replace h := h.1 dr190
                        obtain ⟨c191, ec191⟩ : ∃ v : Bool, v = !(r173.2 == r17.2) := ⟨_, rfl⟩
                        replace h := h c191 ec191
                        have f192 := bb_neq ec191
                        simp [h8, h9, h12, h15, h17, h18, f192, dc6, dc10, db85, dr103, dr114, db148, dc164, dc166, dr190, Control.cells, GNode.cells, Wire.cells, intC, sliceC, strC, -boolBin]
                        exact fin181 (c191) _ _ _ h (by refine ⟨v174, ?_, ?_, ?_, sp⟩ <;> simp [h8, h9, h12, h15, h17, h18, f192, dc6, dc10, db85, dr103, dr114, db148, dc164, dc166, dr190, Control.cells, GNode.cells, Wire.cells, intC, sliceC, strC, -boolBin])
                      · replace h := h.2 dr190
                        simp [h8, h9, h12, h15, h17, h18, dc6, dc10, db85, dr103, dr114, db148, dc164, dc166, dr190, Control.cells, GNode.cells, Wire.cells, intC, sliceC, strC]
                        exact fin181 (true) _ _ _ h (by refine ⟨v174, ?_, ?_, ?_, sp⟩ <;> simp [h8, h9, h12, h15, h17, h18, dc6, dc10, db85, dr103, dr114, db148, dc164, dc166, dr190, Control.cells, GNode.cells, Wire.cells, intC, sliceC, strC])
              replace h := hJ146
              obtain ⟨c193, ec193⟩ : ∃ v : Bool, v = decide (r130 < 0) := ⟨_, rfl⟩
              replace h := h c193 ec193
              have f194 := ib_lss (k := .i64) ec193
              rcases Bool.eq_false_or_eq_true c193 with dc193 | dc193
              · replace h := h.1 dc193
                simp [h0, h2, h4, h8, h9, h12, h13, h14, m4_1, f194, dc6, dc10, db85, dr103, dr114, dc193, Control.cells, GNode.cells, Wire.cells, intC, sliceC, strC, -intBin]
                exact fin150 (true) _ _ _ h (by refine ⟨v143, ?_, ?_, ?_, ?_, ?_, ?_, ?_, ?_, sp⟩ <;> simp [h0, h2, h4, h8, h9, h12, h13, h14, m4_1, f194, dc6, dc10, db85, dr103, dr114, dc193, Control.cells, GNode.cells, Wire.cells, intC, sliceC, strC, -intBin])
              · replace h := h.2 dc193
                obtain ⟨hb195, h⟩ := h
                obtain ⟨r196, er196⟩ : ∃ v : Bool, v = decide (r64.1 = r17.1) := ⟨_, rfl⟩
                replace h := h r196 er196
                simp [h0, h2, h4, h8, h9, h12, h13, h14, m4_1, f194, dc6, dc10, db85, dr103, dr114, dc193, Control.cells, GNode.cells, Wire.cells, intC, sliceC, strC, -intBin]
                refine RunK.callA Ty_ok (eqIntS_ok r64.1 r17.1 hb195) e40 (.cons (Sep.argOk' sp (old_listF (by simp [intC]))) (.cons (ArgOk.listF (fr := true) (els := r17.1.map intC) (by simp [intC])) .nil)) (by decide) (by decide) rfl (by simp [h0, h2, h4, h8, h9, h12, h13, h14, m4_1, f194, dc6, dc10, db85, dr103, dr114, dc193, Control.cells, GNode.cells, Wire.cells, intC, sliceC, strC, -intBin]) ?_
                rintro _ rfl
                rw [← er196]
                rcases Bool.eq_false_or_eq_true r196 with dr196 | dr196
                · replace h := h.1 dr196
                  obtain ⟨c197, ec197⟩ : ∃ v : Bool, v = !(r64.2 == r17.2) := ⟨_, rfl⟩
                  replace h := h c197 ec197
                  have f198 := bb_neq ec197
                  simp [h0, h2, h4, h8, h9, h12, h13, h14, m4_1, f194, f198, dc6, dc10, db85, dr103, dr114, dc193, dr196, Control.cells, GNode.cells, Wire.cells, intC, sliceC, strC, -boolBin, -intBin]
                  exact fin150 (c197) _ _ _ h (by refine ⟨v143, ?_, ?_, ?_, ?_, ?_, ?_, ?_, ?_, sp⟩ <;> simp [h0, h2, h4, h8, h9, h12, h13, h14, m4_1, f194, f198, dc6, dc10, db85, dr103, dr114, dc193, dr196, Control.cells, GNode.cells, Wire.cells, intC, sliceC, strC, -boolBin, -intBin])
                · replace h := h.2 dr196
                  simp [h0, h2, h4, h8, h9, h12, h13, h14, m4_1, f194, dc6, dc10, db85, dr103, dr114, dc193, dr196, Control.cells, GNode.cells, Wire.cells, intC, sliceC, strC, -intBin]
                  exact fin150 (true) _ _ _ h (by refine ⟨v143, ?_, ?_, ?_, ?_, ?_, ?_, ?_, ?_, sp⟩ <;> simp [h0, h2, h4, h8, h9, h12, h13, h14, m4_1, f194, dc6, dc10, db85, dr103, dr114, dc193, dr196, Control.cells, GNode.cells, Wire.cells, intC, sliceC, strC, -intBin])
      replace h := hJ83
      obtain ⟨hb199, h⟩ := h
      obtain ⟨r200, er200⟩ : ∃ v : Bool, v = decide (r64.1 = r17.1) := ⟨_, rfl⟩
      replace h := h r200 er200
      simp [h0, h2, h4, h8, h9, h10, h11, h12, h13, m4_1, m11_47, dc6, dc10, Control.cells, GNode.cells, Wire.cells, intC, sliceC, strC]
      refine RunK.callA Ty_ok (eqIntS_ok r64.1 r17.1 hb199) e40 (.cons (Sep.argOk' (Sep.front (K1 := [(.s [.c, .c, .c], v75, .list true (r20.map Control.cells)), (.s [.c, .c, .s [.c]], v76, .list true (r30.nodes.map (GNode.cells true))), (.s [.c], v77, .list true (r30.sites.map intC)), (.s [.c], v78, .list true (r30.outer.map strC)), (.s [.c, .c], v79, .list true (r30.inner.map Wire.cells))]) (K2 := []) sp) (old_listF (by simp [intC]))) (.cons (ArgOk.listF (fr := true) (els := r17.1.map intC) (by simp [intC])) .nil)) (by decide) (by decide) rfl (by simp [h0, h2, h4, h8, h9, h10, h11, h12, h13, m4_1, m11_47, dc6, dc10, Control.cells, GNode.cells, Wire.cells, intC, sliceC, strC]) ?_
      rintro _ rfl
      rw [← er200]
      rcases Bool.eq_false_or_eq_true r200 with dr200 | dr200
      · replace h := h.1 dr200
        obtain ⟨c201, ec201⟩ : ∃ v : Bool, v = !(r64.2 == r17.2) := ⟨_, rfl⟩
        replace h := h c201 ec201
        have f202 := bb_neq ec201
        simp [h0, h2, h4, h8, h9, h10, h11, h12, h13, m4_1, m11_47, f202, dc6, dc10, dr200, Control.cells, GNode.cells, Wire.cells, intC, sliceC, strC, -boolBin]
        exact fin92 (c201) _ _ _ h (by refine ⟨v75, v76, v77, v78, v79, v80, ?_, ?_, ?_, ?_, ?_, ?_, ?_, ?_, ?_, ?_, ?_, ?_, (Sep.front (K1 := [(.s [.c, .c, .s [.c]], v76, .list true (r30.nodes.map (GNode.cells true))), (.s [.c], v77, .list true (r30.sites.map intC)), (.s [.c], v78, .list true (r30.outer.map strC)), (.s [.c, .c], v79, .list true (r30.inner.map Wire.cells)), (.s [.c], v80, .list true (r64.1.map intC))]) (K2 := []) (Sep.front (K1 := [(.s [.c], v77, .list true (r30.sites.map intC)), (.s [.c], v78, .list true (r30.outer.map strC)), (.s [.c, .c], v79, .list true (r30.inner.map Wire.cells)), (.s [.c], v80, .list true (r64.1.map intC)), (.s [.c, .c, .c], v75, .list true (r20.map Control.cells))]) (K2 := []) (Sep.front (K1 := [(.s [.c], v78, .list true (r30.outer.map strC)), (.s [.c, .c], v79, .list true (r30.inner.map Wire.cells)), (.s [.c], v80, .list true (r64.1.map intC)), (.s [.c, .c, .c], v75, .list true (r20.map Control.cells)), (.s [.c, .c, .s [.c]], v76, .list true (r30.nodes.map (GNode.cells true)))]) (K2 := []) (Sep.front (K1 := [(.s [.c, .c], v79, .list true (r30.inner.map Wire.cells)), (.s [.c], v80, .list true (r64.1.map intC)), (.s [.c, .c, .c], v75, .list true (r20.map Control.cells)), (.s [.c, .c, .s [.c]], v76, .list true (r30.nodes.map (GNode.cells true))), (.s [.c], v77, .list true (r30.sites.map intC))]) (K2 := []) (Sep.front (K1 := [(.s [.c], v80, .list true (r64.1.map intC)), (.s [.c, .c, .c], v75, .list true (r20.map Control.cells)), (.s [.c, .c, .s [.c]], v76, .list true (r30.nodes.map (GNode.cells true))), (.s [.c], v77, .list true (r30.sites.map intC)), (.s [.c], v78, .list true (r30.outer.map strC))]) (K2 := []) (Sep.front (K1 := [(.s [.c, .c, .c], v75, .list true (r20.map Control.cells)), (.s [.c, .c, .s [.c]], v76, .list true (r30.nodes.map (GNode.cells true))), (.s [.c], v77, .list true (r30.sites.map intC)), (.s [.c], v78, .list true (r30.outer.map strC)), (.s [.c, .c], v79, .list true (r30.inner.map Wire.cells))]) (K2 := []) sp))))))⟩ <;> simp [h0, h2, h4, h8, h9, h10, h11, h12, h13, m4_1, m11_47, f202, dc6, dc10, dr200, Control.cells, GNode.cells, Wire.cells, intC, sliceC, strC, -boolBin])
      · replace h := h.2 dr200
        simp [h0, h2, h4, h8, h9, h10, h11, h12, h13, m4_1, m11_47, dc6, dc10, dr200, Control.cells, GNode.cells, Wire.cells, intC, sliceC, strC]
        exact fin92 (true) _ _ _ h (by refine ⟨v75, v76, v77, v78, v79, v80, ?_, ?_, ?_, ?_, ?_, ?_, ?_, ?_, ?_, ?_, ?_, ?_, (Sep.front (K1 := [(.s [.c, .c, .s [.c]], v76, .list true (r30.nodes.map (GNode.cells true))), (.s [.c], v77, .list true (r30.sites.map intC)), (.s [.c], v78, .list true (r30.outer.map strC)), (.s [.c, .c], v79, .list true (r30.inner.map Wire.cells)), (.s [.c], v80, .list true (r64.1.map intC))]) (K2 := []) (Sep.front (K1 := [(.s [.c], v77, .list true (r30.sites.map intC)), (.s [.c], v78, .list true (r30.outer.map strC)), (.s [.c, .c], v79, .list true (r30.inner.map Wire.cells)), (.s [.c], v80, .list true (r64.1.map intC)), (.s [.c, .c, .c], v75, .list true (r20.map Control.cells))]) (K2 := []) (Sep.front (K1 := [(.s [.c], v78, .list true (r30.outer.map strC)), (.s [.c, .c], v79, .list true (r30.inner.map Wire.cells)), (.s [.c], v80, .list true (r64.1.map intC)), (.s [.c, .c, .c], v75, .list true (r20.map Control.cells)), (.s [.c, .c, .s [.c]], v76, .list true (r30.nodes.map (GNode.cells true)))]) (K2 := []) (Sep.front (K1 := [(.s [.c, .c], v79, .list true (r30.inner.map Wire.cells)), (.s [.c], v80, .list true (r64.1.map intC)), (.s [.c, .c, .c], v75, .list true (r20.map Control.cells)), (.s [.c, .c, .s [.c]], v76, .list true (r30.nodes.map (GNode.cells true))), (.s [.c], v77, .list true (r30.sites.map intC))]) (K2 := []) (Sep.front (K1 := [(.s [.c], v80, .list true (r64.1.map intC)), (.s [.c, .c, .c], v75, .list true (r20.map Control.cells)), (.s [.c, .c, .s [.c]], v76, .list true (r30.nodes.map (GNode.cells true))), (.s [.c], v77, .list true (r30.sites.map intC)), (.s [.c], v78, .list true (r30.outer.map strC))]) (K2 := []) (Sep.front (K1 := [(.s [.c, .c, .c], v75, .list true (r20.map Control.cells)), (.s [.c, .c, .s [.c]], v76, .list true (r30.nodes.map (GNode.cells true))), (.s [.c], v77, .list true (r30.sites.map intC)), (.s [.c], v78, .list true (r30.outer.map strC)), (.s [.c, .c], v79, .list true (r30.inner.map Wire.cells))]) (K2 := []) sp))))))⟩ <;> simp [h0, h2, h4, h8, h9, h10, h11, h12, h13, m4_1, m11_47, dc6, dc10, dr200, Control.cells, GNode.cells, Wire.cells, intC, sliceC, strC])

theorem lawAncestorsOf_ok (aSig : List Control) (aB : Big) (aNode : Int) (hp : lawAncestorsOf_pre aSig aB aNode) : PureC Tryd.prog 8 [.list false (aSig.map Control.cells), .agg [int aB.roots, .list false (aB.nodes.map (GNode.cells false)), .list false (aB.sites.map intC), int aB.edges, .list false (aB.outer.map strC), .list false (aB.inner.map Wire.cells)], int aNode] (fun r => r = bool (lawAncestorsOf aSig aB aNode)) := (lawAncestorsOf_walk aSig aB aNode _ (lawAncestorsOf_vc aSig aB aNode hp)).mono (by rintro _ ⟨_, rfl, rfl⟩; rfl)
end Go.Ab.Vg

/- The contract of laws.FnExactAncestorsOf: it answers true. -/
namespace Go.Ab
open Go.Proofs
theorem exactAncestorsOf_ok (sig : Sig) (b : Big) (x : Int) (hs : HugeS sig) (hh : HugeB b) : PureC Tryd.prog 8 [encSig false sig, encB false b, int x] (fun r => r = bool true) := Vg.lawAncestorsOf_ok sig b x ⟨hs, hh⟩
end Go.Ab
