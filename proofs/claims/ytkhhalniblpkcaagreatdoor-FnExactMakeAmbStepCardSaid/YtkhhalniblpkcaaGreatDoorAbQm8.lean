/- Merged texts (8 of 11) of the proof that ends in My: Msw. -/
import Derived.Test.YtkhhalniblpkcaaGreatDoorAbQm7
/- Walks by program for YtkhhalniblpkcaaGreatDoorAbMs. -/
namespace Go.Ab.Vg
open Go.Proofs
set_option maxRecDepth 100000
set_option linter.unusedSimpArgs false
set_option linter.unusedVariables false
theorem inI_ok (p : Proc) (k : Int) (h : p.length ≤ 1048576) : PureC Tryz.prog 51 [.agg [.list false (p.map AmbNode.cells)], int k] (fun r => r = bool (inP p k)) := isNode_ok p k h

theorem inS_ok (p : Proc) (k : Int) (h : p.length ≤ 1048576) : PureC Tryz.prog 48 [.agg [.list false (p.map AmbNode.cells)], int k] (fun r => r = bool (inP p k)) := l12Has_ok p k h

theorem idleI_ok (p : Proc) (k : Int) (h : idleI_pre p k) : PureC Tryz.prog 52 [.agg [.list false (p.map AmbNode.cells)], int k] (fun r => r = bool (idleI p k)) := by obtain ⟨q, rfl⟩ : ∃ q : Nat, k = q := ⟨k.toNat, by have := h.2.1; omega⟩; exact isIdleNode_ok h.1 q (by have := h.2.2; omega)

theorem idleS_ok (p : Proc) (k : Int) (h : idleI_pre p k) : PureC Tryz.prog 49 [.agg [.list false (p.map AmbNode.cells)], int k] (fun r => r = bool (idleI p k)) := by obtain ⟨q, rfl⟩ : ∃ q : Nat, k = q := ⟨k.toNat, by have := h.2.1; omega⟩; exact l12Idle_ok h.1 q (by have := h.2.2; omega)

theorem e32 : Ent Tryz.prog 32 := Ent.of Tryz.func32 (by kernel_rfl) rfl
theorem possible_walk (p : Proc) (s : AmbStep) (Z : Bool → Prop) (h : possible_wp p s Z) : PureC Tryz.prog 32 [.agg [.list false (p.map AmbNode.cells)], .agg [int s.kind, int s.cap, int s.place]] (fun r => ∃ y : Bool, Z y ∧ r = bool y) := by
  unfold possible_wp at h
  refine PureC.of Tryz.func32 rfl Tryz.ntmps32 (by simp) fun Q hQ => ?_
  refine Runs.cut (fun ρ H n => ρ 0 = .agg [.list false (p.map AmbNode.cells)] ∧ ρ 1 = .agg [int s.kind, int s.cap, int s.place]) (by refine ⟨?_, ?_⟩ <;> first | (simp [AmbNode.cells, intC, strC]; done) | omega | (simp; omega)) ?_
  rintro ρ H n1 ⟨h0, h1⟩
  refine Runs.seqE Ty_ok (by decide) fun k' hk' => ?_
  simp [h0, h1, AmbNode.cells, intC, strC]
  refine hk' _ _ _ ?_
  refine Runs.cut (fun ρ H n => ρ 2 = .ptr (n1, 2) 1 0 0 ∧ ρ 3 = .ptr (n1 + 1, 3) 1 0 0 ∧ H (n1, 2) = some ⟨1, [[.list false (p.map AmbNode.cells)]]⟩ ∧ H (n1 + 1, 3) = some ⟨3, [[int s.kind, int s.cap, int s.place]]⟩ ∧ n1 < n ∧ n1 + 1 < n) (by refine ⟨?_, ?_, ?_, ?_, ?_, ?_⟩ <;> first | (simp [h0, h1, AmbNode.cells, intC, strC]; done) | omega | (simp; omega)) ?_
  clear h0 h1
  rintro ρ H n4 ⟨h2, h3, m2_1, m3_2, g2_1, g3_2⟩
  refine Runs.seq ?_
  refine Runs.seqE Ty_ok (by decide) fun k' hk' => ?_
  obtain ⟨J5, hJ6, hr7⟩ := h
  have fin9 : ∀ (sJ : Bool) (ρ : Env) (H : Heap) (n : Nat), J5 sJ → (match sJ with | b8 => ρ 2 = .ptr (n1, 2) 1 0 0 ∧ ρ 3 = .ptr (n1 + 1, 3) 1 0 0 ∧ ρ 25 = bool b8 ∧ H (n1, 2) = some ⟨1, [[.list false (p.map AmbNode.cells)]]⟩ ∧ H (n1 + 1, 3) = some ⟨3, [[int s.kind, int s.cap, int s.place]]⟩ ∧ n1 < n ∧ n1 + 1 < n) → Runs Tryz.prog 32 105 k' ρ H n Q := by
    rintro b8 ρ H n10 h ⟨h2, h3, h25, m2_1, m3_2, g2_1, g3_2⟩
    replace h := hr7 _ h
    refine hk' _ _ _ ?_
    refine Runs.ite (b := b8) (by simp [h2, h3, h25, m2_1, m3_2, g2_1, g3_2, AmbNode.cells, intC, strC]) (fun db8 => ?_) (fun db8 => ?_)
    · replace h := h.1 db8
      refine Runs.seqE Ty_ok (by decide) fun k' hk' => ?_
      simp [h2, h3, h25, m2_1, m3_2, g2_1, g3_2, db8, AmbNode.cells, intC, strC]
      refine hk' _ _ _ ?_
      exact Runs.ret1 (v := bool false) Tryz.func32 Tryz.results32 (by simp [h2, h3, h25, m2_1, m3_2, g2_1, g3_2, db8, AmbNode.cells, intC, strC]) (hQ _ _ _ _ (.of (.v _)) ⟨false, h, rfl⟩)
    · replace h := h.2 db8
      refine Runs.skip ?_
      refine Runs.seqN Ty_ok draws (by decide) (by kernel_rfl) fun k' hk' => ?_
      obtain ⟨hb11, h⟩ := h
      obtain ⟨x12, ex12⟩ : ∃ v : AmbNode, v = at' p s.cap := ⟨_, rfl⟩
      replace h := h x12 ex12
      have f13 := fun H => ix_list (H := H) (fr := false) (f := AmbNode.cells) (k := .i64) kd_26 (fun _ => rfl) hb11 ex12
      obtain ⟨hb14, h⟩ := h
      obtain ⟨x15, ex15⟩ : ∃ v : AmbNode, v = at' p s.place := ⟨_, rfl⟩
      replace h := h x15 ex15
      have f16 := fun H => ix_list (H := H) (fr := false) (f := AmbNode.cells) (k := .i64) kd_26 (fun _ => rfl) hb14 ex15
      simp [h2, h3, h25, m2_1, m3_2, g2_1, g3_2, f13, f16, db8, AmbNode.cells, intC, strC, -indexAddrF]
      intro a17 ha17 qa17; clear qa17
      intro a18 ha18 qa18; clear qa18
      refine ⟨ha17, ha18, hk' _ _ _ ?_⟩
      refine Runs.cut (fun ρ H n => ρ 2 = .ptr (n1, 2) 1 0 0 ∧ ρ 3 = .ptr (n1 + 1, 3) 1 0 0 ∧ ρ 5 = .ptr (a17, 5) 1 0 0 ∧ ρ 6 = .ptr (a18, 6) 1 0 0 ∧ H (n1, 2) = some ⟨1, [[.list false (p.map AmbNode.cells)]]⟩ ∧ H (n1 + 1, 3) = some ⟨3, [[int s.kind, int s.cap, int s.place]]⟩ ∧ H (a17, 5) = some ⟨3, [[int x12.kind, str x12.name, int x12.parent]]⟩ ∧ H (a18, 6) = some ⟨3, [[int x15.kind, str x15.name, int x15.parent]]⟩ ∧ n1 < n ∧ n1 + 1 < n ∧ a17 < n ∧ a18 < n) (by refine ⟨?_, ?_, ?_, ?_, ?_, ?_, ?_, ?_, ?_, ?_, ?_, ?_⟩ <;> first | (simp [h2, h3, h25, m2_1, m3_2, g2_1, g3_2, f13, f16, db8, AmbNode.cells, intC, strC, -indexAddrF]; done) | omega | (simp; omega)) ?_
      clear h2 h3 h25 m2_1 m3_2 g2_1 g3_2
      rintro ρ H n19 ⟨h2, h3, h5, h6, m2_1, m3_2, m5_16, m6_17, g2_1, g3_2, g5_16, g6_17⟩
      refine Runs.seq ?_
      refine Runs.seqE Ty_ok (by decide) fun k' hk' => ?_
      obtain ⟨J20, hJ21, hr22⟩ := h
      have fin24 : ∀ (sJ : Bool) (ρ : Env) (H : Heap) (n : Nat), J20 sJ → (match sJ with | b23 => ρ 2 = .ptr (n1, 2) 1 0 0 ∧ ρ 3 = .ptr (n1 + 1, 3) 1 0 0 ∧ ρ 5 = .ptr (a17, 5) 1 0 0 ∧ ρ 6 = .ptr (a18, 6) 1 0 0 ∧ ρ 60 = bool b23 ∧ H (n1, 2) = some ⟨1, [[.list false (p.map AmbNode.cells)]]⟩ ∧ H (n1 + 1, 3) = some ⟨3, [[int s.kind, int s.cap, int s.place]]⟩ ∧ H (a17, 5) = some ⟨3, [[int x12.kind, str x12.name, int x12.parent]]⟩ ∧ H (a18, 6) = some ⟨3, [[int x15.kind, str x15.name, int x15.parent]]⟩ ∧ n1 < n ∧ n1 + 1 < n ∧ a17 < n ∧ a18 < n) → Runs Tryz.prog 32 105 k' ρ H n Q := by
        rintro b23 ρ H n25 h ⟨h2, h3, h5, h6, h60, m2_1, m3_2, m5_16, m6_17, g2_1, g3_2, g5_16, g6_17⟩
        replace h := hr22 _ h
        refine hk' _ _ _ ?_
        refine Runs.ite (b := b23) (by simp [h2, h3, h5, h6, h60, m2_1, m3_2, m5_16, m6_17, g2_1, g3_2, g5_16, g6_17, db8, AmbNode.cells, intC, strC]) (fun db23 => ?_) (fun db23 => ?_)
        · replace h := h.1 db23
          refine Runs.seqE Ty_ok (by decide) fun k' hk' => ?_
          simp [h2, h3, h5, h6, h60, m2_1, m3_2, m5_16, m6_17, g2_1, g3_2, g5_16, g6_17, db8, db23, AmbNode.cells, intC, strC]
          refine hk' _ _ _ ?_
          exact Runs.ret1 (v := bool false) Tryz.func32 Tryz.results32 (by simp [h2, h3, h5, h6, h60, m2_1, m3_2, m5_16, m6_17, g2_1, g3_2, g5_16, g6_17, db8, db23, AmbNode.cells, intC, strC]) (hQ _ _ _ _ (.of (.v _)) ⟨false, h, rfl⟩)
        · replace h := h.2 db23
          refine Runs.skip ?_
          refine Runs.seqE Ty_ok (by decide) fun k' hk' => ?_
          simp [h2, h3, h5, h6, h60, m2_1, m3_2, m5_16, m6_17, g2_1, g3_2, g5_16, g6_17, db8, db23, AmbNode.cells, intC, strC]
          refine hk' _ _ _ ?_
          refine Runs.seq ?_
          refine Runs.seqE Ty_ok (by decide) fun k' hk' => ?_
          simp [h2, h3, h5, h6, h60, m2_1, m3_2, m5_16, m6_17, g2_1, g3_2, g5_16, g6_17, db8, db23, AmbNode.cells, intC, strC]
          refine hk' _ _ _ ?_
          refine Runs.block ?_
          refine Runs.seqE Ty_ok (by decide) fun k' hk' => ?_
          obtain ⟨c26, ec26⟩ : ∃ v : Bool, v = decide (s.kind = 1) := ⟨_, rfl⟩
          replace h := h c26 ec26
          have f27 := ib_eql (k := .i64) ec26
          simp [h2, h3, h5, h6, h60, m2_1, m3_2, m5_16, m6_17, g2_1, g3_2, g5_16, g6_17, f27, db8, db23, AmbNode.cells, intC, strC, -intBin]
          refine hk' _ _ _ ?_
          refine Runs.ite (b := c26) (by simp [h2, h3, h5, h6, h60, m2_1, m3_2, m5_16, m6_17, g2_1, g3_2, g5_16, g6_17, db8, db23, AmbNode.cells, intC, strC]) (fun dc26 => ?_) (fun dc26 => ?_)
          · replace h := h.1 dc26
            refine Runs.seqD Ty_ok kindOp_ok draws (by decide) (by kernel_rfl) fun k' hk' => ?_
            obtain ⟨J28, hJ29, hr30⟩ := h
            have fin32 : ∀ (sJ : Bool) (ρ : Env) (H : Heap) (n : Nat), J28 sJ → (match sJ with | b31 => ρ 4 = bool b31) → Runs Tryz.prog 32 105 k' ρ H n Q := by
              rintro b31 ρ H n33 h h4
              replace h := hr30 _ h
              refine hk' _ _ _ ?_
              exact Runs.ret1 (v := bool b31) Tryz.func32 Tryz.results32 (by simp [h4, db8, db23, dc26, AmbNode.cells, intC, strC]) (hQ _ _ _ _ (.of (.v _)) ⟨b31, h, rfl⟩)
            replace h := hJ29
            obtain ⟨c34, ec34⟩ : ∃ v : Bool, v = decide (0 ≤ x12.parent) := ⟨_, rfl⟩
            replace h := h c34 ec34
            have f35 := ib_geq (k := .i64) ec34
            rcases Bool.eq_false_or_eq_true c34 with dc34 | dc34
            · replace h := h.1 dc34
              obtain ⟨c36, ec36⟩ : ∃ v : Bool, v = decide (x12.parent ≠ s.place) := ⟨_, rfl⟩
              replace h := h c36 ec36
              have f37 := ib_neq (k := .i64) ec36
              rcases Bool.eq_false_or_eq_true c36 with dc36 | dc36
              · replace h := h.1 dc36
                obtain ⟨hb38, h⟩ := h
                obtain ⟨x39, ex39⟩ : ∃ v : AmbNode, v = at' p x12.parent := ⟨_, rfl⟩
                replace h := h x39 ex39
                have f40 := fun H => ix_list (H := H) (fr := false) (f := AmbNode.cells) (k := .i64) kd_26 (fun _ => rfl) hb38 ex39
                obtain ⟨c41, ec41⟩ : ∃ v : Bool, v = decide (x15.parent = x39.parent) := ⟨_, rfl⟩
                replace h := h c41 ec41
                have f42 := ib_eql (k := .i64) ec41
                simp [h2, h3, h5, h6, h60, m2_1, m3_2, m5_16, m6_17, g2_1, g3_2, g5_16, g6_17, f35, f37, f40, f42, db8, db23, dc26, dc34, dc36, AmbNode.cells, intC, strC, -indexAddrF, -intBin]
                exact fin32 (c41) _ _ _ h (by first | (simp [h2, h3, h5, h6, h60, m2_1, m3_2, m5_16, m6_17, g2_1, g3_2, g5_16, g6_17, f35, f37, f40, f42, db8, db23, dc26, dc34, dc36, AmbNode.cells, intC, strC, -indexAddrF, -intBin]; done) | omega | (simp; omega))
              · replace h := h.2 dc36
                simp [h2, h3, h5, h6, h60, m2_1, m3_2, m5_16, m6_17, g2_1, g3_2, g5_16, g6_17, f35, f37, db8, db23, dc26, dc34, dc36, AmbNode.cells, intC, strC, -intBin]
                exact fin32 (false) _ _ _ h (by first | (simp [h2, h3, h5, h6, h60, m2_1, m3_2, m5_16, m6_17, g2_1, g3_2, g5_16, g6_17, f35, f37, db8, db23, dc26, dc34, dc36, AmbNode.cells, intC, strC, -intBin]; done) | omega | (simp; omega))
            · replace h := h.2 dc34
              simp [h2, h3, h5, h6, h60, m2_1, m3_2, m5_16, m6_17, g2_1, g3_2, g5_16, g6_17, f35, db8, db23, dc26, dc34, AmbNode.cells, intC, strC, -intBin]
              exact fin32 (false) _ _ _ h (by first | (simp [h2, h3, h5, h6, h60, m2_1, m3_2, m5_16, m6_17, g2_1, g3_2, g5_16, g6_17, f35, db8, db23, dc26, dc34, AmbNode.cells, intC, strC, -intBin]; done) | omega | (simp; omega))
          · replace h := h.2 dc26
            refine Runs.seqE Ty_ok (by decide) fun k' hk' => ?_
            obtain ⟨c43, ec43⟩ : ∃ v : Bool, v = decide (s.kind = 2) := ⟨_, rfl⟩
            replace h := h c43 ec43
            have f44 := ib_eql (k := .i64) ec43
            simp [h2, h3, h5, h6, h60, m2_1, m3_2, m5_16, m6_17, g2_1, g3_2, g5_16, g6_17, f44, db8, db23, dc26, AmbNode.cells, intC, strC, -intBin]
            refine hk' _ _ _ ?_
            refine Runs.ite (b := c43) (by simp [h2, h3, h5, h6, h60, m2_1, m3_2, m5_16, m6_17, g2_1, g3_2, g5_16, g6_17, db8, db23, dc26, AmbNode.cells, intC, strC]) (fun dc43 => ?_) (fun dc43 => ?_)
            · replace h := h.1 dc43
              refine Runs.seqD Ty_ok kindOp_ok draws (by decide) (by kernel_rfl) fun k' hk' => ?_
              obtain ⟨J45, hJ46, hr47⟩ := h
              have fin49 : ∀ (sJ : Bool) (ρ : Env) (H : Heap) (n : Nat), J45 sJ → (match sJ with | b48 => ρ 4 = bool b48) → Runs Tryz.prog 32 105 k' ρ H n Q := by
                rintro b48 ρ H n50 h h4
                replace h := hr47 _ h
                refine hk' _ _ _ ?_
                exact Runs.ret1 (v := bool b48) Tryz.func32 Tryz.results32 (by simp [h4, db8, db23, dc26, dc43, AmbNode.cells, intC, strC]) (hQ _ _ _ _ (.of (.v _)) ⟨b48, h, rfl⟩)
              replace h := hJ46
              obtain ⟨c51, ec51⟩ : ∃ v : Bool, v = decide (0 ≤ x12.parent) := ⟨_, rfl⟩
              replace h := h c51 ec51
              have f52 := ib_geq (k := .i64) ec51
              rcases Bool.eq_false_or_eq_true c51 with dc51 | dc51
              · replace h := h.1 dc51
                obtain ⟨hb53, h⟩ := h
                obtain ⟨x54, ex54⟩ : ∃ v : AmbNode, v = at' p x12.parent := ⟨_, rfl⟩
                replace h := h x54 ex54
                have f55 := fun H => ix_list (H := H) (fr := false) (f := AmbNode.cells) (k := .i64) kd_26 (fun _ => rfl) hb53 ex54
                obtain ⟨c56, ec56⟩ : ∃ v : Bool, v = decide (x54.parent = s.place) := ⟨_, rfl⟩
                replace h := h c56 ec56
                have f57 := ib_eql (k := .i64) ec56
                simp [h2, h3, h5, h6, h60, m2_1, m3_2, m5_16, m6_17, g2_1, g3_2, g5_16, g6_17, f52, f55, f57, db8, db23, dc26, dc43, dc51, AmbNode.cells, intC, strC, -indexAddrF, -intBin]
                exact fin49 (c56) _ _ _ h (by first | (simp [h2, h3, h5, h6, h60, m2_1, m3_2, m5_16, m6_17, g2_1, g3_2, g5_16, g6_17, f52, f55, f57, db8, db23, dc26, dc43, dc51, AmbNode.cells, intC, strC, -indexAddrF, -intBin]; done) | omega | (simp; omega))
              · replace h := h.2 dc51
                simp [h2, h3, h5, h6, h60, m2_1, m3_2, m5_16, m6_17, g2_1, g3_2, g5_16, g6_17, f52, db8, db23, dc26, dc43, dc51, AmbNode.cells, intC, strC, -intBin]
                exact fin49 (false) _ _ _ h (by first | (simp [h2, h3, h5, h6, h60, m2_1, m3_2, m5_16, m6_17, g2_1, g3_2, g5_16, g6_17, f52, db8, db23, dc26, dc43, dc51, AmbNode.cells, intC, strC, -intBin]; done) | omega | (simp; omega))
            · replace h := h.2 dc43
              refine Runs.skip ?_
              refine Runs.inBlock ?_
              refine Runs.seqE Ty_ok (by decide) fun k' hk' => ?_
              obtain ⟨c58, ec58⟩ : ∃ v : Bool, v = decide (x15.parent = x12.parent) := ⟨_, rfl⟩
              replace h := h c58 ec58
              have f59 := ib_eql (k := .i64) ec58
              simp [h2, h3, h5, h6, h60, m2_1, m3_2, m5_16, m6_17, g2_1, g3_2, g5_16, g6_17, f59, db8, db23, dc26, dc43, AmbNode.cells, intC, strC, -intBin]
              refine hk' _ _ _ ?_
              exact Runs.ret1 (v := bool c58) Tryz.func32 Tryz.results32 (by simp [h2, h3, h5, h6, h60, m2_1, m3_2, m5_16, m6_17, g2_1, g3_2, g5_16, g6_17, db8, db23, dc26, dc43, AmbNode.cells, intC, strC]) (hQ _ _ _ _ (.of (.v _)) ⟨c58, h, rfl⟩)
      replace h := hJ21
      obtain ⟨c60, ec60⟩ : ∃ v : Bool, v = decide (x12.kind ≠ s.kind) := ⟨_, rfl⟩
      replace h := h c60 ec60
      have f61 := ib_neq (k := .i64) ec60
      rcases Bool.eq_false_or_eq_true c60 with dc60 | dc60
      · replace h := h.1 dc60
        simp [h2, h3, h5, h6, m2_1, m3_2, m5_16, m6_17, g2_1, g3_2, g5_16, g6_17, f61, db8, dc60, AmbNode.cells, intC, strC, -intBin]
        exact fin24 (true) _ _ _ h (by refine ⟨?_, ?_, ?_, ?_, ?_, ?_, ?_, ?_, ?_, ?_, ?_, ?_, ?_⟩ <;> first | (simp [h2, h3, h5, h6, m2_1, m3_2, m5_16, m6_17, g2_1, g3_2, g5_16, g6_17, f61, db8, dc60, AmbNode.cells, intC, strC, -intBin]; done) | omega | (simp; omega))
      · replace h := h.2 dc60
        obtain ⟨hb62, h⟩ := h
        obtain ⟨r63, er63⟩ : ∃ v : Bool, v = idleI p s.cap := ⟨_, rfl⟩
        replace h := h r63 er63
        simp [h2, h3, h5, h6, m2_1, m3_2, m5_16, m6_17, g2_1, g3_2, g5_16, g6_17, f61, db8, dc60, AmbNode.cells, intC, strC, -intBin]
        refine RunK.callA Ty_ok (idleI_ok p s.cap hb62) e52 (.cons (ArgOk.agg (.cons (ArgOk.listF (fr := false) (els := p.map AmbNode.cells) (by simp [AmbNode.cells, intC, strC, intC])) .nil)) (.cons (.v _ _ _) .nil)) (by decide) (by decide) rfl (by simp [h2, h3, h5, h6, m2_1, m3_2, m5_16, m6_17, g2_1, g3_2, g5_16, g6_17, f61, db8, dc60, AmbNode.cells, intC, strC, -intBin]) ?_
        rintro _ rfl
        rw [← er63]
        rcases Bool.eq_false_or_eq_true r63 with dr63 | dr63
        · replace h := h.1 dr63
          simp [h2, h3, h5, h6, m2_1, m3_2, m5_16, m6_17, g2_1, g3_2, g5_16, g6_17, f61, db8, dc60, dr63, AmbNode.cells, intC, strC, -intBin]
          exact fin24 (true) _ _ _ h (by refine ⟨?_, ?_, ?_, ?_, ?_, ?_, ?_, ?_, ?_, ?_, ?_, ?_, ?_⟩ <;> first | (simp [h2, h3, h5, h6, m2_1, m3_2, m5_16, m6_17, g2_1, g3_2, g5_16, g6_17, f61, db8, dc60, dr63, AmbNode.cells, intC, strC, -intBin]; done) | omega | (simp; omega))
        · replace h := h.2 dr63
          obtain ⟨c64, ec64⟩ : ∃ v : Bool, v = decide (x15.kind ≠ 0) := ⟨_, rfl⟩
          replace h := h c64 ec64
          have f65 := ib_neq (k := .i64) ec64
          rcases Bool.eq_false_or_eq_true c64 with dc64 | dc64
          · replace h := h.1 dc64
            simp [h2, h3, h5, h6, m2_1, m3_2, m5_16, m6_17, g2_1, g3_2, g5_16, g6_17, f61, f65, db8, dc60, dr63, dc64, AmbNode.cells, intC, strC, -intBin]
            exact fin24 (true) _ _ _ h (by refine ⟨?_, ?_, ?_, ?_, ?_, ?_, ?_, ?_, ?_, ?_, ?_, ?_, ?_⟩ <;> first | (simp [h2, h3, h5, h6, m2_1, m3_2, m5_16, m6_17, g2_1, g3_2, g5_16, g6_17, f61, f65, db8, dc60, dr63, dc64, AmbNode.cells, intC, strC, -intBin]; done) | omega | (simp; omega))
          · replace h := h.2 dc64
            obtain ⟨c66, ec66⟩ : ∃ v : Bool, v = decide (x15.name ≠ x12.name) := ⟨_, rfl⟩
            replace h := h c66 ec66
            have f67 := sb_neq ec66
            simp [h2, h3, h5, h6, m2_1, m3_2, m5_16, m6_17, g2_1, g3_2, g5_16, g6_17, f61, f65, f67, db8, dc60, dr63, dc64, AmbNode.cells, intC, strC, -intBin, -strBin]
            exact fin24 (c66) _ _ _ h (by refine ⟨?_, ?_, ?_, ?_, ?_, ?_, ?_, ?_, ?_, ?_, ?_, ?_, ?_⟩ <;> first | (simp [h2, h3, h5, h6, m2_1, m3_2, m5_16, m6_17, g2_1, g3_2, g5_16, g6_17, f61, f65, f67, db8, dc60, dr63, dc64, AmbNode.cells, intC, strC, -intBin, -strBin]; done) | omega | (simp; omega))
  replace h := hJ6
  obtain ⟨r68, er68⟩ : ∃ v : Bool, v = within s.kind 1 3 := ⟨_, rfl⟩
  replace h := h r68 er68
  simp [h2, h3, m2_1, m3_2, g2_1, g3_2, AmbNode.cells, intC, strC]
  refine RunK.callA Ty_ok (within_ok s.kind 1 3 ) e43 (.cons (.v _ _ _) (.cons (.v _ _ _) (.cons (.v _ _ _) .nil))) (by decide) (by decide) rfl (by simp [h2, h3, m2_1, m3_2, g2_1, g3_2, AmbNode.cells, intC, strC]) ?_
  rintro _ rfl
  rw [← er68]
  rcases Bool.eq_false_or_eq_true r68 with dr68 | dr68
  · replace h := h.1 dr68
    obtain ⟨hb69, h⟩ := h
    obtain ⟨r70, er70⟩ : ∃ v : Bool, v = inP p s.cap := ⟨_, rfl⟩
    replace h := h r70 er70
    simp [h2, h3, m2_1, m3_2, g2_1, g3_2, dr68, AmbNode.cells, intC, strC]
    refine RunK.callA Ty_ok (inI_ok p s.cap hb69) e51 (.cons (ArgOk.agg (.cons (ArgOk.listF (fr := false) (els := p.map AmbNode.cells) (by simp [AmbNode.cells, intC, strC, intC])) .nil)) (.cons (.v _ _ _) .nil)) (by decide) (by decide) rfl (by simp [h2, h3, m2_1, m3_2, g2_1, g3_2, dr68, AmbNode.cells, intC, strC]) ?_
    rintro _ rfl
    rw [← er70]
    rcases Bool.eq_false_or_eq_true r70 with dr70 | dr70
    · replace h := h.1 dr70
      obtain ⟨hb71, h⟩ := h
      obtain ⟨r72, er72⟩ : ∃ v : Bool, v = inP p s.place := ⟨_, rfl⟩
      replace h := h r72 er72
      simp [h2, h3, m2_1, m3_2, g2_1, g3_2, dr68, dr70, AmbNode.cells, intC, strC]
      refine RunK.callA Ty_ok (inI_ok p s.place hb71) e51 (.cons (ArgOk.agg (.cons (ArgOk.listF (fr := false) (els := p.map AmbNode.cells) (by simp [AmbNode.cells, intC, strC, intC])) .nil)) (.cons (.v _ _ _) .nil)) (by decide) (by decide) rfl (by simp [h2, h3, m2_1, m3_2, g2_1, g3_2, dr68, dr70, AmbNode.cells, intC, strC]) ?_
      rintro _ rfl
      rw [← er72]
      simp [h2, h3, m2_1, m3_2, g2_1, g3_2, dr68, dr70, AmbNode.cells, intC, strC]
      exact fin9 ((!r72)) _ _ _ h (by refine ⟨?_, ?_, ?_, ?_, ?_, ?_, ?_⟩ <;> first | (simp [h2, h3, m2_1, m3_2, g2_1, g3_2, dr68, dr70, AmbNode.cells, intC, strC]; done) | omega | (simp; omega))
    · replace h := h.2 dr70
      simp [h2, h3, m2_1, m3_2, g2_1, g3_2, dr68, dr70, AmbNode.cells, intC, strC]
      exact fin9 (true) _ _ _ h (by refine ⟨?_, ?_, ?_, ?_, ?_, ?_, ?_⟩ <;> first | (simp [h2, h3, m2_1, m3_2, g2_1, g3_2, dr68, dr70, AmbNode.cells, intC, strC]; done) | omega | (simp; omega))
  · replace h := h.2 dr68
    simp [h2, h3, m2_1, m3_2, g2_1, g3_2, dr68, AmbNode.cells, intC, strC]
    exact fin9 (true) _ _ _ h (by refine ⟨?_, ?_, ?_, ?_, ?_, ?_, ?_⟩ <;> first | (simp [h2, h3, m2_1, m3_2, g2_1, g3_2, dr68, AmbNode.cells, intC, strC]; done) | omega | (simp; omega))

theorem possible_ok (p : Proc) (s : AmbStep) (hp : possible_pre p s) : PureC Tryz.prog 32 [.agg [.list false (p.map AmbNode.cells)], .agg [int s.kind, int s.cap, int s.place]] (fun r => r = bool (possible p s)) := (possible_walk p s _ (possible_vc p s hp)).mono (by rintro _ ⟨_, rfl, rfl⟩; rfl)

theorem e30 : Ent Tryz.prog 30 := Ent.of Tryz.func30 (by kernel_rfl) rfl
theorem sPossible_walk (p : Proc) (s : AmbStep) (Z : Bool → Prop) (h : sPossible_wp p s Z) : PureC Tryz.prog 30 [.agg [.list false (p.map AmbNode.cells)], .agg [int s.kind, int s.cap, int s.place]] (fun r => ∃ y : Bool, Z y ∧ r = bool y) := by
  unfold sPossible_wp at h
  refine PureC.of Tryz.func30 rfl Tryz.ntmps30 (by simp) fun Q hQ => ?_
  refine Runs.cut (fun ρ H n => ρ 0 = .agg [.list false (p.map AmbNode.cells)] ∧ ρ 1 = .agg [int s.kind, int s.cap, int s.place]) (by refine ⟨?_, ?_⟩ <;> first | (simp [AmbNode.cells, intC, strC]; done) | omega | (simp; omega)) ?_
  rintro ρ H n1 ⟨h0, h1⟩
  refine Runs.seqE Ty_ok (by decide) fun k' hk' => ?_
  simp [h0, h1, AmbNode.cells, intC, strC]
  refine hk' _ _ _ ?_
  refine Runs.cut (fun ρ H n => ρ 2 = .ptr (n1, 2) 1 0 0 ∧ ρ 3 = .ptr (n1 + 1, 3) 1 0 0 ∧ H (n1, 2) = some ⟨1, [[.list false (p.map AmbNode.cells)]]⟩ ∧ H (n1 + 1, 3) = some ⟨3, [[int s.kind, int s.cap, int s.place]]⟩ ∧ n1 < n ∧ n1 + 1 < n) (by refine ⟨?_, ?_, ?_, ?_, ?_, ?_⟩ <;> first | (simp [h0, h1, AmbNode.cells, intC, strC]; done) | omega | (simp; omega)) ?_
  clear h0 h1
  rintro ρ H n4 ⟨h2, h3, m2_1, m3_2, g2_1, g3_2⟩
  refine Runs.seq ?_
  refine Runs.seqE Ty_ok (by decide) fun k' hk' => ?_
  obtain ⟨J5, hJ6, hr7⟩ := h
  have fin9 : ∀ (sJ : Bool) (ρ : Env) (H : Heap) (n : Nat), J5 sJ → (match sJ with | b8 => ρ 2 = .ptr (n1, 2) 1 0 0 ∧ ρ 3 = .ptr (n1 + 1, 3) 1 0 0 ∧ ρ 24 = bool b8 ∧ H (n1, 2) = some ⟨1, [[.list false (p.map AmbNode.cells)]]⟩ ∧ H (n1 + 1, 3) = some ⟨3, [[int s.kind, int s.cap, int s.place]]⟩ ∧ n1 < n ∧ n1 + 1 < n) → Runs Tryz.prog 30 107 k' ρ H n Q := by
    rintro b8 ρ H n10 h ⟨h2, h3, h24, m2_1, m3_2, g2_1, g3_2⟩
    replace h := hr7 _ h
    refine hk' _ _ _ ?_
    refine Runs.ite (b := b8) (by simp [h2, h3, h24, m2_1, m3_2, g2_1, g3_2, AmbNode.cells, intC, strC]) (fun db8 => ?_) (fun db8 => ?_)
    · replace h := h.1 db8
      refine Runs.seqE Ty_ok (by decide) fun k' hk' => ?_
      simp [h2, h3, h24, m2_1, m3_2, g2_1, g3_2, db8, AmbNode.cells, intC, strC]
      refine hk' _ _ _ ?_
      exact Runs.ret1 (v := bool false) Tryz.func30 Tryz.results30 (by simp [h2, h3, h24, m2_1, m3_2, g2_1, g3_2, db8, AmbNode.cells, intC, strC]) (hQ _ _ _ _ (.of (.v _)) ⟨false, h, rfl⟩)
    · replace h := h.2 db8
      refine Runs.skip ?_
      refine Runs.seqN Ty_ok draws (by decide) (by kernel_rfl) fun k' hk' => ?_
      obtain ⟨hb11, h⟩ := h
      obtain ⟨x12, ex12⟩ : ∃ v : AmbNode, v = at' p s.cap := ⟨_, rfl⟩
      replace h := h x12 ex12
      have f13 := fun H => ix_list (H := H) (fr := false) (f := AmbNode.cells) (k := .i64) kd_26 (fun _ => rfl) hb11 ex12
      obtain ⟨hb14, h⟩ := h
      obtain ⟨x15, ex15⟩ : ∃ v : AmbNode, v = at' p s.place := ⟨_, rfl⟩
      replace h := h x15 ex15
      have f16 := fun H => ix_list (H := H) (fr := false) (f := AmbNode.cells) (k := .i64) kd_26 (fun _ => rfl) hb14 ex15
      simp [h2, h3, h24, m2_1, m3_2, g2_1, g3_2, f13, f16, db8, AmbNode.cells, intC, strC, -indexAddrF]
      intro a17 ha17 qa17; clear qa17
      intro a18 ha18 qa18; clear qa18
      refine ⟨ha17, ha18, hk' _ _ _ ?_⟩
      refine Runs.cut (fun ρ H n => ρ 2 = .ptr (n1, 2) 1 0 0 ∧ ρ 3 = .ptr (n1 + 1, 3) 1 0 0 ∧ ρ 5 = .ptr (a17, 5) 1 0 0 ∧ ρ 6 = .ptr (a18, 6) 1 0 0 ∧ H (n1, 2) = some ⟨1, [[.list false (p.map AmbNode.cells)]]⟩ ∧ H (n1 + 1, 3) = some ⟨3, [[int s.kind, int s.cap, int s.place]]⟩ ∧ H (a17, 5) = some ⟨3, [[int x12.kind, str x12.name, int x12.parent]]⟩ ∧ H (a18, 6) = some ⟨3, [[int x15.kind, str x15.name, int x15.parent]]⟩ ∧ n1 < n ∧ n1 + 1 < n ∧ a17 < n ∧ a18 < n) (by refine ⟨?_, ?_, ?_, ?_, ?_, ?_, ?_, ?_, ?_, ?_, ?_, ?_⟩ <;> first | (simp [h2, h3, h24, m2_1, m3_2, g2_1, g3_2, f13, f16, db8, AmbNode.cells, intC, strC, -indexAddrF]; done) | omega | (simp; omega)) ?_
      clear h2 h3 h24 m2_1 m3_2 g2_1 g3_2
      rintro ρ H n19 ⟨h2, h3, h5, h6, m2_1, m3_2, m5_16, m6_17, g2_1, g3_2, g5_16, g6_17⟩
      refine Runs.seq ?_
      refine Runs.seqE Ty_ok (by decide) fun k' hk' => ?_
      obtain ⟨J20, hJ21, hr22⟩ := h
      have fin24 : ∀ (sJ : Bool) (ρ : Env) (H : Heap) (n : Nat), J20 sJ → (match sJ with | b23 => ρ 2 = .ptr (n1, 2) 1 0 0 ∧ ρ 3 = .ptr (n1 + 1, 3) 1 0 0 ∧ ρ 5 = .ptr (a17, 5) 1 0 0 ∧ ρ 6 = .ptr (a18, 6) 1 0 0 ∧ ρ 58 = bool b23 ∧ H (n1, 2) = some ⟨1, [[.list false (p.map AmbNode.cells)]]⟩ ∧ H (n1 + 1, 3) = some ⟨3, [[int s.kind, int s.cap, int s.place]]⟩ ∧ H (a17, 5) = some ⟨3, [[int x12.kind, str x12.name, int x12.parent]]⟩ ∧ H (a18, 6) = some ⟨3, [[int x15.kind, str x15.name, int x15.parent]]⟩ ∧ n1 < n ∧ n1 + 1 < n ∧ a17 < n ∧ a18 < n) → Runs Tryz.prog 30 107 k' ρ H n Q := by
        rintro b23 ρ H n25 h ⟨h2, h3, h5, h6, h58, m2_1, m3_2, m5_16, m6_17, g2_1, g3_2, g5_16, g6_17⟩
        replace h := hr22 _ h
        refine hk' _ _ _ ?_
        refine Runs.ite (b := b23) (by simp [h2, h3, h5, h6, h58, m2_1, m3_2, m5_16, m6_17, g2_1, g3_2, g5_16, g6_17, db8, AmbNode.cells, intC, strC]) (fun db23 => ?_) (fun db23 => ?_)
        · replace h := h.1 db23
          refine Runs.seqE Ty_ok (by decide) fun k' hk' => ?_
          simp [h2, h3, h5, h6, h58, m2_1, m3_2, m5_16, m6_17, g2_1, g3_2, g5_16, g6_17, db8, db23, AmbNode.cells, intC, strC]
          refine hk' _ _ _ ?_
          exact Runs.ret1 (v := bool false) Tryz.func30 Tryz.results30 (by simp [h2, h3, h5, h6, h58, m2_1, m3_2, m5_16, m6_17, g2_1, g3_2, g5_16, g6_17, db8, db23, AmbNode.cells, intC, strC]) (hQ _ _ _ _ (.of (.v _)) ⟨false, h, rfl⟩)
        · replace h := h.2 db23
          refine Runs.skip ?_
          refine Runs.seq ?_
          refine Runs.seqE Ty_ok (by decide) fun k' hk' => ?_
          simp [h2, h3, h5, h6, h58, m2_1, m3_2, m5_16, m6_17, g2_1, g3_2, g5_16, g6_17, db8, db23, AmbNode.cells, intC, strC]
          refine hk' _ _ _ ?_
          refine Runs.block ?_
          refine Runs.seqE Ty_ok (by decide) fun k' hk' => ?_
          obtain ⟨c26, ec26⟩ : ∃ v : Bool, v = decide (s.kind = 1) := ⟨_, rfl⟩
          replace h := h c26 ec26
          have f27 := ib_eql (k := .i64) ec26
          simp [h2, h3, h5, h6, h58, m2_1, m3_2, m5_16, m6_17, g2_1, g3_2, g5_16, g6_17, f27, db8, db23, AmbNode.cells, intC, strC, -intBin]
          refine hk' _ _ _ ?_
          refine Runs.ite (b := c26) (by simp [h2, h3, h5, h6, h58, m2_1, m3_2, m5_16, m6_17, g2_1, g3_2, g5_16, g6_17, db8, db23, AmbNode.cells, intC, strC]) (fun dc26 => ?_) (fun dc26 => ?_)
          · replace h := h.1 dc26
            refine Runs.seqD Ty_ok kindOp_ok draws (by decide) (by kernel_rfl) fun k' hk' => ?_
            obtain ⟨J28, hJ29, hr30⟩ := h
            have fin32 : ∀ (sJ : Bool) (ρ : Env) (H : Heap) (n : Nat), J28 sJ → (match sJ with | b31 => ρ 4 = bool b31) → Runs Tryz.prog 30 107 k' ρ H n Q := by
              rintro b31 ρ H n33 h h4
              replace h := hr30 _ h
              refine hk' _ _ _ ?_
              exact Runs.ret1 (v := bool b31) Tryz.func30 Tryz.results30 (by simp [h4, db8, db23, dc26, AmbNode.cells, intC, strC]) (hQ _ _ _ _ (.of (.v _)) ⟨b31, h, rfl⟩)
            replace h := hJ29
            obtain ⟨c34, ec34⟩ : ∃ v : Bool, v = decide (0 ≤ x12.parent) := ⟨_, rfl⟩
            replace h := h c34 ec34
            have f35 := ib_geq (k := .i64) ec34
            rcases Bool.eq_false_or_eq_true c34 with dc34 | dc34
            · replace h := h.1 dc34
              obtain ⟨c36, ec36⟩ : ∃ v : Bool, v = decide (x12.parent ≠ s.place) := ⟨_, rfl⟩
              replace h := h c36 ec36
              have f37 := ib_neq (k := .i64) ec36
              rcases Bool.eq_false_or_eq_true c36 with dc36 | dc36
              · replace h := h.1 dc36
                obtain ⟨hb38, h⟩ := h
                obtain ⟨x39, ex39⟩ : ∃ v : AmbNode, v = at' p x12.parent := ⟨_, rfl⟩
                replace h := h x39 ex39
                have f40 := fun H => ix_list (H := H) (fr := false) (f := AmbNode.cells) (k := .i64) kd_26 (fun _ => rfl) hb38 ex39
                obtain ⟨c41, ec41⟩ : ∃ v : Bool, v = decide (x39.parent = x15.parent) := ⟨_, rfl⟩
                replace h := h c41 ec41
                have f42 := ib_eql (k := .i64) ec41
                simp [h2, h3, h5, h6, h58, m2_1, m3_2, m5_16, m6_17, g2_1, g3_2, g5_16, g6_17, f35, f37, f40, f42, db8, db23, dc26, dc34, dc36, AmbNode.cells, intC, strC, -indexAddrF, -intBin]
                exact fin32 (c41) _ _ _ h (by first | (simp [h2, h3, h5, h6, h58, m2_1, m3_2, m5_16, m6_17, g2_1, g3_2, g5_16, g6_17, f35, f37, f40, f42, db8, db23, dc26, dc34, dc36, AmbNode.cells, intC, strC, -indexAddrF, -intBin]; done) | omega | (simp; omega))
              · replace h := h.2 dc36
                simp [h2, h3, h5, h6, h58, m2_1, m3_2, m5_16, m6_17, g2_1, g3_2, g5_16, g6_17, f35, f37, db8, db23, dc26, dc34, dc36, AmbNode.cells, intC, strC, -intBin]
                exact fin32 (false) _ _ _ h (by first | (simp [h2, h3, h5, h6, h58, m2_1, m3_2, m5_16, m6_17, g2_1, g3_2, g5_16, g6_17, f35, f37, db8, db23, dc26, dc34, dc36, AmbNode.cells, intC, strC, -intBin]; done) | omega | (simp; omega))
            · replace h := h.2 dc34
              simp [h2, h3, h5, h6, h58, m2_1, m3_2, m5_16, m6_17, g2_1, g3_2, g5_16, g6_17, f35, db8, db23, dc26, dc34, AmbNode.cells, intC, strC, -intBin]
              exact fin32 (false) _ _ _ h (by first | (simp [h2, h3, h5, h6, h58, m2_1, m3_2, m5_16, m6_17, g2_1, g3_2, g5_16, g6_17, f35, db8, db23, dc26, dc34, AmbNode.cells, intC, strC, -intBin]; done) | omega | (simp; omega))
          · replace h := h.2 dc26
            refine Runs.seqE Ty_ok (by decide) fun k' hk' => ?_
            obtain ⟨c43, ec43⟩ : ∃ v : Bool, v = decide (s.kind = 2) := ⟨_, rfl⟩
            replace h := h c43 ec43
            have f44 := ib_eql (k := .i64) ec43
            simp [h2, h3, h5, h6, h58, m2_1, m3_2, m5_16, m6_17, g2_1, g3_2, g5_16, g6_17, f44, db8, db23, dc26, AmbNode.cells, intC, strC, -intBin]
            refine hk' _ _ _ ?_
            refine Runs.ite (b := c43) (by simp [h2, h3, h5, h6, h58, m2_1, m3_2, m5_16, m6_17, g2_1, g3_2, g5_16, g6_17, db8, db23, dc26, AmbNode.cells, intC, strC]) (fun dc43 => ?_) (fun dc43 => ?_)
            · replace h := h.1 dc43
              refine Runs.seqD Ty_ok kindOp_ok draws (by decide) (by kernel_rfl) fun k' hk' => ?_
              obtain ⟨J45, hJ46, hr47⟩ := h
              have fin49 : ∀ (sJ : Bool) (ρ : Env) (H : Heap) (n : Nat), J45 sJ → (match sJ with | b48 => ρ 4 = bool b48) → Runs Tryz.prog 30 107 k' ρ H n Q := by
                rintro b48 ρ H n50 h h4
                replace h := hr47 _ h
                refine hk' _ _ _ ?_
                exact Runs.ret1 (v := bool b48) Tryz.func30 Tryz.results30 (by simp [h4, db8, db23, dc26, dc43, AmbNode.cells, intC, strC]) (hQ _ _ _ _ (.of (.v _)) ⟨b48, h, rfl⟩)
              replace h := hJ46
              obtain ⟨c51, ec51⟩ : ∃ v : Bool, v = decide (0 ≤ x12.parent) := ⟨_, rfl⟩
              replace h := h c51 ec51
              have f52 := ib_geq (k := .i64) ec51
              rcases Bool.eq_false_or_eq_true c51 with dc51 | dc51
              · replace h := h.1 dc51
                obtain ⟨hb53, h⟩ := h
                obtain ⟨x54, ex54⟩ : ∃ v : AmbNode, v = at' p x12.parent := ⟨_, rfl⟩
                replace h := h x54 ex54
                have f55 := fun H => ix_list (H := H) (fr := false) (f := AmbNode.cells) (k := .i64) kd_26 (fun _ => rfl) hb53 ex54
                obtain ⟨c56, ec56⟩ : ∃ v : Bool, v = decide (x54.parent = s.place) := ⟨_, rfl⟩
                replace h := h c56 ec56
                have f57 := ib_eql (k := .i64) ec56
                simp [h2, h3, h5, h6, h58, m2_1, m3_2, m5_16, m6_17, g2_1, g3_2, g5_16, g6_17, f52, f55, f57, db8, db23, dc26, dc43, dc51, AmbNode.cells, intC, strC, -indexAddrF, -intBin]
                exact fin49 (c56) _ _ _ h (by first | (simp [h2, h3, h5, h6, h58, m2_1, m3_2, m5_16, m6_17, g2_1, g3_2, g5_16, g6_17, f52, f55, f57, db8, db23, dc26, dc43, dc51, AmbNode.cells, intC, strC, -indexAddrF, -intBin]; done) | omega | (simp; omega))
              · replace h := h.2 dc51
                simp [h2, h3, h5, h6, h58, m2_1, m3_2, m5_16, m6_17, g2_1, g3_2, g5_16, g6_17, f52, db8, db23, dc26, dc43, dc51, AmbNode.cells, intC, strC, -intBin]
                exact fin49 (false) _ _ _ h (by first | (simp [h2, h3, h5, h6, h58, m2_1, m3_2, m5_16, m6_17, g2_1, g3_2, g5_16, g6_17, f52, db8, db23, dc26, dc43, dc51, AmbNode.cells, intC, strC, -intBin]; done) | omega | (simp; omega))
            · replace h := h.2 dc43
              refine Runs.skip ?_
              refine Runs.inBlock ?_
              refine Runs.seqE Ty_ok (by decide) fun k' hk' => ?_
              obtain ⟨c58, ec58⟩ : ∃ v : Bool, v = decide (x12.parent = x15.parent) := ⟨_, rfl⟩
              replace h := h c58 ec58
              have f59 := ib_eql (k := .i64) ec58
              simp [h2, h3, h5, h6, h58, m2_1, m3_2, m5_16, m6_17, g2_1, g3_2, g5_16, g6_17, f59, db8, db23, dc26, dc43, AmbNode.cells, intC, strC, -intBin]
              refine hk' _ _ _ ?_
              exact Runs.ret1 (v := bool c58) Tryz.func30 Tryz.results30 (by simp [h2, h3, h5, h6, h58, m2_1, m3_2, m5_16, m6_17, g2_1, g3_2, g5_16, g6_17, db8, db23, dc26, dc43, AmbNode.cells, intC, strC]) (hQ _ _ _ _ (.of (.v _)) ⟨c58, h, rfl⟩)
      replace h := hJ21
      obtain ⟨c60, ec60⟩ : ∃ v : Bool, v = decide (x12.kind = 0) := ⟨_, rfl⟩
      replace h := h c60 ec60
      have f61 := ib_eql (k := .i64) ec60
      rcases Bool.eq_false_or_eq_true c60 with dc60 | dc60
      · replace h := h.1 dc60
        simp [h2, h3, h5, h6, m2_1, m3_2, m5_16, m6_17, g2_1, g3_2, g5_16, g6_17, f61, db8, dc60, AmbNode.cells, intC, strC, -intBin]
        exact fin24 (true) _ _ _ h (by refine ⟨?_, ?_, ?_, ?_, ?_, ?_, ?_, ?_, ?_, ?_, ?_, ?_, ?_⟩ <;> first | (simp [h2, h3, h5, h6, m2_1, m3_2, m5_16, m6_17, g2_1, g3_2, g5_16, g6_17, f61, db8, dc60, AmbNode.cells, intC, strC, -intBin]; done) | omega | (simp; omega))
      · replace h := h.2 dc60
        obtain ⟨c62, ec62⟩ : ∃ v : Bool, v = decide (x12.kind ≠ s.kind) := ⟨_, rfl⟩
        replace h := h c62 ec62
        have f63 := ib_neq (k := .i64) ec62
        rcases Bool.eq_false_or_eq_true c62 with dc62 | dc62
        · replace h := h.1 dc62
          simp [h2, h3, h5, h6, m2_1, m3_2, m5_16, m6_17, g2_1, g3_2, g5_16, g6_17, f61, f63, db8, dc60, dc62, AmbNode.cells, intC, strC, -intBin]
          exact fin24 (true) _ _ _ h (by refine ⟨?_, ?_, ?_, ?_, ?_, ?_, ?_, ?_, ?_, ?_, ?_, ?_, ?_⟩ <;> first | (simp [h2, h3, h5, h6, m2_1, m3_2, m5_16, m6_17, g2_1, g3_2, g5_16, g6_17, f61, f63, db8, dc60, dc62, AmbNode.cells, intC, strC, -intBin]; done) | omega | (simp; omega))
        · replace h := h.2 dc62
          obtain ⟨c64, ec64⟩ : ∃ v : Bool, v = decide (x15.kind ≠ 0) := ⟨_, rfl⟩
          replace h := h c64 ec64
          have f65 := ib_neq (k := .i64) ec64
          rcases Bool.eq_false_or_eq_true c64 with dc64 | dc64
          · replace h := h.1 dc64
            simp [h2, h3, h5, h6, m2_1, m3_2, m5_16, m6_17, g2_1, g3_2, g5_16, g6_17, f61, f63, f65, db8, dc60, dc62, dc64, AmbNode.cells, intC, strC, -intBin]
            exact fin24 (true) _ _ _ h (by refine ⟨?_, ?_, ?_, ?_, ?_, ?_, ?_, ?_, ?_, ?_, ?_, ?_, ?_⟩ <;> first | (simp [h2, h3, h5, h6, m2_1, m3_2, m5_16, m6_17, g2_1, g3_2, g5_16, g6_17, f61, f63, f65, db8, dc60, dc62, dc64, AmbNode.cells, intC, strC, -intBin]; done) | omega | (simp; omega))
          · replace h := h.2 dc64
            obtain ⟨c66, ec66⟩ : ∃ v : Bool, v = decide (x12.name ≠ x15.name) := ⟨_, rfl⟩
            replace h := h c66 ec66
            have f67 := sb_neq ec66
            simp [h2, h3, h5, h6, m2_1, m3_2, m5_16, m6_17, g2_1, g3_2, g5_16, g6_17, f61, f63, f65, f67, db8, dc60, dc62, dc64, AmbNode.cells, intC, strC, -intBin, -strBin]
            exact fin24 (c66) _ _ _ h (by refine ⟨?_, ?_, ?_, ?_, ?_, ?_, ?_, ?_, ?_, ?_, ?_, ?_, ?_⟩ <;> first | (simp [h2, h3, h5, h6, m2_1, m3_2, m5_16, m6_17, g2_1, g3_2, g5_16, g6_17, f61, f63, f65, f67, db8, dc60, dc62, dc64, AmbNode.cells, intC, strC, -intBin, -strBin]; done) | omega | (simp; omega))
  replace h := hJ6
  obtain ⟨hb68, h⟩ := h
  obtain ⟨r69, er69⟩ : ∃ v : Bool, v = inP p s.cap := ⟨_, rfl⟩
  replace h := h r69 er69
  simp [h2, h3, m2_1, m3_2, g2_1, g3_2, AmbNode.cells, intC, strC]
  refine RunK.callA Ty_ok (inS_ok p s.cap hb68) e48 (.cons (ArgOk.agg (.cons (ArgOk.listF (fr := false) (els := p.map AmbNode.cells) (by simp [AmbNode.cells, intC, strC, intC])) .nil)) (.cons (.v _ _ _) .nil)) (by decide) (by decide) rfl (by simp [h2, h3, m2_1, m3_2, g2_1, g3_2, AmbNode.cells, intC, strC]) ?_
  rintro _ rfl
  rw [← er69]
  rcases Bool.eq_false_or_eq_true r69 with dr69 | dr69
  · replace h := h.1 dr69
    obtain ⟨hb70, h⟩ := h
    obtain ⟨r71, er71⟩ : ∃ v : Bool, v = inP p s.place := ⟨_, rfl⟩
    replace h := h r71 er71
    simp [h2, h3, m2_1, m3_2, g2_1, g3_2, dr69, AmbNode.cells, intC, strC]
    refine RunK.callA Ty_ok (inS_ok p s.place hb70) e48 (.cons (ArgOk.agg (.cons (ArgOk.listF (fr := false) (els := p.map AmbNode.cells) (by simp [AmbNode.cells, intC, strC, intC])) .nil)) (.cons (.v _ _ _) .nil)) (by decide) (by decide) rfl (by simp [h2, h3, m2_1, m3_2, g2_1, g3_2, dr69, AmbNode.cells, intC, strC]) ?_
    rintro _ rfl
    rw [← er71]
    rcases Bool.eq_false_or_eq_true r71 with dr71 | dr71
    · replace h := h.1 dr71
      obtain ⟨hb72, h⟩ := h
      obtain ⟨r73, er73⟩ : ∃ v : Bool, v = idleI p s.cap := ⟨_, rfl⟩
      replace h := h r73 er73
      simp [h2, h3, m2_1, m3_2, g2_1, g3_2, dr69, dr71, AmbNode.cells, intC, strC]
      refine RunK.callA Ty_ok (idleS_ok p s.cap hb72) e49 (.cons (ArgOk.agg (.cons (ArgOk.listF (fr := false) (els := p.map AmbNode.cells) (by simp [AmbNode.cells, intC, strC, intC])) .nil)) (.cons (.v _ _ _) .nil)) (by decide) (by decide) rfl (by simp [h2, h3, m2_1, m3_2, g2_1, g3_2, dr69, dr71, AmbNode.cells, intC, strC]) ?_
      rintro _ rfl
      rw [← er73]
      simp [h2, h3, m2_1, m3_2, g2_1, g3_2, dr69, dr71, AmbNode.cells, intC, strC]
      exact fin9 (r73) _ _ _ h (by refine ⟨?_, ?_, ?_, ?_, ?_, ?_, ?_⟩ <;> first | (simp [h2, h3, m2_1, m3_2, g2_1, g3_2, dr69, dr71, AmbNode.cells, intC, strC]; done) | omega | (simp; omega))
    · replace h := h.2 dr71
      simp [h2, h3, m2_1, m3_2, g2_1, g3_2, dr69, dr71, AmbNode.cells, intC, strC]
      exact fin9 (true) _ _ _ h (by refine ⟨?_, ?_, ?_, ?_, ?_, ?_, ?_⟩ <;> first | (simp [h2, h3, m2_1, m3_2, g2_1, g3_2, dr69, dr71, AmbNode.cells, intC, strC]; done) | omega | (simp; omega))
  · replace h := h.2 dr69
    simp [h2, h3, m2_1, m3_2, g2_1, g3_2, dr69, AmbNode.cells, intC, strC]
    exact fin9 (true) _ _ _ h (by refine ⟨?_, ?_, ?_, ?_, ?_, ?_, ?_⟩ <;> first | (simp [h2, h3, m2_1, m3_2, g2_1, g3_2, dr69, AmbNode.cells, intC, strC]; done) | omega | (simp; omega))

theorem sPossible_ok (p : Proc) (s : AmbStep) (hp : sPossible_pre p s) : PureC Tryz.prog 30 [.agg [.list false (p.map AmbNode.cells)], .agg [int s.kind, int s.cap, int s.place]] (fun r => r = bool (sPossible p s)) := (sPossible_walk p s _ (sPossible_vc p s hp)).mono (by rintro _ ⟨_, rfl, rfl⟩; rfl)

theorem e53 : Ent Tryz.prog 53 := Ent.of Tryz.func53 (by kernel_rfl) rfl
theorem cloneN_walk (s : List AmbNode) (Z : (List AmbNode) → Prop) (h : cloneN_wp s Z) : OwnS Tryz.prog 53 [.list false (s.map AmbNode.cells)] (.s [.c, .c, .c]) (fun r => ∃ y : List AmbNode, Z y ∧ r = .list true (y.map AmbNode.cells)) := by
  unfold cloneN_wp at h
  have sp : Sep noHeap 0 [] [] := Sep.nil (by simp)
  refine OwnS.of Tryz.func53 rfl Tryz.ntmps53 (by simp) fun Q hQ => ?_
  refine Runs.cut (fun ρ H n => ρ 0 = .list false (s.map AmbNode.cells) ∧ Sep H n [] []) (by refine ⟨?_, sp⟩ <;> simp [AmbNode.cells, intC, strC]) ?_
  rintro ρ H n1 ⟨h0, sp⟩
  refine Runs.seqE Ty_ok (by decide) fun k' hk' => ?_
  simp [h0, AmbNode.cells, intC, strC]
  refine hk' _ _ _ ?_
  refine Runs.seq ?_
  refine Runs.seqE Ty_ok (by decide) fun k' hk' => ?_
  simp [h0, AmbNode.cells, intC, strC]
  refine RunK.isNil (fr := false) (els := s.map AmbNode.cells) Ty_ok (by decide) (by decide) kd_26 (by simp [h0, AmbNode.cells, intC, strC]) (by simp [h0, AmbNode.cells, intC, strC]) ?_
  rintro c2 hc3
  replace h := h c2 (fun hq => by simpa using hc3 hq)
  simp [h0, AmbNode.cells, intC, strC]
  refine hk' _ _ _ ?_
  refine Runs.ite (b := c2) (by simp [h0, AmbNode.cells, intC, strC]) (fun dc2 => ?_) (fun dc2 => ?_)
  · replace h := h.1 dc2
    refine Runs.seqE Ty_ok (by decide) fun k' hk' => ?_
    simp [h0, dc2, AmbNode.cells, intC, strC]
    refine hk' _ _ _ ?_
    exact Runs.ret1 (v := .v (.slice none 0 0)) Tryz.func53 Tryz.results53 (by simp [h0, dc2, AmbNode.cells, intC, strC]) (hQ _ _ _ _ (Sep.sub (ids' := []) (Sep.addNil sp) (by simp)) ⟨[], h, rfl⟩)
  · replace h := h.2 dc2
    refine Runs.skip ?_
    refine Runs.seqE Ty_ok (by decide) fun k' hk' => ?_
    obtain ⟨hb6, h⟩ := h
    obtain ⟨l7, el7⟩ : ∃ v : List AmbNode, v = ([] : List AmbNode) ++ s := ⟨_, rfl⟩
    replace h := h l7 el7
    simp [h0, dc2, AmbNode.cells, intC, strC, -appendF]
    refine bind_append0 (s.map AmbNode.cells) (Sep.addEmpty (l := [.c, .c, .c]) sp) (by simp) kd_26 (by simp) (by simp) (by simp [srcOf, AmbNode.cells, intC, strC]) (by simp [-one1, o1_int, o1_bool, o1_str, o1_nil, o1_list, o1_arr, o1_ptr, flat, AmbNode.cells, intC, strC]) (by simpa using hb6) ?_
    rintro v8 H9 n10 sp hfr11 hle12
    replace sp : Sep H9 n10 [(.s [.c, .c, .c], v8, .list true (l7.map AmbNode.cells))] [] := by rw [el7, List.map_append]; exact sp
    simp [h0, dc2, AmbNode.cells, intC, strC]
    refine hk' _ _ _ ?_
    refine Runs.cut (fun ρ H n => ∃ (v14 : AVal), ρ 2 = v14 ∧ Sep H n [(.s [.c, .c, .c], v14, .list true (l7.map AmbNode.cells))] []) (by refine ⟨v8, ?_, sp⟩ <;> simp [h0, dc2, AmbNode.cells, intC, strC]) ?_
    clear h0
    rintro ρ H n15 ⟨v14, h2, sp⟩
    exact Runs.ret1 (v := v14) Tryz.func53 Tryz.results53 (by simp [h2, dc2, AmbNode.cells, intC, strC]) (hQ _ _ _ _ (Sep.sub (ids' := []) sp (by simp)) ⟨l7, h, rfl⟩)

theorem cloneN_ok (s : List AmbNode) (hp : cloneN_pre s) : OwnS Tryz.prog 53 [.list false (s.map AmbNode.cells)] (.s [.c, .c, .c]) (fun r => r = .list true ((cloneN s).map AmbNode.cells)) := (cloneN_walk s _ (cloneN_vc s hp)).mono (by rintro _ ⟨_, rfl, rfl⟩; rfl)

theorem canonG_walk (p : Proc) (Z : Proc → Prop) (h : canonG_wp p Z) : OwnS Tryz.prog 26 [.agg [.list false (p.map AmbNode.cells)]] (.a [.s [.c, .c, .c]]) (fun r => ∃ y : Proc, Z y ∧ r = .agg [.list true (y.map AmbNode.cells)]) := by
  unfold canonG_wp at h
  have sp : Sep noHeap 0 [] [] := Sep.nil (by simp)
  refine OwnS.of Tryz.func26 rfl Tryz.ntmps26 (by simp) fun Q hQ => ?_
  refine Runs.cut (fun ρ H n => ρ 0 = .agg [.list false (p.map AmbNode.cells)] ∧ Sep H n [] []) (by refine ⟨?_, sp⟩ <;> simp [AmbNode.cells, intC, strC]) ?_
  rintro ρ H n1 ⟨h0, sp⟩
  refine Runs.seqE Ty_ok (by decide) fun k' hk' => ?_
  simp [h0, AmbNode.cells, intC, strC]
  refine hk' _ _ _ ?_
  refine Runs.cut (fun ρ H n => ρ 1 = .ptr (n1, 1) 1 0 0 ∧ ρ 2 = .ptr (n1 + 1, 2) 1 0 0 ∧ H (n1, 1) = some ⟨1, [[.list false (p.map AmbNode.cells)]]⟩ ∧ H (n1 + 1, 2) = some ⟨1, [[.v (.slice none 0 0)]]⟩ ∧ Sep H n [] [(n1 + 1, 2), (n1, 1)]) (by refine ⟨?_, ?_, ?_, ?_, (Sep.var (Sep.var sp))⟩ <;> simp [h0, AmbNode.cells, intC, strC]) ?_
  clear h0
  rintro ρ H n4 ⟨h1, h2, m1_1, m2_2, sp⟩
  refine Runs.seqE Ty_ok (by decide) fun k' hk' => ?_
  obtain ⟨hb5, h⟩ := h
  obtain ⟨r6, er6⟩ : ∃ v : Str, v = sortedG p (-1) := ⟨_, rfl⟩
  replace h := h r6 er6
  simp [h1, h2, m1_1, m2_2, AmbNode.cells, intC, strC]
  refine RunK.callA Ty_ok (sortedG_ok p (-1) hb5) e45 (.cons (ArgOk.agg (.cons (ArgOk.listF (fr := false) (els := p.map AmbNode.cells) (by simp [AmbNode.cells, intC, strC, intC])) .nil)) (.cons (.v _ _ _) .nil)) (by decide) (by decide) rfl (by simp [h1, h2, m1_1, m2_2, AmbNode.cells, intC, strC]) ?_
  rintro _ rfl
  rw [← er6]
  obtain ⟨hb7, h⟩ := h
  obtain ⟨r8, er8⟩ : ∃ v : Proc × Bool, v = parse r6 := ⟨_, rfl⟩
  replace h := h r8 er8
  simp [h1, h2, m1_1, m2_2, AmbNode.cells, intC, strC]
  refine RunK.callW Ty_ok (parseI_ok r6 hb7) e36 (.cons (.v _ _ _) .nil) sp (by decide) (by decide) rfl (by simp [h1, h2, m1_1, m2_2, AmbNode.cells, intC, strC]) ?_
  rintro v9 H10 n11 _ sp rfl hle13 hfr12
  rw [← er8] at sp
  have m1_1 : H10 (n1, 1) = some ⟨1, [[.list false (p.map AmbNode.cells)]]⟩ := (hfr12 _ (by simp)).trans (by simp [h1, h2, m1_1, m2_2, Heap.get_set])
  have m2_2 : H10 (n1 + 1, 2) = some ⟨1, [[.v (.slice none 0 0)]]⟩ := (hfr12 _ (by simp)).trans (by simp [h1, h2, m1_1, m2_2, Heap.get_set])
  replace sp := Sep.unpackT sp
  obtain ⟨L17, hv, hl18, sp⟩ := sp
  subst hv
  obtain ⟨v15, v16, hv⟩ := len2 (by simpa using hl18)
  subst hv
  simp only [zip3, List.cons_append, List.nil_append] at sp
  replace sp := Sep.unpack sp
  obtain ⟨L20, hv, hl21, sp⟩ := sp
  subst hv
  obtain ⟨v19, hv⟩ := len1 (by simpa using hl21)
  subst hv
  simp only [zip3, List.cons_append, List.nil_append] at sp
  replace sp := Sep.rot sp
  try simp only [List.cons_append, List.nil_append, List.append_assoc] at sp
  replace sp := Sep.scalar sp
  obtain ⟨hv, sp⟩ := sp
  subst hv
  replace sp : Sep H10 n11 [(.s [.c, .c, .c], v19, .list true (r8.1.map AmbNode.cells))] [(n1 + 1, 2), (n1, 1)] := sp
  have f24 := cell_own (Sep.cells sp)
  have f25 := cell_own (Sep.one1 sp)
  simp [h1, h2, m1_1, m2_2, f24, f25, AmbNode.cells, intC, strC, -cellsA, -one1, cA_int, cA_bool, cA_str, cA_nil, cA_agg, cA_list, cA_arr, cA_ptr, o1_int, o1_bool, o1_str, o1_nil, o1_list, o1_arr, o1_ptr]
  refine hk' _ _ _ ?_
  refine Runs.cut (fun ρ H n => ∃ (v26 : AVal), ρ 2 = .ptr (n1 + 1, 2) 1 0 0 ∧ ρ 3 = .ptr (n11, 3) 1 0 0 ∧ H (n1 + 1, 2) = some ⟨1, [[.v (.slice none 0 0)]]⟩ ∧ H (n11, 3) = some ⟨1, [[v26]]⟩ ∧ Sep H n [(.s [.c, .c, .c], v26, .list true (r8.1.map AmbNode.cells))] [(n11, 3), (n1 + 1, 2)]) (by refine ⟨v19, ?_, ?_, ?_, ?_, (Sep.sub (Sep.var sp) (by simp +contextual))⟩ <;> simp [h1, h2, m1_1, m2_2, f24, f25, AmbNode.cells, intC, strC, -cellsA, -one1, cA_int, cA_bool, cA_str, cA_nil, cA_agg, cA_list, cA_arr, cA_ptr, o1_int, o1_bool, o1_str, o1_nil, o1_list, o1_arr, o1_ptr]) ?_
  clear h1 h2 m1_1 m2_2
  rintro ρ H n27 ⟨v26, h2, h3, m2_2, m3_22, sp⟩
  refine Runs.seqE Ty_ok (by decide) fun k' hk' => ?_
  have f28 := cell_own (Sep.cells sp)
  have f29 := cell_own (Sep.one1 sp)
  simp [h2, h3, m2_2, m3_22, f28, f29, AmbNode.cells, intC, strC, -cellsA, -one1, cA_int, cA_bool, cA_str, cA_nil, cA_agg, cA_list, cA_arr, cA_ptr, o1_int, o1_bool, o1_str, o1_nil, o1_list, o1_arr, o1_ptr]
  refine hk' _ _ _ ?_
  refine Runs.cut (fun ρ H n => ∃ (v30 : AVal), ρ 2 = .ptr (n1 + 1, 2) 1 0 0 ∧ H (n1 + 1, 2) = some ⟨1, [[v30]]⟩ ∧ Sep H n [(.s [.c, .c, .c], v30, .list true (r8.1.map AmbNode.cells))] [(n1 + 1, 2)]) (by refine ⟨v26, ?_, ?_, (Sep.sub (Sep.setVar (w := (n1 + 1, 2)) sp (by simp)) (by simp +contextual))⟩ <;> simp [h2, h3, m2_2, m3_22, f28, f29, AmbNode.cells, intC, strC, -cellsA, -one1, cA_int, cA_bool, cA_str, cA_nil, cA_agg, cA_list, cA_arr, cA_ptr, o1_int, o1_bool, o1_str, o1_nil, o1_list, o1_arr, o1_ptr]) ?_
  clear h2 h3 m2_2 m3_22
  rintro ρ H n31 ⟨v30, h2, m2_2, sp⟩
  exact Runs.res1 Ty_ok (v := .agg [v30]) Tryz.func26 Tryz.results26 (by simp [h2, m2_2, resA, AmbNode.cells, intC, strC]) (hQ _ _ _ _ (Sep.sub (ids' := []) (Sep.pack (K := []) (Fill.own Fill.nil) sp) (by simp)) ⟨r8.1, h, rfl⟩)

theorem canonG_ok (p : Proc) (hp : canonG_pre p) : OwnS Tryz.prog 26 [.agg [.list false (p.map AmbNode.cells)]] (.a [.s [.c, .c, .c]]) (fun r => r = .agg [.list true ((canonG p).map AmbNode.cells)]) := (canonG_walk p _ (canonG_vc p hp)).mono (by rintro _ ⟨_, rfl, rfl⟩; rfl)

theorem e33 : Ent Tryz.prog 33 := Ent.of Tryz.func33 (by kernel_rfl) rfl
theorem result_walk (p : Proc) (s : AmbStep) (Z : Proc → Prop) (h : result_wp p s Z) : OwnS Tryz.prog 33 [.agg [.list false (p.map AmbNode.cells)], .agg [int s.kind, int s.cap, int s.place]] (.a [.s [.c, .c, .c]]) (fun r => ∃ y : Proc, Z y ∧ r = .agg [.list true (y.map AmbNode.cells)]) := by
  unfold result_wp at h
  have sp : Sep noHeap 0 [] [] := Sep.nil (by simp)
  refine OwnS.of Tryz.func33 rfl Tryz.ntmps33 (by simp) fun Q hQ => ?_
  refine Runs.cut (fun ρ H n => ρ 0 = .agg [.list false (p.map AmbNode.cells)] ∧ ρ 1 = .agg [int s.kind, int s.cap, int s.place] ∧ Sep H n [] []) (by refine ⟨?_, ?_, sp⟩ <;> simp [AmbNode.cells, intC, strC]) ?_
  rintro ρ H n1 ⟨h0, h1, sp⟩
  refine Runs.seqE Ty_ok (by decide) fun k' hk' => ?_
  simp [h0, h1, AmbNode.cells, intC, strC]
  refine hk' _ _ _ ?_
  refine Runs.cut (fun ρ H n => ρ 2 = .ptr (n1, 2) 1 0 0 ∧ ρ 3 = .ptr (n1 + 1, 3) 1 0 0 ∧ ρ 4 = .ptr (n1 + 2, 4) 1 0 0 ∧ H (n1, 2) = some ⟨1, [[.list false (p.map AmbNode.cells)]]⟩ ∧ H (n1 + 1, 3) = some ⟨3, [[int s.kind, int s.cap, int s.place]]⟩ ∧ H (n1 + 2, 4) = some ⟨1, [[.v (.slice none 0 0)]]⟩ ∧ Sep H n [] [(n1 + 2, 4), (n1 + 1, 3), (n1, 2)]) (by refine ⟨?_, ?_, ?_, ?_, ?_, ?_, (Sep.var (Sep.var (Sep.var sp)))⟩ <;> simp [h0, h1, AmbNode.cells, intC, strC]) ?_
  clear h0 h1
  rintro ρ H n5 ⟨h2, h3, h4, m2_1, m3_2, m4_3, sp⟩
  refine Runs.seqE Ty_ok (by decide) fun k' hk' => ?_
  obtain ⟨hb6, h⟩ := h
  obtain ⟨r7, er7⟩ : ∃ v : List AmbNode, v = cloneN p := ⟨_, rfl⟩
  replace h := h r7 er7
  simp [h2, h3, h4, m2_1, m3_2, m4_3, AmbNode.cells, intC, strC]
  refine RunK.callW Ty_ok (cloneN_ok p hb6) e53 (.cons (ArgOk.listF (fr := false) (els := p.map AmbNode.cells) (by simp [AmbNode.cells, intC, strC, intC])) .nil) sp (by decide) (by decide) rfl (by simp [h2, h3, h4, m2_1, m3_2, m4_3, AmbNode.cells, intC, strC]) ?_
  rintro v8 H9 n10 _ sp rfl hle12 hfr11
  rw [← er7] at sp
  have m2_1 : H9 (n1, 2) = some ⟨1, [[.list false (p.map AmbNode.cells)]]⟩ := (hfr11 _ (by simp)).trans (by simp [h2, h3, h4, m2_1, m3_2, m4_3, Heap.get_set])
  have m3_2 : H9 (n1 + 1, 3) = some ⟨3, [[int s.kind, int s.cap, int s.place]]⟩ := (hfr11 _ (by simp)).trans (by simp [h2, h3, h4, m2_1, m3_2, m4_3, Heap.get_set])
  have m4_3 : H9 (n1 + 2, 4) = some ⟨1, [[.v (.slice none 0 0)]]⟩ := (hfr11 _ (by simp)).trans (by simp [h2, h3, h4, m2_1, m3_2, m4_3, Heap.get_set])
  have f15 := cell_own (Sep.cells sp)
  have f16 := cell_own (Sep.one1 sp)
  have f18 := cell_own (Sep.cells sp)
  have f19 := cell_own (Sep.one1 sp)
  simp [h2, h3, h4, m2_1, m3_2, m4_3, f15, f16, f18, f19, AmbNode.cells, intC, strC, -cellsA, -one1, cA_int, cA_bool, cA_str, cA_nil, cA_agg, cA_list, cA_arr, cA_ptr, o1_int, o1_bool, o1_str, o1_nil, o1_list, o1_arr, o1_ptr]
  refine hk' _ _ _ ?_
  refine Runs.cut (fun ρ H n => ∃ (v20 : AVal), ρ 2 = .ptr (n1, 2) 1 0 0 ∧ ρ 3 = .ptr (n1 + 1, 3) 1 0 0 ∧ ρ 4 = .ptr (n1 + 2, 4) 1 0 0 ∧ ρ 5 = .ptr (n10, 5) 1 0 0 ∧ H (n1, 2) = some ⟨1, [[.list false (p.map AmbNode.cells)]]⟩ ∧ H (n1 + 1, 3) = some ⟨3, [[int s.kind, int s.cap, int s.place]]⟩ ∧ H (n1 + 2, 4) = some ⟨1, [[.v (.slice none 0 0)]]⟩ ∧ H (n10, 5) = some ⟨1, [[v20]]⟩ ∧ Sep H n [(.s [.c, .c, .c], v20, .list true (r7.map AmbNode.cells))] [(n10, 5), (n1 + 2, 4), (n1 + 1, 3), (n1, 2)]) (by refine ⟨v8, ?_, ?_, ?_, ?_, ?_, ?_, ?_, ?_, (Sep.var sp)⟩ <;> simp [h2, h3, h4, m2_1, m3_2, m4_3, f15, f16, f18, f19, AmbNode.cells, intC, strC, -cellsA, -one1, cA_int, cA_bool, cA_str, cA_nil, cA_agg, cA_list, cA_arr, cA_ptr, o1_int, o1_bool, o1_str, o1_nil, o1_list, o1_arr, o1_ptr]) ?_
  clear h2 h3 h4 m2_1 m3_2 m4_3
  rintro ρ H n21 ⟨v20, h2, h3, h4, h5, m2_1, m3_2, m4_3, m5_16, sp⟩
  refine Runs.seqE Ty_ok (by decide) fun k' hk' => ?_
  obtain ⟨hb22, h⟩ := h
  obtain ⟨x23, ex23⟩ : ∃ v : AmbNode, v = at' p s.cap := ⟨_, rfl⟩
  replace h := h x23 ex23
  have f24 := fun H => ix_list (H := H) (fr := false) (f := AmbNode.cells) (k := .i64) kd_26 (fun _ => rfl) hb22 ex23
  simp [h2, h3, h4, h5, m2_1, m3_2, m4_3, m5_16, f24, AmbNode.cells, intC, strC, -indexAddrF]
  refine hk' _ _ _ ?_
  refine Runs.seq ?_
  refine Runs.seqE Ty_ok (by decide) fun k' hk' => ?_
  obtain ⟨hb25, h⟩ := h
  obtain ⟨r26, er26⟩ : ∃ v : List Int, v = kids p s.cap := ⟨_, rfl⟩
  replace h := h r26 er26
  simp [h2, h3, h4, h5, m2_1, m3_2, m4_3, m5_16, AmbNode.cells, intC, strC]
  refine RunK.callW Ty_ok (kids_ok p s.cap hb25) e54 (.cons (ArgOk.agg (.cons (ArgOk.listF (fr := false) (els := p.map AmbNode.cells) (by simp [AmbNode.cells, intC, strC, intC])) .nil)) (.cons (.v _ _ _) .nil)) sp (by decide) (by decide) rfl (by simp [h2, h3, h4, h5, m2_1, m3_2, m4_3, m5_16, AmbNode.cells, intC, strC]) ?_
  rintro v27 H28 n29 _ sp rfl hle31 hfr30
  rw [← er26] at sp
  have m2_1 : H28 (n1, 2) = some ⟨1, [[.list false (p.map AmbNode.cells)]]⟩ := (hfr30 _ (by simp)).trans (by simp [h2, h3, h4, h5, m2_1, m3_2, m4_3, m5_16, Heap.get_set])
  have m3_2 : H28 (n1 + 1, 3) = some ⟨3, [[int s.kind, int s.cap, int s.place]]⟩ := (hfr30 _ (by simp)).trans (by simp [h2, h3, h4, h5, m2_1, m3_2, m4_3, m5_16, Heap.get_set])
  have m4_3 : H28 (n1 + 2, 4) = some ⟨1, [[.v (.slice none 0 0)]]⟩ := (hfr30 _ (by simp)).trans (by simp [h2, h3, h4, h5, m2_1, m3_2, m4_3, m5_16, Heap.get_set])
  have m5_16 : H28 (n10, 5) = some ⟨1, [[v20]]⟩ := (hfr30 _ (by simp)).trans (by simp [h2, h3, h4, h5, m2_1, m3_2, m4_3, m5_16, Heap.get_set])
  obtain ⟨len34, elen34⟩ : ∃ v : Int, v = (r26.length : Int) := ⟨_, rfl⟩
  replace h := h len34 elen34
  have f35 := len_own (Sep.len (m := len34) sp kd_71 (by rw [elen34, List.length_map]))
  simp [h2, h3, h4, h5, m2_1, m3_2, m4_3, m5_16, f35, AmbNode.cells, intC, strC, -lenF]
  refine hk' _ _ _ ?_
  refine Runs.cut (fun ρ H n => ∃ (v36 : AVal) (v37 : AVal), ρ 2 = .ptr (n1, 2) 1 0 0 ∧ ρ 3 = .ptr (n1 + 1, 3) 1 0 0 ∧ ρ 4 = .ptr (n1 + 2, 4) 1 0 0 ∧ ρ 5 = .ptr (n10, 5) 1 0 0 ∧ ρ 6 = int x23.parent ∧ ρ 25 = v36 ∧ ρ 26 = int len34 ∧ ρ 27 = int 0 ∧ H (n1, 2) = some ⟨1, [[.list false (p.map AmbNode.cells)]]⟩ ∧ H (n1 + 1, 3) = some ⟨3, [[int s.kind, int s.cap, int s.place]]⟩ ∧ H (n1 + 2, 4) = some ⟨1, [[.v (.slice none 0 0)]]⟩ ∧ H (n10, 5) = some ⟨1, [[v37]]⟩ ∧ Sep H n [(.s [.c], v36, .list true (r26.map intC)), (.s [.c, .c, .c], v37, .list true (r7.map AmbNode.cells))] [(n10, 5), (n1 + 2, 4), (n1 + 1, 3), (n1, 2)]) (by refine ⟨v27, v20, ?_, ?_, ?_, ?_, ?_, ?_, ?_, ?_, ?_, ?_, ?_, ?_, (Sep.front (K1 := [(.s [.c, .c, .c], v20, .list true (r7.map AmbNode.cells))]) (K2 := []) (Sep.front (K1 := [(.s [.c], v27, .list true (r26.map intC))]) (K2 := []) sp))⟩ <;> simp [h2, h3, h4, h5, m2_1, m3_2, m4_3, m5_16, f35, AmbNode.cells, intC, strC, -lenF]) ?_
  clear h2 h3 h4 h5 m2_1 m3_2 m4_3 m5_16
  rintro ρ H n38 ⟨v36, v37, h2, h3, h4, h5, h6, h25, h26, h27, m2_1, m3_2, m4_3, m5_16, sp⟩
  refine Runs.block ?_
  refine Runs.loopW h (fun (sJ : Int × (List AmbNode)) ρ H n => match sJ with | (v51, l52) => ∃ (v53 : AVal) (v54 : AVal) (v55 : AVal), ρ 2 = .ptr (n1, 2) 1 0 0 ∧ ρ 3 = .ptr (n1 + 1, 3) 1 0 0 ∧ ρ 4 = .ptr (n1 + 2, 4) 1 0 0 ∧ ρ 5 = .ptr (n10, 5) 1 0 0 ∧ ρ 6 = int x23.parent ∧ ρ 25 = v54 ∧ ρ 26 = int len34 ∧ ρ 27 = int v51 ∧ H (n1, 2) = some ⟨1, [[.list false (p.map AmbNode.cells)]]⟩ ∧ H (n1 + 1, 3) = some ⟨3, [[int s.kind, int s.cap, int s.place]]⟩ ∧ H (n1 + 2, 4) = some ⟨1, [[v53]]⟩ ∧ H (n10, 5) = some ⟨1, [[v55]]⟩ ∧ Sep H n [(.s [.c, .c, .c], v53, .list true (([] : List AmbNode).map AmbNode.cells)), (.s [.c], v54, .list true (r26.map intC)), (.s [.c, .c, .c], v55, .list true (l52.map AmbNode.cells))] [(n10, 5), (n1 + 2, 4), (n1 + 1, 3), (n1, 2)]) (by refine ⟨.v (.slice none 0 0), v36, v37, ?_, ?_, ?_, ?_, ?_, ?_, ?_, ?_, ?_, ?_, ?_, ?_, (Sep.front (K1 := [(.s [.c], v36, .list true (r26.map intC)), (.s [.c, .c, .c], v37, .list true (r7.map AmbNode.cells))]) (K2 := []) (Sep.front (K1 := [(.s [.c, .c, .c], v37, .list true (r7.map AmbNode.cells)), (.s [.c, .c, .c], .v (.slice none 0 0), .list true (([] : List AmbNode).map AmbNode.cells))]) (K2 := []) (Sep.front (K1 := [(.s [.c, .c, .c], .v (.slice none 0 0), .list true (([] : List AmbNode).map AmbNode.cells)), (.s [.c], v36, .list true (r26.map intC))]) (K2 := []) (Sep.addNil sp))))⟩ <;> simp [h2, h3, h4, h5, h6, h25, h26, h27, m2_1, m3_2, m4_3, m5_16, AmbNode.cells, intC, strC]) ?_
  clear h2 h3 h4 h5 h6 h25 h26 h27 m2_1 m3_2 m4_3 m5_16
  rintro ⟨v51, l52⟩ ρ H n56 K h ⟨v53, v54, v55, h2, h3, h4, h5, h6, h25, h26, h27, m2_1, m3_2, m4_3, m5_16, sp⟩ IH57
  refine Runs.seqE Ty_ok (by decide) fun k' hk' => ?_
  obtain ⟨c59, ec59⟩ : ∃ v : Bool, v = decide (v51 < len34) := ⟨_, rfl⟩
  replace h := h c59 ec59
  have f60 := ib_lss (k := .i64) ec59
  simp [h2, h3, h4, h5, h6, h25, h26, h27, m2_1, m3_2, m4_3, m5_16, f60, AmbNode.cells, intC, strC, -intBin]
  refine hk' _ _ _ ?_
  refine Runs.seq ?_
  refine Runs.ite (b := c59) (by simp [h2, h3, h4, h5, h6, h25, h26, h27, m2_1, m3_2, m4_3, m5_16, AmbNode.cells, intC, strC]) (fun dc59 => ?_) (fun dc59 => ?_)
  · replace h := h.1 dc59
    refine Runs.skip ?_
    refine Runs.seq ?_
    refine Runs.block ?_
    refine Runs.seqE Ty_ok (by decide) fun k' hk' => ?_
    obtain ⟨hb61, h⟩ := h
    obtain ⟨id62, hv, mo63, ln64, ni65⟩ := Sep.openF (Sep.front (K1 := [(.s [.c, .c, .c], v53, .list true (([] : List AmbNode).map AmbNode.cells))]) (K2 := [(.s [.c, .c, .c], v55, .list true (l52.map AmbNode.cells))]) sp) (by simp) hb61
    subst hv
    simp at ni65
    obtain ⟨x66, ex66⟩ : ∃ v : Int, v = at' r26 v51 := ⟨_, rfl⟩
    replace h := h x66 ex66
    have f67 := fun H (hm : H id62 = some ⟨1, r26.map intC⟩) => ix_arr (H := H) (k := .i64) (off := 0) (len := r26.length) (g := r26.length) kd_71 hm (by simp) rfl hb61
    have f68 := at_some (q := v51.toNat) hb61 ex66 rfl
    simp [h2, h3, h4, h5, h6, h25, h26, h27, m2_1, m3_2, m4_3, m5_16, mo63, ni65, f67, f68, dc59, AmbNode.cells, intC, strC, -indexAddrF]
    refine hk' _ _ _ ?_
    refine Runs.evalE Ty_ok (by decide) fun k' hk' => ?_
    obtain ⟨hb69, h⟩ := h
    obtain ⟨id70, hv, mo71, ln72, ni73⟩ := Sep.openF (Sep.front (K1 := [(.s [.c, .c, .c], v53, .list true (([] : List AmbNode).map AmbNode.cells)), (.s [.c], .arr id62 r26.length 0 r26.length, .list true (r26.map intC))]) (K2 := []) sp) (by simp) hb69
    subst hv
    simp at ni73
    obtain ⟨x74, ex74⟩ : ∃ v : AmbNode, v = at' l52 x66 := ⟨_, rfl⟩
    replace h := h x74 ex74
    have f75 := fun H (hm : H id70 = some ⟨3, l52.map AmbNode.cells⟩) => ix_arr (H := H) (k := .i64) (off := 0) (len := l52.length) (g := l52.length) kd_26 hm (by simp) rfl hb69
    have f76 := at_some (q := x66.toNat) hb69 ex74 rfl
    obtain ⟨l77, el77⟩ : ∃ v : List AmbNode, v = l52.set x66.toNat (AmbNode.mk x74.kind x74.name x23.parent) := ⟨_, rfl⟩
    replace h := h l77 el77
    simp [h2, h3, h4, h5, h6, h25, h26, h27, m2_1, m3_2, m4_3, m5_16, mo63, ni65, mo71, ni73, f75, f76, dc59, AmbNode.cells, intC, strC, -indexAddrF, -storeF]
    refine bind_field (i := ty3) (q := x66.toNat) (off := 2) (new := [int x23.parent]) (ix := x66) (x := x74) (y := (AmbNode.mk x74.kind x74.name x23.parent)) (f := AmbNode.cells) (Sep.front (K1 := [(.s [.c, .c, .c], v53, .list true (([] : List AmbNode).map AmbNode.cells)), (.s [.c], .arr id62 r26.length 0 r26.length, .list true (r26.map intC))]) (K2 := []) sp) (by simp) (by simp) hb69 ex74 rfl rfl (fun _ => rfl) (by simp [AmbNode.cells, intC, strC]) (by simp) (by simp [splice, AmbNode.cells, intC, strC]) (by simp) ?_
    rintro H78 sp hfr79
    replace sp : Sep H78 n56 [(.s [.c, .c, .c], .arr id70 l52.length 0 l52.length, .list true (l77.map AmbNode.cells)), (.s [.c, .c, .c], v53, .list true (([] : List AmbNode).map AmbNode.cells)), (.s [.c], .arr id62 r26.length 0 r26.length, .list true (r26.map intC))] [(n10, 5), (n1 + 2, 4), (n1 + 1, 3), (n1, 2)] := by rw [el77]; exact sp
    have m2_1 : H78 (n1, 2) = some ⟨1, [[.list false (p.map AmbNode.cells)]]⟩ := (hfr79 _ (by simp)).trans (by simp [h2, h3, h4, h5, h6, h25, h26, h27, m2_1, m3_2, m4_3, m5_16, mo63, ni65, mo71, ni73, Heap.get_set])
    have m3_2 : H78 (n1 + 1, 3) = some ⟨3, [[int s.kind, int s.cap, int s.place]]⟩ := (hfr79 _ (by simp)).trans (by simp [h2, h3, h4, h5, h6, h25, h26, h27, m2_1, m3_2, m4_3, m5_16, mo63, ni65, mo71, ni73, Heap.get_set])
    have m4_3 : H78 (n1 + 2, 4) = some ⟨1, [[v53]]⟩ := (hfr79 _ (by simp)).trans (by simp [h2, h3, h4, h5, h6, h25, h26, h27, m2_1, m3_2, m4_3, m5_16, mo63, ni65, mo71, ni73, Heap.get_set])
    have m5_16 : H78 (n10, 5) = some ⟨1, [[.arr id70 l52.length 0 l52.length]]⟩ := (hfr79 _ (by simp)).trans (by simp [h2, h3, h4, h5, h6, h25, h26, h27, m2_1, m3_2, m4_3, m5_16, mo63, ni65, mo71, ni73, Heap.get_set])
    simp [h2, h3, h4, h5, h6, h25, h26, h27, m2_1, m3_2, m4_3, m5_16, ni65, ni73, f75, f76, dc59, AmbNode.cells, intC, strC, -indexAddrF]
    refine hk' _ _ _ ?_
    refine Runs.cut (fun ρ H n => ∃ (v81 : AVal) (v82 : AVal) (v83 : AVal), ρ 2 = .ptr (n1, 2) 1 0 0 ∧ ρ 3 = .ptr (n1 + 1, 3) 1 0 0 ∧ ρ 4 = .ptr (n1 + 2, 4) 1 0 0 ∧ ρ 5 = .ptr (n10, 5) 1 0 0 ∧ ρ 6 = int x23.parent ∧ ρ 25 = v83 ∧ ρ 26 = int len34 ∧ ρ 27 = int v51 ∧ H (n1, 2) = some ⟨1, [[.list false (p.map AmbNode.cells)]]⟩ ∧ H (n1 + 1, 3) = some ⟨3, [[int s.kind, int s.cap, int s.place]]⟩ ∧ H (n1 + 2, 4) = some ⟨1, [[v82]]⟩ ∧ H (n10, 5) = some ⟨1, [[v81]]⟩ ∧ Sep H n [(.s [.c, .c, .c], v81, .list true (l77.map AmbNode.cells)), (.s [.c, .c, .c], v82, .list true (([] : List AmbNode).map AmbNode.cells)), (.s [.c], v83, .list true (r26.map intC))] [(n10, 5), (n1 + 2, 4), (n1 + 1, 3), (n1, 2)]) (by refine ⟨.arr id70 l52.length 0 l52.length, v53, .arr id62 r26.length 0 r26.length, ?_, ?_, ?_, ?_, ?_, ?_, ?_, ?_, ?_, ?_, ?_, ?_, (Sep.front (K1 := [(.s [.c, .c, .c], v53, .list true (([] : List AmbNode).map AmbNode.cells)), (.s [.c], .arr id62 r26.length 0 r26.length, .list true (r26.map intC))]) (K2 := []) (Sep.front (K1 := [(.s [.c], .arr id62 r26.length 0 r26.length, .list true (r26.map intC)), (.s [.c, .c, .c], .arr id70 l52.length 0 l52.length, .list true (l77.map AmbNode.cells))]) (K2 := []) (Sep.front (K1 := [(.s [.c, .c, .c], .arr id70 l52.length 0 l52.length, .list true (l77.map AmbNode.cells)), (.s [.c, .c, .c], v53, .list true (([] : List AmbNode).map AmbNode.cells))]) (K2 := []) sp)))⟩ <;> simp [h2, h3, h4, h5, h6, h25, h26, h27, m2_1, m3_2, m4_3, m5_16, ni65, ni73, f75, f76, dc59, AmbNode.cells, intC, strC, -indexAddrF]) ?_
    clear h2 h3 h4 h5 h6 h25 h26 h27 m2_1 m3_2 m4_3 m5_16 ni65 ni73
    rintro ρ H n84 ⟨v81, v82, v83, h2, h3, h4, h5, h6, h25, h26, h27, m2_1, m3_2, m4_3, m5_16, sp⟩
    refine Runs.inBlock ?_
    refine Runs.evalE Ty_ok (by decide) fun k' hk' => ?_
    obtain ⟨hb85, h⟩ := h
    obtain ⟨v86, ev86⟩ : ∃ v : Int, v = v51 + 1 := ⟨_, rfl⟩
    replace h := h v86 ev86
    have f87 := ib_add hb85 ev86
    simp [h2, h3, h4, h5, h6, h25, h26, h27, m2_1, m3_2, m4_3, m5_16, f87, dc59, AmbNode.cells, intC, strC, -intBin]
    refine hk' _ _ _ ?_
    refine IH57 (v86, l77) _ _ _ h (by refine ⟨v82, v83, v81, ?_, ?_, ?_, ?_, ?_, ?_, ?_, ?_, ?_, ?_, ?_, ?_, (Sep.front (K1 := [(.s [.c], v83, .list true (r26.map intC)), (.s [.c, .c, .c], v81, .list true (l77.map AmbNode.cells))]) (K2 := []) (Sep.front (K1 := [(.s [.c, .c, .c], v81, .list true (l77.map AmbNode.cells)), (.s [.c, .c, .c], v82, .list true (([] : List AmbNode).map AmbNode.cells))]) (K2 := []) sp))⟩ <;> simp [h2, h3, h4, h5, h6, h25, h26, h27, m2_1, m3_2, m4_3, m5_16, dc59, AmbNode.cells, intC, strC])
  · replace h := h.2 dc59
    refine Runs.exit rfl ?_
    refine Runs.seqE Ty_ok (by decide) fun k' hk' => ?_
    obtain ⟨hb88, h⟩ := h
    obtain ⟨id89, hv, mo90, ln91, ni92⟩ := Sep.openF (Sep.front (K1 := [(.s [.c, .c, .c], v53, .list true (([] : List AmbNode).map AmbNode.cells)), (.s [.c], v54, .list true (r26.map intC))]) (K2 := []) sp) (by simp) hb88
    subst hv
    simp at ni92
    obtain ⟨x93, ex93⟩ : ∃ v : AmbNode, v = at' l52 s.cap := ⟨_, rfl⟩
    replace h := h x93 ex93
    have f94 := fun H (hm : H id89 = some ⟨3, l52.map AmbNode.cells⟩) => ix_arr (H := H) (k := .i64) (off := 0) (len := l52.length) (g := l52.length) kd_26 hm (by simp) rfl hb88
    have f95 := at_some (q := s.cap.toNat) hb88 ex93 rfl
    obtain ⟨l96, el96⟩ : ∃ v : List AmbNode, v = l52.set s.cap.toNat (AmbNode.mk x93.kind x93.name (-2)) := ⟨_, rfl⟩
    replace h := h l96 el96
    simp [h2, h3, h4, h5, h6, h25, h26, h27, m2_1, m3_2, m4_3, m5_16, mo90, ni92, f94, f95, dc59, AmbNode.cells, intC, strC, -indexAddrF, -storeF]
    refine bind_field (i := ty3) (q := s.cap.toNat) (off := 2) (new := [int (-2)]) (ix := s.cap) (x := x93) (y := (AmbNode.mk x93.kind x93.name (-2))) (f := AmbNode.cells) (Sep.front (K1 := [(.s [.c, .c, .c], v53, .list true (([] : List AmbNode).map AmbNode.cells)), (.s [.c], v54, .list true (r26.map intC))]) (K2 := []) sp) (by simp) (by simp) hb88 ex93 rfl rfl (fun _ => rfl) (by simp [AmbNode.cells, intC, strC]) (by simp) (by simp [splice, AmbNode.cells, intC, strC]) (by simp) ?_
    rintro H97 sp hfr98
    replace sp : Sep H97 n56 [(.s [.c, .c, .c], .arr id89 l52.length 0 l52.length, .list true (l96.map AmbNode.cells)), (.s [.c, .c, .c], v53, .list true (([] : List AmbNode).map AmbNode.cells)), (.s [.c], v54, .list true (r26.map intC))] [(n10, 5), (n1 + 2, 4), (n1 + 1, 3), (n1, 2)] := by rw [el96]; exact sp
    have m2_1 : H97 (n1, 2) = some ⟨1, [[.list false (p.map AmbNode.cells)]]⟩ := (hfr98 _ (by simp)).trans (by simp [h2, h3, h4, h5, h6, h25, h26, h27, m2_1, m3_2, m4_3, m5_16, mo90, ni92, Heap.get_set])
    have m3_2 : H97 (n1 + 1, 3) = some ⟨3, [[int s.kind, int s.cap, int s.place]]⟩ := (hfr98 _ (by simp)).trans (by simp [h2, h3, h4, h5, h6, h25, h26, h27, m2_1, m3_2, m4_3, m5_16, mo90, ni92, Heap.get_set])
    have m4_3 : H97 (n1 + 2, 4) = some ⟨1, [[v53]]⟩ := (hfr98 _ (by simp)).trans (by simp [h2, h3, h4, h5, h6, h25, h26, h27, m2_1, m3_2, m4_3, m5_16, mo90, ni92, Heap.get_set])
    have m5_16 : H97 (n10, 5) = some ⟨1, [[.arr id89 l52.length 0 l52.length]]⟩ := (hfr98 _ (by simp)).trans (by simp [h2, h3, h4, h5, h6, h25, h26, h27, m2_1, m3_2, m4_3, m5_16, mo90, ni92, Heap.get_set])
    simp [h2, h3, h4, h5, h6, h25, h26, h27, m2_1, m3_2, m4_3, m5_16, ni92, f94, f95, dc59, AmbNode.cells, intC, strC, -indexAddrF]
    refine hk' _ _ _ ?_
    refine Runs.cut (fun ρ H n => ∃ (v100 : AVal) (v101 : AVal), ρ 2 = .ptr (n1, 2) 1 0 0 ∧ ρ 3 = .ptr (n1 + 1, 3) 1 0 0 ∧ ρ 4 = .ptr (n1 + 2, 4) 1 0 0 ∧ ρ 5 = .ptr (n10, 5) 1 0 0 ∧ ρ 6 = int x23.parent ∧ H (n1, 2) = some ⟨1, [[.list false (p.map AmbNode.cells)]]⟩ ∧ H (n1 + 1, 3) = some ⟨3, [[int s.kind, int s.cap, int s.place]]⟩ ∧ H (n1 + 2, 4) = some ⟨1, [[v101]]⟩ ∧ H (n10, 5) = some ⟨1, [[v100]]⟩ ∧ Sep H n [(.s [.c, .c, .c], v100, .list true (l96.map AmbNode.cells)), (.s [.c, .c, .c], v101, .list true (([] : List AmbNode).map AmbNode.cells))] [(n10, 5), (n1 + 2, 4), (n1 + 1, 3), (n1, 2)]) (by refine ⟨.arr id89 l52.length 0 l52.length, v53, ?_, ?_, ?_, ?_, ?_, ?_, ?_, ?_, ?_, (Sep.front (K1 := [(.s [.c, .c, .c], v53, .list true (([] : List AmbNode).map AmbNode.cells))]) (K2 := []) (Sep.front (K1 := [(.s [.c, .c, .c], .arr id89 l52.length 0 l52.length, .list true (l96.map AmbNode.cells))]) (K2 := []) (Sep.right (K1 := [(.s [.c], v54, .list true (r26.map intC))]) (K2 := [(.s [.c, .c, .c], .arr id89 l52.length 0 l52.length, .list true (l96.map AmbNode.cells)), (.s [.c, .c, .c], v53, .list true (([] : List AmbNode).map AmbNode.cells))]) (Sep.front (K1 := [(.s [.c, .c, .c], .arr id89 l52.length 0 l52.length, .list true (l96.map AmbNode.cells)), (.s [.c, .c, .c], v53, .list true (([] : List AmbNode).map AmbNode.cells))]) (K2 := []) sp))))⟩ <;> simp [h2, h3, h4, h5, h6, h25, h26, h27, m2_1, m3_2, m4_3, m5_16, ni92, f94, f95, dc59, AmbNode.cells, intC, strC, -indexAddrF]) ?_
    clear h2 h3 h4 h5 h6 h25 h26 h27 m2_1 m3_2 m4_3 m5_16 ni92
    rintro ρ H n102 ⟨v100, v101, h2, h3, h4, h5, h6, m2_1, m3_2, m4_3, m5_16, sp⟩
    refine Runs.seq ?_
    refine Runs.seqE Ty_ok (by decide) fun k' hk' => ?_
    simp [h2, h3, h4, h5, h6, m2_1, m3_2, m4_3, m5_16, dc59, AmbNode.cells, intC, strC]
    refine hk' _ _ _ ?_
    refine Runs.block ?_
    refine Runs.seqE Ty_ok (by decide) fun k' hk' => ?_
    obtain ⟨c103, ec103⟩ : ∃ v : Bool, v = decide (s.kind = 1) := ⟨_, rfl⟩
    replace h := h c103 ec103
    have f104 := ib_eql (k := .i64) ec103
    simp [h2, h3, h4, h5, h6, m2_1, m3_2, m4_3, m5_16, f104, dc59, AmbNode.cells, intC, strC, -intBin]
    refine hk' _ _ _ ?_
    refine Runs.ite (b := c103) (by simp [h2, h3, h4, h5, h6, m2_1, m3_2, m4_3, m5_16, dc59, AmbNode.cells, intC, strC]) (fun dc103 => ?_) (fun dc103 => ?_)
    · replace h := h.1 dc103
      refine Runs.evalE Ty_ok (by decide) fun k' hk' => ?_
      obtain ⟨hb105, h⟩ := h
      obtain ⟨id106, hv, mo107, ln108, ni109⟩ := Sep.openF sp (by simp) hb105
      subst hv
      simp at ni109
      obtain ⟨x110, ex110⟩ : ∃ v : AmbNode, v = at' l96 x23.parent := ⟨_, rfl⟩
      replace h := h x110 ex110
      have f111 := fun H (hm : H id106 = some ⟨3, l96.map AmbNode.cells⟩) => ix_arr (H := H) (k := .i64) (off := 0) (len := l96.length) (g := l96.length) kd_26 hm (by simp) rfl hb105
      have f112 := at_some (q := x23.parent.toNat) hb105 ex110 rfl
      obtain ⟨l113, el113⟩ : ∃ v : List AmbNode, v = l96.set x23.parent.toNat (AmbNode.mk x110.kind x110.name s.place) := ⟨_, rfl⟩
      replace h := h l113 el113
      simp [h2, h3, h4, h5, h6, m2_1, m3_2, m4_3, m5_16, mo107, ni109, f111, f112, dc59, dc103, AmbNode.cells, intC, strC, -indexAddrF, -storeF]
      refine bind_field (i := ty3) (q := x23.parent.toNat) (off := 2) (new := [int s.place]) (ix := x23.parent) (x := x110) (y := (AmbNode.mk x110.kind x110.name s.place)) (f := AmbNode.cells) sp (by simp) (by simp) hb105 ex110 rfl rfl (fun _ => rfl) (by simp [AmbNode.cells, intC, strC]) (by simp) (by simp [splice, AmbNode.cells, intC, strC]) (by simp) ?_
      rintro H114 sp hfr115
      replace sp : Sep H114 n102 [(.s [.c, .c, .c], .arr id106 l96.length 0 l96.length, .list true (l113.map AmbNode.cells)), (.s [.c, .c, .c], v101, .list true (([] : List AmbNode).map AmbNode.cells))] [(n10, 5), (n1 + 2, 4), (n1 + 1, 3), (n1, 2)] := by rw [el113]; exact sp
      have m2_1 : H114 (n1, 2) = some ⟨1, [[.list false (p.map AmbNode.cells)]]⟩ := (hfr115 _ (by simp)).trans (by simp [h2, h3, h4, h5, h6, m2_1, m3_2, m4_3, m5_16, mo107, ni109, Heap.get_set])
      have m3_2 : H114 (n1 + 1, 3) = some ⟨3, [[int s.kind, int s.cap, int s.place]]⟩ := (hfr115 _ (by simp)).trans (by simp [h2, h3, h4, h5, h6, m2_1, m3_2, m4_3, m5_16, mo107, ni109, Heap.get_set])
      have m4_3 : H114 (n1 + 2, 4) = some ⟨1, [[v101]]⟩ := (hfr115 _ (by simp)).trans (by simp [h2, h3, h4, h5, h6, m2_1, m3_2, m4_3, m5_16, mo107, ni109, Heap.get_set])
      have m5_16 : H114 (n10, 5) = some ⟨1, [[.arr id106 l96.length 0 l96.length]]⟩ := (hfr115 _ (by simp)).trans (by simp [h2, h3, h4, h5, h6, m2_1, m3_2, m4_3, m5_16, mo107, ni109, Heap.get_set])
      simp [h2, h3, h4, h5, h6, m2_1, m3_2, m4_3, m5_16, ni109, f111, f112, dc59, dc103, AmbNode.cells, intC, strC, -indexAddrF]
      refine hk' _ _ _ ?_
      refine Runs.cut (fun ρ H n => ∃ (v117 : AVal) (v118 : AVal), ρ 4 = .ptr (n1 + 2, 4) 1 0 0 ∧ ρ 5 = .ptr (n10, 5) 1 0 0 ∧ H (n1 + 2, 4) = some ⟨1, [[v118]]⟩ ∧ H (n10, 5) = some ⟨1, [[v117]]⟩ ∧ Sep H n [(.s [.c, .c, .c], v117, .list true (l113.map AmbNode.cells)), (.s [.c, .c, .c], v118, .list true (([] : List AmbNode).map AmbNode.cells))] [(n10, 5), (n1 + 2, 4)]) (by refine ⟨.arr id106 l96.length 0 l96.length, v101, ?_, ?_, ?_, ?_, (Sep.sub (Sep.front (K1 := [(.s [.c, .c, .c], v101, .list true (([] : List AmbNode).map AmbNode.cells))]) (K2 := []) (Sep.front (K1 := [(.s [.c, .c, .c], .arr id106 l96.length 0 l96.length, .list true (l113.map AmbNode.cells))]) (K2 := []) sp)) (by simp +contextual))⟩ <;> simp [h2, h3, h4, h5, h6, m2_1, m3_2, m4_3, m5_16, ni109, f111, f112, dc59, dc103, AmbNode.cells, intC, strC, -indexAddrF]) ?_
      clear h2 h3 h4 h5 h6 m2_1 m3_2 m4_3 m5_16 ni109
      rintro ρ H n119 ⟨v117, v118, h4, h5, m4_3, m5_16, sp⟩
      refine Runs.inBlock ?_
      refine Runs.seqE Ty_ok (by decide) fun k' hk' => ?_
      obtain ⟨hb120, h⟩ := h
      obtain ⟨r121, er121⟩ : ∃ v : Proc, v = canonG l113 := ⟨_, rfl⟩
      replace h := h r121 er121
      simp [h4, h5, m4_3, m5_16, dc59, dc103, AmbNode.cells, intC, strC]
      refine RunK.callW Ty_ok (canonG_ok l113 hb120) e26 (.cons (ArgOk.agg (.cons (Sep.argOk' sp (old_listF (by simp [AmbNode.cells, intC, strC, intC]))) .nil)) .nil) sp (by decide) (by decide) rfl (by simp [h4, h5, m4_3, m5_16, dc59, dc103, AmbNode.cells, intC, strC]) ?_
      rintro v122 H123 n124 _ sp rfl hle126 hfr125
      rw [← er121] at sp
      have m4_3 : H123 (n1 + 2, 4) = some ⟨1, [[v118]]⟩ := (hfr125 _ (by simp)).trans (by simp [h4, h5, m4_3, m5_16, Heap.get_set])
      have m5_16 : H123 (n10, 5) = some ⟨1, [[v117]]⟩ := (hfr125 _ (by simp)).trans (by simp [h4, h5, m4_3, m5_16, Heap.get_set])
      replace sp := Sep.unpack sp
      obtain ⟨L129, hv, hl130, sp⟩ := sp
      subst hv
      obtain ⟨v128, hv⟩ := len1 (by simpa using hl130)
      subst hv
      simp only [zip3, List.cons_append, List.nil_append] at sp
      replace sp := Sep.rot sp
      try simp only [List.cons_append, List.nil_append, List.append_assoc] at sp
      replace sp : Sep H123 n124 [(.s [.c, .c, .c], v117, .list true (l113.map AmbNode.cells)), (.s [.c, .c, .c], v118, .list true (([] : List AmbNode).map AmbNode.cells)), (.s [.c, .c, .c], v128, .list true (r121.map AmbNode.cells))] [(n10, 5), (n1 + 2, 4)] := sp
      have f132 := cell_own (Sep.cells (Sep.front (K1 := [(.s [.c, .c, .c], v117, .list true (l113.map AmbNode.cells)), (.s [.c, .c, .c], v118, .list true (([] : List AmbNode).map AmbNode.cells))]) (K2 := []) sp))
      have f133 := cell_own (Sep.one1 (Sep.front (K1 := [(.s [.c, .c, .c], v117, .list true (l113.map AmbNode.cells)), (.s [.c, .c, .c], v118, .list true (([] : List AmbNode).map AmbNode.cells))]) (K2 := []) sp))
      simp [h4, h5, m4_3, m5_16, f132, f133, dc59, dc103, AmbNode.cells, intC, strC, -cellsA, -one1, cA_int, cA_bool, cA_str, cA_nil, cA_agg, cA_list, cA_arr, cA_ptr, o1_int, o1_bool, o1_str, o1_nil, o1_list, o1_arr, o1_ptr]
      refine hk' _ _ _ ?_
      refine Runs.cut (fun ρ H n => ∃ (v134 : AVal), ρ 4 = .ptr (n1 + 2, 4) 1 0 0 ∧ H (n1 + 2, 4) = some ⟨1, [[v134]]⟩ ∧ Sep H n [(.s [.c, .c, .c], v134, .list true (r121.map AmbNode.cells))] [(n1 + 2, 4)]) (by refine ⟨v128, ?_, ?_, (Sep.sub (Sep.right (K1 := [(.s [.c, .c, .c], v118, .list true (([] : List AmbNode).map AmbNode.cells))]) (K2 := [(.s [.c, .c, .c], v128, .list true (r121.map AmbNode.cells))]) (Sep.right (K1 := [(.s [.c, .c, .c], v117, .list true (l113.map AmbNode.cells))]) (K2 := [(.s [.c, .c, .c], v118, .list true (([] : List AmbNode).map AmbNode.cells)), (.s [.c, .c, .c], v128, .list true (r121.map AmbNode.cells))]) (Sep.setVar (w := (n1 + 2, 4)) sp (by simp)))) (by simp +contextual))⟩ <;> simp [h4, h5, m4_3, m5_16, f132, f133, dc59, dc103, AmbNode.cells, intC, strC, -cellsA, -one1, cA_int, cA_bool, cA_str, cA_nil, cA_agg, cA_list, cA_arr, cA_ptr, o1_int, o1_bool, o1_str, o1_nil, o1_list, o1_arr, o1_ptr]) ?_
      clear h4 h5 m4_3 m5_16
      rintro ρ H n135 ⟨v134, h4, m4_3, sp⟩
      exact Runs.res1 Ty_ok (v := .agg [v134]) Tryz.func33 Tryz.results33 (by simp [h4, m4_3, dc59, dc103, resA, AmbNode.cells, intC, strC]) (hQ _ _ _ _ (Sep.sub (ids' := []) (Sep.pack (K := []) (Fill.own Fill.nil) sp) (by simp)) ⟨r121, h, rfl⟩)
    · replace h := h.2 dc103
      refine Runs.seqE Ty_ok (by decide) fun k' hk' => ?_
      obtain ⟨c137, ec137⟩ : ∃ v : Bool, v = decide (s.kind = 2) := ⟨_, rfl⟩
      replace h := h c137 ec137
      have f138 := ib_eql (k := .i64) ec137
      simp [h2, h3, h4, h5, h6, m2_1, m3_2, m4_3, m5_16, f138, dc59, dc103, AmbNode.cells, intC, strC, -intBin]
      refine hk' _ _ _ ?_
      refine Runs.ite (b := c137) (by simp [h2, h3, h4, h5, h6, m2_1, m3_2, m4_3, m5_16, dc59, dc103, AmbNode.cells, intC, strC]) (fun dc137 => ?_) (fun dc137 => ?_)
      · replace h := h.1 dc137
        refine Runs.evalDE Ty_ok kindOp_ok draws (by decide) (by kernel_rfl) fun k' hk' => ?_
        obtain ⟨hb139, h⟩ := h
        obtain ⟨x140, ex140⟩ : ∃ v : AmbNode, v = at' p s.place := ⟨_, rfl⟩
        replace h := h x140 ex140
        have f141 := fun H => ix_list (H := H) (fr := false) (f := AmbNode.cells) (k := .i64) kd_26 (fun _ => rfl) hb139 ex140
        obtain ⟨hb142, h⟩ := h
        obtain ⟨id143, hv, mo144, ln145, ni146⟩ := Sep.openF sp (by simp) hb142
        subst hv
        simp at ni146
        obtain ⟨x147, ex147⟩ : ∃ v : AmbNode, v = at' l96 x23.parent := ⟨_, rfl⟩
        replace h := h x147 ex147
        have f148 := fun H (hm : H id143 = some ⟨3, l96.map AmbNode.cells⟩) => ix_arr (H := H) (k := .i64) (off := 0) (len := l96.length) (g := l96.length) kd_26 hm (by simp) rfl hb142
        have f149 := at_some (q := x23.parent.toNat) hb142 ex147 rfl
        obtain ⟨l150, el150⟩ : ∃ v : List AmbNode, v = l96.set x23.parent.toNat (AmbNode.mk x147.kind x147.name x140.parent) := ⟨_, rfl⟩
        replace h := h l150 el150
        simp [h2, h3, h4, h5, h6, m2_1, m3_2, m4_3, m5_16, mo144, ni146, f141, f148, f149, dc59, dc103, dc137, AmbNode.cells, intC, strC, -indexAddrF, -storeF]
        refine bindD_field (i := ty3) (q := x23.parent.toNat) (off := 2) (new := [int x140.parent]) (ix := x23.parent) (x := x147) (y := (AmbNode.mk x147.kind x147.name x140.parent)) (f := AmbNode.cells) sp (by simp) (by simp) hb142 ex147 rfl rfl (fun _ => rfl) (by simp [AmbNode.cells, intC, strC]) (by simp) (by simp [splice, AmbNode.cells, intC, strC]) (by simp) ?_
        rintro H151 sp hfr152
        replace sp : Sep H151 n102 [(.s [.c, .c, .c], .arr id143 l96.length 0 l96.length, .list true (l150.map AmbNode.cells)), (.s [.c, .c, .c], v101, .list true (([] : List AmbNode).map AmbNode.cells))] [(n10, 5), (n1 + 2, 4), (n1 + 1, 3), (n1, 2)] := by rw [el150]; exact sp
        have m2_1 : H151 (n1, 2) = some ⟨1, [[.list false (p.map AmbNode.cells)]]⟩ := (hfr152 _ (by simp)).trans (by simp [h2, h3, h4, h5, h6, m2_1, m3_2, m4_3, m5_16, mo144, ni146, Heap.get_set])
        have m3_2 : H151 (n1 + 1, 3) = some ⟨3, [[int s.kind, int s.cap, int s.place]]⟩ := (hfr152 _ (by simp)).trans (by simp [h2, h3, h4, h5, h6, m2_1, m3_2, m4_3, m5_16, mo144, ni146, Heap.get_set])
        have m4_3 : H151 (n1 + 2, 4) = some ⟨1, [[v101]]⟩ := (hfr152 _ (by simp)).trans (by simp [h2, h3, h4, h5, h6, m2_1, m3_2, m4_3, m5_16, mo144, ni146, Heap.get_set])
        have m5_16 : H151 (n10, 5) = some ⟨1, [[.arr id143 l96.length 0 l96.length]]⟩ := (hfr152 _ (by simp)).trans (by simp [h2, h3, h4, h5, h6, m2_1, m3_2, m4_3, m5_16, mo144, ni146, Heap.get_set])
        simp [h2, h3, h4, h5, h6, m2_1, m3_2, m4_3, m5_16, ni146, f141, f148, f149, dc59, dc103, dc137, AmbNode.cells, intC, strC, -indexAddrF]
        refine hk' _ _ _ ?_
        refine Runs.cut (fun ρ H n => ∃ (v154 : AVal) (v155 : AVal), ρ 4 = .ptr (n1 + 2, 4) 1 0 0 ∧ ρ 5 = .ptr (n10, 5) 1 0 0 ∧ H (n1 + 2, 4) = some ⟨1, [[v155]]⟩ ∧ H (n10, 5) = some ⟨1, [[v154]]⟩ ∧ Sep H n [(.s [.c, .c, .c], v154, .list true (l150.map AmbNode.cells)), (.s [.c, .c, .c], v155, .list true (([] : List AmbNode).map AmbNode.cells))] [(n10, 5), (n1 + 2, 4)]) (by refine ⟨.arr id143 l96.length 0 l96.length, v101, ?_, ?_, ?_, ?_, (Sep.sub (Sep.front (K1 := [(.s [.c, .c, .c], v101, .list true (([] : List AmbNode).map AmbNode.cells))]) (K2 := []) (Sep.front (K1 := [(.s [.c, .c, .c], .arr id143 l96.length 0 l96.length, .list true (l150.map AmbNode.cells))]) (K2 := []) sp)) (by simp +contextual))⟩ <;> simp [h2, h3, h4, h5, h6, m2_1, m3_2, m4_3, m5_16, ni146, f141, f148, f149, dc59, dc103, dc137, AmbNode.cells, intC, strC, -indexAddrF]) ?_
        clear h2 h3 h4 h5 h6 m2_1 m3_2 m4_3 m5_16 ni146
        rintro ρ H n156 ⟨v154, v155, h4, h5, m4_3, m5_16, sp⟩
        refine Runs.inBlock ?_
        refine Runs.seqE Ty_ok (by decide) fun k' hk' => ?_
        obtain ⟨hb157, h⟩ := h
        obtain ⟨r158, er158⟩ : ∃ v : Proc, v = canonG l150 := ⟨_, rfl⟩
        replace h := h r158 er158
        simp [h4, h5, m4_3, m5_16, dc59, dc103, dc137, AmbNode.cells, intC, strC]
        refine RunK.callW Ty_ok (canonG_ok l150 hb157) e26 (.cons (ArgOk.agg (.cons (Sep.argOk' sp (old_listF (by simp [AmbNode.cells, intC, strC, intC]))) .nil)) .nil) sp (by decide) (by decide) rfl (by simp [h4, h5, m4_3, m5_16, dc59, dc103, dc137, AmbNode.cells, intC, strC]) ?_
        rintro v159 H160 n161 _ sp rfl hle163 hfr162
        rw [← er158] at sp
        have m4_3 : H160 (n1 + 2, 4) = some ⟨1, [[v155]]⟩ := (hfr162 _ (by simp)).trans (by simp [h4, h5, m4_3, m5_16, Heap.get_set])
        have m5_16 : H160 (n10, 5) = some ⟨1, [[v154]]⟩ := (hfr162 _ (by simp)).trans (by simp [h4, h5, m4_3, m5_16, Heap.get_set])
        replace sp := Sep.unpack sp
        obtain ⟨L166, hv, hl167, sp⟩ := sp
        subst hv
        obtain ⟨v165, hv⟩ := len1 (by simpa using hl167)
        subst hv
        simp only [zip3, List.cons_append, List.nil_append] at sp
        replace sp := Sep.rot sp
        try simp only [List.cons_append, List.nil_append, List.append_assoc] at sp
        replace sp : Sep H160 n161 [(.s [.c, .c, .c], v154, .list true (l150.map AmbNode.cells)), (.s [.c, .c, .c], v155, .list true (([] : List AmbNode).map AmbNode.cells)), (.s [.c, .c, .c], v165, .list true (r158.map AmbNode.cells))] [(n10, 5), (n1 + 2, 4)] := sp
        have f169 := cell_own (Sep.cells (Sep.front (K1 := [(.s [.c, .c, .c], v154, .list true (l150.map AmbNode.cells)), (.s [.c, .c, .c], v155, .list true (([] : List AmbNode).map AmbNode.cells))]) (K2 := []) sp))
        have f170 := cell_own (Sep.one1 (Sep.front (K1 := [(.s [.c, .c, .c], v154, .list true (l150.map AmbNode.cells)), (.s [.c, .c, .c], v155, .list true (([] : List AmbNode).map AmbNode.cells))]) (K2 := []) sp))
        simp [h4, h5, m4_3, m5_16, f169, f170, dc59, dc103, dc137, AmbNode.cells, intC, strC, -cellsA, -one1, cA_int, cA_bool, cA_str, cA_nil, cA_agg, cA_list, cA_arr, cA_ptr, o1_int, o1_bool, o1_str, o1_nil, o1_list, o1_arr, o1_ptr]
        refine hk' _ _ _ ?_
        refine Runs.cut (fun ρ H n => ∃ (v171 : AVal), ρ 4 = .ptr (n1 + 2, 4) 1 0 0 ∧ H (n1 + 2, 4) = some ⟨1, [[v171]]⟩ ∧ Sep H n [(.s [.c, .c, .c], v171, .list true (r158.map AmbNode.cells))] [(n1 + 2, 4)]) (by refine ⟨v165, ?_, ?_, (Sep.sub (Sep.right (K1 := [(.s [.c, .c, .c], v155, .list true (([] : List AmbNode).map AmbNode.cells))]) (K2 := [(.s [.c, .c, .c], v165, .list true (r158.map AmbNode.cells))]) (Sep.right (K1 := [(.s [.c, .c, .c], v154, .list true (l150.map AmbNode.cells))]) (K2 := [(.s [.c, .c, .c], v155, .list true (([] : List AmbNode).map AmbNode.cells)), (.s [.c, .c, .c], v165, .list true (r158.map AmbNode.cells))]) (Sep.setVar (w := (n1 + 2, 4)) sp (by simp)))) (by simp +contextual))⟩ <;> simp [h4, h5, m4_3, m5_16, f169, f170, dc59, dc103, dc137, AmbNode.cells, intC, strC, -cellsA, -one1, cA_int, cA_bool, cA_str, cA_nil, cA_agg, cA_list, cA_arr, cA_ptr, o1_int, o1_bool, o1_str, o1_nil, o1_list, o1_arr, o1_ptr]) ?_
        clear h4 h5 m4_3 m5_16
        rintro ρ H n172 ⟨v171, h4, m4_3, sp⟩
        exact Runs.res1 Ty_ok (v := .agg [v171]) Tryz.func33 Tryz.results33 (by simp [h4, m4_3, dc59, dc103, dc137, resA, AmbNode.cells, intC, strC]) (hQ _ _ _ _ (Sep.sub (ids' := []) (Sep.pack (K := []) (Fill.own Fill.nil) sp) (by simp)) ⟨r158, h, rfl⟩)
      · replace h := h.2 dc137
        refine Runs.seq ?_
        refine Runs.seqE Ty_ok (by decide) fun k' hk' => ?_
        obtain ⟨hb174, h⟩ := h
        obtain ⟨r175, er175⟩ : ∃ v : List Int, v = kids p s.place := ⟨_, rfl⟩
        replace h := h r175 er175
        simp [h2, h3, h4, h5, h6, m2_1, m3_2, m4_3, m5_16, dc59, dc103, dc137, AmbNode.cells, intC, strC]
        refine RunK.callW Ty_ok (kids_ok p s.place hb174) e54 (.cons (ArgOk.agg (.cons (ArgOk.listF (fr := false) (els := p.map AmbNode.cells) (by simp [AmbNode.cells, intC, strC, intC])) .nil)) (.cons (.v _ _ _) .nil)) sp (by decide) (by decide) rfl (by simp [h2, h3, h4, h5, h6, m2_1, m3_2, m4_3, m5_16, dc59, dc103, dc137, AmbNode.cells, intC, strC]) ?_
        rintro v176 H177 n178 _ sp rfl hle180 hfr179
        rw [← er175] at sp
        have m2_1 : H177 (n1, 2) = some ⟨1, [[.list false (p.map AmbNode.cells)]]⟩ := (hfr179 _ (by simp)).trans (by simp [h2, h3, h4, h5, h6, m2_1, m3_2, m4_3, m5_16, Heap.get_set])
        have m3_2 : H177 (n1 + 1, 3) = some ⟨3, [[int s.kind, int s.cap, int s.place]]⟩ := (hfr179 _ (by simp)).trans (by simp [h2, h3, h4, h5, h6, m2_1, m3_2, m4_3, m5_16, Heap.get_set])
        have m4_3 : H177 (n1 + 2, 4) = some ⟨1, [[v101]]⟩ := (hfr179 _ (by simp)).trans (by simp [h2, h3, h4, h5, h6, m2_1, m3_2, m4_3, m5_16, Heap.get_set])
        have m5_16 : H177 (n10, 5) = some ⟨1, [[v100]]⟩ := (hfr179 _ (by simp)).trans (by simp [h2, h3, h4, h5, h6, m2_1, m3_2, m4_3, m5_16, Heap.get_set])
        obtain ⟨len183, elen183⟩ : ∃ v : Int, v = (r175.length : Int) := ⟨_, rfl⟩
        replace h := h len183 elen183
        have f184 := len_own (Sep.len (m := len183) sp kd_71 (by rw [elen183, List.length_map]))
        simp [h2, h3, h4, h5, h6, m2_1, m3_2, m4_3, m5_16, f184, dc59, dc103, dc137, AmbNode.cells, intC, strC, -lenF]
        refine hk' _ _ _ ?_
        refine Runs.cut (fun ρ H n => ∃ (v185 : AVal) (v186 : AVal) (v187 : AVal), ρ 3 = .ptr (n1 + 1, 3) 1 0 0 ∧ ρ 4 = .ptr (n1 + 2, 4) 1 0 0 ∧ ρ 5 = .ptr (n10, 5) 1 0 0 ∧ ρ 6 = int x23.parent ∧ ρ 49 = v185 ∧ ρ 50 = int len183 ∧ ρ 51 = int 0 ∧ H (n1 + 1, 3) = some ⟨3, [[int s.kind, int s.cap, int s.place]]⟩ ∧ H (n1 + 2, 4) = some ⟨1, [[v187]]⟩ ∧ H (n10, 5) = some ⟨1, [[v186]]⟩ ∧ Sep H n [(.s [.c], v185, .list true (r175.map intC)), (.s [.c, .c, .c], v186, .list true (l96.map AmbNode.cells)), (.s [.c, .c, .c], v187, .list true (([] : List AmbNode).map AmbNode.cells))] [(n10, 5), (n1 + 2, 4), (n1 + 1, 3)]) (by refine ⟨v176, v100, v101, ?_, ?_, ?_, ?_, ?_, ?_, ?_, ?_, ?_, ?_, (Sep.sub (Sep.front (K1 := [(.s [.c, .c, .c], v100, .list true (l96.map AmbNode.cells)), (.s [.c, .c, .c], v101, .list true (([] : List AmbNode).map AmbNode.cells))]) (K2 := []) (Sep.front (K1 := [(.s [.c, .c, .c], v101, .list true (([] : List AmbNode).map AmbNode.cells)), (.s [.c], v176, .list true (r175.map intC))]) (K2 := []) (Sep.front (K1 := [(.s [.c], v176, .list true (r175.map intC)), (.s [.c, .c, .c], v100, .list true (l96.map AmbNode.cells))]) (K2 := []) sp))) (by simp +contextual))⟩ <;> simp [h2, h3, h4, h5, h6, m2_1, m3_2, m4_3, m5_16, f184, dc59, dc103, dc137, AmbNode.cells, intC, strC, -lenF]) ?_
        clear h2 h3 h4 h5 h6 m2_1 m3_2 m4_3 m5_16
        rintro ρ H n188 ⟨v185, v186, v187, h3, h4, h5, h6, h49, h50, h51, m3_2, m4_3, m5_16, sp⟩
        refine Runs.block ?_
        refine Runs.loopW h (fun (sJ : Int × (List AmbNode)) ρ H n => match sJ with | (v200, l201) => ∃ (v202 : AVal) (v203 : AVal) (v204 : AVal), ρ 3 = .ptr (n1 + 1, 3) 1 0 0 ∧ ρ 4 = .ptr (n1 + 2, 4) 1 0 0 ∧ ρ 5 = .ptr (n10, 5) 1 0 0 ∧ ρ 6 = int x23.parent ∧ ρ 49 = v202 ∧ ρ 50 = int len183 ∧ ρ 51 = int v200 ∧ H (n1 + 1, 3) = some ⟨3, [[int s.kind, int s.cap, int s.place]]⟩ ∧ H (n1 + 2, 4) = some ⟨1, [[v204]]⟩ ∧ H (n10, 5) = some ⟨1, [[v203]]⟩ ∧ Sep H n [(.s [.c], v202, .list true (r175.map intC)), (.s [.c, .c, .c], v203, .list true (l201.map AmbNode.cells)), (.s [.c, .c, .c], v204, .list true (([] : List AmbNode).map AmbNode.cells))] [(n10, 5), (n1 + 2, 4), (n1 + 1, 3)]) (by refine ⟨v185, v186, v187, ?_, ?_, ?_, ?_, ?_, ?_, ?_, ?_, ?_, ?_, (Sep.front (K1 := [(.s [.c, .c, .c], v186, .list true (l96.map AmbNode.cells)), (.s [.c, .c, .c], v187, .list true (([] : List AmbNode).map AmbNode.cells))]) (K2 := []) (Sep.front (K1 := [(.s [.c, .c, .c], v187, .list true (([] : List AmbNode).map AmbNode.cells)), (.s [.c], v185, .list true (r175.map intC))]) (K2 := []) (Sep.front (K1 := [(.s [.c], v185, .list true (r175.map intC)), (.s [.c, .c, .c], v186, .list true (l96.map AmbNode.cells))]) (K2 := []) sp)))⟩ <;> simp [h3, h4, h5, h6, h49, h50, h51, m3_2, m4_3, m5_16, dc59, dc103, dc137, AmbNode.cells, intC, strC]) ?_
        clear h3 h4 h5 h6 h49 h50 h51 m3_2 m4_3 m5_16
        rintro ⟨v200, l201⟩ ρ H n205 K h ⟨v202, v203, v204, h3, h4, h5, h6, h49, h50, h51, m3_2, m4_3, m5_16, sp⟩ IH206
        refine Runs.seqE Ty_ok (by decide) fun k' hk' => ?_
        obtain ⟨c208, ec208⟩ : ∃ v : Bool, v = decide (v200 < len183) := ⟨_, rfl⟩
        replace h := h c208 ec208
        have f209 := ib_lss (k := .i64) ec208
        simp [h3, h4, h5, h6, h49, h50, h51, m3_2, m4_3, m5_16, f209, dc59, dc103, dc137, AmbNode.cells, intC, strC, -intBin]
        refine hk' _ _ _ ?_
        refine Runs.seq ?_
        refine Runs.ite (b := c208) (by simp [h3, h4, h5, h6, h49, h50, h51, m3_2, m4_3, m5_16, dc59, dc103, dc137, AmbNode.cells, intC, strC]) (fun dc208 => ?_) (fun dc208 => ?_)
        · replace h := h.1 dc208
          refine Runs.skip ?_
          refine Runs.seq ?_
          refine Runs.block ?_
          refine Runs.seqE Ty_ok (by decide) fun k' hk' => ?_
          obtain ⟨hb210, h⟩ := h
          obtain ⟨id211, hv, mo212, ln213, ni214⟩ := Sep.openF sp (by simp) hb210
          subst hv
          simp at ni214
          obtain ⟨x215, ex215⟩ : ∃ v : Int, v = at' r175 v200 := ⟨_, rfl⟩
          replace h := h x215 ex215
          have f216 := fun H (hm : H id211 = some ⟨1, r175.map intC⟩) => ix_arr (H := H) (k := .i64) (off := 0) (len := r175.length) (g := r175.length) kd_71 hm (by simp) rfl hb210
          have f217 := at_some (q := v200.toNat) hb210 ex215 rfl
          simp [h3, h4, h5, h6, h49, h50, h51, m3_2, m4_3, m5_16, mo212, ni214, f216, f217, dc59, dc103, dc137, dc208, AmbNode.cells, intC, strC, -indexAddrF]
          refine hk' _ _ _ ?_
          refine Runs.evalE Ty_ok (by decide) fun k' hk' => ?_
          obtain ⟨hb218, h⟩ := h
          obtain ⟨id219, hv, mo220, ln221, ni222⟩ := Sep.openF (Sep.front (K1 := [(.s [.c], .arr id211 r175.length 0 r175.length, .list true (r175.map intC))]) (K2 := [(.s [.c, .c, .c], v204, .list true (([] : List AmbNode).map AmbNode.cells))]) sp) (by simp) hb218
          subst hv
          simp at ni222
          obtain ⟨x223, ex223⟩ : ∃ v : AmbNode, v = at' l201 x215 := ⟨_, rfl⟩
          replace h := h x223 ex223
          have f224 := fun H (hm : H id219 = some ⟨3, l201.map AmbNode.cells⟩) => ix_arr (H := H) (k := .i64) (off := 0) (len := l201.length) (g := l201.length) kd_26 hm (by simp) rfl hb218
          have f225 := at_some (q := x215.toNat) hb218 ex223 rfl
          obtain ⟨l226, el226⟩ : ∃ v : List AmbNode, v = l201.set x215.toNat (AmbNode.mk x223.kind x223.name x23.parent) := ⟨_, rfl⟩
          replace h := h l226 el226
          simp [h3, h4, h5, h6, h49, h50, h51, m3_2, m4_3, m5_16, mo212, ni214, mo220, ni222, f224, f225, dc59, dc103, dc137, dc208, AmbNode.cells, intC, strC, -indexAddrF, -storeF]
          refine bind_field (i := ty3) (q := x215.toNat) (off := 2) (new := [int x23.parent]) (ix := x215) (x := x223) (y := (AmbNode.mk x223.kind x223.name x23.parent)) (f := AmbNode.cells) (Sep.front (K1 := [(.s [.c], .arr id211 r175.length 0 r175.length, .list true (r175.map intC))]) (K2 := [(.s [.c, .c, .c], v204, .list true (([] : List AmbNode).map AmbNode.cells))]) sp) (by simp) (by simp) hb218 ex223 rfl rfl (fun _ => rfl) (by simp [AmbNode.cells, intC, strC]) (by simp) (by simp [splice, AmbNode.cells, intC, strC]) (by simp) ?_
          rintro H227 sp hfr228
          replace sp : Sep H227 n205 [(.s [.c, .c, .c], .arr id219 l201.length 0 l201.length, .list true (l226.map AmbNode.cells)), (.s [.c], .arr id211 r175.length 0 r175.length, .list true (r175.map intC)), (.s [.c, .c, .c], v204, .list true (([] : List AmbNode).map AmbNode.cells))] [(n10, 5), (n1 + 2, 4), (n1 + 1, 3)] := by rw [el226]; exact sp
          have m3_2 : H227 (n1 + 1, 3) = some ⟨3, [[int s.kind, int s.cap, int s.place]]⟩ := (hfr228 _ (by simp)).trans (by simp [h3, h4, h5, h6, h49, h50, h51, m3_2, m4_3, m5_16, mo212, ni214, mo220, ni222, Heap.get_set])
          have m4_3 : H227 (n1 + 2, 4) = some ⟨1, [[v204]]⟩ := (hfr228 _ (by simp)).trans (by simp [h3, h4, h5, h6, h49, h50, h51, m3_2, m4_3, m5_16, mo212, ni214, mo220, ni222, Heap.get_set])
          have m5_16 : H227 (n10, 5) = some ⟨1, [[.arr id219 l201.length 0 l201.length]]⟩ := (hfr228 _ (by simp)).trans (by simp [h3, h4, h5, h6, h49, h50, h51, m3_2, m4_3, m5_16, mo212, ni214, mo220, ni222, Heap.get_set])
          simp [h3, h4, h5, h6, h49, h50, h51, m3_2, m4_3, m5_16, ni214, ni222, f224, f225, dc59, dc103, dc137, dc208, AmbNode.cells, intC, strC, -indexAddrF]
          refine hk' _ _ _ ?_
          refine Runs.cut (fun ρ H n => ∃ (v230 : AVal) (v231 : AVal) (v232 : AVal), ρ 3 = .ptr (n1 + 1, 3) 1 0 0 ∧ ρ 4 = .ptr (n1 + 2, 4) 1 0 0 ∧ ρ 5 = .ptr (n10, 5) 1 0 0 ∧ ρ 6 = int x23.parent ∧ ρ 49 = v231 ∧ ρ 50 = int len183 ∧ ρ 51 = int v200 ∧ H (n1 + 1, 3) = some ⟨3, [[int s.kind, int s.cap, int s.place]]⟩ ∧ H (n1 + 2, 4) = some ⟨1, [[v232]]⟩ ∧ H (n10, 5) = some ⟨1, [[v230]]⟩ ∧ Sep H n [(.s [.c, .c, .c], v230, .list true (l226.map AmbNode.cells)), (.s [.c], v231, .list true (r175.map intC)), (.s [.c, .c, .c], v232, .list true (([] : List AmbNode).map AmbNode.cells))] [(n10, 5), (n1 + 2, 4), (n1 + 1, 3)]) (by refine ⟨.arr id219 l201.length 0 l201.length, .arr id211 r175.length 0 r175.length, v204, ?_, ?_, ?_, ?_, ?_, ?_, ?_, ?_, ?_, ?_, (Sep.front (K1 := [(.s [.c], .arr id211 r175.length 0 r175.length, .list true (r175.map intC)), (.s [.c, .c, .c], v204, .list true (([] : List AmbNode).map AmbNode.cells))]) (K2 := []) (Sep.front (K1 := [(.s [.c, .c, .c], v204, .list true (([] : List AmbNode).map AmbNode.cells)), (.s [.c, .c, .c], .arr id219 l201.length 0 l201.length, .list true (l226.map AmbNode.cells))]) (K2 := []) (Sep.front (K1 := [(.s [.c, .c, .c], .arr id219 l201.length 0 l201.length, .list true (l226.map AmbNode.cells)), (.s [.c], .arr id211 r175.length 0 r175.length, .list true (r175.map intC))]) (K2 := []) sp)))⟩ <;> simp [h3, h4, h5, h6, h49, h50, h51, m3_2, m4_3, m5_16, ni214, ni222, f224, f225, dc59, dc103, dc137, dc208, AmbNode.cells, intC, strC, -indexAddrF]) ?_
          clear h3 h4 h5 h6 h49 h50 h51 m3_2 m4_3 m5_16 ni214 ni222
          rintro ρ H n233 ⟨v230, v231, v232, h3, h4, h5, h6, h49, h50, h51, m3_2, m4_3, m5_16, sp⟩
          refine Runs.inBlock ?_
          refine Runs.evalE Ty_ok (by decide) fun k' hk' => ?_
          obtain ⟨hb234, h⟩ := h
          obtain ⟨v235, ev235⟩ : ∃ v : Int, v = v200 + 1 := ⟨_, rfl⟩
          replace h := h v235 ev235
          have f236 := ib_add hb234 ev235
          simp [h3, h4, h5, h6, h49, h50, h51, m3_2, m4_3, m5_16, f236, dc59, dc103, dc137, dc208, AmbNode.cells, intC, strC, -intBin]
          refine hk' _ _ _ ?_
          refine IH206 (v235, l226) _ _ _ h (by refine ⟨v231, v230, v232, ?_, ?_, ?_, ?_, ?_, ?_, ?_, ?_, ?_, ?_, (Sep.front (K1 := [(.s [.c, .c, .c], v230, .list true (l226.map AmbNode.cells)), (.s [.c, .c, .c], v232, .list true (([] : List AmbNode).map AmbNode.cells))]) (K2 := []) (Sep.front (K1 := [(.s [.c, .c, .c], v232, .list true (([] : List AmbNode).map AmbNode.cells))]) (K2 := [(.s [.c], v231, .list true (r175.map intC))]) (Sep.front (K1 := [(.s [.c, .c, .c], v230, .list true (l226.map AmbNode.cells)), (.s [.c], v231, .list true (r175.map intC))]) (K2 := []) sp)))⟩ <;> simp [h3, h4, h5, h6, h49, h50, h51, m3_2, m4_3, m5_16, dc59, dc103, dc137, dc208, AmbNode.cells, intC, strC])
        · replace h := h.2 dc208
          refine Runs.exit rfl ?_
          refine Runs.evalE Ty_ok (by decide) fun k' hk' => ?_
          obtain ⟨hb237, h⟩ := h
          obtain ⟨id238, hv, mo239, ln240, ni241⟩ := Sep.openF (Sep.front (K1 := [(.s [.c], v202, .list true (r175.map intC))]) (K2 := [(.s [.c, .c, .c], v204, .list true (([] : List AmbNode).map AmbNode.cells))]) sp) (by simp) hb237
          subst hv
          simp at ni241
          obtain ⟨x242, ex242⟩ : ∃ v : AmbNode, v = at' l201 s.place := ⟨_, rfl⟩
          replace h := h x242 ex242
          have f243 := fun H (hm : H id238 = some ⟨3, l201.map AmbNode.cells⟩) => ix_arr (H := H) (k := .i64) (off := 0) (len := l201.length) (g := l201.length) kd_26 hm (by simp) rfl hb237
          have f244 := at_some (q := s.place.toNat) hb237 ex242 rfl
          obtain ⟨l245, el245⟩ : ∃ v : List AmbNode, v = l201.set s.place.toNat (AmbNode.mk x242.kind x242.name (-2)) := ⟨_, rfl⟩
          replace h := h l245 el245
          simp [h3, h4, h5, h6, h49, h50, h51, m3_2, m4_3, m5_16, mo239, ni241, f243, f244, dc59, dc103, dc137, dc208, AmbNode.cells, intC, strC, -indexAddrF, -storeF]
          refine bind_field (i := ty3) (q := s.place.toNat) (off := 2) (new := [int (-2)]) (ix := s.place) (x := x242) (y := (AmbNode.mk x242.kind x242.name (-2))) (f := AmbNode.cells) (Sep.front (K1 := [(.s [.c], v202, .list true (r175.map intC))]) (K2 := [(.s [.c, .c, .c], v204, .list true (([] : List AmbNode).map AmbNode.cells))]) sp) (by simp) (by simp) hb237 ex242 rfl rfl (fun _ => rfl) (by simp [AmbNode.cells, intC, strC]) (by simp) (by simp [splice, AmbNode.cells, intC, strC]) (by simp) ?_
          rintro H246 sp hfr247
          replace sp : Sep H246 n205 [(.s [.c, .c, .c], .arr id238 l201.length 0 l201.length, .list true (l245.map AmbNode.cells)), (.s [.c], v202, .list true (r175.map intC)), (.s [.c, .c, .c], v204, .list true (([] : List AmbNode).map AmbNode.cells))] [(n10, 5), (n1 + 2, 4), (n1 + 1, 3)] := by rw [el245]; exact sp
          have m3_2 : H246 (n1 + 1, 3) = some ⟨3, [[int s.kind, int s.cap, int s.place]]⟩ := (hfr247 _ (by simp)).trans (by simp [h3, h4, h5, h6, h49, h50, h51, m3_2, m4_3, m5_16, mo239, ni241, Heap.get_set])
          have m4_3 : H246 (n1 + 2, 4) = some ⟨1, [[v204]]⟩ := (hfr247 _ (by simp)).trans (by simp [h3, h4, h5, h6, h49, h50, h51, m3_2, m4_3, m5_16, mo239, ni241, Heap.get_set])
          have m5_16 : H246 (n10, 5) = some ⟨1, [[.arr id238 l201.length 0 l201.length]]⟩ := (hfr247 _ (by simp)).trans (by simp [h3, h4, h5, h6, h49, h50, h51, m3_2, m4_3, m5_16, mo239, ni241, Heap.get_set])
          simp [h3, h4, h5, h6, h49, h50, h51, m3_2, m4_3, m5_16, ni241, f243, f244, dc59, dc103, dc137, dc208, AmbNode.cells, intC, strC, -indexAddrF]
          refine hk' _ _ _ ?_
          refine Runs.cut (fun ρ H n => ∃ (v249 : AVal) (v250 : AVal), ρ 4 = .ptr (n1 + 2, 4) 1 0 0 ∧ ρ 5 = .ptr (n10, 5) 1 0 0 ∧ H (n1 + 2, 4) = some ⟨1, [[v250]]⟩ ∧ H (n10, 5) = some ⟨1, [[v249]]⟩ ∧ Sep H n [(.s [.c, .c, .c], v249, .list true (l245.map AmbNode.cells)), (.s [.c, .c, .c], v250, .list true (([] : List AmbNode).map AmbNode.cells))] [(n10, 5), (n1 + 2, 4)]) (by refine ⟨.arr id238 l201.length 0 l201.length, v204, ?_, ?_, ?_, ?_, (Sep.sub (Sep.front (K1 := [(.s [.c, .c, .c], v204, .list true (([] : List AmbNode).map AmbNode.cells))]) (K2 := []) (Sep.front (K1 := [(.s [.c, .c, .c], .arr id238 l201.length 0 l201.length, .list true (l245.map AmbNode.cells))]) (K2 := []) (Sep.right (K1 := [(.s [.c], v202, .list true (r175.map intC))]) (K2 := [(.s [.c, .c, .c], .arr id238 l201.length 0 l201.length, .list true (l245.map AmbNode.cells)), (.s [.c, .c, .c], v204, .list true (([] : List AmbNode).map AmbNode.cells))]) (Sep.front (K1 := [(.s [.c, .c, .c], .arr id238 l201.length 0 l201.length, .list true (l245.map AmbNode.cells))]) (K2 := [(.s [.c, .c, .c], v204, .list true (([] : List AmbNode).map AmbNode.cells))]) sp)))) (by simp +contextual))⟩ <;> simp [h3, h4, h5, h6, h49, h50, h51, m3_2, m4_3, m5_16, ni241, f243, f244, dc59, dc103, dc137, dc208, AmbNode.cells, intC, strC, -indexAddrF]) ?_
          clear h3 h4 h5 h6 h49 h50 h51 m3_2 m4_3 m5_16 ni241
          rintro ρ H n251 ⟨v249, v250, h4, h5, m4_3, m5_16, sp⟩
          refine Runs.inBlock ?_
          refine Runs.seqE Ty_ok (by decide) fun k' hk' => ?_
          obtain ⟨hb252, h⟩ := h
          obtain ⟨r253, er253⟩ : ∃ v : Proc, v = canonG l245 := ⟨_, rfl⟩
          replace h := h r253 er253
          simp [h4, h5, m4_3, m5_16, dc59, dc103, dc137, dc208, AmbNode.cells, intC, strC]
          refine RunK.callW Ty_ok (canonG_ok l245 hb252) e26 (.cons (ArgOk.agg (.cons (Sep.argOk' sp (old_listF (by simp [AmbNode.cells, intC, strC, intC]))) .nil)) .nil) sp (by decide) (by decide) rfl (by simp [h4, h5, m4_3, m5_16, dc59, dc103, dc137, dc208, AmbNode.cells, intC, strC]) ?_
          rintro v254 H255 n256 _ sp rfl hle258 hfr257
          rw [← er253] at sp
          have m4_3 : H255 (n1 + 2, 4) = some ⟨1, [[v250]]⟩ := (hfr257 _ (by simp)).trans (by simp [h4, h5, m4_3, m5_16, Heap.get_set])
          have m5_16 : H255 (n10, 5) = some ⟨1, [[v249]]⟩ := (hfr257 _ (by simp)).trans (by simp [h4, h5, m4_3, m5_16, Heap.get_set])
          replace sp := Sep.unpack sp
          obtain ⟨L261, hv, hl262, sp⟩ := sp
          subst hv
          obtain ⟨v260, hv⟩ := len1 (by simpa using hl262)
          subst hv
          simp only [zip3, List.cons_append, List.nil_append] at sp
          replace sp := Sep.rot sp
          try simp only [List.cons_append, List.nil_append, List.append_assoc] at sp
          replace sp : Sep H255 n256 [(.s [.c, .c, .c], v249, .list true (l245.map AmbNode.cells)), (.s [.c, .c, .c], v250, .list true (([] : List AmbNode).map AmbNode.cells)), (.s [.c, .c, .c], v260, .list true (r253.map AmbNode.cells))] [(n10, 5), (n1 + 2, 4)] := sp
          have f264 := cell_own (Sep.cells (Sep.front (K1 := [(.s [.c, .c, .c], v249, .list true (l245.map AmbNode.cells)), (.s [.c, .c, .c], v250, .list true (([] : List AmbNode).map AmbNode.cells))]) (K2 := []) sp))
          have f265 := cell_own (Sep.one1 (Sep.front (K1 := [(.s [.c, .c, .c], v249, .list true (l245.map AmbNode.cells)), (.s [.c, .c, .c], v250, .list true (([] : List AmbNode).map AmbNode.cells))]) (K2 := []) sp))
          simp [h4, h5, m4_3, m5_16, f264, f265, dc59, dc103, dc137, dc208, AmbNode.cells, intC, strC, -cellsA, -one1, cA_int, cA_bool, cA_str, cA_nil, cA_agg, cA_list, cA_arr, cA_ptr, o1_int, o1_bool, o1_str, o1_nil, o1_list, o1_arr, o1_ptr]
          refine hk' _ _ _ ?_
          refine Runs.cut (fun ρ H n => ∃ (v266 : AVal), ρ 4 = .ptr (n1 + 2, 4) 1 0 0 ∧ H (n1 + 2, 4) = some ⟨1, [[v266]]⟩ ∧ Sep H n [(.s [.c, .c, .c], v266, .list true (r253.map AmbNode.cells))] [(n1 + 2, 4)]) (by refine ⟨v260, ?_, ?_, (Sep.sub (Sep.right (K1 := [(.s [.c, .c, .c], v250, .list true (([] : List AmbNode).map AmbNode.cells))]) (K2 := [(.s [.c, .c, .c], v260, .list true (r253.map AmbNode.cells))]) (Sep.right (K1 := [(.s [.c, .c, .c], v249, .list true (l245.map AmbNode.cells))]) (K2 := [(.s [.c, .c, .c], v250, .list true (([] : List AmbNode).map AmbNode.cells)), (.s [.c, .c, .c], v260, .list true (r253.map AmbNode.cells))]) (Sep.setVar (w := (n1 + 2, 4)) sp (by simp)))) (by simp +contextual))⟩ <;> simp [h4, h5, m4_3, m5_16, f264, f265, dc59, dc103, dc137, dc208, AmbNode.cells, intC, strC, -cellsA, -one1, cA_int, cA_bool, cA_str, cA_nil, cA_agg, cA_list, cA_arr, cA_ptr, o1_int, o1_bool, o1_str, o1_nil, o1_list, o1_arr, o1_ptr]) ?_
          clear h4 h5 m4_3 m5_16
          rintro ρ H n267 ⟨v266, h4, m4_3, sp⟩
          exact Runs.res1 Ty_ok (v := .agg [v266]) Tryz.func33 Tryz.results33 (by simp [h4, m4_3, dc59, dc103, dc137, dc208, resA, AmbNode.cells, intC, strC]) (hQ _ _ _ _ (Sep.sub (ids' := []) (Sep.pack (K := []) (Fill.own Fill.nil) sp) (by simp)) ⟨r253, h, rfl⟩)

theorem result_ok (p : Proc) (s : AmbStep) (hp : result_pre p s) : OwnS Tryz.prog 33 [.agg [.list false (p.map AmbNode.cells)], .agg [int s.kind, int s.cap, int s.place]] (.a [.s [.c, .c, .c]]) (fun r => r = .agg [.list true ((result p s).map AmbNode.cells)]) := (result_walk p s _ (result_vc p s hp)).mono (by rintro _ ⟨_, rfl, rfl⟩; rfl)

theorem e50 : Ent Tryz.prog 50 := Ent.of Tryz.func50 (by kernel_rfl) rfl
theorem l12Text_walk (p : Proc) (parents : List Int) (parent : Int) (Z : Str → Prop) (ih : ∀ pr parentsr parentr, l12Text_pre pr parentsr parentr → l12Text_ms pr parentsr parentr < l12Text_ms p parents parent → PureC Tryz.prog 50 [.agg [.list false (pr.map AmbNode.cells)], .list false (parentsr.map intC), int parentr] (fun r => r = str (l12Text pr parentsr parentr))) (h : l12Text_wp p parents parent Z) : PureC Tryz.prog 50 [.agg [.list false (p.map AmbNode.cells)], .list false (parents.map intC), int parent] (fun r => ∃ y : Str, Z y ∧ r = str y) := by
  unfold l12Text_wp at h
  have sp : Sep noHeap 0 [] [] := Sep.nil (by simp)
  refine PureC.of Tryz.func50 rfl Tryz.ntmps50 (by simp) fun Q hQ => ?_
  refine Runs.cut (fun ρ H n => ρ 0 = .agg [.list false (p.map AmbNode.cells)] ∧ ρ 1 = .list false (parents.map intC) ∧ ρ 2 = int parent ∧ Sep H n [] []) (by refine ⟨?_, ?_, ?_, sp⟩ <;> simp [AmbNode.cells, intC, strC]) ?_
  rintro ρ H n1 ⟨h0, h1, h2, sp⟩
  refine Runs.seqE Ty_ok (by decide) fun k' hk' => ?_
  simp [h0, h1, h2, AmbNode.cells, intC, strC]
  refine hk' _ _ _ ?_
  refine Runs.cut (fun ρ H n => ρ 1 = .list false (parents.map intC) ∧ ρ 2 = int parent ∧ ρ 3 = .ptr (n1, 3) 1 0 0 ∧ H (n1, 3) = some ⟨1, [[.list false (p.map AmbNode.cells)]]⟩ ∧ Sep H n [] [(n1, 3)]) (by refine ⟨?_, ?_, ?_, ?_, (Sep.var sp)⟩ <;> simp [h0, h1, h2, AmbNode.cells, intC, strC]) ?_
  clear h0 h1 h2
  rintro ρ H n3 ⟨h1, h2, h3, m3_1, sp⟩
  refine Runs.seqE Ty_ok (by decide) fun k' hk' => ?_
  simp [h1, h2, h3, m3_1, AmbNode.cells, intC, strC]
  refine hk' _ _ _ ?_
  refine Runs.cut (fun ρ H n => ∃ (v5 : AVal), ρ 1 = .list false (parents.map intC) ∧ ρ 2 = int parent ∧ ρ 3 = .ptr (n1, 3) 1 0 0 ∧ ρ 7 = v5 ∧ H (n1, 3) = some ⟨1, [[.list false (p.map AmbNode.cells)]]⟩ ∧ Sep H n [(.s [.c], v5, .list true (([] : List Str).map strC))] [(n1, 3)]) (by refine ⟨.arr (n3, 13) 0 0 0, ?_, ?_, ?_, ?_, ?_, (Sep.addEmpty (l := [.c]) sp)⟩ <;> simp [h1, h2, h3, m3_1, AmbNode.cells, intC, strC]) ?_
  clear h1 h2 h3 m3_1
  rintro ρ H n6 ⟨v5, h1, h2, h3, h7, m3_1, sp⟩
  refine Runs.seq ?_
  refine Runs.seqE Ty_ok (by decide) fun k' hk' => ?_
  simp [h1, h2, h3, h7, m3_1, AmbNode.cells, intC, strC]
  refine hk' _ _ _ ?_
  refine Runs.block ?_
  refine Runs.loopW h (fun (sJ : Int × (List Str)) ρ H n => match sJ with | (i14, l15) => ∃ (v16 : AVal), ρ 1 = .list false (parents.map intC) ∧ ρ 2 = int parent ∧ ρ 3 = .ptr (n1, 3) 1 0 0 ∧ ρ 7 = v16 ∧ ρ 8 = int i14 ∧ H (n1, 3) = some ⟨1, [[.list false (p.map AmbNode.cells)]]⟩ ∧ Sep H n [(.s [.c], v16, .list true (l15.map strC))] [(n1, 3)]) (by refine ⟨v5, ?_, ?_, ?_, ?_, ?_, ?_, sp⟩ <;> simp [h1, h2, h3, h7, m3_1, AmbNode.cells, intC, strC]) ?_
  clear h1 h2 h3 h7 m3_1
  rintro ⟨i14, l15⟩ ρ H n17 K h ⟨v16, h1, h2, h3, h7, h8, m3_1, sp⟩ IH18
  refine Runs.seq ?_
  refine Runs.seqE Ty_ok (by decide) fun k' hk' => ?_
  obtain ⟨len20, elen20⟩ : ∃ v : Int, v = (parents.length : Int) := ⟨_, rfl⟩
  replace h := h len20 elen20
  have f21 := fun H => len_list (H := H) (fr := false) (f := intC) kd_71 elen20
  obtain ⟨c22, ec22⟩ : ∃ v : Bool, v = decide (i14 < len20) := ⟨_, rfl⟩
  replace h := h c22 ec22
  have f23 := ib_lss (k := .i64) ec22
  simp [h1, h2, h3, h7, h8, m3_1, f21, f23, AmbNode.cells, intC, strC, -intBin, -lenF]
  refine hk' _ _ _ ?_
  refine Runs.ite (b := c22) (by simp [h1, h2, h3, h7, h8, m3_1, AmbNode.cells, intC, strC]) (fun dc22 => ?_) (fun dc22 => ?_)
  · replace h := h.1 dc22
    refine Runs.skip ?_
    refine Runs.seq ?_
    refine Runs.block ?_
    refine Runs.seq ?_
    refine Runs.seqE Ty_ok (by decide) fun k' hk' => ?_
    obtain ⟨J24, hJ25, hr26⟩ := h
    have fin29 : ∀ (sJ : Bool) (ρ : Env) (H : Heap) (n : Nat), J24 sJ → (match sJ with | b27 => ∃ (v28 : AVal), ρ 1 = .list false (parents.map intC) ∧ ρ 2 = int parent ∧ ρ 3 = .ptr (n1, 3) 1 0 0 ∧ ρ 7 = v28 ∧ ρ 8 = int i14 ∧ ρ 30 = bool b27 ∧ H (n1, 3) = some ⟨1, [[.list false (p.map AmbNode.cells)]]⟩ ∧ Sep H n [(.s [.c], v28, .list true (l15.map strC))] [(n1, 3)]) → Runs Tryz.prog 50 87 k' ρ H n Q := by
      rintro b27 ρ H n30 h ⟨v28, h1, h2, h3, h7, h8, h30, m3_1, sp⟩
      replace h := hr26 _ h
      refine hk' _ _ _ ?_
      refine Runs.ite (b := b27) (by simp [h1, h2, h3, h7, h8, h30, m3_1, dc22, AmbNode.cells, intC, strC]) (fun db27 => ?_) (fun db27 => ?_)
      · replace h := h.1 db27
        refine Runs.exit rfl ?_
        refine Runs.evalE Ty_ok (by decide) fun k' hk' => ?_
        obtain ⟨hb31, h⟩ := h
        obtain ⟨v32, ev32⟩ : ∃ v : Int, v = i14 + 1 := ⟨_, rfl⟩
        replace h := h v32 ev32
        have f33 := ib_add hb31 ev32
        simp [h1, h2, h3, h7, h8, h30, m3_1, f33, dc22, db27, AmbNode.cells, intC, strC, -intBin]
        refine hk' _ _ _ ?_
        refine IH18 (v32, l15) _ _ _ h (by refine ⟨v28, ?_, ?_, ?_, ?_, ?_, ?_, sp⟩ <;> simp [h1, h2, h3, h7, h8, h30, m3_1, dc22, db27, AmbNode.cells, intC, strC])
      · replace h := h.2 db27
        refine Runs.skip ?_
        refine Runs.seqD Ty_ok kindOp_ok draws (by decide) (by kernel_rfl) fun k' hk' => ?_
        obtain ⟨hb34, h⟩ := h
        obtain ⟨x35, ex35⟩ : ∃ v : AmbNode, v = at' p i14 := ⟨_, rfl⟩
        replace h := h x35 ex35
        have f36 := fun H => ix_list (H := H) (fr := false) (f := AmbNode.cells) (k := .i64) kd_26 (fun _ => rfl) hb34 ex35
        obtain ⟨hb37, h⟩ := h
        obtain ⟨r38, er38⟩ : ∃ v : Str, v = l12Text p parents i14 := ⟨_, rfl⟩
        replace h := h r38 er38
        simp [h1, h2, h3, h7, h8, h30, m3_1, f36, dc22, db27, AmbNode.cells, intC, strC, -indexAddrF]
        refine RunDK.callA Ty_ok kindOp_ok (ih p parents i14 hb37.1 hb37.2) e50 (.cons (ArgOk.agg (.cons (ArgOk.listF (fr := false) (els := p.map AmbNode.cells) (by simp [AmbNode.cells, intC, strC, intC])) .nil)) (.cons (ArgOk.listF (fr := false) (els := parents.map intC) (by simp [intC])) (.cons (.v _ _ _) .nil))) (by decide) rfl (by simp [h1, h2, h3, h7, h8, h30, m3_1, f36, dc22, db27, AmbNode.cells, intC, strC, -indexAddrF]) ?_
        rw [← er38]
        obtain ⟨hb39, h⟩ := h
        obtain ⟨r40, er40⟩ : ∃ v : Str, v = nodeText x35 r38 := ⟨_, rfl⟩
        replace h := h r40 er40
        simp [h1, h2, h3, h7, h8, h30, m3_1, f36, dc22, db27, AmbNode.cells, intC, strC, -indexAddrF]
        refine RunDK.callA Ty_ok kindOp_ok (l12Around_ok x35 r38 hb39.1 hb39.2.1 hb39.2.2) e67 (.cons (ArgOk.agg (.cons (.v _ _ _) (.cons (.v _ _ _) (.cons (.v _ _ _) .nil)))) (.cons (.v _ _ _) .nil)) (by decide) rfl (by simp [h1, h2, h3, h7, h8, h30, m3_1, f36, dc22, db27, AmbNode.cells, intC, strC, -indexAddrF]) ?_
        rw [← er40]
        simp [h1, h2, h3, h7, h8, h30, m3_1, f36, dc22, db27, AmbNode.cells, intC, strC, -indexAddrF]
        refine hk' _ _ _ ?_
        refine Runs.seq ?_
        refine Runs.block ?_
        refine Runs.loopW h (fun (sJ : Int) ρ H n => match sJ with | k44 => ∃ (v45 : AVal), ρ 1 = .list false (parents.map intC) ∧ ρ 2 = int parent ∧ ρ 3 = .ptr (n1, 3) 1 0 0 ∧ ρ 7 = v45 ∧ ρ 8 = int i14 ∧ ρ 9 = str r40 ∧ ρ 10 = int k44 ∧ H (n1, 3) = some ⟨1, [[.list false (p.map AmbNode.cells)]]⟩ ∧ Sep H n [(.s [.c], v45, .list true (l15.map strC))] [(n1, 3)]) (by refine ⟨v28, ?_, ?_, ?_, ?_, ?_, ?_, ?_, ?_, sp⟩ <;> simp [h1, h2, h3, h7, h8, h30, m3_1, dc22, db27, AmbNode.cells, intC, strC]) ?_
        clear h1 h2 h3 h7 h8 h30 m3_1
        rintro k44 ρ H n46 K h ⟨v45, h1, h2, h3, h7, h8, h9, h10, m3_1, sp⟩ IH47
        refine Runs.seq ?_
        refine Runs.seqE Ty_ok (by decide) fun k' hk' => ?_
        obtain ⟨J49, hJ50, hr51⟩ := h
        have fin54 : ∀ (sJ : Bool) (ρ : Env) (H : Heap) (n : Nat), J49 sJ → (match sJ with | b52 => ∃ (v53 : AVal), ρ 1 = .list false (parents.map intC) ∧ ρ 2 = int parent ∧ ρ 3 = .ptr (n1, 3) 1 0 0 ∧ ρ 7 = v53 ∧ ρ 8 = int i14 ∧ ρ 9 = str r40 ∧ ρ 10 = int k44 ∧ ρ 52 = bool b52 ∧ H (n1, 3) = some ⟨1, [[.list false (p.map AmbNode.cells)]]⟩ ∧ Sep H n [(.s [.c], v53, .list true (l15.map strC))] [(n1, 3)]) → Runs Tryz.prog 50 87 k' ρ H n Q := by
          rintro b52 ρ H n55 h ⟨v53, h1, h2, h3, h7, h8, h9, h10, h52, m3_1, sp⟩
          replace h := hr51 _ h
          refine hk' _ _ _ ?_
          refine Runs.ite (b := b52) (by simp [h1, h2, h3, h7, h8, h9, h10, h52, m3_1, dc22, db27, AmbNode.cells, intC, strC]) (fun db52 => ?_) (fun db52 => ?_)
          · replace h := h.1 db52
            refine Runs.skip ?_
            refine Runs.block ?_
            refine Runs.evalE Ty_ok (by decide) fun k' hk' => ?_
            obtain ⟨hb56, h⟩ := h
            obtain ⟨v57, ev57⟩ : ∃ v : Int, v = k44 + 1 := ⟨_, rfl⟩
            replace h := h v57 ev57
            have f58 := ib_add hb56 ev57
            simp [h1, h2, h3, h7, h8, h9, h10, h52, m3_1, f58, dc22, db27, db52, AmbNode.cells, intC, strC, -intBin]
            refine hk' _ _ _ ?_
            refine Runs.inBlock ?_
            refine IH47 (v57) _ _ _ h (by refine ⟨v53, ?_, ?_, ?_, ?_, ?_, ?_, ?_, ?_, sp⟩ <;> simp [h1, h2, h3, h7, h8, h9, h10, h52, m3_1, dc22, db27, db52, AmbNode.cells, intC, strC])
          · replace h := h.2 db52
            refine Runs.exit rfl ?_
            have hA59 := Sep.at sp (by simp)
            refine Runs.evalVE Ty_ok (watchOf v53) draws (by decide) (by kernel_rfl) fun k' hk' => ?_
            simp [h1, h2, h3, h7, h8, h9, h10, h52, m3_1, dc22, db27, db52, AmbNode.cells, intC, strC]
            have hA61 := (watch_set (d := 55) (o' := ⟨1, []⟩) hA59).1
            refine bindV_new (watch_set hA59).2 (by simp) ?_
            obtain ⟨hb62, h⟩ := h
            obtain ⟨l63, el63⟩ : ∃ v : List Str, v = (l15.take k44.toNat).drop 0 := ⟨_, rfl⟩
            replace h := h l63 el63
            simp [h1, h2, h3, h7, h8, h9, h10, h52, m3_1, dc22, db27, db52, AmbNode.cells, intC, strC, -sliceF]
            refine bindV_view (g := strC) (xs := l15) 0 k44 (fun _ h => h) (by simp [h1, h2, h3, h7, h8, h9, h10, h52, m3_1, dc22, db27, db52, AmbNode.cells, intC, strC]) (Sep.front (K1 := [(.s [.c], .arr (n55, 55) 0 0 0, .list true (([] : List Str).map strC))]) (K2 := []) (Sep.addEmpty (l := [.c]) sp)) (by simp) kd_57 (by simp) (by simp [boundOf]) (by simp [boundOf]) hb62 ?_
            rintro w64 hw65
            replace hw65 := hw65.trans (show _ = some (l63.map strC) by simp [el63])
            obtain ⟨hb66, h⟩ := h
            obtain ⟨l67, el67⟩ : ∃ v : List Str, v = ([] : List Str) ++ l63 := ⟨_, rfl⟩
            replace h := h l67 el67
            simp [h1, h2, h3, h7, h8, h9, h10, h52, m3_1, dc22, db27, db52, AmbNode.cells, intC, strC, -appendF]
            refine bindV_append0 (l63.map strC) (by simp) (Sep.addEmpty (l := [.c]) sp) (by simp) kd_57 (by simp) (by simp) hw65 (by simp [-one1, o1_int, o1_bool, o1_str, o1_nil, o1_list, o1_arr, o1_ptr, flat, AmbNode.cells, intC, strC]) (by simpa using hb66) ?_
            rintro v68 H69 n70 sp hfr71 hle72
            replace sp : Sep H69 n70 [(.s [.c], v68, .list true (l67.map strC)), (.s [.c], v53, .list true (l15.map strC))] [(n1, 3)] := by rw [el67, List.map_append]; exact sp
            have hA73 := Sep.at (Sep.front (K1 := [(.s [.c], v68, .list true (l67.map strC))]) (K2 := []) sp) (by simp)
            refine ⟨fun i hi => ((hA73 i hi).1).trans ((hA61 i hi).1).symm, ?_⟩
            have m3_1 : H69 (n1, 3) = some ⟨1, [[.list false (p.map AmbNode.cells)]]⟩ := (hfr71 _ (by simp)).trans (by simp [h1, h2, h3, h7, h8, h9, h10, h52, m3_1, Heap.get_set])
            obtain ⟨hb75, h⟩ := h
            obtain ⟨l76, el76⟩ : ∃ v : List Str, v = l67 ++ [r40] := ⟨_, rfl⟩
            replace h := h l76 el76
            simp [h1, h2, h3, h7, h8, h9, h10, h52, m3_1, dc22, db27, db52, AmbNode.cells, intC, strC, -appendF]
            refine bindV_append [] [(.s [.c], v53, .list true (l15.map strC))] [[str r40]] [strC r40] (by simp) sp kd_57 (by simp) (by simp) (by simp [AmbNode.cells, intC, strC]) (by simp [-one1, o1_int, o1_bool, o1_str, o1_nil, o1_list, o1_arr, o1_ptr]) (rows_one (Fill.v _ Fill.nil)) (by simp) (by simpa using hb75) ?_
            rintro v77 H78 n79 sp hfr80 hle81
            replace sp : Sep H78 n79 [(.s [.c], v77, .list true (l76.map strC)), (.s [.c], v53, .list true (l15.map strC))] [(n1, 3)] := by rw [el76, List.map_append]; exact sp
            have hA82 := Sep.at (Sep.front (K1 := [(.s [.c], v77, .list true (l76.map strC))]) (K2 := []) sp) (by simp)
            refine ⟨fun i hi => ((hA82 i hi).1).trans ((hA73 i hi).1).symm, ?_⟩
            have m3_1 : H78 (n1, 3) = some ⟨1, [[.list false (p.map AmbNode.cells)]]⟩ := (hfr80 _ (by simp)).trans (by simp [h1, h2, h3, h7, h8, h9, h10, h52, m3_1, Heap.get_set])
            obtain ⟨hb84, h⟩ := h
            obtain ⟨l85, el85⟩ : ∃ v : List Str, v = (l15.take (l15.length : Int).toNat).drop k44.toNat := ⟨_, rfl⟩
            replace h := h l85 el85
            simp [h1, h2, h3, h7, h8, h9, h10, h52, m3_1, dc22, db27, db52, AmbNode.cells, intC, strC, -sliceF]
            refine bindV_view (g := strC) (xs := l15) k44 (l15.length : Int) (fun _ h => h) (by simp [h1, h2, h3, h7, h8, h9, h10, h52, m3_1, dc22, db27, db52, AmbNode.cells, intC, strC]) (Sep.front (K1 := [(.s [.c], v77, .list true (l76.map strC))]) (K2 := []) sp) (by simp) kd_57 (by simp) (by simp [boundOf]) (by simp [boundOf]) hb84 ?_
            rintro w86 hw87
            replace hw87 := hw87.trans (show _ = some (l85.map strC) by simp [el85])
            obtain ⟨hb88, h⟩ := h
            obtain ⟨l89, el89⟩ : ∃ v : List Str, v = l76 ++ l85 := ⟨_, rfl⟩
            replace h := h l89 el89
            simp [h1, h2, h3, h7, h8, h9, h10, h52, m3_1, dc22, db27, db52, AmbNode.cells, intC, strC, -appendF]
            refine bindV_append0 (l85.map strC) (by simp) sp (by simp) kd_57 (by simp) (by simp) hw87 (by simp [-one1, o1_int, o1_bool, o1_str, o1_nil, o1_list, o1_arr, o1_ptr, flat, AmbNode.cells, intC, strC]) (by simpa using hb88) ?_
            rintro v90 H91 n92 sp hfr93 hle94
            replace sp : Sep H91 n92 [(.s [.c], v90, .list true (l89.map strC)), (.s [.c], v53, .list true (l15.map strC))] [(n1, 3)] := by rw [el89, List.map_append]; exact sp
            have hA95 := Sep.at (Sep.front (K1 := [(.s [.c], v90, .list true (l89.map strC))]) (K2 := []) sp) (by simp)
            refine ⟨fun i hi => ((hA95 i hi).1).trans ((hA82 i hi).1).symm, ?_⟩
            have m3_1 : H91 (n1, 3) = some ⟨1, [[.list false (p.map AmbNode.cells)]]⟩ := (hfr93 _ (by simp)).trans (by simp [h1, h2, h3, h7, h8, h9, h10, h52, m3_1, Heap.get_set])
            simp [h1, h2, h3, h7, h8, h9, h10, h52, m3_1, dc22, db27, db52, AmbNode.cells, intC, strC]
            refine hk' _ _ _ ?_
            refine Runs.cut (fun ρ H n => ∃ (v97 : AVal), ρ 1 = .list false (parents.map intC) ∧ ρ 2 = int parent ∧ ρ 3 = .ptr (n1, 3) 1 0 0 ∧ ρ 7 = v97 ∧ ρ 8 = int i14 ∧ H (n1, 3) = some ⟨1, [[.list false (p.map AmbNode.cells)]]⟩ ∧ Sep H n [(.s [.c], v97, .list true (l89.map strC))] [(n1, 3)]) (by refine ⟨v90, ?_, ?_, ?_, ?_, ?_, ?_, (Sep.right (K1 := [(.s [.c], v53, .list true (l15.map strC))]) (K2 := [(.s [.c], v90, .list true (l89.map strC))]) (Sep.front (K1 := [(.s [.c], v90, .list true (l89.map strC))]) (K2 := []) sp))⟩ <;> simp [h1, h2, h3, h7, h8, h9, h10, h52, m3_1, dc22, db27, db52, AmbNode.cells, intC, strC]) ?_
            clear h1 h2 h3 h7 h8 h9 h10 h52 m3_1
            rintro ρ H n98 ⟨v97, h1, h2, h3, h7, h8, m3_1, sp⟩
            refine Runs.inBlock ?_
            refine Runs.evalE Ty_ok (by decide) fun k' hk' => ?_
            obtain ⟨hb99, h⟩ := h
            obtain ⟨v100, ev100⟩ : ∃ v : Int, v = i14 + 1 := ⟨_, rfl⟩
            replace h := h v100 ev100
            have f101 := ib_add hb99 ev100
            simp [h1, h2, h3, h7, h8, m3_1, f101, dc22, db27, db52, AmbNode.cells, intC, strC, -intBin]
            refine hk' _ _ _ ?_
            refine IH18 (v100, l89) _ _ _ h (by refine ⟨v97, ?_, ?_, ?_, ?_, ?_, ?_, sp⟩ <;> simp [h1, h2, h3, h7, h8, m3_1, dc22, db27, db52, AmbNode.cells, intC, strC])
        replace h := hJ50
        obtain ⟨len102, elen102⟩ : ∃ v : Int, v = (l15.length : Int) := ⟨_, rfl⟩
        replace h := h len102 elen102
        have f103 := len_own (Sep.len (m := len102) sp kd_57 (by rw [elen102, List.length_map]))
        obtain ⟨c104, ec104⟩ : ∃ v : Bool, v = decide (k44 < len102) := ⟨_, rfl⟩
        replace h := h c104 ec104
        have f105 := ib_lss (k := .i64) ec104
        rcases Bool.eq_false_or_eq_true c104 with dc104 | dc104
        · replace h := h.1 dc104
          obtain ⟨hb106, h⟩ := h
          obtain ⟨id107, hv, mo108, ln109, ni110⟩ := Sep.openF sp (by simp) hb106
          subst hv
          simp at ni110
          obtain ⟨x111, ex111⟩ : ∃ v : Str, v = at' l15 k44 := ⟨_, rfl⟩
          replace h := h x111 ex111
          have f112 := fun H (hm : H id107 = some ⟨1, l15.map strC⟩) => ix_arr (H := H) (k := .i64) (off := 0) (len := l15.length) (g := l15.length) kd_57 hm (by simp) rfl hb106
          have f113 := at_some (q := k44.toNat) hb106 ex111 rfl
          obtain ⟨c114, ec114⟩ : ∃ v : Bool, v = (Op.bytesLess x111 r40 || x111 == r40) := ⟨_, rfl⟩
          replace h := h c114 ec114
          have f115 := sb_leq ec114
          simp [h1, h2, h3, h7, h8, h9, h10, m3_1, mo108, ni110, f103, f105, f112, f113, f115, dc22, db27, dc104, AmbNode.cells, intC, strC, -indexAddrF, -intBin, -lenF, -strBin]
          exact fin54 (c114) _ _ _ h (by refine ⟨.arr id107 l15.length 0 l15.length, ?_, ?_, ?_, ?_, ?_, ?_, ?_, ?_, ?_, sp⟩ <;> simp [h1, h2, h3, h7, h8, h9, h10, m3_1, mo108, ni110, f103, f105, f112, f113, f115, dc22, db27, dc104, AmbNode.cells, intC, strC, -indexAddrF, -intBin, -lenF, -strBin])
        · replace h := h.2 dc104
          simp [h1, h2, h3, h7, h8, h9, h10, m3_1, f103, f105, dc22, db27, dc104, AmbNode.cells, intC, strC, -intBin, -lenF]
          exact fin54 (false) _ _ _ h (by refine ⟨v45, ?_, ?_, ?_, ?_, ?_, ?_, ?_, ?_, ?_, sp⟩ <;> simp [h1, h2, h3, h7, h8, h9, h10, m3_1, f103, f105, dc22, db27, dc104, AmbNode.cells, intC, strC, -intBin, -lenF])
    replace h := hJ25
    obtain ⟨hb116, h⟩ := h
    obtain ⟨x117, ex117⟩ : ∃ v : Int, v = at' parents i14 := ⟨_, rfl⟩
    replace h := h x117 ex117
    have f118 := fun H => ix_list (H := H) (fr := false) (f := intC) (k := .i64) kd_71 (fun _ => rfl) hb116 ex117
    obtain ⟨c119, ec119⟩ : ∃ v : Bool, v = decide (x117 ≠ parent) := ⟨_, rfl⟩
    replace h := h c119 ec119
    have f120 := ib_neq (k := .i64) ec119
    rcases Bool.eq_false_or_eq_true c119 with dc119 | dc119
    · replace h := h.1 dc119
      simp [h1, h2, h3, h7, h8, m3_1, f118, f120, dc22, dc119, AmbNode.cells, intC, strC, -indexAddrF, -intBin]
      exact fin29 (true) _ _ _ h (by refine ⟨v16, ?_, ?_, ?_, ?_, ?_, ?_, ?_, sp⟩ <;> simp [h1, h2, h3, h7, h8, m3_1, f118, f120, dc22, dc119, AmbNode.cells, intC, strC, -indexAddrF, -intBin])
    · replace h := h.2 dc119
      obtain ⟨c121, ec121⟩ : ∃ v : Bool, v = decide (i14 = parent) := ⟨_, rfl⟩
      replace h := h c121 ec121
      have f122 := ib_eql (k := .i64) ec121
      simp [h1, h2, h3, h7, h8, m3_1, f118, f120, f122, dc22, dc119, AmbNode.cells, intC, strC, -indexAddrF, -intBin]
      exact fin29 (c121) _ _ _ h (by refine ⟨v16, ?_, ?_, ?_, ?_, ?_, ?_, ?_, sp⟩ <;> simp [h1, h2, h3, h7, h8, m3_1, f118, f120, f122, dc22, dc119, AmbNode.cells, intC, strC, -indexAddrF, -intBin])
  · replace h := h.2 dc22
    refine Runs.exit rfl ?_
    refine Runs.seq ?_
    refine Runs.seqE Ty_ok (by decide) fun k' hk' => ?_
    obtain ⟨len123, elen123⟩ : ∃ v : Int, v = (l15.length : Int) := ⟨_, rfl⟩
    replace h := h len123 elen123
    have f124 := len_own (Sep.len (m := len123) sp kd_57 (by rw [elen123, List.length_map]))
    obtain ⟨c125, ec125⟩ : ∃ v : Bool, v = decide (len123 = 0) := ⟨_, rfl⟩
    replace h := h c125 ec125
    have f126 := ib_eql (k := .i64) ec125
    simp [h1, h2, h3, h7, h8, m3_1, f124, f126, dc22, AmbNode.cells, intC, strC, -intBin, -lenF]
    refine hk' _ _ _ ?_
    refine Runs.ite (b := c125) (by simp [h1, h2, h3, h7, h8, m3_1, dc22, AmbNode.cells, intC, strC]) (fun dc125 => ?_) (fun dc125 => ?_)
    · replace h := h.1 dc125
      refine Runs.seqE Ty_ok (by decide) fun k' hk' => ?_
      simp [h1, h2, h3, h7, h8, m3_1, dc22, dc125, AmbNode.cells, intC, strC]
      refine hk' _ _ _ ?_
      exact Runs.ret1 (v := str [48]) Tryz.func50 Tryz.results50 (by simp [h1, h2, h3, h7, h8, m3_1, dc22, dc125, AmbNode.cells, intC, strC]) (hQ _ _ _ _ (.of (.v _)) ⟨[48], h, rfl⟩)
    · replace h := h.2 dc125
      refine Runs.skip ?_
      refine Runs.seqE Ty_ok (by decide) fun k' hk' => ?_
      obtain ⟨hb127, h⟩ := h
      obtain ⟨id128, hv, mo129, ln130, ni131⟩ := Sep.openF sp (by simp) hb127
      subst hv
      simp at ni131
      obtain ⟨x132, ex132⟩ : ∃ v : Str, v = at' l15 0 := ⟨_, rfl⟩
      replace h := h x132 ex132
      have f133 := fun H (hm : H id128 = some ⟨1, l15.map strC⟩) => ix_arr (H := H) (k := .i64) (off := 0) (len := l15.length) (g := l15.length) kd_57 hm (by simp) rfl hb127
      have f134 := at_some (q := 0) hb127 ex132 rfl
      simp [h1, h2, h3, h7, h8, m3_1, mo129, ni131, f133, f134, dc22, dc125, AmbNode.cells, intC, strC, -indexAddrF]
      refine hk' _ _ _ ?_
      refine Runs.seq ?_
      refine Runs.seqE Ty_ok (by decide) fun k' hk' => ?_
      simp [h1, h2, h3, h7, h8, m3_1, mo129, ni131, dc22, dc125, AmbNode.cells, intC, strC]
      refine hk' _ _ _ ?_
      refine Runs.block ?_
      refine Runs.loopW h (fun (sJ : Str × Int) ρ H n => match sJ with | (s139, i140) => ∃ (v141 : AVal), ρ 7 = v141 ∧ ρ 11 = str s139 ∧ ρ 12 = int i140 ∧ Sep H n [(.s [.c], v141, .list true (l15.map strC))] []) (by refine ⟨.arr id128 l15.length 0 l15.length, ?_, ?_, ?_, (Sep.sub sp (by simp +contextual))⟩ <;> simp [h1, h2, h3, h7, h8, m3_1, mo129, ni131, dc22, dc125, AmbNode.cells, intC, strC]) ?_
      clear h1 h2 h3 h7 h8 m3_1 mo129 ni131
      rintro ⟨s139, i140⟩ ρ H n142 K h ⟨v141, h7, h11, h12, sp⟩ IH143
      refine Runs.seq ?_
      refine Runs.seqE Ty_ok (by decide) fun k' hk' => ?_
      obtain ⟨len145, elen145⟩ : ∃ v : Int, v = (l15.length : Int) := ⟨_, rfl⟩
      replace h := h len145 elen145
      have f146 := len_own (Sep.len (m := len145) sp kd_57 (by rw [elen145, List.length_map]))
      obtain ⟨c147, ec147⟩ : ∃ v : Bool, v = decide (i140 < len145) := ⟨_, rfl⟩
      replace h := h c147 ec147
      have f148 := ib_lss (k := .i64) ec147
      simp [h7, h11, h12, f146, f148, dc22, dc125, AmbNode.cells, intC, strC, -intBin, -lenF]
      refine hk' _ _ _ ?_
      refine Runs.ite (b := c147) (by simp [h7, h11, h12, dc22, dc125, AmbNode.cells, intC, strC]) (fun dc147 => ?_) (fun dc147 => ?_)
      · replace h := h.1 dc147
        refine Runs.skip ?_
        refine Runs.seq ?_
        refine Runs.block ?_
        refine Runs.evalE Ty_ok (by decide) fun k' hk' => ?_
        obtain ⟨hb149, h⟩ := h
        obtain ⟨v150, ev150⟩ : ∃ v : Str, v = s139 ++ [124] := ⟨_, rfl⟩
        replace h := h v150 ev150
        have f151 := sb_add hb149 ev150
        obtain ⟨hb152, h⟩ := h
        obtain ⟨id153, hv, mo154, ln155, ni156⟩ := Sep.openF sp (by simp) hb152
        subst hv
        obtain ⟨x157, ex157⟩ : ∃ v : Str, v = at' l15 i140 := ⟨_, rfl⟩
        replace h := h x157 ex157
        have f158 := fun H (hm : H id153 = some ⟨1, l15.map strC⟩) => ix_arr (H := H) (k := .i64) (off := 0) (len := l15.length) (g := l15.length) kd_57 hm (by simp) rfl hb152
        have f159 := at_some (q := i140.toNat) hb152 ex157 rfl
        obtain ⟨hb160, h⟩ := h
        obtain ⟨v161, ev161⟩ : ∃ v : Str, v = v150 ++ x157 := ⟨_, rfl⟩
        replace h := h v161 ev161
        have f162 := sb_add hb160 ev161
        simp [h7, h11, h12, mo154, f151, f158, f159, f162, dc22, dc125, dc147, AmbNode.cells, intC, strC, -indexAddrF, -strBin]
        refine hk' _ _ _ ?_
        refine Runs.inBlock ?_
        refine Runs.evalE Ty_ok (by decide) fun k' hk' => ?_
        obtain ⟨hb163, h⟩ := h
        obtain ⟨v164, ev164⟩ : ∃ v : Int, v = i140 + 1 := ⟨_, rfl⟩
        replace h := h v164 ev164
        have f165 := ib_add hb163 ev164
        simp [h7, h11, h12, mo154, f165, dc22, dc125, dc147, AmbNode.cells, intC, strC, -intBin]
        refine hk' _ _ _ ?_
        refine Runs.cut (fun ρ H n => ∃ (v166 : AVal), ρ 7 = v166 ∧ ρ 11 = str v161 ∧ ρ 12 = int v164 ∧ Sep H n [(.s [.c], v166, .list true (l15.map strC))] []) (by refine ⟨.arr id153 l15.length 0 l15.length, ?_, ?_, ?_, sp⟩ <;> simp [h7, h11, h12, mo154, f165, dc22, dc125, dc147, AmbNode.cells, intC, strC, -intBin]) ?_
        clear h7 h11 h12 mo154
        rintro ρ H n167 ⟨v166, h7, h11, h12, sp⟩
        refine IH143 (v161, v164) _ _ _ h (by refine ⟨v166, ?_, ?_, ?_, sp⟩ <;> simp [h7, h11, h12, dc22, dc125, dc147, AmbNode.cells, intC, strC])
      · replace h := h.2 dc147
        refine Runs.exit rfl ?_
        refine Runs.seqE Ty_ok (by decide) fun k' hk' => ?_
        simp [h7, h11, h12, dc22, dc125, dc147, AmbNode.cells, intC, strC]
        refine hk' _ _ _ ?_
        exact Runs.ret1 (v := str s139) Tryz.func50 Tryz.results50 (by simp [h7, h11, h12, dc22, dc125, dc147, AmbNode.cells, intC, strC]) (hQ _ _ _ _ (.of (.v _)) ⟨s139, h, rfl⟩)

theorem l12Text_okm (m : Nat) : ∀ (p : Proc) (parents : List Int) (parent : Int), l12Text_ms p parents parent = m → l12Text_pre p parents parent → PureC Tryz.prog 50 [.agg [.list false (p.map AmbNode.cells)], .list false (parents.map intC), int parent] (fun r => r = str (l12Text p parents parent)) := by
  induction m using Nat.strongRecOn with
  | _ m ih =>
    rintro p parents parent rfl hp
    exact (l12Text_walk p parents parent _ (fun pr parentsr parentr hp' hl => ih _ hl pr parentsr parentr rfl hp') (l12Text_vc p parents parent hp)).mono (by rintro _ ⟨_, rfl, rfl⟩; rfl)
theorem l12Text_ok (p : Proc) (parents : List Int) (parent : Int) (hp : l12Text_pre p parents parent) : PureC Tryz.prog 50 [.agg [.list false (p.map AmbNode.cells)], .list false (parents.map intC), int parent] (fun r => r = str (l12Text p parents parent)) := l12Text_okm _ p parents parent rfl hp

theorem e31 : Ent Tryz.prog 31 := Ent.of Tryz.func31 (by kernel_rfl) rfl
theorem l12Step_walk (p : Proc) (s : AmbStep) (Z : Proc → Prop) (h : l12Step_wp p s Z) : PureC Tryz.prog 31 [.agg [.list false (p.map AmbNode.cells)], .agg [int s.kind, int s.cap, int s.place]] (fun r => ∃ y : Proc, Z y ∧ r = .agg [.list true (y.map AmbNode.cells)]) := by
  unfold l12Step_wp at h
  have sp : Sep noHeap 0 [] [] := Sep.nil (by simp)
  refine PureC.of Tryz.func31 rfl Tryz.ntmps31 (by simp) fun Q hQ => ?_
  refine Runs.cut (fun ρ H n => ρ 0 = .agg [.list false (p.map AmbNode.cells)] ∧ ρ 1 = .agg [int s.kind, int s.cap, int s.place] ∧ Sep H n [] []) (by refine ⟨?_, ?_, sp⟩ <;> first | (simp [AmbNode.cells, intC, strC]; done) | omega | (simp; omega)) ?_
  rintro ρ H n1 ⟨h0, h1, sp⟩
  refine Runs.seqE Ty_ok (by decide) fun k' hk' => ?_
  simp [h0, h1, AmbNode.cells, intC, strC]
  refine hk' _ _ _ ?_
  refine Runs.cut (fun ρ H n => ρ 2 = .ptr (n1, 2) 1 0 0 ∧ ρ 3 = .ptr (n1 + 1, 3) 1 0 0 ∧ ρ 4 = .ptr (n1 + 2, 4) 1 0 0 ∧ H (n1, 2) = some ⟨1, [[.list false (p.map AmbNode.cells)]]⟩ ∧ H (n1 + 1, 3) = some ⟨3, [[int s.kind, int s.cap, int s.place]]⟩ ∧ H (n1 + 2, 4) = some ⟨1, [[.v (.slice none 0 0)]]⟩ ∧ n1 < n ∧ n1 + 1 < n ∧ n1 + 2 < n ∧ Sep H n [] [(n1 + 2, 4), (n1 + 1, 3), (n1, 2)]) (by refine ⟨?_, ?_, ?_, ?_, ?_, ?_, ?_, ?_, ?_, (Sep.var (Sep.var (Sep.var sp)))⟩ <;> first | (simp [h0, h1, AmbNode.cells, intC, strC]; done) | omega | (simp; omega)) ?_
  clear h0 h1
  rintro ρ H n5 ⟨h2, h3, h4, m2_1, m3_2, m4_3, g2_1, g3_2, g4_3, sp⟩
  refine Runs.seqN Ty_ok draws (by decide) (by kernel_rfl) fun k' hk' => ?_
  obtain ⟨hb6, h⟩ := h
  obtain ⟨x7, ex7⟩ : ∃ v : AmbNode, v = at' p s.cap := ⟨_, rfl⟩
  replace h := h x7 ex7
  have f8 := fun H => ix_list (H := H) (fr := false) (f := AmbNode.cells) (k := .i64) kd_26 (fun _ => rfl) hb6 ex7
  obtain ⟨hb9, h⟩ := h
  obtain ⟨x10, ex10⟩ : ∃ v : AmbNode, v = at' p s.place := ⟨_, rfl⟩
  replace h := h x10 ex10
  have f11 := fun H => ix_list (H := H) (fr := false) (f := AmbNode.cells) (k := .i64) kd_26 (fun _ => rfl) hb9 ex10
  simp [h2, h3, h4, m2_1, m3_2, m4_3, g2_1, g3_2, g4_3, f8, f11, AmbNode.cells, intC, strC, -indexAddrF]
  intro a12 ha12 qa12; clear qa12
  intro a13 ha13 qa13; clear qa13
  refine ⟨ha12, ha13, hk' _ _ _ ?_⟩
  refine Runs.cut (fun ρ H n => ρ 2 = .ptr (n1, 2) 1 0 0 ∧ ρ 3 = .ptr (n1 + 1, 3) 1 0 0 ∧ ρ 4 = .ptr (n1 + 2, 4) 1 0 0 ∧ ρ 5 = .ptr (a12, 5) 1 0 0 ∧ ρ 6 = .ptr (a13, 6) 1 0 0 ∧ H (n1, 2) = some ⟨1, [[.list false (p.map AmbNode.cells)]]⟩ ∧ H (n1 + 1, 3) = some ⟨3, [[int s.kind, int s.cap, int s.place]]⟩ ∧ H (n1 + 2, 4) = some ⟨1, [[.v (.slice none 0 0)]]⟩ ∧ H (a12, 5) = some ⟨3, [[int x7.kind, str x7.name, int x7.parent]]⟩ ∧ H (a13, 6) = some ⟨3, [[int x10.kind, str x10.name, int x10.parent]]⟩ ∧ n1 < n ∧ n1 + 1 < n ∧ n1 + 2 < n ∧ a12 < n ∧ a13 < n ∧ Sep H n [] [(a13, 6), (a12, 5), (n1 + 2, 4), (n1 + 1, 3), (n1, 2)]) (by refine ⟨?_, ?_, ?_, ?_, ?_, ?_, ?_, ?_, ?_, ?_, ?_, ?_, ?_, ?_, ?_, (Sep.nil (by simp only [List.mem_cons, List.not_mem_nil, or_false, forall_eq_or_imp, forall_eq, List.not_mem_nil, false_implies, implies_true]; omega))⟩ <;> first | (simp [h2, h3, h4, m2_1, m3_2, m4_3, g2_1, g3_2, g4_3, f8, f11, AmbNode.cells, intC, strC, -indexAddrF]; done) | omega | (simp; omega)) ?_
  clear h2 h3 h4 m2_1 m3_2 m4_3 g2_1 g3_2 g4_3
  rintro ρ H n14 ⟨h2, h3, h4, h5, h6, m2_1, m3_2, m4_3, m5_11, m6_12, g2_1, g3_2, g4_3, g5_11, g6_12, sp⟩
  refine Runs.seqE Ty_ok (by decide) fun k' hk' => ?_
  simp [h2, h3, h4, h5, h6, m2_1, m3_2, m4_3, m5_11, m6_12, g2_1, g3_2, g4_3, g5_11, g6_12, AmbNode.cells, intC, strC]
  refine hk' _ _ _ ?_
  refine Runs.cut (fun ρ H n => ∃ (v16 : AVal), ρ 2 = .ptr (n1, 2) 1 0 0 ∧ ρ 3 = .ptr (n1 + 1, 3) 1 0 0 ∧ ρ 4 = .ptr (n1 + 2, 4) 1 0 0 ∧ ρ 5 = .ptr (a12, 5) 1 0 0 ∧ ρ 6 = .ptr (a13, 6) 1 0 0 ∧ ρ 7 = v16 ∧ H (n1, 2) = some ⟨1, [[.list false (p.map AmbNode.cells)]]⟩ ∧ H (n1 + 1, 3) = some ⟨3, [[int s.kind, int s.cap, int s.place]]⟩ ∧ H (n1 + 2, 4) = some ⟨1, [[.v (.slice none 0 0)]]⟩ ∧ H (a12, 5) = some ⟨3, [[int x7.kind, str x7.name, int x7.parent]]⟩ ∧ H (a13, 6) = some ⟨3, [[int x10.kind, str x10.name, int x10.parent]]⟩ ∧ n1 < n ∧ n1 + 1 < n ∧ n1 + 2 < n ∧ a12 < n ∧ a13 < n ∧ Sep H n [(.s [.c], v16, .list true (([] : List Int).map intC))] [(a13, 6), (a12, 5), (n1 + 2, 4), (n1 + 1, 3), (n1, 2)]) (by refine ⟨.arr (n14, 24) 0 0 0, ?_, ?_, ?_, ?_, ?_, ?_, ?_, ?_, ?_, ?_, ?_, ?_, ?_, ?_, ?_, ?_, (Sep.addEmpty (l := [.c]) sp)⟩ <;> first | (simp [h2, h3, h4, h5, h6, m2_1, m3_2, m4_3, m5_11, m6_12, g2_1, g3_2, g4_3, g5_11, g6_12, AmbNode.cells, intC, strC]; done) | omega | (simp; omega)) ?_
  clear h2 h3 h4 h5 h6 m2_1 m3_2 m4_3 m5_11 m6_12 g2_1 g3_2 g4_3 g5_11 g6_12
  rintro ρ H n17 ⟨v16, h2, h3, h4, h5, h6, h7, m2_1, m3_2, m4_3, m5_11, m6_12, g2_1, g3_2, g4_3, g5_11, g6_12, sp⟩
  refine Runs.seq ?_
  refine Runs.seqE Ty_ok (by decide) fun k' hk' => ?_
  simp [h2, h3, h4, h5, h6, h7, m2_1, m3_2, m4_3, m5_11, m6_12, g2_1, g3_2, g4_3, g5_11, g6_12, AmbNode.cells, intC, strC]
  refine hk' _ _ _ ?_
  refine Runs.block ?_
  refine Runs.loopW h (fun (sJ : Int × (List Int)) ρ H n => match sJ with | (i28, l29) => ∃ (v30 : AVal) (v31 : AVal), ρ 2 = .ptr (n1, 2) 1 0 0 ∧ ρ 3 = .ptr (n1 + 1, 3) 1 0 0 ∧ ρ 4 = .ptr (n1 + 2, 4) 1 0 0 ∧ ρ 5 = .ptr (a12, 5) 1 0 0 ∧ ρ 6 = .ptr (a13, 6) 1 0 0 ∧ ρ 7 = v31 ∧ ρ 8 = int i28 ∧ H (n1, 2) = some ⟨1, [[.list false (p.map AmbNode.cells)]]⟩ ∧ H (n1 + 1, 3) = some ⟨3, [[int s.kind, int s.cap, int s.place]]⟩ ∧ H (n1 + 2, 4) = some ⟨1, [[v30]]⟩ ∧ H (a12, 5) = some ⟨3, [[int x7.kind, str x7.name, int x7.parent]]⟩ ∧ H (a13, 6) = some ⟨3, [[int x10.kind, str x10.name, int x10.parent]]⟩ ∧ n1 < n ∧ n1 + 1 < n ∧ n1 + 2 < n ∧ a12 < n ∧ a13 < n ∧ Sep H n [(.s [.c, .c, .c], v30, .list true (([] : List AmbNode).map AmbNode.cells)), (.s [.c], v31, .list true (l29.map intC))] [(a13, 6), (a12, 5), (n1 + 2, 4), (n1 + 1, 3), (n1, 2)]) (by refine ⟨.v (.slice none 0 0), v16, ?_, ?_, ?_, ?_, ?_, ?_, ?_, ?_, ?_, ?_, ?_, ?_, ?_, ?_, ?_, ?_, ?_, (Sep.front (K1 := [(.s [.c], v16, .list true (([] : List Int).map intC))]) (K2 := []) (Sep.front (K1 := [(.s [.c, .c, .c], .v (.slice none 0 0), .list true (([] : List AmbNode).map AmbNode.cells))]) (K2 := []) (Sep.addNil sp)))⟩ <;> first | (simp [h2, h3, h4, h5, h6, h7, m2_1, m3_2, m4_3, m5_11, m6_12, g2_1, g3_2, g4_3, g5_11, g6_12, AmbNode.cells, intC, strC]; done) | omega | (simp; omega)) ?_
  clear h2 h3 h4 h5 h6 h7 m2_1 m3_2 m4_3 m5_11 m6_12 g2_1 g3_2 g4_3 g5_11 g6_12
  rintro ⟨i28, l29⟩ ρ H n32 K h ⟨v30, v31, h2, h3, h4, h5, h6, h7, h8, m2_1, m3_2, m4_3, m5_11, m6_12, g2_1, g3_2, g4_3, g5_11, g6_12, sp⟩ IH33
  refine Runs.seq ?_
  refine Runs.seqE Ty_ok (by decide) fun k' hk' => ?_
  obtain ⟨len35, elen35⟩ : ∃ v : Int, v = (p.length : Int) := ⟨_, rfl⟩
  replace h := h len35 elen35
  have f36 := fun H => len_list (H := H) (fr := false) (f := AmbNode.cells) kd_26 elen35
  obtain ⟨c37, ec37⟩ : ∃ v : Bool, v = decide (i28 < len35) := ⟨_, rfl⟩
  replace h := h c37 ec37
  have f38 := ib_lss (k := .i64) ec37
  simp [h2, h3, h4, h5, h6, h7, h8, m2_1, m3_2, m4_3, m5_11, m6_12, g2_1, g3_2, g4_3, g5_11, g6_12, f36, f38, AmbNode.cells, intC, strC, -intBin, -lenF]
  refine hk' _ _ _ ?_
  refine Runs.ite (b := c37) (by simp [h2, h3, h4, h5, h6, h7, h8, m2_1, m3_2, m4_3, m5_11, m6_12, g2_1, g3_2, g4_3, g5_11, g6_12, AmbNode.cells, intC, strC]) (fun dc37 => ?_) (fun dc37 => ?_)
  · replace h := h.1 dc37
    refine Runs.skip ?_
    refine Runs.seq ?_
    refine Runs.block ?_
    refine Runs.seqE Ty_ok (by decide) fun k' hk' => ?_
    obtain ⟨hb39, h⟩ := h
    obtain ⟨x40, ex40⟩ : ∃ v : AmbNode, v = at' p i28 := ⟨_, rfl⟩
    replace h := h x40 ex40
    have f41 := fun H => ix_list (H := H) (fr := false) (f := AmbNode.cells) (k := .i64) kd_26 (fun _ => rfl) hb39 ex40
    simp [h2, h3, h4, h5, h6, h7, h8, m2_1, m3_2, m4_3, m5_11, m6_12, g2_1, g3_2, g4_3, g5_11, g6_12, f41, dc37, AmbNode.cells, intC, strC, -indexAddrF]
    refine hk' _ _ _ ?_
    refine Runs.seq ?_
    refine Runs.seqE Ty_ok (by decide) fun k' hk' => ?_
    obtain ⟨J42, hJ43, hr44⟩ := h
    have fin48 : ∀ (sJ : Bool) (ρ : Env) (H : Heap) (n : Nat), J42 sJ → (match sJ with | b45 => ∃ (v46 : AVal) (v47 : AVal), ρ 2 = .ptr (n1, 2) 1 0 0 ∧ ρ 3 = .ptr (n1 + 1, 3) 1 0 0 ∧ ρ 4 = .ptr (n1 + 2, 4) 1 0 0 ∧ ρ 5 = .ptr (a12, 5) 1 0 0 ∧ ρ 6 = .ptr (a13, 6) 1 0 0 ∧ ρ 7 = v47 ∧ ρ 8 = int i28 ∧ ρ 9 = int x40.parent ∧ ρ 52 = bool b45 ∧ H (n1, 2) = some ⟨1, [[.list false (p.map AmbNode.cells)]]⟩ ∧ H (n1 + 1, 3) = some ⟨3, [[int s.kind, int s.cap, int s.place]]⟩ ∧ H (n1 + 2, 4) = some ⟨1, [[v46]]⟩ ∧ H (a12, 5) = some ⟨3, [[int x7.kind, str x7.name, int x7.parent]]⟩ ∧ H (a13, 6) = some ⟨3, [[int x10.kind, str x10.name, int x10.parent]]⟩ ∧ n1 < n ∧ n1 + 1 < n ∧ n1 + 2 < n ∧ a12 < n ∧ a13 < n ∧ Sep H n [(.s [.c, .c, .c], v46, .list true (([] : List AmbNode).map AmbNode.cells)), (.s [.c], v47, .list true (l29.map intC))] [(a13, 6), (a12, 5), (n1 + 2, 4), (n1 + 1, 3), (n1, 2)]) → Runs Tryz.prog 31 97 k' ρ H n Q := by
      rintro b45 ρ H n49 h ⟨v46, v47, h2, h3, h4, h5, h6, h7, h8, h9, h52, m2_1, m3_2, m4_3, m5_11, m6_12, g2_1, g3_2, g4_3, g5_11, g6_12, sp⟩
      replace h := hr44 _ h
      refine hk' _ _ _ ?_
      refine Runs.ite (b := b45) (by simp [h2, h3, h4, h5, h6, h7, h8, h9, h52, m2_1, m3_2, m4_3, m5_11, m6_12, g2_1, g3_2, g4_3, g5_11, g6_12, dc37, AmbNode.cells, intC, strC]) (fun db45 => ?_) (fun db45 => ?_)
      · replace h := h.1 db45
        refine Runs.evalE Ty_ok (by decide) fun k' hk' => ?_
        simp [h2, h3, h4, h5, h6, h7, h8, h9, h52, m2_1, m3_2, m4_3, m5_11, m6_12, g2_1, g3_2, g4_3, g5_11, g6_12, dc37, db45, AmbNode.cells, intC, strC]
        refine hk' _ _ _ ?_
        refine Runs.evalE Ty_ok (by decide) fun k' hk' => ?_
        obtain ⟨hb50, h⟩ := h
        obtain ⟨l51, el51⟩ : ∃ v : List Int, v = l29 ++ [x7.parent] := ⟨_, rfl⟩
        replace h := h l51 el51
        simp [h2, h3, h4, h5, h6, h7, h8, h9, h52, m2_1, m3_2, m4_3, m5_11, m6_12, g2_1, g3_2, g4_3, g5_11, g6_12, dc37, db45, AmbNode.cells, intC, strC, -appendF]
        refine bind_append [] [(.s [.c, .c, .c], v46, .list true (([] : List AmbNode).map AmbNode.cells))] [[int x7.parent]] [intC x7.parent] (Sep.front (K1 := [(.s [.c, .c, .c], v46, .list true (([] : List AmbNode).map AmbNode.cells))]) (K2 := []) sp) kd_71 (by simp) (by simp) (by simp [AmbNode.cells, intC, strC]) (by simp [-one1, o1_int, o1_bool, o1_str, o1_nil, o1_list, o1_arr, o1_ptr]) (rows_one (Fill.v _ Fill.nil)) (by simp) (by simpa using hb50) ?_
        rintro v52 H53 n54 sp hfr55 hle56
        replace sp : Sep H53 n54 [(.s [.c], v52, .list true (l51.map intC)), (.s [.c, .c, .c], v46, .list true (([] : List AmbNode).map AmbNode.cells))] [(a13, 6), (a12, 5), (n1 + 2, 4), (n1 + 1, 3), (n1, 2)] := by rw [el51, List.map_append]; exact sp
        have m2_1 : H53 (n1, 2) = some ⟨1, [[.list false (p.map AmbNode.cells)]]⟩ := (hfr55 _ (by simp)).trans (by simp [h2, h3, h4, h5, h6, h7, h8, h9, h52, m2_1, m3_2, m4_3, m5_11, m6_12, g2_1, g3_2, g4_3, g5_11, g6_12, Heap.get_set])
        have m3_2 : H53 (n1 + 1, 3) = some ⟨3, [[int s.kind, int s.cap, int s.place]]⟩ := (hfr55 _ (by simp)).trans (by simp [h2, h3, h4, h5, h6, h7, h8, h9, h52, m2_1, m3_2, m4_3, m5_11, m6_12, g2_1, g3_2, g4_3, g5_11, g6_12, Heap.get_set])
        have m4_3 : H53 (n1 + 2, 4) = some ⟨1, [[v46]]⟩ := (hfr55 _ (by simp)).trans (by simp [h2, h3, h4, h5, h6, h7, h8, h9, h52, m2_1, m3_2, m4_3, m5_11, m6_12, g2_1, g3_2, g4_3, g5_11, g6_12, Heap.get_set])
        have m5_11 : H53 (a12, 5) = some ⟨3, [[int x7.kind, str x7.name, int x7.parent]]⟩ := (hfr55 _ (by simp)).trans (by simp [h2, h3, h4, h5, h6, h7, h8, h9, h52, m2_1, m3_2, m4_3, m5_11, m6_12, g2_1, g3_2, g4_3, g5_11, g6_12, Heap.get_set])
        have m6_12 : H53 (a13, 6) = some ⟨3, [[int x10.kind, str x10.name, int x10.parent]]⟩ := (hfr55 _ (by simp)).trans (by simp [h2, h3, h4, h5, h6, h7, h8, h9, h52, m2_1, m3_2, m4_3, m5_11, m6_12, g2_1, g3_2, g4_3, g5_11, g6_12, Heap.get_set])
        simp [h2, h3, h4, h5, h6, h7, h8, h9, h52, m2_1, m3_2, m4_3, m5_11, m6_12, g2_1, g3_2, g4_3, g5_11, g6_12, dc37, db45, AmbNode.cells, intC, strC]
        refine hk' _ _ _ ?_
        refine Runs.cut (fun ρ H n => ∃ (v58 : AVal) (v59 : AVal), ρ 2 = .ptr (n1, 2) 1 0 0 ∧ ρ 3 = .ptr (n1 + 1, 3) 1 0 0 ∧ ρ 4 = .ptr (n1 + 2, 4) 1 0 0 ∧ ρ 5 = .ptr (a12, 5) 1 0 0 ∧ ρ 6 = .ptr (a13, 6) 1 0 0 ∧ ρ 7 = v58 ∧ ρ 8 = int i28 ∧ H (n1, 2) = some ⟨1, [[.list false (p.map AmbNode.cells)]]⟩ ∧ H (n1 + 1, 3) = some ⟨3, [[int s.kind, int s.cap, int s.place]]⟩ ∧ H (n1 + 2, 4) = some ⟨1, [[v59]]⟩ ∧ H (a12, 5) = some ⟨3, [[int x7.kind, str x7.name, int x7.parent]]⟩ ∧ H (a13, 6) = some ⟨3, [[int x10.kind, str x10.name, int x10.parent]]⟩ ∧ n1 < n ∧ n1 + 1 < n ∧ n1 + 2 < n ∧ a12 < n ∧ a13 < n ∧ Sep H n [(.s [.c], v58, .list true (l51.map intC)), (.s [.c, .c, .c], v59, .list true (([] : List AmbNode).map AmbNode.cells))] [(a13, 6), (a12, 5), (n1 + 2, 4), (n1 + 1, 3), (n1, 2)]) (by refine ⟨v52, v46, ?_, ?_, ?_, ?_, ?_, ?_, ?_, ?_, ?_, ?_, ?_, ?_, ?_, ?_, ?_, ?_, ?_, (Sep.front (K1 := [(.s [.c, .c, .c], v46, .list true (([] : List AmbNode).map AmbNode.cells))]) (K2 := []) (Sep.front (K1 := [(.s [.c], v52, .list true (l51.map intC))]) (K2 := []) sp))⟩ <;> first | (simp [h2, h3, h4, h5, h6, h7, h8, h9, h52, m2_1, m3_2, m4_3, m5_11, m6_12, g2_1, g3_2, g4_3, g5_11, g6_12, dc37, db45, AmbNode.cells, intC, strC]; done) | omega | (simp; omega)) ?_
        clear h2 h3 h4 h5 h6 h7 h8 h9 h52 m2_1 m3_2 m4_3 m5_11 m6_12 g2_1 g3_2 g4_3 g5_11 g6_12
        rintro ρ H n60 ⟨v58, v59, h2, h3, h4, h5, h6, h7, h8, m2_1, m3_2, m4_3, m5_11, m6_12, g2_1, g3_2, g4_3, g5_11, g6_12, sp⟩
        refine Runs.inBlock ?_
        refine Runs.evalE Ty_ok (by decide) fun k' hk' => ?_
        obtain ⟨hb61, h⟩ := h
        obtain ⟨v62, ev62⟩ : ∃ v : Int, v = i28 + 1 := ⟨_, rfl⟩
        replace h := h v62 ev62
        have f63 := ib_add hb61 ev62
        simp [h2, h3, h4, h5, h6, h7, h8, m2_1, m3_2, m4_3, m5_11, m6_12, g2_1, g3_2, g4_3, g5_11, g6_12, f63, dc37, db45, AmbNode.cells, intC, strC, -intBin]
        refine hk' _ _ _ ?_
        refine IH33 (v62, l51) _ _ _ h (by refine ⟨v59, v58, ?_, ?_, ?_, ?_, ?_, ?_, ?_, ?_, ?_, ?_, ?_, ?_, ?_, ?_, ?_, ?_, ?_, (Sep.front (K1 := [(.s [.c], v58, .list true (l51.map intC))]) (K2 := []) sp)⟩ <;> first | (simp [h2, h3, h4, h5, h6, h7, h8, m2_1, m3_2, m4_3, m5_11, m6_12, g2_1, g3_2, g4_3, g5_11, g6_12, dc37, db45, AmbNode.cells, intC, strC]; done) | omega | (simp; omega))
      · replace h := h.2 db45
        refine Runs.skip ?_
        refine Runs.evalE Ty_ok (by decide) fun k' hk' => ?_
        obtain ⟨hb64, h⟩ := h
        obtain ⟨l65, el65⟩ : ∃ v : List Int, v = l29 ++ [x40.parent] := ⟨_, rfl⟩
        replace h := h l65 el65
        simp [h2, h3, h4, h5, h6, h7, h8, h9, h52, m2_1, m3_2, m4_3, m5_11, m6_12, g2_1, g3_2, g4_3, g5_11, g6_12, dc37, db45, AmbNode.cells, intC, strC, -appendF]
        refine bind_append [] [(.s [.c, .c, .c], v46, .list true (([] : List AmbNode).map AmbNode.cells))] [[int x40.parent]] [intC x40.parent] (Sep.front (K1 := [(.s [.c, .c, .c], v46, .list true (([] : List AmbNode).map AmbNode.cells))]) (K2 := []) sp) kd_71 (by simp) (by simp) (by simp [AmbNode.cells, intC, strC]) (by simp [-one1, o1_int, o1_bool, o1_str, o1_nil, o1_list, o1_arr, o1_ptr]) (rows_one (Fill.v _ Fill.nil)) (by simp) (by simpa using hb64) ?_
        rintro v66 H67 n68 sp hfr69 hle70
        replace sp : Sep H67 n68 [(.s [.c], v66, .list true (l65.map intC)), (.s [.c, .c, .c], v46, .list true (([] : List AmbNode).map AmbNode.cells))] [(a13, 6), (a12, 5), (n1 + 2, 4), (n1 + 1, 3), (n1, 2)] := by rw [el65, List.map_append]; exact sp
        have m2_1 : H67 (n1, 2) = some ⟨1, [[.list false (p.map AmbNode.cells)]]⟩ := (hfr69 _ (by simp)).trans (by simp [h2, h3, h4, h5, h6, h7, h8, h9, h52, m2_1, m3_2, m4_3, m5_11, m6_12, g2_1, g3_2, g4_3, g5_11, g6_12, Heap.get_set])
        have m3_2 : H67 (n1 + 1, 3) = some ⟨3, [[int s.kind, int s.cap, int s.place]]⟩ := (hfr69 _ (by simp)).trans (by simp [h2, h3, h4, h5, h6, h7, h8, h9, h52, m2_1, m3_2, m4_3, m5_11, m6_12, g2_1, g3_2, g4_3, g5_11, g6_12, Heap.get_set])
        have m4_3 : H67 (n1 + 2, 4) = some ⟨1, [[v46]]⟩ := (hfr69 _ (by simp)).trans (by simp [h2, h3, h4, h5, h6, h7, h8, h9, h52, m2_1, m3_2, m4_3, m5_11, m6_12, g2_1, g3_2, g4_3, g5_11, g6_12, Heap.get_set])
        have m5_11 : H67 (a12, 5) = some ⟨3, [[int x7.kind, str x7.name, int x7.parent]]⟩ := (hfr69 _ (by simp)).trans (by simp [h2, h3, h4, h5, h6, h7, h8, h9, h52, m2_1, m3_2, m4_3, m5_11, m6_12, g2_1, g3_2, g4_3, g5_11, g6_12, Heap.get_set])
        have m6_12 : H67 (a13, 6) = some ⟨3, [[int x10.kind, str x10.name, int x10.parent]]⟩ := (hfr69 _ (by simp)).trans (by simp [h2, h3, h4, h5, h6, h7, h8, h9, h52, m2_1, m3_2, m4_3, m5_11, m6_12, g2_1, g3_2, g4_3, g5_11, g6_12, Heap.get_set])
        simp [h2, h3, h4, h5, h6, h7, h8, h9, h52, m2_1, m3_2, m4_3, m5_11, m6_12, g2_1, g3_2, g4_3, g5_11, g6_12, dc37, db45, AmbNode.cells, intC, strC]
        refine hk' _ _ _ ?_
        refine Runs.cut (fun ρ H n => ∃ (v72 : AVal) (v73 : AVal), ρ 2 = .ptr (n1, 2) 1 0 0 ∧ ρ 3 = .ptr (n1 + 1, 3) 1 0 0 ∧ ρ 4 = .ptr (n1 + 2, 4) 1 0 0 ∧ ρ 5 = .ptr (a12, 5) 1 0 0 ∧ ρ 6 = .ptr (a13, 6) 1 0 0 ∧ ρ 7 = v72 ∧ ρ 8 = int i28 ∧ H (n1, 2) = some ⟨1, [[.list false (p.map AmbNode.cells)]]⟩ ∧ H (n1 + 1, 3) = some ⟨3, [[int s.kind, int s.cap, int s.place]]⟩ ∧ H (n1 + 2, 4) = some ⟨1, [[v73]]⟩ ∧ H (a12, 5) = some ⟨3, [[int x7.kind, str x7.name, int x7.parent]]⟩ ∧ H (a13, 6) = some ⟨3, [[int x10.kind, str x10.name, int x10.parent]]⟩ ∧ n1 < n ∧ n1 + 1 < n ∧ n1 + 2 < n ∧ a12 < n ∧ a13 < n ∧ Sep H n [(.s [.c], v72, .list true (l65.map intC)), (.s [.c, .c, .c], v73, .list true (([] : List AmbNode).map AmbNode.cells))] [(a13, 6), (a12, 5), (n1 + 2, 4), (n1 + 1, 3), (n1, 2)]) (by refine ⟨v66, v46, ?_, ?_, ?_, ?_, ?_, ?_, ?_, ?_, ?_, ?_, ?_, ?_, ?_, ?_, ?_, ?_, ?_, (Sep.front (K1 := [(.s [.c, .c, .c], v46, .list true (([] : List AmbNode).map AmbNode.cells))]) (K2 := []) (Sep.front (K1 := [(.s [.c], v66, .list true (l65.map intC))]) (K2 := []) sp))⟩ <;> first | (simp [h2, h3, h4, h5, h6, h7, h8, h9, h52, m2_1, m3_2, m4_3, m5_11, m6_12, g2_1, g3_2, g4_3, g5_11, g6_12, dc37, db45, AmbNode.cells, intC, strC]; done) | omega | (simp; omega)) ?_
        clear h2 h3 h4 h5 h6 h7 h8 h9 h52 m2_1 m3_2 m4_3 m5_11 m6_12 g2_1 g3_2 g4_3 g5_11 g6_12
        rintro ρ H n74 ⟨v72, v73, h2, h3, h4, h5, h6, h7, h8, m2_1, m3_2, m4_3, m5_11, m6_12, g2_1, g3_2, g4_3, g5_11, g6_12, sp⟩
        refine Runs.inBlock ?_
        refine Runs.evalE Ty_ok (by decide) fun k' hk' => ?_
        obtain ⟨hb75, h⟩ := h
        obtain ⟨v76, ev76⟩ : ∃ v : Int, v = i28 + 1 := ⟨_, rfl⟩
        replace h := h v76 ev76
        have f77 := ib_add hb75 ev76
        simp [h2, h3, h4, h5, h6, h7, h8, m2_1, m3_2, m4_3, m5_11, m6_12, g2_1, g3_2, g4_3, g5_11, g6_12, f77, dc37, db45, AmbNode.cells, intC, strC, -intBin]
        refine hk' _ _ _ ?_
        refine IH33 (v76, l65) _ _ _ h (by refine ⟨v73, v72, ?_, ?_, ?_, ?_, ?_, ?_, ?_, ?_, ?_, ?_, ?_, ?_, ?_, ?_, ?_, ?_, ?_, (Sep.front (K1 := [(.s [.c], v72, .list true (l65.map intC))]) (K2 := []) sp)⟩ <;> first | (simp [h2, h3, h4, h5, h6, h7, h8, m2_1, m3_2, m4_3, m5_11, m6_12, g2_1, g3_2, g4_3, g5_11, g6_12, dc37, db45, AmbNode.cells, intC, strC]; done) | omega | (simp; omega))
    replace h := hJ43
    obtain ⟨c78, ec78⟩ : ∃ v : Bool, v = decide (x40.parent = s.cap) := ⟨_, rfl⟩
    replace h := h c78 ec78
    have f79 := ib_eql (k := .i64) ec78
    rcases Bool.eq_false_or_eq_true c78 with dc78 | dc78
    · replace h := h.1 dc78
      simp [h2, h3, h4, h5, h6, h7, h8, m2_1, m3_2, m4_3, m5_11, m6_12, g2_1, g3_2, g4_3, g5_11, g6_12, f79, dc37, dc78, AmbNode.cells, intC, strC, -intBin]
      exact fin48 (true) _ _ _ h (by refine ⟨v30, v31, ?_, ?_, ?_, ?_, ?_, ?_, ?_, ?_, ?_, ?_, ?_, ?_, ?_, ?_, ?_, ?_, ?_, ?_, ?_, (Sep.front (K1 := [(.s [.c], v31, .list true (l29.map intC))]) (K2 := []) (Sep.front (K1 := [(.s [.c, .c, .c], v30, .list true (([] : List AmbNode).map AmbNode.cells))]) (K2 := []) sp))⟩ <;> first | (simp [h2, h3, h4, h5, h6, h7, h8, m2_1, m3_2, m4_3, m5_11, m6_12, g2_1, g3_2, g4_3, g5_11, g6_12, f79, dc37, dc78, AmbNode.cells, intC, strC, -intBin]; done) | omega | (simp; omega))
    · replace h := h.2 dc78
      obtain ⟨c80, ec80⟩ : ∃ v : Bool, v = decide (s.kind = 3) := ⟨_, rfl⟩
      replace h := h c80 ec80
      have f81 := ib_eql (k := .i64) ec80
      rcases Bool.eq_false_or_eq_true c80 with dc80 | dc80
      · replace h := h.1 dc80
        obtain ⟨c82, ec82⟩ : ∃ v : Bool, v = decide (x40.parent = s.place) := ⟨_, rfl⟩
        replace h := h c82 ec82
        have f83 := ib_eql (k := .i64) ec82
        simp [h2, h3, h4, h5, h6, h7, h8, m2_1, m3_2, m4_3, m5_11, m6_12, g2_1, g3_2, g4_3, g5_11, g6_12, f79, f81, f83, dc37, dc78, dc80, AmbNode.cells, intC, strC, -intBin]
        exact fin48 (c82) _ _ _ h (by refine ⟨v30, v31, ?_, ?_, ?_, ?_, ?_, ?_, ?_, ?_, ?_, ?_, ?_, ?_, ?_, ?_, ?_, ?_, ?_, ?_, ?_, (Sep.front (K1 := [(.s [.c], v31, .list true (l29.map intC))]) (K2 := []) (Sep.front (K1 := [(.s [.c, .c, .c], v30, .list true (([] : List AmbNode).map AmbNode.cells))]) (K2 := []) sp))⟩ <;> first | (simp [h2, h3, h4, h5, h6, h7, h8, m2_1, m3_2, m4_3, m5_11, m6_12, g2_1, g3_2, g4_3, g5_11, g6_12, f79, f81, f83, dc37, dc78, dc80, AmbNode.cells, intC, strC, -intBin]; done) | omega | (simp; omega))
      · replace h := h.2 dc80
        simp [h2, h3, h4, h5, h6, h7, h8, m2_1, m3_2, m4_3, m5_11, m6_12, g2_1, g3_2, g4_3, g5_11, g6_12, f79, f81, dc37, dc78, dc80, AmbNode.cells, intC, strC, -intBin]
        exact fin48 (false) _ _ _ h (by refine ⟨v30, v31, ?_, ?_, ?_, ?_, ?_, ?_, ?_, ?_, ?_, ?_, ?_, ?_, ?_, ?_, ?_, ?_, ?_, ?_, ?_, (Sep.front (K1 := [(.s [.c], v31, .list true (l29.map intC))]) (K2 := []) (Sep.front (K1 := [(.s [.c, .c, .c], v30, .list true (([] : List AmbNode).map AmbNode.cells))]) (K2 := []) sp))⟩ <;> first | (simp [h2, h3, h4, h5, h6, h7, h8, m2_1, m3_2, m4_3, m5_11, m6_12, g2_1, g3_2, g4_3, g5_11, g6_12, f79, f81, dc37, dc78, dc80, AmbNode.cells, intC, strC, -intBin]; done) | omega | (simp; omega))
  · replace h := h.2 dc37
    refine Runs.exit rfl ?_
    refine Runs.seq ?_
    refine Runs.seqE Ty_ok (by decide) fun k' hk' => ?_
    simp [h2, h3, h4, h5, h6, h7, h8, m2_1, m3_2, m4_3, m5_11, m6_12, g2_1, g3_2, g4_3, g5_11, g6_12, dc37, AmbNode.cells, intC, strC]
    refine hk' _ _ _ ?_
    refine Runs.block ?_
    refine Runs.seqE Ty_ok (by decide) fun k' hk' => ?_
    obtain ⟨c84, ec84⟩ : ∃ v : Bool, v = decide (s.kind = 1) := ⟨_, rfl⟩
    replace h := h c84 ec84
    have f85 := ib_eql (k := .i64) ec84
    simp [h2, h3, h4, h5, h6, h7, h8, m2_1, m3_2, m4_3, m5_11, m6_12, g2_1, g3_2, g4_3, g5_11, g6_12, f85, dc37, AmbNode.cells, intC, strC, -intBin]
    refine hk' _ _ _ ?_
    refine Runs.ite (b := c84) (by simp [h2, h3, h4, h5, h6, h7, h8, m2_1, m3_2, m4_3, m5_11, m6_12, g2_1, g3_2, g4_3, g5_11, g6_12, dc37, AmbNode.cells, intC, strC]) (fun dc84 => ?_) (fun dc84 => ?_)
    · replace h := h.1 dc84
      refine Runs.evalE Ty_ok (by decide) fun k' hk' => ?_
      obtain ⟨hb86, h⟩ := h
      obtain ⟨id87, hv, mo88, ln89, ni90⟩ := Sep.openF (Sep.front (K1 := [(.s [.c, .c, .c], v30, .list true (([] : List AmbNode).map AmbNode.cells))]) (K2 := []) sp) (by simp) hb86
      subst hv
      simp at ni90
      obtain ⟨x91, ex91⟩ : ∃ v : Int, v = at' l29 x7.parent := ⟨_, rfl⟩
      replace h := h x91 ex91
      have f92 := fun H (hm : H id87 = some ⟨1, l29.map intC⟩) => ix_arr (H := H) (k := .i64) (off := 0) (len := l29.length) (g := l29.length) kd_71 hm (by simp) rfl hb86
      have f93 := at_some (q := x7.parent.toNat) hb86 ex91 rfl
      obtain ⟨l94, el94⟩ : ∃ v : List Int, v = l29.set x7.parent.toNat s.place := ⟨_, rfl⟩
      replace h := h l94 el94
      simp [h2, h3, h4, h5, h6, h7, h8, m2_1, m3_2, m4_3, m5_11, m6_12, g2_1, g3_2, g4_3, g5_11, g6_12, mo88, ni90, f92, f93, dc37, dc84, AmbNode.cells, intC, strC, -indexAddrF, -storeF]
      refine bind_store (q := x7.parent.toNat) (news := intC s.place) [] [(.s [.c, .c, .c], v30, .list true (([] : List AmbNode).map AmbNode.cells))] (Sep.front (K1 := [(.s [.c, .c, .c], v30, .list true (([] : List AmbNode).map AmbNode.cells))]) (K2 := []) sp) (by simp) (by simp; omega) (by simp) (by simp [-one1, o1_int, o1_bool, o1_str, o1_nil, o1_list, o1_arr, o1_ptr]) (Fill.v _ Fill.nil) ?_
      rintro H95 sp hfr96
      replace sp : Sep H95 n32 [(.s [.c], .arr id87 l29.length 0 l29.length, .list true (l94.map intC)), (.s [.c, .c, .c], v30, .list true (([] : List AmbNode).map AmbNode.cells))] [(a13, 6), (a12, 5), (n1 + 2, 4), (n1 + 1, 3), (n1, 2)] := by rw [el94, List.map_set]; exact sp
      have m2_1 : H95 (n1, 2) = some ⟨1, [[.list false (p.map AmbNode.cells)]]⟩ := (hfr96 _ (by simp)).trans (by simp [h2, h3, h4, h5, h6, h7, h8, m2_1, m3_2, m4_3, m5_11, m6_12, g2_1, g3_2, g4_3, g5_11, g6_12, mo88, ni90, Heap.get_set])
      have m3_2 : H95 (n1 + 1, 3) = some ⟨3, [[int s.kind, int s.cap, int s.place]]⟩ := (hfr96 _ (by simp)).trans (by simp [h2, h3, h4, h5, h6, h7, h8, m2_1, m3_2, m4_3, m5_11, m6_12, g2_1, g3_2, g4_3, g5_11, g6_12, mo88, ni90, Heap.get_set])
      have m4_3 : H95 (n1 + 2, 4) = some ⟨1, [[v30]]⟩ := (hfr96 _ (by simp)).trans (by simp [h2, h3, h4, h5, h6, h7, h8, m2_1, m3_2, m4_3, m5_11, m6_12, g2_1, g3_2, g4_3, g5_11, g6_12, mo88, ni90, Heap.get_set])
      have m5_11 : H95 (a12, 5) = some ⟨3, [[int x7.kind, str x7.name, int x7.parent]]⟩ := (hfr96 _ (by simp)).trans (by simp [h2, h3, h4, h5, h6, h7, h8, m2_1, m3_2, m4_3, m5_11, m6_12, g2_1, g3_2, g4_3, g5_11, g6_12, mo88, ni90, Heap.get_set])
      have m6_12 : H95 (a13, 6) = some ⟨3, [[int x10.kind, str x10.name, int x10.parent]]⟩ := (hfr96 _ (by simp)).trans (by simp [h2, h3, h4, h5, h6, h7, h8, m2_1, m3_2, m4_3, m5_11, m6_12, g2_1, g3_2, g4_3, g5_11, g6_12, mo88, ni90, Heap.get_set])
      simp [h2, h3, h4, h5, h6, h7, h8, m2_1, m3_2, m4_3, m5_11, m6_12, g2_1, g3_2, g4_3, g5_11, g6_12, ni90, f92, f93, dc37, dc84, AmbNode.cells, intC, strC, -indexAddrF]
      refine hk' _ _ _ ?_
      refine Runs.cut (fun ρ H n => ∃ (v98 : AVal) (v99 : AVal), ρ 2 = .ptr (n1, 2) 1 0 0 ∧ ρ 3 = .ptr (n1 + 1, 3) 1 0 0 ∧ ρ 4 = .ptr (n1 + 2, 4) 1 0 0 ∧ ρ 7 = v98 ∧ H (n1, 2) = some ⟨1, [[.list false (p.map AmbNode.cells)]]⟩ ∧ H (n1 + 1, 3) = some ⟨3, [[int s.kind, int s.cap, int s.place]]⟩ ∧ H (n1 + 2, 4) = some ⟨1, [[v99]]⟩ ∧ n1 < n ∧ n1 + 1 < n ∧ n1 + 2 < n ∧ Sep H n [(.s [.c], v98, .list true (l94.map intC)), (.s [.c, .c, .c], v99, .list true (([] : List AmbNode).map AmbNode.cells))] [(n1 + 2, 4), (n1 + 1, 3), (n1, 2)]) (by refine ⟨.arr id87 l29.length 0 l29.length, v30, ?_, ?_, ?_, ?_, ?_, ?_, ?_, ?_, ?_, ?_, (Sep.sub (Sep.front (K1 := [(.s [.c, .c, .c], v30, .list true (([] : List AmbNode).map AmbNode.cells))]) (K2 := []) (Sep.front (K1 := [(.s [.c], .arr id87 l29.length 0 l29.length, .list true (l94.map intC))]) (K2 := []) sp)) (by simp +contextual))⟩ <;> first | (simp [h2, h3, h4, h5, h6, h7, h8, m2_1, m3_2, m4_3, m5_11, m6_12, g2_1, g3_2, g4_3, g5_11, g6_12, ni90, f92, f93, dc37, dc84, AmbNode.cells, intC, strC, -indexAddrF]; done) | omega | (simp; omega)) ?_
      clear h2 h3 h4 h5 h6 h7 h8 m2_1 m3_2 m4_3 m5_11 m6_12 g2_1 g3_2 g4_3 g5_11 g6_12 ni90
      rintro ρ H n100 ⟨v98, v99, h2, h3, h4, h7, m2_1, m3_2, m4_3, g2_1, g3_2, g4_3, sp⟩
      refine Runs.inBlock ?_
      refine Runs.seqE Ty_ok (by decide) fun k' hk' => ?_
      obtain ⟨hb101, h⟩ := h
      obtain ⟨id102, hv, mo103, ln104, ni105⟩ := Sep.openF sp (by simp) hb101
      subst hv
      simp at ni105
      obtain ⟨x106, ex106⟩ : ∃ v : Int, v = at' l94 s.cap := ⟨_, rfl⟩
      replace h := h x106 ex106
      have f107 := fun H (hm : H id102 = some ⟨1, l94.map intC⟩) => ix_arr (H := H) (k := .i64) (off := 0) (len := l94.length) (g := l94.length) kd_71 hm (by simp) rfl hb101
      have f108 := at_some (q := s.cap.toNat) hb101 ex106 rfl
      obtain ⟨l109, el109⟩ : ∃ v : List Int, v = l94.set s.cap.toNat s.cap := ⟨_, rfl⟩
      replace h := h l109 el109
      simp [h2, h3, h4, h7, m2_1, m3_2, m4_3, g2_1, g3_2, g4_3, mo103, ni105, f107, f108, dc37, dc84, AmbNode.cells, intC, strC, -indexAddrF, -storeF]
      refine bind_store (q := s.cap.toNat) (news := intC s.cap) [] [(.s [.c, .c, .c], v99, .list true (([] : List AmbNode).map AmbNode.cells))] sp (by simp) (by simp; omega) (by simp) (by simp [-one1, o1_int, o1_bool, o1_str, o1_nil, o1_list, o1_arr, o1_ptr]) (Fill.v _ Fill.nil) ?_
      rintro H110 sp hfr111
      replace sp : Sep H110 n100 [(.s [.c], .arr id102 l94.length 0 l94.length, .list true (l109.map intC)), (.s [.c, .c, .c], v99, .list true (([] : List AmbNode).map AmbNode.cells))] [(n1 + 2, 4), (n1 + 1, 3), (n1, 2)] := by rw [el109, List.map_set]; exact sp
      have m2_1 : H110 (n1, 2) = some ⟨1, [[.list false (p.map AmbNode.cells)]]⟩ := (hfr111 _ (by simp)).trans (by simp [h2, h3, h4, h7, m2_1, m3_2, m4_3, g2_1, g3_2, g4_3, mo103, ni105, Heap.get_set])
      have m3_2 : H110 (n1 + 1, 3) = some ⟨3, [[int s.kind, int s.cap, int s.place]]⟩ := (hfr111 _ (by simp)).trans (by simp [h2, h3, h4, h7, m2_1, m3_2, m4_3, g2_1, g3_2, g4_3, mo103, ni105, Heap.get_set])
      have m4_3 : H110 (n1 + 2, 4) = some ⟨1, [[v99]]⟩ := (hfr111 _ (by simp)).trans (by simp [h2, h3, h4, h7, m2_1, m3_2, m4_3, g2_1, g3_2, g4_3, mo103, ni105, Heap.get_set])
      simp [h2, h3, h4, h7, m2_1, m3_2, m4_3, g2_1, g3_2, g4_3, ni105, f107, f108, dc37, dc84, AmbNode.cells, intC, strC, -indexAddrF]
      refine hk' _ _ _ ?_
      refine Runs.cut (fun ρ H n => ∃ (v113 : AVal) (v114 : AVal), ρ 2 = .ptr (n1, 2) 1 0 0 ∧ ρ 4 = .ptr (n1 + 2, 4) 1 0 0 ∧ ρ 7 = v113 ∧ H (n1, 2) = some ⟨1, [[.list false (p.map AmbNode.cells)]]⟩ ∧ H (n1 + 2, 4) = some ⟨1, [[v114]]⟩ ∧ n1 < n ∧ n1 + 2 < n ∧ Sep H n [(.s [.c], v113, .list true (l109.map intC)), (.s [.c, .c, .c], v114, .list true (([] : List AmbNode).map AmbNode.cells))] [(n1 + 2, 4), (n1, 2)]) (by refine ⟨.arr id102 l94.length 0 l94.length, v99, ?_, ?_, ?_, ?_, ?_, ?_, ?_, (Sep.sub (Sep.front (K1 := [(.s [.c, .c, .c], v99, .list true (([] : List AmbNode).map AmbNode.cells))]) (K2 := []) (Sep.front (K1 := [(.s [.c], .arr id102 l94.length 0 l94.length, .list true (l109.map intC))]) (K2 := []) sp)) (by simp +contextual))⟩ <;> first | (simp [h2, h3, h4, h7, m2_1, m3_2, m4_3, g2_1, g3_2, g4_3, ni105, f107, f108, dc37, dc84, AmbNode.cells, intC, strC, -indexAddrF]; done) | omega | (simp; omega)) ?_
      clear h2 h3 h4 h7 m2_1 m3_2 m4_3 g2_1 g3_2 g4_3 ni105
      rintro ρ H n115 ⟨v113, v114, h2, h4, h7, m2_1, m4_3, g2_1, g4_3, sp⟩
      refine Runs.seqE Ty_ok (by decide) fun k' hk' => ?_
      obtain ⟨hb116, h⟩ := h
      obtain ⟨r117, er117⟩ : ∃ v : Str, v = l12Text p l109 (-1) := ⟨_, rfl⟩
      replace h := h r117 er117
      simp [h2, h4, h7, m2_1, m4_3, g2_1, g4_3, dc37, dc84, AmbNode.cells, intC, strC]
      refine RunK.callA Ty_ok (l12Text_ok p l109 (-1) hb116) e50 (.cons (ArgOk.agg (.cons (ArgOk.listF (fr := false) (els := p.map AmbNode.cells) (by simp [AmbNode.cells, intC, strC, intC])) .nil)) (.cons (Sep.argOk' sp (old_listF (by simp [intC]))) (.cons (.v _ _ _) .nil))) (by decide) (by decide) rfl (by simp [h2, h4, h7, m2_1, m4_3, g2_1, g4_3, dc37, dc84, AmbNode.cells, intC, strC]) ?_
      rintro _ rfl
      rw [← er117]
      obtain ⟨hb118, h⟩ := h
      obtain ⟨r119, er119⟩ : ∃ v : Proc × Bool, v = parse r117 := ⟨_, rfl⟩
      replace h := h r119 er119
      simp [h2, h4, h7, m2_1, m4_3, g2_1, g4_3, dc37, dc84, AmbNode.cells, intC, strC]
      refine RunK.callA Ty_ok (parseS_ok r117 hb118) e40 (.cons (.v _ _ _) .nil) (by decide) (by decide) rfl (by simp [h2, h4, h7, m2_1, m4_3, g2_1, g4_3, dc37, dc84, AmbNode.cells, intC, strC]) ?_
      rintro _ rfl
      rw [← er119]
      simp [h2, h4, h7, m2_1, m4_3, g2_1, g4_3, dc37, dc84, AmbNode.cells, intC, strC]
      refine hk' _ _ _ ?_
      refine Runs.cut (fun ρ H n => ∃ (v121 : AVal), ρ 4 = .ptr (n1 + 2, 4) 1 0 0 ∧ ρ 10 = .ptr (n115, 10) 1 0 0 ∧ H (n1 + 2, 4) = some ⟨1, [[v121]]⟩ ∧ H (n115, 10) = some ⟨1, [[.list true (r119.1.map AmbNode.cells)]]⟩ ∧ n1 + 2 < n ∧ n115 < n ∧ Sep H n [(.s [.c, .c, .c], v121, .list true (([] : List AmbNode).map AmbNode.cells))] [(n115, 10), (n1 + 2, 4)]) (by refine ⟨v114, ?_, ?_, ?_, ?_, ?_, ?_, (Sep.sub (Sep.right (K1 := [(.s [.c], v113, .list true (l109.map intC))]) (K2 := [(.s [.c, .c, .c], v114, .list true (([] : List AmbNode).map AmbNode.cells))]) (Sep.var sp)) (by simp +contextual))⟩ <;> first | (simp [h2, h4, h7, m2_1, m4_3, g2_1, g4_3, dc37, dc84, AmbNode.cells, intC, strC]; done) | omega | (simp; omega)) ?_
      clear h2 h4 h7 m2_1 m4_3 g2_1 g4_3
      rintro ρ H n122 ⟨v121, h4, h10, m4_3, m10_119, g4_3, g10_119, sp⟩
      refine Runs.seqE Ty_ok (by decide) fun k' hk' => ?_
      simp [h4, h10, m4_3, m10_119, g4_3, g10_119, dc37, dc84, AmbNode.cells, intC, strC]
      refine hk' _ _ _ ?_
      refine Runs.cut (fun ρ H n => ρ 4 = .ptr (n1 + 2, 4) 1 0 0 ∧ H (n1 + 2, 4) = some ⟨1, [[.list true (r119.1.map AmbNode.cells)]]⟩ ∧ n1 + 2 < n ∧ Sep H n [] [(n1 + 2, 4)]) (by refine ⟨?_, ?_, ?_, (Sep.sub (Sep.right (K1 := [(.s [.c, .c, .c], v121, .list true (([] : List AmbNode).map AmbNode.cells))]) (K2 := []) (Sep.setVar (w := (n1 + 2, 4)) sp (by simp))) (by simp +contextual))⟩ <;> first | (simp [h4, h10, m4_3, m10_119, g4_3, g10_119, dc37, dc84, AmbNode.cells, intC, strC]; done) | omega | (simp; omega)) ?_
      clear h4 h10 m4_3 m10_119 g4_3 g10_119
      rintro ρ H n123 ⟨h4, m4_3, g4_3, sp⟩
      exact Runs.res1 Ty_ok (v := .agg [.list true (r119.1.map AmbNode.cells)]) Tryz.func31 Tryz.results31 (by simp [h4, m4_3, g4_3, dc37, dc84, resA, AmbNode.cells, intC, strC]) (hQ _ _ _ _ (.of (.aggL (.cons (.fresh (by simp [AmbNode.cells, intC, strC, intC])) .nil))) ⟨r119.1, h, rfl⟩)
    · replace h := h.2 dc84
      refine Runs.seqE Ty_ok (by decide) fun k' hk' => ?_
      obtain ⟨c124, ec124⟩ : ∃ v : Bool, v = decide (s.kind = 2) := ⟨_, rfl⟩
      replace h := h c124 ec124
      have f125 := ib_eql (k := .i64) ec124
      simp [h2, h3, h4, h5, h6, h7, h8, m2_1, m3_2, m4_3, m5_11, m6_12, g2_1, g3_2, g4_3, g5_11, g6_12, f125, dc37, dc84, AmbNode.cells, intC, strC, -intBin]
      refine hk' _ _ _ ?_
      refine Runs.ite (b := c124) (by simp [h2, h3, h4, h5, h6, h7, h8, m2_1, m3_2, m4_3, m5_11, m6_12, g2_1, g3_2, g4_3, g5_11, g6_12, dc37, dc84, AmbNode.cells, intC, strC]) (fun dc124 => ?_) (fun dc124 => ?_)
      · replace h := h.1 dc124
        refine Runs.evalE Ty_ok (by decide) fun k' hk' => ?_
        obtain ⟨hb126, h⟩ := h
        obtain ⟨id127, hv, mo128, ln129, ni130⟩ := Sep.openF (Sep.front (K1 := [(.s [.c, .c, .c], v30, .list true (([] : List AmbNode).map AmbNode.cells))]) (K2 := []) sp) (by simp) hb126
        subst hv
        simp at ni130
        obtain ⟨x131, ex131⟩ : ∃ v : Int, v = at' l29 x7.parent := ⟨_, rfl⟩
        replace h := h x131 ex131
        have f132 := fun H (hm : H id127 = some ⟨1, l29.map intC⟩) => ix_arr (H := H) (k := .i64) (off := 0) (len := l29.length) (g := l29.length) kd_71 hm (by simp) rfl hb126
        have f133 := at_some (q := x7.parent.toNat) hb126 ex131 rfl
        obtain ⟨l134, el134⟩ : ∃ v : List Int, v = l29.set x7.parent.toNat x10.parent := ⟨_, rfl⟩
        replace h := h l134 el134
        simp [h2, h3, h4, h5, h6, h7, h8, m2_1, m3_2, m4_3, m5_11, m6_12, g2_1, g3_2, g4_3, g5_11, g6_12, mo128, ni130, f132, f133, dc37, dc84, dc124, AmbNode.cells, intC, strC, -indexAddrF, -storeF]
        refine bind_store (q := x7.parent.toNat) (news := intC x10.parent) [] [(.s [.c, .c, .c], v30, .list true (([] : List AmbNode).map AmbNode.cells))] (Sep.front (K1 := [(.s [.c, .c, .c], v30, .list true (([] : List AmbNode).map AmbNode.cells))]) (K2 := []) sp) (by simp) (by simp; omega) (by simp) (by simp [-one1, o1_int, o1_bool, o1_str, o1_nil, o1_list, o1_arr, o1_ptr]) (Fill.v _ Fill.nil) ?_
        rintro H135 sp hfr136
        replace sp : Sep H135 n32 [(.s [.c], .arr id127 l29.length 0 l29.length, .list true (l134.map intC)), (.s [.c, .c, .c], v30, .list true (([] : List AmbNode).map AmbNode.cells))] [(a13, 6), (a12, 5), (n1 + 2, 4), (n1 + 1, 3), (n1, 2)] := by rw [el134, List.map_set]; exact sp
        have m2_1 : H135 (n1, 2) = some ⟨1, [[.list false (p.map AmbNode.cells)]]⟩ := (hfr136 _ (by simp)).trans (by simp [h2, h3, h4, h5, h6, h7, h8, m2_1, m3_2, m4_3, m5_11, m6_12, g2_1, g3_2, g4_3, g5_11, g6_12, mo128, ni130, Heap.get_set])
        have m3_2 : H135 (n1 + 1, 3) = some ⟨3, [[int s.kind, int s.cap, int s.place]]⟩ := (hfr136 _ (by simp)).trans (by simp [h2, h3, h4, h5, h6, h7, h8, m2_1, m3_2, m4_3, m5_11, m6_12, g2_1, g3_2, g4_3, g5_11, g6_12, mo128, ni130, Heap.get_set])
        have m4_3 : H135 (n1 + 2, 4) = some ⟨1, [[v30]]⟩ := (hfr136 _ (by simp)).trans (by simp [h2, h3, h4, h5, h6, h7, h8, m2_1, m3_2, m4_3, m5_11, m6_12, g2_1, g3_2, g4_3, g5_11, g6_12, mo128, ni130, Heap.get_set])
        have m5_11 : H135 (a12, 5) = some ⟨3, [[int x7.kind, str x7.name, int x7.parent]]⟩ := (hfr136 _ (by simp)).trans (by simp [h2, h3, h4, h5, h6, h7, h8, m2_1, m3_2, m4_3, m5_11, m6_12, g2_1, g3_2, g4_3, g5_11, g6_12, mo128, ni130, Heap.get_set])
        have m6_12 : H135 (a13, 6) = some ⟨3, [[int x10.kind, str x10.name, int x10.parent]]⟩ := (hfr136 _ (by simp)).trans (by simp [h2, h3, h4, h5, h6, h7, h8, m2_1, m3_2, m4_3, m5_11, m6_12, g2_1, g3_2, g4_3, g5_11, g6_12, mo128, ni130, Heap.get_set])
        simp [h2, h3, h4, h5, h6, h7, h8, m2_1, m3_2, m4_3, m5_11, m6_12, g2_1, g3_2, g4_3, g5_11, g6_12, ni130, f132, f133, dc37, dc84, dc124, AmbNode.cells, intC, strC, -indexAddrF]
        refine hk' _ _ _ ?_
        refine Runs.cut (fun ρ H n => ∃ (v138 : AVal) (v139 : AVal), ρ 2 = .ptr (n1, 2) 1 0 0 ∧ ρ 3 = .ptr (n1 + 1, 3) 1 0 0 ∧ ρ 4 = .ptr (n1 + 2, 4) 1 0 0 ∧ ρ 7 = v138 ∧ H (n1, 2) = some ⟨1, [[.list false (p.map AmbNode.cells)]]⟩ ∧ H (n1 + 1, 3) = some ⟨3, [[int s.kind, int s.cap, int s.place]]⟩ ∧ H (n1 + 2, 4) = some ⟨1, [[v139]]⟩ ∧ n1 < n ∧ n1 + 1 < n ∧ n1 + 2 < n ∧ Sep H n [(.s [.c], v138, .list true (l134.map intC)), (.s [.c, .c, .c], v139, .list true (([] : List AmbNode).map AmbNode.cells))] [(n1 + 2, 4), (n1 + 1, 3), (n1, 2)]) (by refine ⟨.arr id127 l29.length 0 l29.length, v30, ?_, ?_, ?_, ?_, ?_, ?_, ?_, ?_, ?_, ?_, (Sep.sub (Sep.front (K1 := [(.s [.c, .c, .c], v30, .list true (([] : List AmbNode).map AmbNode.cells))]) (K2 := []) (Sep.front (K1 := [(.s [.c], .arr id127 l29.length 0 l29.length, .list true (l134.map intC))]) (K2 := []) sp)) (by simp +contextual))⟩ <;> first | (simp [h2, h3, h4, h5, h6, h7, h8, m2_1, m3_2, m4_3, m5_11, m6_12, g2_1, g3_2, g4_3, g5_11, g6_12, ni130, f132, f133, dc37, dc84, dc124, AmbNode.cells, intC, strC, -indexAddrF]; done) | omega | (simp; omega)) ?_
        clear h2 h3 h4 h5 h6 h7 h8 m2_1 m3_2 m4_3 m5_11 m6_12 g2_1 g3_2 g4_3 g5_11 g6_12 ni130
        rintro ρ H n140 ⟨v138, v139, h2, h3, h4, h7, m2_1, m3_2, m4_3, g2_1, g3_2, g4_3, sp⟩
        refine Runs.inBlock ?_
        refine Runs.seqE Ty_ok (by decide) fun k' hk' => ?_
        obtain ⟨hb141, h⟩ := h
        obtain ⟨id142, hv, mo143, ln144, ni145⟩ := Sep.openF sp (by simp) hb141
        subst hv
        simp at ni145
        obtain ⟨x146, ex146⟩ : ∃ v : Int, v = at' l134 s.cap := ⟨_, rfl⟩
        replace h := h x146 ex146
        have f147 := fun H (hm : H id142 = some ⟨1, l134.map intC⟩) => ix_arr (H := H) (k := .i64) (off := 0) (len := l134.length) (g := l134.length) kd_71 hm (by simp) rfl hb141
        have f148 := at_some (q := s.cap.toNat) hb141 ex146 rfl
        obtain ⟨l149, el149⟩ : ∃ v : List Int, v = l134.set s.cap.toNat s.cap := ⟨_, rfl⟩
        replace h := h l149 el149
        simp [h2, h3, h4, h7, m2_1, m3_2, m4_3, g2_1, g3_2, g4_3, mo143, ni145, f147, f148, dc37, dc84, dc124, AmbNode.cells, intC, strC, -indexAddrF, -storeF]
        refine bind_store (q := s.cap.toNat) (news := intC s.cap) [] [(.s [.c, .c, .c], v139, .list true (([] : List AmbNode).map AmbNode.cells))] sp (by simp) (by simp; omega) (by simp) (by simp [-one1, o1_int, o1_bool, o1_str, o1_nil, o1_list, o1_arr, o1_ptr]) (Fill.v _ Fill.nil) ?_
        rintro H150 sp hfr151
        replace sp : Sep H150 n140 [(.s [.c], .arr id142 l134.length 0 l134.length, .list true (l149.map intC)), (.s [.c, .c, .c], v139, .list true (([] : List AmbNode).map AmbNode.cells))] [(n1 + 2, 4), (n1 + 1, 3), (n1, 2)] := by rw [el149, List.map_set]; exact sp
        have m2_1 : H150 (n1, 2) = some ⟨1, [[.list false (p.map AmbNode.cells)]]⟩ := (hfr151 _ (by simp)).trans (by simp [h2, h3, h4, h7, m2_1, m3_2, m4_3, g2_1, g3_2, g4_3, mo143, ni145, Heap.get_set])
        have m3_2 : H150 (n1 + 1, 3) = some ⟨3, [[int s.kind, int s.cap, int s.place]]⟩ := (hfr151 _ (by simp)).trans (by simp [h2, h3, h4, h7, m2_1, m3_2, m4_3, g2_1, g3_2, g4_3, mo143, ni145, Heap.get_set])
        have m4_3 : H150 (n1 + 2, 4) = some ⟨1, [[v139]]⟩ := (hfr151 _ (by simp)).trans (by simp [h2, h3, h4, h7, m2_1, m3_2, m4_3, g2_1, g3_2, g4_3, mo143, ni145, Heap.get_set])
        simp [h2, h3, h4, h7, m2_1, m3_2, m4_3, g2_1, g3_2, g4_3, ni145, f147, f148, dc37, dc84, dc124, AmbNode.cells, intC, strC, -indexAddrF]
        refine hk' _ _ _ ?_
        refine Runs.cut (fun ρ H n => ∃ (v153 : AVal) (v154 : AVal), ρ 2 = .ptr (n1, 2) 1 0 0 ∧ ρ 4 = .ptr (n1 + 2, 4) 1 0 0 ∧ ρ 7 = v153 ∧ H (n1, 2) = some ⟨1, [[.list false (p.map AmbNode.cells)]]⟩ ∧ H (n1 + 2, 4) = some ⟨1, [[v154]]⟩ ∧ n1 < n ∧ n1 + 2 < n ∧ Sep H n [(.s [.c], v153, .list true (l149.map intC)), (.s [.c, .c, .c], v154, .list true (([] : List AmbNode).map AmbNode.cells))] [(n1 + 2, 4), (n1, 2)]) (by refine ⟨.arr id142 l134.length 0 l134.length, v139, ?_, ?_, ?_, ?_, ?_, ?_, ?_, (Sep.sub (Sep.front (K1 := [(.s [.c, .c, .c], v139, .list true (([] : List AmbNode).map AmbNode.cells))]) (K2 := []) (Sep.front (K1 := [(.s [.c], .arr id142 l134.length 0 l134.length, .list true (l149.map intC))]) (K2 := []) sp)) (by simp +contextual))⟩ <;> first | (simp [h2, h3, h4, h7, m2_1, m3_2, m4_3, g2_1, g3_2, g4_3, ni145, f147, f148, dc37, dc84, dc124, AmbNode.cells, intC, strC, -indexAddrF]; done) | omega | (simp; omega)) ?_
        clear h2 h3 h4 h7 m2_1 m3_2 m4_3 g2_1 g3_2 g4_3 ni145
        rintro ρ H n155 ⟨v153, v154, h2, h4, h7, m2_1, m4_3, g2_1, g4_3, sp⟩
        refine Runs.seqE Ty_ok (by decide) fun k' hk' => ?_
        obtain ⟨hb156, h⟩ := h
        obtain ⟨r157, er157⟩ : ∃ v : Str, v = l12Text p l149 (-1) := ⟨_, rfl⟩
        replace h := h r157 er157
        simp [h2, h4, h7, m2_1, m4_3, g2_1, g4_3, dc37, dc84, dc124, AmbNode.cells, intC, strC]
        refine RunK.callA Ty_ok (l12Text_ok p l149 (-1) hb156) e50 (.cons (ArgOk.agg (.cons (ArgOk.listF (fr := false) (els := p.map AmbNode.cells) (by simp [AmbNode.cells, intC, strC, intC])) .nil)) (.cons (Sep.argOk' sp (old_listF (by simp [intC]))) (.cons (.v _ _ _) .nil))) (by decide) (by decide) rfl (by simp [h2, h4, h7, m2_1, m4_3, g2_1, g4_3, dc37, dc84, dc124, AmbNode.cells, intC, strC]) ?_
        rintro _ rfl
        rw [← er157]
        obtain ⟨hb158, h⟩ := h
        obtain ⟨r159, er159⟩ : ∃ v : Proc × Bool, v = parse r157 := ⟨_, rfl⟩
        replace h := h r159 er159
        simp [h2, h4, h7, m2_1, m4_3, g2_1, g4_3, dc37, dc84, dc124, AmbNode.cells, intC, strC]
        refine RunK.callA Ty_ok (parseS_ok r157 hb158) e40 (.cons (.v _ _ _) .nil) (by decide) (by decide) rfl (by simp [h2, h4, h7, m2_1, m4_3, g2_1, g4_3, dc37, dc84, dc124, AmbNode.cells, intC, strC]) ?_
        rintro _ rfl
        rw [← er159]
        simp [h2, h4, h7, m2_1, m4_3, g2_1, g4_3, dc37, dc84, dc124, AmbNode.cells, intC, strC]
        refine hk' _ _ _ ?_
        refine Runs.cut (fun ρ H n => ∃ (v161 : AVal), ρ 4 = .ptr (n1 + 2, 4) 1 0 0 ∧ ρ 10 = .ptr (n155, 10) 1 0 0 ∧ H (n1 + 2, 4) = some ⟨1, [[v161]]⟩ ∧ H (n155, 10) = some ⟨1, [[.list true (r159.1.map AmbNode.cells)]]⟩ ∧ n1 + 2 < n ∧ n155 < n ∧ Sep H n [(.s [.c, .c, .c], v161, .list true (([] : List AmbNode).map AmbNode.cells))] [(n155, 10), (n1 + 2, 4)]) (by refine ⟨v154, ?_, ?_, ?_, ?_, ?_, ?_, (Sep.sub (Sep.right (K1 := [(.s [.c], v153, .list true (l149.map intC))]) (K2 := [(.s [.c, .c, .c], v154, .list true (([] : List AmbNode).map AmbNode.cells))]) (Sep.var sp)) (by simp +contextual))⟩ <;> first | (simp [h2, h4, h7, m2_1, m4_3, g2_1, g4_3, dc37, dc84, dc124, AmbNode.cells, intC, strC]; done) | omega | (simp; omega)) ?_
        clear h2 h4 h7 m2_1 m4_3 g2_1 g4_3
        rintro ρ H n162 ⟨v161, h4, h10, m4_3, m10_159, g4_3, g10_159, sp⟩
        refine Runs.seqE Ty_ok (by decide) fun k' hk' => ?_
        simp [h4, h10, m4_3, m10_159, g4_3, g10_159, dc37, dc84, dc124, AmbNode.cells, intC, strC]
        refine hk' _ _ _ ?_
        refine Runs.cut (fun ρ H n => ρ 4 = .ptr (n1 + 2, 4) 1 0 0 ∧ H (n1 + 2, 4) = some ⟨1, [[.list true (r159.1.map AmbNode.cells)]]⟩ ∧ n1 + 2 < n ∧ Sep H n [] [(n1 + 2, 4)]) (by refine ⟨?_, ?_, ?_, (Sep.sub (Sep.right (K1 := [(.s [.c, .c, .c], v161, .list true (([] : List AmbNode).map AmbNode.cells))]) (K2 := []) (Sep.setVar (w := (n1 + 2, 4)) sp (by simp))) (by simp +contextual))⟩ <;> first | (simp [h4, h10, m4_3, m10_159, g4_3, g10_159, dc37, dc84, dc124, AmbNode.cells, intC, strC]; done) | omega | (simp; omega)) ?_
        clear h4 h10 m4_3 m10_159 g4_3 g10_159
        rintro ρ H n163 ⟨h4, m4_3, g4_3, sp⟩
        exact Runs.res1 Ty_ok (v := .agg [.list true (r159.1.map AmbNode.cells)]) Tryz.func31 Tryz.results31 (by simp [h4, m4_3, g4_3, dc37, dc84, dc124, resA, AmbNode.cells, intC, strC]) (hQ _ _ _ _ (.of (.aggL (.cons (.fresh (by simp [AmbNode.cells, intC, strC, intC])) .nil))) ⟨r159.1, h, rfl⟩)
      · replace h := h.2 dc124
        refine Runs.evalE Ty_ok (by decide) fun k' hk' => ?_
        obtain ⟨hb164, h⟩ := h
        obtain ⟨id165, hv, mo166, ln167, ni168⟩ := Sep.openF (Sep.front (K1 := [(.s [.c, .c, .c], v30, .list true (([] : List AmbNode).map AmbNode.cells))]) (K2 := []) sp) (by simp) hb164
        subst hv
        simp at ni168
        obtain ⟨x169, ex169⟩ : ∃ v : Int, v = at' l29 s.place := ⟨_, rfl⟩
        replace h := h x169 ex169
        have f170 := fun H (hm : H id165 = some ⟨1, l29.map intC⟩) => ix_arr (H := H) (k := .i64) (off := 0) (len := l29.length) (g := l29.length) kd_71 hm (by simp) rfl hb164
        have f171 := at_some (q := s.place.toNat) hb164 ex169 rfl
        obtain ⟨l172, el172⟩ : ∃ v : List Int, v = l29.set s.place.toNat s.place := ⟨_, rfl⟩
        replace h := h l172 el172
        simp [h2, h3, h4, h5, h6, h7, h8, m2_1, m3_2, m4_3, m5_11, m6_12, g2_1, g3_2, g4_3, g5_11, g6_12, mo166, ni168, f170, f171, dc37, dc84, dc124, AmbNode.cells, intC, strC, -indexAddrF, -storeF]
        refine bind_store (q := s.place.toNat) (news := intC s.place) [] [(.s [.c, .c, .c], v30, .list true (([] : List AmbNode).map AmbNode.cells))] (Sep.front (K1 := [(.s [.c, .c, .c], v30, .list true (([] : List AmbNode).map AmbNode.cells))]) (K2 := []) sp) (by simp) (by simp; omega) (by simp) (by simp [-one1, o1_int, o1_bool, o1_str, o1_nil, o1_list, o1_arr, o1_ptr]) (Fill.v _ Fill.nil) ?_
        rintro H173 sp hfr174
        replace sp : Sep H173 n32 [(.s [.c], .arr id165 l29.length 0 l29.length, .list true (l172.map intC)), (.s [.c, .c, .c], v30, .list true (([] : List AmbNode).map AmbNode.cells))] [(a13, 6), (a12, 5), (n1 + 2, 4), (n1 + 1, 3), (n1, 2)] := by rw [el172, List.map_set]; exact sp
        have m2_1 : H173 (n1, 2) = some ⟨1, [[.list false (p.map AmbNode.cells)]]⟩ := (hfr174 _ (by simp)).trans (by simp [h2, h3, h4, h5, h6, h7, h8, m2_1, m3_2, m4_3, m5_11, m6_12, g2_1, g3_2, g4_3, g5_11, g6_12, mo166, ni168, Heap.get_set])
        have m3_2 : H173 (n1 + 1, 3) = some ⟨3, [[int s.kind, int s.cap, int s.place]]⟩ := (hfr174 _ (by simp)).trans (by simp [h2, h3, h4, h5, h6, h7, h8, m2_1, m3_2, m4_3, m5_11, m6_12, g2_1, g3_2, g4_3, g5_11, g6_12, mo166, ni168, Heap.get_set])
        have m4_3 : H173 (n1 + 2, 4) = some ⟨1, [[v30]]⟩ := (hfr174 _ (by simp)).trans (by simp [h2, h3, h4, h5, h6, h7, h8, m2_1, m3_2, m4_3, m5_11, m6_12, g2_1, g3_2, g4_3, g5_11, g6_12, mo166, ni168, Heap.get_set])
        have m5_11 : H173 (a12, 5) = some ⟨3, [[int x7.kind, str x7.name, int x7.parent]]⟩ := (hfr174 _ (by simp)).trans (by simp [h2, h3, h4, h5, h6, h7, h8, m2_1, m3_2, m4_3, m5_11, m6_12, g2_1, g3_2, g4_3, g5_11, g6_12, mo166, ni168, Heap.get_set])
        have m6_12 : H173 (a13, 6) = some ⟨3, [[int x10.kind, str x10.name, int x10.parent]]⟩ := (hfr174 _ (by simp)).trans (by simp [h2, h3, h4, h5, h6, h7, h8, m2_1, m3_2, m4_3, m5_11, m6_12, g2_1, g3_2, g4_3, g5_11, g6_12, mo166, ni168, Heap.get_set])
        simp [h2, h3, h4, h5, h6, h7, h8, m2_1, m3_2, m4_3, m5_11, m6_12, g2_1, g3_2, g4_3, g5_11, g6_12, ni168, f170, f171, dc37, dc84, dc124, AmbNode.cells, intC, strC, -indexAddrF]
        refine hk' _ _ _ ?_
        refine Runs.cut (fun ρ H n => ∃ (v176 : AVal) (v177 : AVal), ρ 2 = .ptr (n1, 2) 1 0 0 ∧ ρ 3 = .ptr (n1 + 1, 3) 1 0 0 ∧ ρ 4 = .ptr (n1 + 2, 4) 1 0 0 ∧ ρ 7 = v176 ∧ H (n1, 2) = some ⟨1, [[.list false (p.map AmbNode.cells)]]⟩ ∧ H (n1 + 1, 3) = some ⟨3, [[int s.kind, int s.cap, int s.place]]⟩ ∧ H (n1 + 2, 4) = some ⟨1, [[v177]]⟩ ∧ n1 < n ∧ n1 + 1 < n ∧ n1 + 2 < n ∧ Sep H n [(.s [.c], v176, .list true (l172.map intC)), (.s [.c, .c, .c], v177, .list true (([] : List AmbNode).map AmbNode.cells))] [(n1 + 2, 4), (n1 + 1, 3), (n1, 2)]) (by refine ⟨.arr id165 l29.length 0 l29.length, v30, ?_, ?_, ?_, ?_, ?_, ?_, ?_, ?_, ?_, ?_, (Sep.sub (Sep.front (K1 := [(.s [.c, .c, .c], v30, .list true (([] : List AmbNode).map AmbNode.cells))]) (K2 := []) (Sep.front (K1 := [(.s [.c], .arr id165 l29.length 0 l29.length, .list true (l172.map intC))]) (K2 := []) sp)) (by simp +contextual))⟩ <;> first | (simp [h2, h3, h4, h5, h6, h7, h8, m2_1, m3_2, m4_3, m5_11, m6_12, g2_1, g3_2, g4_3, g5_11, g6_12, ni168, f170, f171, dc37, dc84, dc124, AmbNode.cells, intC, strC, -indexAddrF]; done) | omega | (simp; omega)) ?_
        clear h2 h3 h4 h5 h6 h7 h8 m2_1 m3_2 m4_3 m5_11 m6_12 g2_1 g3_2 g4_3 g5_11 g6_12 ni168
        rintro ρ H n178 ⟨v176, v177, h2, h3, h4, h7, m2_1, m3_2, m4_3, g2_1, g3_2, g4_3, sp⟩
        refine Runs.inBlock ?_
        refine Runs.seqE Ty_ok (by decide) fun k' hk' => ?_
        obtain ⟨hb179, h⟩ := h
        obtain ⟨id180, hv, mo181, ln182, ni183⟩ := Sep.openF sp (by simp) hb179
        subst hv
        simp at ni183
        obtain ⟨x184, ex184⟩ : ∃ v : Int, v = at' l172 s.cap := ⟨_, rfl⟩
        replace h := h x184 ex184
        have f185 := fun H (hm : H id180 = some ⟨1, l172.map intC⟩) => ix_arr (H := H) (k := .i64) (off := 0) (len := l172.length) (g := l172.length) kd_71 hm (by simp) rfl hb179
        have f186 := at_some (q := s.cap.toNat) hb179 ex184 rfl
        obtain ⟨l187, el187⟩ : ∃ v : List Int, v = l172.set s.cap.toNat s.cap := ⟨_, rfl⟩
        replace h := h l187 el187
        simp [h2, h3, h4, h7, m2_1, m3_2, m4_3, g2_1, g3_2, g4_3, mo181, ni183, f185, f186, dc37, dc84, dc124, AmbNode.cells, intC, strC, -indexAddrF, -storeF]
        refine bind_store (q := s.cap.toNat) (news := intC s.cap) [] [(.s [.c, .c, .c], v177, .list true (([] : List AmbNode).map AmbNode.cells))] sp (by simp) (by simp; omega) (by simp) (by simp [-one1, o1_int, o1_bool, o1_str, o1_nil, o1_list, o1_arr, o1_ptr]) (Fill.v _ Fill.nil) ?_
        rintro H188 sp hfr189
        replace sp : Sep H188 n178 [(.s [.c], .arr id180 l172.length 0 l172.length, .list true (l187.map intC)), (.s [.c, .c, .c], v177, .list true (([] : List AmbNode).map AmbNode.cells))] [(n1 + 2, 4), (n1 + 1, 3), (n1, 2)] := by rw [el187, List.map_set]; exact sp
        have m2_1 : H188 (n1, 2) = some ⟨1, [[.list false (p.map AmbNode.cells)]]⟩ := (hfr189 _ (by simp)).trans (by simp [h2, h3, h4, h7, m2_1, m3_2, m4_3, g2_1, g3_2, g4_3, mo181, ni183, Heap.get_set])
        have m3_2 : H188 (n1 + 1, 3) = some ⟨3, [[int s.kind, int s.cap, int s.place]]⟩ := (hfr189 _ (by simp)).trans (by simp [h2, h3, h4, h7, m2_1, m3_2, m4_3, g2_1, g3_2, g4_3, mo181, ni183, Heap.get_set])
        have m4_3 : H188 (n1 + 2, 4) = some ⟨1, [[v177]]⟩ := (hfr189 _ (by simp)).trans (by simp [h2, h3, h4, h7, m2_1, m3_2, m4_3, g2_1, g3_2, g4_3, mo181, ni183, Heap.get_set])
        simp [h2, h3, h4, h7, m2_1, m3_2, m4_3, g2_1, g3_2, g4_3, ni183, f185, f186, dc37, dc84, dc124, AmbNode.cells, intC, strC, -indexAddrF]
        refine hk' _ _ _ ?_
        refine Runs.cut (fun ρ H n => ∃ (v191 : AVal) (v192 : AVal), ρ 2 = .ptr (n1, 2) 1 0 0 ∧ ρ 4 = .ptr (n1 + 2, 4) 1 0 0 ∧ ρ 7 = v191 ∧ H (n1, 2) = some ⟨1, [[.list false (p.map AmbNode.cells)]]⟩ ∧ H (n1 + 2, 4) = some ⟨1, [[v192]]⟩ ∧ n1 < n ∧ n1 + 2 < n ∧ Sep H n [(.s [.c], v191, .list true (l187.map intC)), (.s [.c, .c, .c], v192, .list true (([] : List AmbNode).map AmbNode.cells))] [(n1 + 2, 4), (n1, 2)]) (by refine ⟨.arr id180 l172.length 0 l172.length, v177, ?_, ?_, ?_, ?_, ?_, ?_, ?_, (Sep.sub (Sep.front (K1 := [(.s [.c, .c, .c], v177, .list true (([] : List AmbNode).map AmbNode.cells))]) (K2 := []) (Sep.front (K1 := [(.s [.c], .arr id180 l172.length 0 l172.length, .list true (l187.map intC))]) (K2 := []) sp)) (by simp +contextual))⟩ <;> first | (simp [h2, h3, h4, h7, m2_1, m3_2, m4_3, g2_1, g3_2, g4_3, ni183, f185, f186, dc37, dc84, dc124, AmbNode.cells, intC, strC, -indexAddrF]; done) | omega | (simp; omega)) ?_
        clear h2 h3 h4 h7 m2_1 m3_2 m4_3 g2_1 g3_2 g4_3 ni183
        rintro ρ H n193 ⟨v191, v192, h2, h4, h7, m2_1, m4_3, g2_1, g4_3, sp⟩
        refine Runs.seqE Ty_ok (by decide) fun k' hk' => ?_
        obtain ⟨hb194, h⟩ := h
        obtain ⟨r195, er195⟩ : ∃ v : Str, v = l12Text p l187 (-1) := ⟨_, rfl⟩
        replace h := h r195 er195
        simp [h2, h4, h7, m2_1, m4_3, g2_1, g4_3, dc37, dc84, dc124, AmbNode.cells, intC, strC]
        refine RunK.callA Ty_ok (l12Text_ok p l187 (-1) hb194) e50 (.cons (ArgOk.agg (.cons (ArgOk.listF (fr := false) (els := p.map AmbNode.cells) (by simp [AmbNode.cells, intC, strC, intC])) .nil)) (.cons (Sep.argOk' sp (old_listF (by simp [intC]))) (.cons (.v _ _ _) .nil))) (by decide) (by decide) rfl (by simp [h2, h4, h7, m2_1, m4_3, g2_1, g4_3, dc37, dc84, dc124, AmbNode.cells, intC, strC]) ?_
        rintro _ rfl
        rw [← er195]
        obtain ⟨hb196, h⟩ := h
        obtain ⟨r197, er197⟩ : ∃ v : Proc × Bool, v = parse r195 := ⟨_, rfl⟩
        replace h := h r197 er197
        simp [h2, h4, h7, m2_1, m4_3, g2_1, g4_3, dc37, dc84, dc124, AmbNode.cells, intC, strC]
        refine RunK.callA Ty_ok (parseS_ok r195 hb196) e40 (.cons (.v _ _ _) .nil) (by decide) (by decide) rfl (by simp [h2, h4, h7, m2_1, m4_3, g2_1, g4_3, dc37, dc84, dc124, AmbNode.cells, intC, strC]) ?_
        rintro _ rfl
        rw [← er197]
        simp [h2, h4, h7, m2_1, m4_3, g2_1, g4_3, dc37, dc84, dc124, AmbNode.cells, intC, strC]
        refine hk' _ _ _ ?_
        refine Runs.cut (fun ρ H n => ∃ (v199 : AVal), ρ 4 = .ptr (n1 + 2, 4) 1 0 0 ∧ ρ 10 = .ptr (n193, 10) 1 0 0 ∧ H (n1 + 2, 4) = some ⟨1, [[v199]]⟩ ∧ H (n193, 10) = some ⟨1, [[.list true (r197.1.map AmbNode.cells)]]⟩ ∧ n1 + 2 < n ∧ n193 < n ∧ Sep H n [(.s [.c, .c, .c], v199, .list true (([] : List AmbNode).map AmbNode.cells))] [(n193, 10), (n1 + 2, 4)]) (by refine ⟨v192, ?_, ?_, ?_, ?_, ?_, ?_, (Sep.sub (Sep.right (K1 := [(.s [.c], v191, .list true (l187.map intC))]) (K2 := [(.s [.c, .c, .c], v192, .list true (([] : List AmbNode).map AmbNode.cells))]) (Sep.var sp)) (by simp +contextual))⟩ <;> first | (simp [h2, h4, h7, m2_1, m4_3, g2_1, g4_3, dc37, dc84, dc124, AmbNode.cells, intC, strC]; done) | omega | (simp; omega)) ?_
        clear h2 h4 h7 m2_1 m4_3 g2_1 g4_3
        rintro ρ H n200 ⟨v199, h4, h10, m4_3, m10_197, g4_3, g10_197, sp⟩
        refine Runs.seqE Ty_ok (by decide) fun k' hk' => ?_
        simp [h4, h10, m4_3, m10_197, g4_3, g10_197, dc37, dc84, dc124, AmbNode.cells, intC, strC]
        refine hk' _ _ _ ?_
        refine Runs.cut (fun ρ H n => ρ 4 = .ptr (n1 + 2, 4) 1 0 0 ∧ H (n1 + 2, 4) = some ⟨1, [[.list true (r197.1.map AmbNode.cells)]]⟩ ∧ n1 + 2 < n ∧ Sep H n [] [(n1 + 2, 4)]) (by refine ⟨?_, ?_, ?_, (Sep.sub (Sep.right (K1 := [(.s [.c, .c, .c], v199, .list true (([] : List AmbNode).map AmbNode.cells))]) (K2 := []) (Sep.setVar (w := (n1 + 2, 4)) sp (by simp))) (by simp +contextual))⟩ <;> first | (simp [h4, h10, m4_3, m10_197, g4_3, g10_197, dc37, dc84, dc124, AmbNode.cells, intC, strC]; done) | omega | (simp; omega)) ?_
        clear h4 h10 m4_3 m10_197 g4_3 g10_197
        rintro ρ H n201 ⟨h4, m4_3, g4_3, sp⟩
        exact Runs.res1 Ty_ok (v := .agg [.list true (r197.1.map AmbNode.cells)]) Tryz.func31 Tryz.results31 (by simp [h4, m4_3, g4_3, dc37, dc84, dc124, resA, AmbNode.cells, intC, strC]) (hQ _ _ _ _ (.of (.aggL (.cons (.fresh (by simp [AmbNode.cells, intC, strC, intC])) .nil))) ⟨r197.1, h, rfl⟩)

theorem l12Step_ok (p : Proc) (s : AmbStep) (hp : l12Step_pre p s) : PureC Tryz.prog 31 [.agg [.list false (p.map AmbNode.cells)], .agg [int s.kind, int s.cap, int s.place]] (fun r => r = .agg [.list true ((l12Step p s).map AmbNode.cells)]) := (l12Step_walk p s _ (l12Step_vc p s hp)).mono (by rintro _ ⟨_, rfl, rfl⟩; rfl)
end Go.Ab.Vg
