/- Merged texts (11 of 15) of the proof that ends in M2y: Mcw Lmt. -/
import Derived.Test.YtgdmihplkgkiiaaGreatDoorAbQm210
/- Walks by program for YtgdmihplkgkiiaaGreatDoorAbMc. -/
namespace Go.Ab.Vg
open Go.Proofs
set_option maxRecDepth 100000
set_option linter.unusedSimpArgs false
set_option linter.unusedVariables false
attribute [local simp] Control.cells GNode.cells Wire.cells intC intC2 sliceC strC bC mC pA
theorem e57 : Ent Tryz.prog 57 := Ent.of Tryz.func57 (by kernel_rfl) rfl
theorem l8Redex_walk (sig : List Control) (b : Big) (Z : Bool → Prop) (h : l8Redex_wp sig b Z) : PureC Tryz.prog 57 [.list false (sig.map Control.cells), .agg (bC false b)] (fun r => ∃ y : Bool, Z y ∧ r = bool y) := by
  unfold l8Redex_wp at h
  refine PureC.of Tryz.func57 rfl Tryz.ntmps57 (by simp) fun Q hQ => ?_
  refine Runs.cut (fun ρ H n => ρ 0 = .list false (sig.map Control.cells) ∧ ρ 1 = .agg (bC false b)) (by refine ⟨?_, ?_⟩ <;> simp ) ?_
  rintro ρ H n1 ⟨h0, h1⟩
  refine Runs.seqE Ty_ok (by decide) fun k' hk' => ?_
  simp [h0, h1]
  refine hk' _ _ _ ?_
  refine Runs.cut (fun ρ H n => ρ 0 = .list false (sig.map Control.cells) ∧ ρ 3 = pA n1 3 ∧ H (n1, 3) = some ⟨6, [bC false b]⟩) (by refine ⟨?_, ?_, ?_⟩ <;> simp [h0, h1]) ?_
  clear h0 h1
  rintro ρ H n3 ⟨h0, h3, m3_1⟩
  refine Runs.seqE Ty_ok (by decide) fun k' hk' => ?_
  obtain ⟨J4, hJ5, hr6⟩ := h
  have fin8 : ∀ (sJ : Bool) (ρ : Env) (H : Heap) (n : Nat), J4 sJ → (match sJ with | b7 => ρ 4 = bool b7) → Runs Tryz.prog 57 12 k' ρ H n Q := by
    rintro b7 ρ H n9 h h4
    replace h := hr6 _ h
    refine hk' _ _ _ ?_
    exact Runs.ret1 (v := bool b7) Tryz.func57 Tryz.results57 (by simp [h4]) (hQ _ _ _ _ (.of (.v _)) ⟨b7, h, rfl⟩)
  replace h := hJ5
  obtain ⟨hb10, h⟩ := h
  obtain ⟨r11, er11⟩ : ∃ v : Bool, v = goodB sig b := ⟨_, rfl⟩
  replace h := h r11 er11
  simp [h0, h3, m3_1]
  refine RunK.callA Ty_ok (l2Good_ok sig b hb10) e82 (.cons (argC false sig) (.cons (argB false b) .nil)) (by decide) (by decide) rfl (by simp [h0, h3, m3_1]) ?_
  rintro _ rfl
  rw [← er11]
  rcases Bool.eq_false_or_eq_true r11 with dr11 | dr11
  · replace h := h.1 dr11
    obtain ⟨hb12, h⟩ := h
    obtain ⟨r13, er13⟩ : ∃ v : Bool, v = l8Solid b := ⟨_, rfl⟩
    replace h := h r13 er13
    simp [h0, h3, m3_1, dr11]
    refine RunK.callA Ty_ok (l8Solid_ok b hb12) e83 (.cons (argB false b) .nil) (by decide) (by decide) rfl (by simp [h0, h3, m3_1, dr11]) ?_
    rintro _ rfl
    rw [← er13]
    simp [h0, h3, m3_1, dr11]
    exact fin8 (r13) _ _ _ h (by simp [h0, h3, m3_1, dr11])
  replace h := h.2 dr11
  simp [h0, h3, m3_1, dr11]
  exact fin8 (false) _ _ _ h (by simp [h0, h3, m3_1, dr11])

theorem l8Redex_ok (sig : List Control) (b : Big) (hp : l8Redex_pre sig b) : PureC Tryz.prog 57 [.list false (sig.map Control.cells), .agg (bC false b)] (fun r => r = bool (l8Redex sig b)) := (l8Redex_walk sig b _ (l8Redex_vc sig b hp)).mono (by rintro _ ⟨_, rfl, rfl⟩; rfl)

theorem e32 : Ent Tryz.prog 32 := Ent.of Tryz.func32 (by kernel_rfl) rfl
theorem l8Both_walk (sig : List Control) (redex : Big) (agent : Big) (Z : Bool → Prop) (h : l8Both_wp sig redex agent Z) : PureC Tryz.prog 32 [.list false (sig.map Control.cells), .agg (bC false redex), .agg (bC false agent)] (fun r => ∃ y : Bool, Z y ∧ r = bool y) := by
  unfold l8Both_wp at h
  refine PureC.of Tryz.func32 rfl Tryz.ntmps32 (by simp) fun Q hQ => ?_
  refine Runs.cut (fun ρ H n => ρ 0 = .list false (sig.map Control.cells) ∧ ρ 1 = .agg (bC false redex) ∧ ρ 2 = .agg (bC false agent)) (by refine ⟨?_, ?_, ?_⟩ <;> simp ) ?_
  rintro ρ H n1 ⟨h0, h1, h2⟩
  refine Runs.seqE Ty_ok (by decide) fun k' hk' => ?_
  simp [h0, h1, h2]
  refine hk' _ _ _ ?_
  refine Runs.cut (fun ρ H n => ρ 0 = .list false (sig.map Control.cells) ∧ ρ 4 = pA n1 4 ∧ ρ 5 = pA (n1 + 1) 5 ∧ H (n1, 4) = some ⟨6, [bC false redex]⟩ ∧ H (n1 + 1, 5) = some ⟨6, [bC false agent]⟩) (by refine ⟨?_, ?_, ?_, ?_, ?_⟩ <;> simp [h0, h1, h2]) ?_
  clear h0 h1 h2
  rintro ρ H n4 ⟨h0, h4, h5, m4_1, m5_2⟩
  refine Runs.seqE Ty_ok (by decide) fun k' hk' => ?_
  obtain ⟨J5, hJ6, hr7⟩ := h
  have fin9 : ∀ (sJ : Bool) (ρ : Env) (H : Heap) (n : Nat), J5 sJ → (match sJ with | b8 => ρ 6 = bool b8) → Runs Tryz.prog 32 15 k' ρ H n Q := by
    rintro b8 ρ H n10 h h6
    replace h := hr7 _ h
    refine hk' _ _ _ ?_
    exact Runs.ret1 (v := bool b8) Tryz.func32 Tryz.results32 (by simp [h6]) (hQ _ _ _ _ (.of (.v _)) ⟨b8, h, rfl⟩)
  replace h := hJ6
  obtain ⟨hb11, h⟩ := h
  obtain ⟨r12, er12⟩ : ∃ v : Bool, v = l8Redex sig redex := ⟨_, rfl⟩
  replace h := h r12 er12
  simp [h0, h4, h5, m4_1, m5_2]
  refine RunK.callA Ty_ok (l8Redex_ok sig redex hb11) e57 (.cons (argC false sig) (.cons (argB false redex) .nil)) (by decide) (by decide) rfl (by simp [h0, h4, h5, m4_1, m5_2]) ?_
  rintro _ rfl
  rw [← er12]
  rcases Bool.eq_false_or_eq_true r12 with dr12 | dr12
  · replace h := h.1 dr12
    obtain ⟨hb13, h⟩ := h
    obtain ⟨r14, er14⟩ : ∃ v : Bool, v = l2Agent sig agent := ⟨_, rfl⟩
    replace h := h r14 er14
    simp [h0, h4, h5, m4_1, m5_2, dr12]
    refine RunK.callA Ty_ok (l2Agent_ok sig agent hb13) e58 (.cons (argC false sig) (.cons (argB false agent) .nil)) (by decide) (by decide) rfl (by simp [h0, h4, h5, m4_1, m5_2, dr12]) ?_
    rintro _ rfl
    rw [← er14]
    simp [h0, h4, h5, m4_1, m5_2, dr12]
    exact fin9 (r14) _ _ _ h (by simp [h0, h4, h5, m4_1, m5_2, dr12])
  replace h := h.2 dr12
  simp [h0, h4, h5, m4_1, m5_2, dr12]
  exact fin9 (false) _ _ _ h (by simp [h0, h4, h5, m4_1, m5_2, dr12])

theorem l8Both_ok (sig : List Control) (redex : Big) (agent : Big) (hp : l8Both_pre sig redex agent) : PureC Tryz.prog 32 [.list false (sig.map Control.cells), .agg (bC false redex), .agg (bC false agent)] (fun r => r = bool (l8Both sig redex agent)) := (l8Both_walk sig redex agent _ (l8Both_vc sig redex agent hp)).mono (by rintro _ ⟨_, rfl, rfl⟩; rfl)

theorem e59 : Ent Tryz.prog 59 := Ent.of Tryz.func59 (by kernel_rfl) rfl
theorem l8Images_walk (redex : Big) (agent : Big) (nodes : List Int) (Z : Bool → Prop) (h : l8Images_wp redex agent nodes Z) : PureC Tryz.prog 59 [.agg (bC false redex), .agg (bC false agent), .list false (nodes.map intC)] (fun r => ∃ y : Bool, Z y ∧ r = bool y) := by
  unfold l8Images_wp at h
  refine PureC.of Tryz.func59 rfl Tryz.ntmps59 (by simp) fun Q hQ => ?_
  refine Runs.cut (fun ρ H n => ρ 0 = .agg (bC false redex) ∧ ρ 1 = .agg (bC false agent) ∧ ρ 2 = .list false (nodes.map intC)) (by refine ⟨?_, ?_, ?_⟩ <;> simp ) ?_
  rintro ρ H n1 ⟨h0, h1, h2⟩
  refine Runs.seqE Ty_ok (by decide) fun k' hk' => ?_
  simp [h0, h1, h2]
  refine hk' _ _ _ ?_
  refine Runs.cut (fun ρ H n => ρ 2 = .list false (nodes.map intC) ∧ ρ 3 = pA n1 3 ∧ ρ 4 = pA (n1 + 1) 4 ∧ H (n1, 3) = some ⟨6, [bC false redex]⟩ ∧ H (n1 + 1, 4) = some ⟨6, [bC false agent]⟩) (by refine ⟨?_, ?_, ?_, ?_, ?_⟩ <;> simp [h0, h1, h2]) ?_
  clear h0 h1 h2
  rintro ρ H n4 ⟨h2, h3, h4, m3_1, m4_2⟩
  refine Runs.seq ?_
  refine Runs.seqE Ty_ok (by decide) fun k' hk' => ?_
  obtain ⟨len5, elen5⟩ : ∃ v : Int, v = (nodes.length : Int) := ⟨_, rfl⟩
  replace h := h len5 elen5
  have f6 := fun H => len_list (H := H) (fr := false) (f := intC) kd_24 elen5
  obtain ⟨len7, elen7⟩ : ∃ v : Int, v = (redex.nodes.length : Int) := ⟨_, rfl⟩
  replace h := h len7 elen7
  have f8 := fun H => len_list (H := H) (fr := false) (f := (GNode.cells false)) kd_38 elen7
  obtain ⟨c9, ec9⟩ : ∃ v : Bool, v = decide (len5 ≠ len7) := ⟨_, rfl⟩
  replace h := h c9 ec9
  have f10 := ib_neq (k := .i64) ec9
  simp [h2, h3, h4, m3_1, m4_2, f6, f8, f10, -intBin, -lenF]
  refine hk' _ _ _ ?_
  refine Runs.ite (b := c9) (by simp [h2, h3, h4, m3_1, m4_2]) (fun dc9 => ?_) (fun dc9 => ?_)
  · replace h := h.1 dc9
    refine Runs.seqE Ty_ok (by decide) fun k' hk' => ?_
    simp [h2, h3, h4, m3_1, m4_2, dc9]
    refine hk' _ _ _ ?_
    exact Runs.ret1 (v := bool false) Tryz.func59 Tryz.results59 (by simp [h2, h3, h4, m3_1, m4_2, dc9]) (hQ _ _ _ _ (.of (.v _)) ⟨false, h, rfl⟩)
  replace h := h.2 dc9
  refine Runs.skip ?_
  refine Runs.seq ?_
  refine Runs.seqE Ty_ok (by decide) fun k' hk' => ?_
  simp [h2, h3, h4, m3_1, m4_2, dc9]
  refine hk' _ _ _ ?_
  refine Runs.block ?_
  refine Runs.loopW h (fun (sJ : Int) ρ H n => match sJ with | i13 => ρ 2 = .list false (nodes.map intC) ∧ ρ 3 = pA n1 3 ∧ ρ 4 = pA (n1 + 1) 4 ∧ ρ 7 = int i13 ∧ H (n1, 3) = some ⟨6, [bC false redex]⟩ ∧ H (n1 + 1, 4) = some ⟨6, [bC false agent]⟩) (by refine ⟨?_, ?_, ?_, ?_, ?_, ?_⟩ <;> simp [h2, h3, h4, m3_1, m4_2, dc9]) ?_
  clear h2 h3 h4 m3_1 m4_2
  rintro i13 ρ H n14 K h ⟨h2, h3, h4, h7, m3_1, m4_2⟩ IH15
  refine Runs.seq ?_
  refine Runs.seqE Ty_ok (by decide) fun k' hk' => ?_
  obtain ⟨len17, elen17⟩ : ∃ v : Int, v = (nodes.length : Int) := ⟨_, rfl⟩
  replace h := h len17 elen17
  have f18 := fun H => len_list (H := H) (fr := false) (f := intC) kd_24 elen17
  obtain ⟨c19, ec19⟩ : ∃ v : Bool, v = decide (i13 < len17) := ⟨_, rfl⟩
  replace h := h c19 ec19
  have f20 := ib_lss (k := .i64) ec19
  simp [h2, h3, h4, h7, m3_1, m4_2, f18, f20, dc9, -intBin, -lenF]
  refine hk' _ _ _ ?_
  refine Runs.ite (b := c19) (by simp [h2, h3, h4, h7, m3_1, m4_2, dc9]) (fun dc19 => ?_) (fun dc19 => ?_)
  · replace h := h.1 dc19
    refine Runs.skip ?_
    refine Runs.seq ?_
    refine Runs.block ?_
    refine Runs.seqD Ty_ok kindOp_ok draws (by decide) (by kernel_rfl) fun k' hk' => ?_
    obtain ⟨J21, hJ22, hr23⟩ := h
    have fin25 : ∀ (sJ : Bool) (ρ : Env) (H : Heap) (n : Nat), J21 sJ → (match sJ with | b24 => ρ 2 = .list false (nodes.map intC) ∧ ρ 3 = pA n1 3 ∧ ρ 4 = pA (n1 + 1) 4 ∧ ρ 7 = int i13 ∧ ρ 54 = bool b24 ∧ H (n1, 3) = some ⟨6, [bC false redex]⟩ ∧ H (n1 + 1, 4) = some ⟨6, [bC false agent]⟩) → Runs Tryz.prog 59 55 k' ρ H n Q := by
      rintro b24 ρ H n26 h ⟨h2, h3, h4, h7, h54, m3_1, m4_2⟩
      replace h := hr23 _ h
      refine hk' _ _ _ ?_
      refine Runs.ite (b := b24) (by simp [h2, h3, h4, h7, h54, m3_1, m4_2, dc9, dc19]) (fun db24 => ?_) (fun db24 => ?_)
      · replace h := h.1 db24
        refine Runs.seqE Ty_ok (by decide) fun k' hk' => ?_
        simp [h2, h3, h4, h7, h54, m3_1, m4_2, dc9, dc19, db24]
        refine hk' _ _ _ ?_
        exact Runs.ret1 (v := bool false) Tryz.func59 Tryz.results59 (by simp [h2, h3, h4, h7, h54, m3_1, m4_2, dc9, dc19, db24]) (hQ _ _ _ _ (.of (.v _)) ⟨false, h, rfl⟩)
      replace h := h.2 db24
      refine Runs.skip ?_
      refine Runs.inBlock ?_
      refine Runs.evalE Ty_ok (by decide) fun k' hk' => ?_
      obtain ⟨hb27, h⟩ := h
      obtain ⟨v28, ev28⟩ : ∃ v : Int, v = i13 + 1 := ⟨_, rfl⟩
      replace h := h v28 ev28
      have f29 := ib_add hb27 ev28
      simp [h2, h3, h4, h7, h54, m3_1, m4_2, f29, dc9, dc19, db24, -intBin]
      refine hk' _ _ _ ?_
      refine IH15 (v28) _ _ _ h (by refine ⟨?_, ?_, ?_, ?_, ?_, ?_⟩ <;> simp [h2, h3, h4, h7, h54, m3_1, m4_2, dc9, dc19, db24])
    replace h := hJ22
    obtain ⟨hb30, h⟩ := h
    obtain ⟨x31, ex31⟩ : ∃ v : Int, v = at' nodes i13 := ⟨_, rfl⟩
    replace h := h x31 ex31
    have f32 := fun H => ix_list (H := H) (fr := false) (f := intC) (k := .i64) kd_24 (fun _ => rfl) hb30 ex31
    obtain ⟨hb33, h⟩ := h
    obtain ⟨r34, er34⟩ : ∃ v : Bool, v = isNodeB agent x31 := ⟨_, rfl⟩
    replace h := h r34 er34
    simp [h2, h3, h4, h7, m3_1, m4_2, f32, dc9, dc19, -indexAddrF]
    refine RunDK.callA Ty_ok kindOp_ok (l2Is_ok agent x31 hb33) e84 (.cons (argB false agent) (.cons (.v _ _ _) .nil)) (by decide) rfl (by simp [h2, h3, h4, h7, m3_1, m4_2, f32, dc9, dc19, -indexAddrF]) ?_
    rw [← er34]
    rcases Bool.eq_false_or_eq_true r34 with dr34 | dr34
    · replace h := h.1 dr34
      obtain ⟨hb35, h⟩ := h
      obtain ⟨l36, el36⟩ : ∃ v : List Int, v = (nodes.take i13.toNat).drop 0 := ⟨_, rfl⟩
      replace h := h l36 el36
      have f37 := fun H => sl_list (H := H) (fr := false) (f := intC) (lo := none) (hi := some (int i13)) (a := 0) (b := i13) (by simp [boundOf]) (by simp [boundOf]) kd_24 (fun _ => rfl) hb35 el36
      obtain ⟨hb38, h⟩ := h
      obtain ⟨x39, ex39⟩ : ∃ v : Int, v = at' nodes i13 := ⟨_, rfl⟩
      replace h := h x39 ex39
      have hq40 := ex31.trans ex39.symm
      subst hq40
      have f41 := fun H => ix_list (H := H) (fr := false) (f := intC) (k := .i64) kd_24 (fun _ => rfl) hb38 ex31
      obtain ⟨hb42, h⟩ := h
      obtain ⟨r43, er43⟩ : ∃ v : Bool, v = hasI l36 x31 := ⟨_, rfl⟩
      replace h := h r43 er43
      simp [h2, h3, h4, h7, m3_1, m4_2, f32, f37, f41, dc9, dc19, dr34, -indexAddrF, -sliceF]
      refine RunDK.callA Ty_ok kindOp_ok (l1HasI_ok l36 x31 hb42) e85 (.cons (argI false l36) (.cons (.v _ _ _) .nil)) (by decide) rfl (by simp [h2, h3, h4, h7, m3_1, m4_2, f32, f37, f41, dc9, dc19, dr34, -indexAddrF, -sliceF]) ?_
      rw [← er43]
      rcases Bool.eq_false_or_eq_true r43 with dr43 | dr43
      · replace h := h.1 dr43
        simp [h2, h3, h4, h7, m3_1, m4_2, f32, f37, f41, dc9, dc19, dr34, dr43, -indexAddrF, -sliceF]
        exact fin25 (true) _ _ _ h (by refine ⟨?_, ?_, ?_, ?_, ?_, ?_, ?_⟩ <;> simp [h2, h3, h4, h7, m3_1, m4_2, f32, f37, f41, dc9, dc19, dr34, dr43, -indexAddrF, -sliceF])
      replace h := h.2 dr43
      obtain ⟨hb44, h⟩ := h
      obtain ⟨x45, ex45⟩ : ∃ v : Int, v = at' nodes i13 := ⟨_, rfl⟩
      replace h := h x45 ex45
      have hq46 := ex31.trans ex45.symm
      subst hq46
      have f47 := fun H => ix_list (H := H) (fr := false) (f := intC) (k := .i64) kd_24 (fun _ => rfl) hb44 ex31
      obtain ⟨hb48, h⟩ := h
      obtain ⟨x49, ex49⟩ : ∃ v : GNode, v = at' agent.nodes x31 := ⟨_, rfl⟩
      replace h := h x49 ex49
      have f50 := fun H => ix_list (H := H) (fr := false) (f := (GNode.cells false)) (k := .i64) kd_38 (fun _ => rfl) hb48 ex49
      obtain ⟨hb51, h⟩ := h
      obtain ⟨x52, ex52⟩ : ∃ v : GNode, v = at' redex.nodes i13 := ⟨_, rfl⟩
      replace h := h x52 ex52
      have f53 := fun H => ix_list (H := H) (fr := false) (f := (GNode.cells false)) (k := .i64) kd_38 (fun _ => rfl) hb51 ex52
      obtain ⟨c54, ec54⟩ : ∃ v : Bool, v = decide (x49.control ≠ x52.control) := ⟨_, rfl⟩
      replace h := h c54 ec54
      have f55 := ib_neq (k := .i64) ec54
      simp [h2, h3, h4, h7, m3_1, m4_2, f32, f37, f41, f47, f50, f53, f55, dc9, dc19, dr34, dr43, -indexAddrF, -intBin, -sliceF]
      exact fin25 (c54) _ _ _ h (by refine ⟨?_, ?_, ?_, ?_, ?_, ?_, ?_⟩ <;> simp [h2, h3, h4, h7, m3_1, m4_2, f32, f37, f41, f47, f50, f53, f55, dc9, dc19, dr34, dr43, -indexAddrF, -intBin, -sliceF])
    replace h := h.2 dr34
    simp [h2, h3, h4, h7, m3_1, m4_2, f32, dc9, dc19, dr34, -indexAddrF]
    exact fin25 (true) _ _ _ h (by refine ⟨?_, ?_, ?_, ?_, ?_, ?_, ?_⟩ <;> simp [h2, h3, h4, h7, m3_1, m4_2, f32, dc9, dc19, dr34, -indexAddrF])
  replace h := h.2 dc19
  refine Runs.exit rfl ?_
  refine Runs.seqE Ty_ok (by decide) fun k' hk' => ?_
  simp [h2, h3, h4, h7, m3_1, m4_2, dc9, dc19]
  refine hk' _ _ _ ?_
  exact Runs.ret1 (v := bool true) Tryz.func59 Tryz.results59 (by simp [h2, h3, h4, h7, m3_1, m4_2, dc9, dc19]) (hQ _ _ _ _ (.of (.v _)) ⟨true, h, rfl⟩)

theorem l8Images_ok (redex : Big) (agent : Big) (nodes : List Int) (hp : l8Images_pre redex agent nodes) : PureC Tryz.prog 59 [.agg (bC false redex), .agg (bC false agent), .list false (nodes.map intC)] (fun r => r = bool (l8Images redex agent nodes)) := (l8Images_walk redex agent nodes _ (l8Images_vc redex agent nodes hp)).mono (by rintro _ ⟨_, rfl, rfl⟩; rfl)

theorem e61 : Ent Tryz.prog 61 := Ent.of Tryz.func61 (by kernel_rfl) rfl
theorem l8Parents_walk (redex : Big) (agent : Big) (m : Match) (Z : Bool → Prop) (h : l8Parents_wp redex agent m Z) : PureC Tryz.prog 61 [.agg (bC false redex), .agg (bC false agent), .agg (mC false m)] (fun r => ∃ y : Bool, Z y ∧ r = bool y) := by
  unfold l8Parents_wp at h
  refine PureC.of Tryz.func61 rfl Tryz.ntmps61 (by simp) fun Q hQ => ?_
  refine Runs.cut (fun ρ H n => ρ 0 = .agg (bC false redex) ∧ ρ 1 = .agg (bC false agent) ∧ ρ 2 = .agg (mC false m)) (by refine ⟨?_, ?_, ?_⟩ <;> simp ) ?_
  rintro ρ H n1 ⟨h0, h1, h2⟩
  refine Runs.seqE Ty_ok (by decide) fun k' hk' => ?_
  simp [h0, h1, h2]
  refine hk' _ _ _ ?_
  refine Runs.cut (fun ρ H n => ρ 3 = pA n1 3 ∧ ρ 4 = pA (n1 + 1) 4 ∧ ρ 5 = pA (n1 + 2) 5 ∧ H (n1, 3) = some ⟨6, [bC false redex]⟩ ∧ H (n1 + 1, 4) = some ⟨6, [bC false agent]⟩ ∧ H (n1 + 2, 5) = some ⟨2, [mC false m]⟩) (by refine ⟨?_, ?_, ?_, ?_, ?_, ?_⟩ <;> simp [h0, h1, h2]) ?_
  clear h0 h1 h2
  rintro ρ H n5 ⟨h3, h4, h5, m3_1, m4_2, m5_3⟩
  refine Runs.seq ?_
  refine Runs.seqE Ty_ok (by decide) fun k' hk' => ?_
  simp [h3, h4, h5, m3_1, m4_2, m5_3]
  refine hk' _ _ _ ?_
  refine Runs.block ?_
  refine Runs.loopW h (fun (sJ : Int) ρ H n => match sJ with | i8 => ρ 3 = pA n1 3 ∧ ρ 4 = pA (n1 + 1) 4 ∧ ρ 5 = pA (n1 + 2) 5 ∧ ρ 7 = int i8 ∧ H (n1, 3) = some ⟨6, [bC false redex]⟩ ∧ H (n1 + 1, 4) = some ⟨6, [bC false agent]⟩ ∧ H (n1 + 2, 5) = some ⟨2, [mC false m]⟩) (by refine ⟨?_, ?_, ?_, ?_, ?_, ?_, ?_⟩ <;> simp [h3, h4, h5, m3_1, m4_2, m5_3]) ?_
  clear h3 h4 h5 m3_1 m4_2 m5_3
  rintro i8 ρ H n9 K h ⟨h3, h4, h5, h7, m3_1, m4_2, m5_3⟩ IH10
  refine Runs.seq ?_
  refine Runs.seqE Ty_ok (by decide) fun k' hk' => ?_
  obtain ⟨len12, elen12⟩ : ∃ v : Int, v = (m.nodes.length : Int) := ⟨_, rfl⟩
  replace h := h len12 elen12
  have f13 := fun H => len_list (H := H) (fr := false) (f := intC) kd_24 elen12
  obtain ⟨c14, ec14⟩ : ∃ v : Bool, v = decide (i8 < len12) := ⟨_, rfl⟩
  replace h := h c14 ec14
  have f15 := ib_lss (k := .i64) ec14
  simp [h3, h4, h5, h7, m3_1, m4_2, m5_3, f13, f15, -intBin, -lenF]
  refine hk' _ _ _ ?_
  refine Runs.ite (b := c14) (by simp [h3, h4, h5, h7, m3_1, m4_2, m5_3]) (fun dc14 => ?_) (fun dc14 => ?_)
  · replace h := h.1 dc14
    refine Runs.skip ?_
    refine Runs.seq ?_
    refine Runs.block ?_
    refine Runs.seqE Ty_ok (by decide) fun k' hk' => ?_
    simp [h3, h4, h5, h7, m3_1, m4_2, m5_3, dc14]
    refine hk' _ _ _ ?_
    refine Runs.seq ?_
    refine Runs.seqE Ty_ok (by decide) fun k' hk' => ?_
    obtain ⟨hb16, h⟩ := h
    obtain ⟨x17, ex17⟩ : ∃ v : GNode, v = at' redex.nodes i8 := ⟨_, rfl⟩
    replace h := h x17 ex17
    have f18 := fun H => ix_list (H := H) (fr := false) (f := (GNode.cells false)) (k := .i64) kd_38 (fun _ => rfl) hb16 ex17
    simp [h3, h4, h5, h7, m3_1, m4_2, m5_3, f18, dc14, -indexAddrF]
    refine hk' _ _ _ ?_
    refine Runs.seqE Ty_ok (by decide) fun k' hk' => ?_
    obtain ⟨c19, ec19⟩ : ∃ v : Bool, v = decide (0 ≤ x17.parent) := ⟨_, rfl⟩
    replace h := h c19 ec19
    have f20 := ib_geq (k := .i64) ec19
    simp [h3, h4, h5, h7, m3_1, m4_2, m5_3, f20, dc14, -intBin]
    refine hk' _ _ _ ?_
    refine Runs.cut (fun ρ H n => ρ 3 = pA n1 3 ∧ ρ 4 = pA (n1 + 1) 4 ∧ ρ 5 = pA (n1 + 2) 5 ∧ ρ 7 = int i8 ∧ ρ 9 = int x17.parent ∧ ρ 24 = bool c19 ∧ H (n1, 3) = some ⟨6, [bC false redex]⟩ ∧ H (n1 + 1, 4) = some ⟨6, [bC false agent]⟩ ∧ H (n1 + 2, 5) = some ⟨2, [mC false m]⟩) (by refine ⟨?_, ?_, ?_, ?_, ?_, ?_, ?_, ?_, ?_⟩ <;> simp [h3, h4, h5, h7, m3_1, m4_2, m5_3, f20, dc14, -intBin]) ?_
    clear h3 h4 h5 h7 m3_1 m4_2 m5_3
    rintro ρ H n21 ⟨h3, h4, h5, h7, h9, h24, m3_1, m4_2, m5_3⟩
    refine Runs.ite (b := c19) (by simp [h3, h4, h5, h7, h9, h24, m3_1, m4_2, m5_3, dc14]) (fun dc19 => ?_) (fun dc19 => ?_)
    · replace h := h.1 dc19
      refine Runs.evalE Ty_ok (by decide) fun k' hk' => ?_
      obtain ⟨hb22, h⟩ := h
      obtain ⟨x23, ex23⟩ : ∃ v : Int, v = at' m.nodes x17.parent := ⟨_, rfl⟩
      replace h := h x23 ex23
      have f24 := fun H => ix_list (H := H) (fr := false) (f := intC) (k := .i64) kd_24 (fun _ => rfl) hb22 ex23
      simp [h3, h4, h5, h7, h9, h24, m3_1, m4_2, m5_3, f24, dc14, dc19, -indexAddrF]
      refine hk' _ _ _ ?_
      refine Runs.seqD Ty_ok kindOp_ok draws (by decide) (by kernel_rfl) fun k' hk' => ?_
      obtain ⟨hb25, h⟩ := h
      obtain ⟨x26, ex26⟩ : ∃ v : Int, v = at' m.nodes i8 := ⟨_, rfl⟩
      replace h := h x26 ex26
      have f27 := fun H => ix_list (H := H) (fr := false) (f := intC) (k := .i64) kd_24 (fun _ => rfl) hb25 ex26
      obtain ⟨hb28, h⟩ := h
      obtain ⟨x29, ex29⟩ : ∃ v : GNode, v = at' agent.nodes x26 := ⟨_, rfl⟩
      replace h := h x29 ex29
      have f30 := fun H => ix_list (H := H) (fr := false) (f := (GNode.cells false)) (k := .i64) kd_38 (fun _ => rfl) hb28 ex29
      obtain ⟨c31, ec31⟩ : ∃ v : Bool, v = decide (x29.parent ≠ x23) := ⟨_, rfl⟩
      replace h := h c31 ec31
      have f32 := ib_neq (k := .i64) ec31
      simp [h3, h4, h5, h7, h9, h24, m3_1, m4_2, m5_3, f27, f30, f32, dc14, dc19, -indexAddrF, -intBin]
      refine hk' _ _ _ ?_
      refine Runs.cut (fun ρ H n => ρ 3 = pA n1 3 ∧ ρ 4 = pA (n1 + 1) 4 ∧ ρ 5 = pA (n1 + 2) 5 ∧ ρ 7 = int i8 ∧ ρ 47 = bool c31 ∧ H (n1, 3) = some ⟨6, [bC false redex]⟩ ∧ H (n1 + 1, 4) = some ⟨6, [bC false agent]⟩ ∧ H (n1 + 2, 5) = some ⟨2, [mC false m]⟩) (by refine ⟨?_, ?_, ?_, ?_, ?_, ?_, ?_, ?_⟩ <;> simp [h3, h4, h5, h7, h9, h24, m3_1, m4_2, m5_3, f27, f30, f32, dc14, dc19, -indexAddrF, -intBin]) ?_
      clear h3 h4 h5 h7 h9 h24 m3_1 m4_2 m5_3
      rintro ρ H n33 ⟨h3, h4, h5, h7, h47, m3_1, m4_2, m5_3⟩
      refine Runs.ite (b := c31) (by simp [h3, h4, h5, h7, h47, m3_1, m4_2, m5_3, dc14, dc19]) (fun dc31 => ?_) (fun dc31 => ?_)
      · replace h := h.1 dc31
        refine Runs.seqE Ty_ok (by decide) fun k' hk' => ?_
        simp [h3, h4, h5, h7, h47, m3_1, m4_2, m5_3, dc14, dc19, dc31]
        refine hk' _ _ _ ?_
        exact Runs.ret1 (v := bool false) Tryz.func61 Tryz.results61 (by simp [h3, h4, h5, h7, h47, m3_1, m4_2, m5_3, dc14, dc19, dc31]) (hQ _ _ _ _ (.of (.v _)) ⟨false, h, rfl⟩)
      replace h := h.2 dc31
      refine Runs.skip ?_
      refine Runs.inBlock ?_
      refine Runs.evalE Ty_ok (by decide) fun k' hk' => ?_
      obtain ⟨hb34, h⟩ := h
      obtain ⟨v35, ev35⟩ : ∃ v : Int, v = i8 + 1 := ⟨_, rfl⟩
      replace h := h v35 ev35
      have f36 := ib_add hb34 ev35
      simp [h3, h4, h5, h7, h47, m3_1, m4_2, m5_3, f36, dc14, dc19, dc31, -intBin]
      refine hk' _ _ _ ?_
      refine IH10 (v35) _ _ _ h (by refine ⟨?_, ?_, ?_, ?_, ?_, ?_, ?_⟩ <;> simp [h3, h4, h5, h7, h47, m3_1, m4_2, m5_3, dc14, dc19, dc31])
    replace h := h.2 dc19
    refine Runs.evalE Ty_ok (by decide) fun k' hk' => ?_
    obtain ⟨hb37, h⟩ := h
    obtain ⟨v38, ev38⟩ : ∃ v : Int, v = (-1) - x17.parent := ⟨_, rfl⟩
    replace h := h v38 ev38
    have f39 := ib_sub hb37 ev38
    obtain ⟨hb40, h⟩ := h
    obtain ⟨x41, ex41⟩ : ∃ v : Int, v = at' m.roots v38 := ⟨_, rfl⟩
    replace h := h x41 ex41
    have f42 := fun H => ix_list (H := H) (fr := false) (f := intC) (k := .i64) kd_24 (fun _ => rfl) hb40 ex41
    simp [h3, h4, h5, h7, h9, h24, m3_1, m4_2, m5_3, f39, f42, dc14, dc19, -indexAddrF, -intBin]
    refine hk' _ _ _ ?_
    refine Runs.seqD Ty_ok kindOp_ok draws (by decide) (by kernel_rfl) fun k' hk' => ?_
    obtain ⟨hb43, h⟩ := h
    obtain ⟨x44, ex44⟩ : ∃ v : Int, v = at' m.nodes i8 := ⟨_, rfl⟩
    replace h := h x44 ex44
    have f45 := fun H => ix_list (H := H) (fr := false) (f := intC) (k := .i64) kd_24 (fun _ => rfl) hb43 ex44
    obtain ⟨hb46, h⟩ := h
    obtain ⟨x47, ex47⟩ : ∃ v : GNode, v = at' agent.nodes x44 := ⟨_, rfl⟩
    replace h := h x47 ex47
    have f48 := fun H => ix_list (H := H) (fr := false) (f := (GNode.cells false)) (k := .i64) kd_38 (fun _ => rfl) hb46 ex47
    obtain ⟨c49, ec49⟩ : ∃ v : Bool, v = decide (x47.parent ≠ x41) := ⟨_, rfl⟩
    replace h := h c49 ec49
    have f50 := ib_neq (k := .i64) ec49
    simp [h3, h4, h5, h7, h9, h24, m3_1, m4_2, m5_3, f45, f48, f50, dc14, dc19, -indexAddrF, -intBin]
    refine hk' _ _ _ ?_
    refine Runs.cut (fun ρ H n => ρ 3 = pA n1 3 ∧ ρ 4 = pA (n1 + 1) 4 ∧ ρ 5 = pA (n1 + 2) 5 ∧ ρ 7 = int i8 ∧ ρ 47 = bool c49 ∧ H (n1, 3) = some ⟨6, [bC false redex]⟩ ∧ H (n1 + 1, 4) = some ⟨6, [bC false agent]⟩ ∧ H (n1 + 2, 5) = some ⟨2, [mC false m]⟩) (by refine ⟨?_, ?_, ?_, ?_, ?_, ?_, ?_, ?_⟩ <;> simp [h3, h4, h5, h7, h9, h24, m3_1, m4_2, m5_3, f45, f48, f50, dc14, dc19, -indexAddrF, -intBin]) ?_
    clear h3 h4 h5 h7 h9 h24 m3_1 m4_2 m5_3
    rintro ρ H n51 ⟨h3, h4, h5, h7, h47, m3_1, m4_2, m5_3⟩
    refine Runs.ite (b := c49) (by simp [h3, h4, h5, h7, h47, m3_1, m4_2, m5_3, dc14, dc19]) (fun dc49 => ?_) (fun dc49 => ?_)
    · replace h := h.1 dc49
      refine Runs.seqE Ty_ok (by decide) fun k' hk' => ?_
      simp [h3, h4, h5, h7, h47, m3_1, m4_2, m5_3, dc14, dc19, dc49]
      refine hk' _ _ _ ?_
      exact Runs.ret1 (v := bool false) Tryz.func61 Tryz.results61 (by simp [h3, h4, h5, h7, h47, m3_1, m4_2, m5_3, dc14, dc19, dc49]) (hQ _ _ _ _ (.of (.v _)) ⟨false, h, rfl⟩)
    replace h := h.2 dc49
    refine Runs.skip ?_
    refine Runs.inBlock ?_
    refine Runs.evalE Ty_ok (by decide) fun k' hk' => ?_
    obtain ⟨hb52, h⟩ := h
    obtain ⟨v53, ev53⟩ : ∃ v : Int, v = i8 + 1 := ⟨_, rfl⟩
    replace h := h v53 ev53
    have f54 := ib_add hb52 ev53
    simp [h3, h4, h5, h7, h47, m3_1, m4_2, m5_3, f54, dc14, dc19, dc49, -intBin]
    refine hk' _ _ _ ?_
    refine IH10 (v53) _ _ _ h (by refine ⟨?_, ?_, ?_, ?_, ?_, ?_, ?_⟩ <;> simp [h3, h4, h5, h7, h47, m3_1, m4_2, m5_3, dc14, dc19, dc49])
  replace h := h.2 dc14
  refine Runs.exit rfl ?_
  refine Runs.seqE Ty_ok (by decide) fun k' hk' => ?_
  simp [h3, h4, h5, h7, m3_1, m4_2, m5_3, dc14]
  refine hk' _ _ _ ?_
  exact Runs.ret1 (v := bool true) Tryz.func61 Tryz.results61 (by simp [h3, h4, h5, h7, m3_1, m4_2, m5_3, dc14]) (hQ _ _ _ _ (.of (.v _)) ⟨true, h, rfl⟩)

theorem l8Parents_ok (redex : Big) (agent : Big) (m : Match) (hp : l8Parents_pre redex agent m) : PureC Tryz.prog 61 [.agg (bC false redex), .agg (bC false agent), .agg (mC false m)] (fun r => r = bool (l8Parents redex agent m)) := (l8Parents_walk redex agent m _ (l8Parents_vc redex agent m hp)).mono (by rintro _ ⟨_, rfl, rfl⟩; rfl)

theorem e62 : Ent Tryz.prog 62 := Ent.of Tryz.func62 (by kernel_rfl) rfl
theorem l8Kids_walk (redex : Big) (agent : Big) (m : Match) (Z : Bool → Prop) (h : l8Kids_wp redex agent m Z) : PureC Tryz.prog 62 [.agg (bC false redex), .agg (bC false agent), .agg (mC false m)] (fun r => ∃ y : Bool, Z y ∧ r = bool y) := by
  unfold l8Kids_wp at h
  refine PureC.of Tryz.func62 rfl Tryz.ntmps62 (by simp) fun Q hQ => ?_
  refine Runs.cut (fun ρ H n => ρ 0 = .agg (bC false redex) ∧ ρ 1 = .agg (bC false agent) ∧ ρ 2 = .agg (mC false m)) (by refine ⟨?_, ?_, ?_⟩ <;> simp ) ?_
  rintro ρ H n1 ⟨h0, h1, h2⟩
  refine Runs.seqE Ty_ok (by decide) fun k' hk' => ?_
  simp [h0, h1, h2]
  refine hk' _ _ _ ?_
  refine Runs.cut (fun ρ H n => ρ 3 = pA n1 3 ∧ ρ 4 = pA (n1 + 1) 4 ∧ ρ 5 = pA (n1 + 2) 5 ∧ H (n1, 3) = some ⟨6, [bC false redex]⟩ ∧ H (n1 + 1, 4) = some ⟨6, [bC false agent]⟩ ∧ H (n1 + 2, 5) = some ⟨2, [mC false m]⟩) (by refine ⟨?_, ?_, ?_, ?_, ?_, ?_⟩ <;> simp [h0, h1, h2]) ?_
  clear h0 h1 h2
  rintro ρ H n5 ⟨h3, h4, h5, m3_1, m4_2, m5_3⟩
  refine Runs.seq ?_
  refine Runs.seqE Ty_ok (by decide) fun k' hk' => ?_
  simp [h3, h4, h5, m3_1, m4_2, m5_3]
  refine hk' _ _ _ ?_
  refine Runs.block ?_
  refine Runs.loopW h (fun (sJ : Int) ρ H n => match sJ with | i8 => ρ 3 = pA n1 3 ∧ ρ 4 = pA (n1 + 1) 4 ∧ ρ 5 = pA (n1 + 2) 5 ∧ ρ 7 = int i8 ∧ H (n1, 3) = some ⟨6, [bC false redex]⟩ ∧ H (n1 + 1, 4) = some ⟨6, [bC false agent]⟩ ∧ H (n1 + 2, 5) = some ⟨2, [mC false m]⟩) (by refine ⟨?_, ?_, ?_, ?_, ?_, ?_, ?_⟩ <;> simp [h3, h4, h5, m3_1, m4_2, m5_3]) ?_
  clear h3 h4 h5 m3_1 m4_2 m5_3
  rintro i8 ρ H n9 K h ⟨h3, h4, h5, h7, m3_1, m4_2, m5_3⟩ IH10
  refine Runs.seq ?_
  refine Runs.seqE Ty_ok (by decide) fun k' hk' => ?_
  obtain ⟨len12, elen12⟩ : ∃ v : Int, v = (m.nodes.length : Int) := ⟨_, rfl⟩
  replace h := h len12 elen12
  have f13 := fun H => len_list (H := H) (fr := false) (f := intC) kd_24 elen12
  obtain ⟨c14, ec14⟩ : ∃ v : Bool, v = decide (i8 < len12) := ⟨_, rfl⟩
  replace h := h c14 ec14
  have f15 := ib_lss (k := .i64) ec14
  simp [h3, h4, h5, h7, m3_1, m4_2, m5_3, f13, f15, -intBin, -lenF]
  refine hk' _ _ _ ?_
  refine Runs.ite (b := c14) (by simp [h3, h4, h5, h7, m3_1, m4_2, m5_3]) (fun dc14 => ?_) (fun dc14 => ?_)
  · replace h := h.1 dc14
    refine Runs.skip ?_
    refine Runs.seq ?_
    refine Runs.block ?_
    refine Runs.seqD Ty_ok kindOp_ok draws (by decide) (by kernel_rfl) fun k' hk' => ?_
    obtain ⟨hb16, h⟩ := h
    obtain ⟨x17, ex17⟩ : ∃ v : Int, v = at' m.nodes i8 := ⟨_, rfl⟩
    replace h := h x17 ex17
    have f18 := fun H => ix_list (H := H) (fr := false) (f := intC) (k := .i64) kd_24 (fun _ => rfl) hb16 ex17
    obtain ⟨hb19, h⟩ := h
    obtain ⟨r20, er20⟩ : ∃ v : List Int, v = l2Kids agent x17 := ⟨_, rfl⟩
    replace h := h r20 er20
    simp [h3, h4, h5, h7, m3_1, m4_2, m5_3, f18, dc14, -indexAddrF]
    refine RunDK.callA Ty_ok kindOp_ok ((l2Kids_ok agent x17 hb19).pure) e88 (.cons (argB false agent) (.cons (.v _ _ _) .nil)) (by decide) rfl (by simp [h3, h4, h5, h7, m3_1, m4_2, m5_3, f18, dc14, -indexAddrF]) ?_
    rw [← er20]
    simp [h3, h4, h5, h7, m3_1, m4_2, m5_3, f18, dc14, -indexAddrF]
    refine hk' _ _ _ ?_
    refine Runs.seqE Ty_ok (by decide) fun k' hk' => ?_
    simp [h3, h4, h5, h7, m3_1, m4_2, m5_3, dc14]
    refine hk' _ _ _ ?_
    refine Runs.block ?_
    refine Runs.loopW h (fun (sJ : Int) ρ H n => match sJ with | k23 => ρ 3 = pA n1 3 ∧ ρ 4 = pA (n1 + 1) 4 ∧ ρ 5 = pA (n1 + 2) 5 ∧ ρ 7 = int i8 ∧ ρ 8 = .list true (r20.map intC) ∧ ρ 9 = int k23 ∧ H (n1, 3) = some ⟨6, [bC false redex]⟩ ∧ H (n1 + 1, 4) = some ⟨6, [bC false agent]⟩ ∧ H (n1 + 2, 5) = some ⟨2, [mC false m]⟩) (by refine ⟨?_, ?_, ?_, ?_, ?_, ?_, ?_, ?_, ?_⟩ <;> simp [h3, h4, h5, h7, m3_1, m4_2, m5_3, dc14]) ?_
    clear h3 h4 h5 h7 m3_1 m4_2 m5_3
    rintro k23 ρ H n24 K h ⟨h3, h4, h5, h7, h8, h9, m3_1, m4_2, m5_3⟩ IH25
    refine Runs.seq ?_
    refine Runs.seqE Ty_ok (by decide) fun k' hk' => ?_
    obtain ⟨J27, hJ28, hr29⟩ := h
    have fin31 : ∀ (sJ : Bool) (ρ : Env) (H : Heap) (n : Nat), J27 sJ → (match sJ with | b30 => ρ 3 = pA n1 3 ∧ ρ 4 = pA (n1 + 1) 4 ∧ ρ 5 = pA (n1 + 2) 5 ∧ ρ 7 = int i8 ∧ ρ 8 = .list true (r20.map intC) ∧ ρ 9 = int k23 ∧ ρ 34 = bool b30 ∧ H (n1, 3) = some ⟨6, [bC false redex]⟩ ∧ H (n1 + 1, 4) = some ⟨6, [bC false agent]⟩ ∧ H (n1 + 2, 5) = some ⟨2, [mC false m]⟩) → Runs Tryz.prog 62 45 k' ρ H n Q := by
      rintro b30 ρ H n32 h ⟨h3, h4, h5, h7, h8, h9, h34, m3_1, m4_2, m5_3⟩
      replace h := hr29 _ h
      refine hk' _ _ _ ?_
      refine Runs.ite (b := b30) (by simp [h3, h4, h5, h7, h8, h9, h34, m3_1, m4_2, m5_3, dc14]) (fun db30 => ?_) (fun db30 => ?_)
      · replace h := h.1 db30
        refine Runs.skip ?_
        refine Runs.seq ?_
        refine Runs.block ?_
        refine Runs.seqD Ty_ok kindOp_ok draws (by decide) (by kernel_rfl) fun k' hk' => ?_
        obtain ⟨hb33, h⟩ := h
        obtain ⟨x34, ex34⟩ : ∃ v : Int, v = at' r20 k23 := ⟨_, rfl⟩
        replace h := h x34 ex34
        have f35 := fun H => ix_list (H := H) (fr := true) (f := intC) (k := .i64) kd_24 (fun _ => rfl) hb33 ex34
        obtain ⟨hb36, h⟩ := h
        obtain ⟨r37, er37⟩ : ∃ v : Bool, v = hasI m.nodes x34 := ⟨_, rfl⟩
        replace h := h r37 er37
        simp [h3, h4, h5, h7, h8, h9, h34, m3_1, m4_2, m5_3, f35, dc14, db30, -indexAddrF]
        refine RunDK.callA Ty_ok kindOp_ok (l1HasI_ok m.nodes x34 hb36) e85 (.cons (argI false m.nodes) (.cons (.v _ _ _) .nil)) (by decide) rfl (by simp [h3, h4, h5, h7, h8, h9, h34, m3_1, m4_2, m5_3, f35, dc14, db30, -indexAddrF]) ?_
        rw [← er37]
        simp [h3, h4, h5, h7, h8, h9, h34, m3_1, m4_2, m5_3, f35, dc14, db30, -indexAddrF]
        refine hk' _ _ _ ?_
        refine Runs.ite (b := (!r37)) (by simp [h3, h4, h5, h7, h8, h9, h34, m3_1, m4_2, m5_3, dc14, db30]) (fun dr37 => ?_) (fun dr37 => ?_)
        · have dr37 : r37 = false := by simpa using dr37
          replace h := h.2 dr37
          refine Runs.seqE Ty_ok (by decide) fun k' hk' => ?_
          simp [h3, h4, h5, h7, h8, h9, h34, m3_1, m4_2, m5_3, dc14, db30, dr37]
          refine hk' _ _ _ ?_
          exact Runs.ret1 (v := bool false) Tryz.func62 Tryz.results62 (by simp [h3, h4, h5, h7, h8, h9, h34, m3_1, m4_2, m5_3, dc14, db30, dr37]) (hQ _ _ _ _ (.of (.v _)) ⟨false, h, rfl⟩)
        have dr37 : r37 = true := by simpa using dr37
        replace h := h.1 dr37
        refine Runs.skip ?_
        refine Runs.inBlock ?_
        refine Runs.evalE Ty_ok (by decide) fun k' hk' => ?_
        obtain ⟨hb38, h⟩ := h
        obtain ⟨v39, ev39⟩ : ∃ v : Int, v = k23 + 1 := ⟨_, rfl⟩
        replace h := h v39 ev39
        have f40 := ib_add hb38 ev39
        simp [h3, h4, h5, h7, h8, h9, h34, m3_1, m4_2, m5_3, f40, dc14, db30, dr37, -intBin]
        refine hk' _ _ _ ?_
        refine IH25 (v39) _ _ _ h (by refine ⟨?_, ?_, ?_, ?_, ?_, ?_, ?_, ?_, ?_⟩ <;> simp [h3, h4, h5, h7, h8, h9, h34, m3_1, m4_2, m5_3, dc14, db30, dr37])
      replace h := h.2 db30
      refine Runs.exit rfl ?_
      refine Runs.inBlock ?_
      refine Runs.evalE Ty_ok (by decide) fun k' hk' => ?_
      obtain ⟨hb41, h⟩ := h
      obtain ⟨v42, ev42⟩ : ∃ v : Int, v = i8 + 1 := ⟨_, rfl⟩
      replace h := h v42 ev42
      have f43 := ib_add hb41 ev42
      simp [h3, h4, h5, h7, h8, h9, h34, m3_1, m4_2, m5_3, f43, dc14, db30, -intBin]
      refine hk' _ _ _ ?_
      refine IH10 (v42) _ _ _ h (by refine ⟨?_, ?_, ?_, ?_, ?_, ?_, ?_⟩ <;> simp [h3, h4, h5, h7, h8, h9, h34, m3_1, m4_2, m5_3, dc14, db30])
    replace h := hJ28
    obtain ⟨len44, elen44⟩ : ∃ v : Int, v = (r20.length : Int) := ⟨_, rfl⟩
    replace h := h len44 elen44
    have f45 := fun H => len_list (H := H) (fr := true) (f := intC) kd_24 elen44
    obtain ⟨c46, ec46⟩ : ∃ v : Bool, v = decide (k23 < len44) := ⟨_, rfl⟩
    replace h := h c46 ec46
    have f47 := ib_lss (k := .i64) ec46
    rcases Bool.eq_false_or_eq_true c46 with dc46 | dc46
    · replace h := h.1 dc46
      obtain ⟨hb48, h⟩ := h
      obtain ⟨r49, er49⟩ : ∃ v : List Int, v = l2Holes redex i8 := ⟨_, rfl⟩
      replace h := h r49 er49
      simp [h3, h4, h5, h7, h8, h9, m3_1, m4_2, m5_3, f45, f47, dc14, dc46, -intBin, -lenF]
      refine RunK.callA Ty_ok ((l2Holes_ok redex i8 hb48).pure) e89 (.cons (argB false redex) (.cons (.v _ _ _) .nil)) (by decide) (by decide) rfl (by simp [h3, h4, h5, h7, h8, h9, m3_1, m4_2, m5_3, f45, f47, dc14, dc46, -intBin, -lenF]) ?_
      rintro _ rfl
      rw [← er49]
      obtain ⟨len50, elen50⟩ : ∃ v : Int, v = (r49.length : Int) := ⟨_, rfl⟩
      replace h := h len50 elen50
      have f51 := fun H => len_list (H := H) (fr := true) (f := intC) kd_24 elen50
      obtain ⟨c52, ec52⟩ : ∃ v : Bool, v = decide (len50 = 0) := ⟨_, rfl⟩
      replace h := h c52 ec52
      have f53 := ib_eql (k := .i64) ec52
      simp [h3, h4, h5, h7, h8, h9, m3_1, m4_2, m5_3, f45, f47, f51, f53, dc14, dc46, -intBin, -lenF]
      exact fin31 (c52) _ _ _ h (by refine ⟨?_, ?_, ?_, ?_, ?_, ?_, ?_, ?_, ?_, ?_⟩ <;> simp [h3, h4, h5, h7, h8, h9, m3_1, m4_2, m5_3, f45, f47, f51, f53, dc14, dc46, -intBin, -lenF])
    replace h := h.2 dc46
    simp [h3, h4, h5, h7, h8, h9, m3_1, m4_2, m5_3, f45, f47, dc14, dc46, -intBin, -lenF]
    exact fin31 (false) _ _ _ h (by refine ⟨?_, ?_, ?_, ?_, ?_, ?_, ?_, ?_, ?_, ?_⟩ <;> simp [h3, h4, h5, h7, h8, h9, m3_1, m4_2, m5_3, f45, f47, dc14, dc46, -intBin, -lenF])
  replace h := h.2 dc14
  refine Runs.exit rfl ?_
  refine Runs.seqE Ty_ok (by decide) fun k' hk' => ?_
  simp [h3, h4, h5, h7, m3_1, m4_2, m5_3, dc14]
  refine hk' _ _ _ ?_
  exact Runs.ret1 (v := bool true) Tryz.func62 Tryz.results62 (by simp [h3, h4, h5, h7, m3_1, m4_2, m5_3, dc14]) (hQ _ _ _ _ (.of (.v _)) ⟨true, h, rfl⟩)

theorem l8Kids_ok (redex : Big) (agent : Big) (m : Match) (hp : l8Kids_pre redex agent m) : PureC Tryz.prog 62 [.agg (bC false redex), .agg (bC false agent), .agg (mC false m)] (fun r => r = bool (l8Kids redex agent m)) := (l8Kids_walk redex agent m _ (l8Kids_vc redex agent m hp)).mono (by rintro _ ⟨_, rfl, rfl⟩; rfl)

theorem e86 : Ent Tryz.prog 86 := Ent.of Tryz.func86 (by kernel_rfl) rfl
theorem l2Place_walk (b : Big) (x : Int) (Z : Bool → Prop) (h : l2Place_wp b x Z) : PureC Tryz.prog 86 [.agg (bC false b), int x] (fun r => ∃ y : Bool, Z y ∧ r = bool y) := by
  unfold l2Place_wp at h
  refine PureC.of Tryz.func86 rfl Tryz.ntmps86 (by simp) fun Q hQ => ?_
  refine Runs.cut (fun ρ H n => ρ 0 = .agg (bC false b) ∧ ρ 1 = int x) (by refine ⟨?_, ?_⟩ <;> simp ) ?_
  rintro ρ H n1 ⟨h0, h1⟩
  refine Runs.seqE Ty_ok (by decide) fun k' hk' => ?_
  simp [h0, h1]
  refine hk' _ _ _ ?_
  refine Runs.cut (fun ρ H n => ρ 1 = int x ∧ ρ 2 = pA n1 2 ∧ H (n1, 2) = some ⟨6, [bC false b]⟩) (by refine ⟨?_, ?_, ?_⟩ <;> simp [h0, h1]) ?_
  clear h0 h1
  rintro ρ H n3 ⟨h1, h2, m2_1⟩
  refine Runs.seqE Ty_ok (by decide) fun k' hk' => ?_
  obtain ⟨hb4, h⟩ := h
  obtain ⟨v5, ev5⟩ : ∃ v : Int, v = -b.roots := ⟨_, rfl⟩
  replace h := h v5 ev5
  have f6 := ub_neg hb4 ev5
  obtain ⟨len7, elen7⟩ : ∃ v : Int, v = (b.nodes.length : Int) := ⟨_, rfl⟩
  replace h := h len7 elen7
  have f8 := fun H => len_list (H := H) (fr := false) (f := (GNode.cells false)) kd_38 elen7
  obtain ⟨hb9, h⟩ := h
  obtain ⟨v10, ev10⟩ : ∃ v : Int, v = len7 - 1 := ⟨_, rfl⟩
  replace h := h v10 ev10
  have f11 := ib_sub hb9 ev10
  obtain ⟨r12, er12⟩ : ∃ v : Bool, v = within x v5 v10 := ⟨_, rfl⟩
  replace h := h r12 er12
  simp [h1, h2, m2_1, f6, f8, f11, -intBin, -lenF, -unF, ub_not']
  refine RunK.callA Ty_ok (l1In_ok x v5 v10) e108 (.cons (.v _ _ _) (.cons (.v _ _ _) (.cons (.v _ _ _) .nil))) (by decide) (by decide) rfl (by simp [h1, h2, m2_1, f6, f8, f11, -intBin, -lenF, -unF, ub_not']) ?_
  rintro _ rfl
  rw [← er12]
  simp [h1, h2, m2_1, f6, f8, f11, -intBin, -lenF, -unF, ub_not']
  refine hk' _ _ _ ?_
  exact Runs.ret1 (v := bool r12) Tryz.func86 Tryz.results86 (by simp [h1, h2, m2_1]) (hQ _ _ _ _ (.of (.v _)) ⟨r12, h, rfl⟩)

theorem l2Place_ok (b : Big) (x : Int) (hp : l2Place_pre b x) : PureC Tryz.prog 86 [.agg (bC false b), int x] (fun r => r = bool (l2Place b x)) := (l2Place_walk b x _ (l2Place_vc b x hp)).mono (by rintro _ ⟨_, rfl, rfl⟩; rfl)

theorem e60 : Ent Tryz.prog 60 := Ent.of Tryz.func60 (by kernel_rfl) rfl
theorem l8Places_walk (redex : Big) (agent : Big) (m : Match) (Z : Bool → Prop) (h : l8Places_wp redex agent m Z) : PureC Tryz.prog 60 [.agg (bC false redex), .agg (bC false agent), .agg (mC false m)] (fun r => ∃ y : Bool, Z y ∧ r = bool y) := by
  unfold l8Places_wp at h
  refine PureC.of Tryz.func60 rfl Tryz.ntmps60 (by simp) fun Q hQ => ?_
  refine Runs.cut (fun ρ H n => ρ 0 = .agg (bC false redex) ∧ ρ 1 = .agg (bC false agent) ∧ ρ 2 = .agg (mC false m)) (by refine ⟨?_, ?_, ?_⟩ <;> simp ) ?_
  rintro ρ H n1 ⟨h0, h1, h2⟩
  refine Runs.seqE Ty_ok (by decide) fun k' hk' => ?_
  simp [h0, h1, h2]
  refine hk' _ _ _ ?_
  refine Runs.cut (fun ρ H n => ρ 3 = pA n1 3 ∧ ρ 4 = pA (n1 + 1) 4 ∧ ρ 5 = pA (n1 + 2) 5 ∧ H (n1, 3) = some ⟨6, [bC false redex]⟩ ∧ H (n1 + 1, 4) = some ⟨6, [bC false agent]⟩ ∧ H (n1 + 2, 5) = some ⟨2, [mC false m]⟩) (by refine ⟨?_, ?_, ?_, ?_, ?_, ?_⟩ <;> simp [h0, h1, h2]) ?_
  clear h0 h1 h2
  rintro ρ H n5 ⟨h3, h4, h5, m3_1, m4_2, m5_3⟩
  refine Runs.seq ?_
  refine Runs.seqE Ty_ok (by decide) fun k' hk' => ?_
  simp [h3, h4, h5, m3_1, m4_2, m5_3]
  refine hk' _ _ _ ?_
  refine Runs.block ?_
  refine Runs.loopW h (fun (sJ : Int) ρ H n => match sJ with | r8 => ρ 3 = pA n1 3 ∧ ρ 4 = pA (n1 + 1) 4 ∧ ρ 5 = pA (n1 + 2) 5 ∧ ρ 7 = int r8 ∧ H (n1, 3) = some ⟨6, [bC false redex]⟩ ∧ H (n1 + 1, 4) = some ⟨6, [bC false agent]⟩ ∧ H (n1 + 2, 5) = some ⟨2, [mC false m]⟩) (by refine ⟨?_, ?_, ?_, ?_, ?_, ?_, ?_⟩ <;> simp [h3, h4, h5, m3_1, m4_2, m5_3]) ?_
  clear h3 h4 h5 m3_1 m4_2 m5_3
  rintro r8 ρ H n9 K h ⟨h3, h4, h5, h7, m3_1, m4_2, m5_3⟩ IH10
  refine Runs.seq ?_
  refine Runs.seqE Ty_ok (by decide) fun k' hk' => ?_
  obtain ⟨len12, elen12⟩ : ∃ v : Int, v = (m.roots.length : Int) := ⟨_, rfl⟩
  replace h := h len12 elen12
  have f13 := fun H => len_list (H := H) (fr := false) (f := intC) kd_24 elen12
  obtain ⟨c14, ec14⟩ : ∃ v : Bool, v = decide (r8 < len12) := ⟨_, rfl⟩
  replace h := h c14 ec14
  have f15 := ib_lss (k := .i64) ec14
  simp [h3, h4, h5, h7, m3_1, m4_2, m5_3, f13, f15, -intBin, -lenF]
  refine hk' _ _ _ ?_
  refine Runs.ite (b := c14) (by simp [h3, h4, h5, h7, m3_1, m4_2, m5_3]) (fun dc14 => ?_) (fun dc14 => ?_)
  · replace h := h.1 dc14
    refine Runs.skip ?_
    refine Runs.seq ?_
    refine Runs.block ?_
    refine Runs.seqD Ty_ok kindOp_ok draws (by decide) (by kernel_rfl) fun k' hk' => ?_
    obtain ⟨J16, hJ17, hr18⟩ := h
    have fin20 : ∀ (sJ : Bool) (ρ : Env) (H : Heap) (n : Nat), J16 sJ → (match sJ with | b19 => ρ 3 = pA n1 3 ∧ ρ 4 = pA (n1 + 1) 4 ∧ ρ 5 = pA (n1 + 2) 5 ∧ ρ 7 = int r8 ∧ ρ 32 = bool b19 ∧ H (n1, 3) = some ⟨6, [bC false redex]⟩ ∧ H (n1 + 1, 4) = some ⟨6, [bC false agent]⟩ ∧ H (n1 + 2, 5) = some ⟨2, [mC false m]⟩) → Runs Tryz.prog 60 39 k' ρ H n Q := by
      rintro b19 ρ H n21 h ⟨h3, h4, h5, h7, h32, m3_1, m4_2, m5_3⟩
      replace h := hr18 _ h
      refine hk' _ _ _ ?_
      refine Runs.ite (b := b19) (by simp [h3, h4, h5, h7, h32, m3_1, m4_2, m5_3, dc14]) (fun db19 => ?_) (fun db19 => ?_)
      · replace h := h.1 db19
        refine Runs.seqE Ty_ok (by decide) fun k' hk' => ?_
        simp [h3, h4, h5, h7, h32, m3_1, m4_2, m5_3, dc14, db19]
        refine hk' _ _ _ ?_
        exact Runs.ret1 (v := bool false) Tryz.func60 Tryz.results60 (by simp [h3, h4, h5, h7, h32, m3_1, m4_2, m5_3, dc14, db19]) (hQ _ _ _ _ (.of (.v _)) ⟨false, h, rfl⟩)
      replace h := h.2 db19
      refine Runs.skip ?_
      refine Runs.inBlock ?_
      refine Runs.evalE Ty_ok (by decide) fun k' hk' => ?_
      obtain ⟨hb22, h⟩ := h
      obtain ⟨v23, ev23⟩ : ∃ v : Int, v = r8 + 1 := ⟨_, rfl⟩
      replace h := h v23 ev23
      have f24 := ib_add hb22 ev23
      simp [h3, h4, h5, h7, h32, m3_1, m4_2, m5_3, f24, dc14, db19, -intBin]
      refine hk' _ _ _ ?_
      refine IH10 (v23) _ _ _ h (by refine ⟨?_, ?_, ?_, ?_, ?_, ?_, ?_⟩ <;> simp [h3, h4, h5, h7, h32, m3_1, m4_2, m5_3, dc14, db19])
    replace h := hJ17
    obtain ⟨hb25, h⟩ := h
    obtain ⟨x26, ex26⟩ : ∃ v : Int, v = at' m.roots r8 := ⟨_, rfl⟩
    replace h := h x26 ex26
    have f27 := fun H => ix_list (H := H) (fr := false) (f := intC) (k := .i64) kd_24 (fun _ => rfl) hb25 ex26
    obtain ⟨hb28, h⟩ := h
    obtain ⟨r29, er29⟩ : ∃ v : Bool, v = l2Place agent x26 := ⟨_, rfl⟩
    replace h := h r29 er29
    simp [h3, h4, h5, h7, m3_1, m4_2, m5_3, f27, dc14, -indexAddrF]
    refine RunDK.callA Ty_ok kindOp_ok (l2Place_ok agent x26 hb28) e86 (.cons (argB false agent) (.cons (.v _ _ _) .nil)) (by decide) rfl (by simp [h3, h4, h5, h7, m3_1, m4_2, m5_3, f27, dc14, -indexAddrF]) ?_
    rw [← er29]
    rcases Bool.eq_false_or_eq_true r29 with dr29 | dr29
    · replace h := h.1 dr29
      obtain ⟨hb30, h⟩ := h
      obtain ⟨x31, ex31⟩ : ∃ v : Int, v = at' m.roots r8 := ⟨_, rfl⟩
      replace h := h x31 ex31
      have hq32 := ex26.trans ex31.symm
      subst hq32
      have f33 := fun H => ix_list (H := H) (fr := false) (f := intC) (k := .i64) kd_24 (fun _ => rfl) hb30 ex26
      obtain ⟨hb34, h⟩ := h
      obtain ⟨r35, er35⟩ : ∃ v : Bool, v = l8Inside agent m x26 := ⟨_, rfl⟩
      replace h := h r35 er35
      simp [h3, h4, h5, h7, m3_1, m4_2, m5_3, f27, f33, dc14, dr29, -indexAddrF]
      refine RunDK.callA Ty_ok kindOp_ok (l8Inside_ok agent m x26 hb34) e87 (.cons (argB false agent) (.cons (argM false m) (.cons (.v _ _ _) .nil))) (by decide) rfl (by simp [h3, h4, h5, h7, m3_1, m4_2, m5_3, f27, f33, dc14, dr29, -indexAddrF]) ?_
      rw [← er35]
      simp [h3, h4, h5, h7, m3_1, m4_2, m5_3, f27, f33, dc14, dr29, -indexAddrF]
      exact fin20 (r35) _ _ _ h (by refine ⟨?_, ?_, ?_, ?_, ?_, ?_, ?_, ?_⟩ <;> simp [h3, h4, h5, h7, m3_1, m4_2, m5_3, f27, f33, dc14, dr29, -indexAddrF])
    replace h := h.2 dr29
    simp [h3, h4, h5, h7, m3_1, m4_2, m5_3, f27, dc14, dr29, -indexAddrF]
    exact fin20 (true) _ _ _ h (by refine ⟨?_, ?_, ?_, ?_, ?_, ?_, ?_, ?_⟩ <;> simp [h3, h4, h5, h7, m3_1, m4_2, m5_3, f27, dc14, dr29, -indexAddrF])
  replace h := h.2 dc14
  refine Runs.exit rfl ?_
  refine Runs.seqE Ty_ok (by decide) fun k' hk' => ?_
  obtain ⟨len36, elen36⟩ : ∃ v : Int, v = (m.roots.length : Int) := ⟨_, rfl⟩
  replace h := h len36 elen36
  have f37 := fun H => len_list (H := H) (fr := false) (f := intC) kd_24 elen36
  obtain ⟨c38, ec38⟩ : ∃ v : Bool, v = decide (len36 = redex.roots) := ⟨_, rfl⟩
  replace h := h c38 ec38
  have f39 := ib_eql (k := .i64) ec38
  simp [h3, h4, h5, h7, m3_1, m4_2, m5_3, f37, f39, dc14, -intBin, -lenF]
  refine hk' _ _ _ ?_
  exact Runs.ret1 (v := bool c38) Tryz.func60 Tryz.results60 (by simp [h3, h4, h5, h7, m3_1, m4_2, m5_3, dc14]) (hQ _ _ _ _ (.of (.v _)) ⟨c38, h, rfl⟩)

theorem l8Places_ok (redex : Big) (agent : Big) (m : Match) (hp : l8Places_pre redex agent m) : PureC Tryz.prog 60 [.agg (bC false redex), .agg (bC false agent), .agg (mC false m)] (fun r => r = bool (l8Places redex agent m)) := (l8Places_walk redex agent m _ (l8Places_vc redex agent m hp)).mono (by rintro _ ⟨_, rfl, rfl⟩; rfl)

theorem e79 : Ent Tryz.prog 79 := Ent.of Tryz.func79 (by kernel_rfl) rfl
theorem l8Image_walk (redex : Big) (agent : Big) (m : Match) (link : Int) (Z : (Int × Bool) → Prop) (h : l8Image_wp redex agent m link Z) : PureC Tryz.prog 79 [.agg (bC false redex), .agg (bC false agent), .agg (mC false m), int link] (fun r => ∃ y : Int × Bool, Z y ∧ r = .tup [int y.1, bool y.2]) := by
  unfold l8Image_wp at h
  refine PureC.of Tryz.func79 rfl Tryz.ntmps79 (by simp) fun Q hQ => ?_
  refine Runs.cut (fun ρ H n => ρ 0 = .agg (bC false redex) ∧ ρ 1 = .agg (bC false agent) ∧ ρ 2 = .agg (mC false m) ∧ ρ 3 = int link) (by refine ⟨?_, ?_, ?_, ?_⟩ <;> simp ) ?_
  rintro ρ H n1 ⟨h0, h1, h2, h3⟩
  refine Runs.seqE Ty_ok (by decide) fun k' hk' => ?_
  simp [h0, h1, h2, h3]
  refine hk' _ _ _ ?_
  refine Runs.cut (fun ρ H n => ρ 3 = int link ∧ ρ 4 = pA n1 4 ∧ ρ 5 = pA (n1 + 1) 5 ∧ ρ 6 = pA (n1 + 2) 6 ∧ H (n1, 4) = some ⟨6, [bC false redex]⟩ ∧ H (n1 + 1, 5) = some ⟨6, [bC false agent]⟩ ∧ H (n1 + 2, 6) = some ⟨2, [mC false m]⟩) (by refine ⟨?_, ?_, ?_, ?_, ?_, ?_, ?_⟩ <;> simp [h0, h1, h2, h3]) ?_
  clear h0 h1 h2 h3
  rintro ρ H n5 ⟨h3, h4, h5, h6, m4_1, m5_2, m6_3⟩
  refine Runs.seqE Ty_ok (by decide) fun k' hk' => ?_
  obtain ⟨hb6, h⟩ := h
  obtain ⟨r7, er7⟩ : ∃ v : List (Int × Int), v = l2Ports redex link := ⟨_, rfl⟩
  replace h := h r7 er7
  simp [h3, h4, h5, h6, m4_1, m5_2, m6_3]
  refine RunK.callA Ty_ok ((l2Ports_ok redex link hb6).pure) e105 (.cons (argB false redex) (.cons (.v _ _ _) .nil)) (by decide) (by decide) rfl (by simp [h3, h4, h5, h6, m4_1, m5_2, m6_3]) ?_
  rintro _ rfl
  rw [← er7]
  simp [h3, h4, h5, h6, m4_1, m5_2, m6_3]
  refine hk' _ _ _ ?_
  refine Runs.seqD Ty_ok kindOp_ok draws (by decide) (by kernel_rfl) fun k' hk' => ?_
  obtain ⟨hb8, h⟩ := h
  obtain ⟨x9, ex9⟩ : ∃ v : Int × Int, v = at' r7 0 := ⟨_, rfl⟩
  replace h := h x9 ex9
  have f10 := fun H => ix_list (H := H) (fr := true) (f := intC2) (k := .i64) kd_105 (fun _ => rfl) hb8 ex9
  have f11 := fun H => ixa_i (H := H) (k := .i64) (i := 0) (fr := true) (cs := [int x9.1, int x9.2]) kd_123 (by decide)
  obtain ⟨hb12, h⟩ := h
  obtain ⟨x13, ex13⟩ : ∃ v : Int, v = at' m.nodes x9.1 := ⟨_, rfl⟩
  replace h := h x13 ex13
  have f14 := fun H => ix_list (H := H) (fr := false) (f := intC) (k := .i64) kd_24 (fun _ => rfl) hb12 ex13
  obtain ⟨hb15, h⟩ := h
  obtain ⟨x16, ex16⟩ : ∃ v : GNode, v = at' agent.nodes x13 := ⟨_, rfl⟩
  replace h := h x16 ex16
  have f17 := fun H => ix_list (H := H) (fr := false) (f := (GNode.cells false)) (k := .i64) kd_38 (fun _ => rfl) hb15 ex16
  obtain ⟨hb18, h⟩ := h
  obtain ⟨x19, ex19⟩ : ∃ v : Int × Int, v = at' r7 0 := ⟨_, rfl⟩
  replace h := h x19 ex19
  have hq20 := ex9.trans ex19.symm
  subst hq20
  have f21 := fun H => ix_list (H := H) (fr := true) (f := intC2) (k := .i64) kd_105 (fun _ => rfl) hb18 ex9
  have f22 := fun H => ixa_i (H := H) (k := .i64) (i := 1) (fr := true) (cs := [int x9.1, int x9.2]) kd_123 (by decide)
  obtain ⟨hb23, h⟩ := h
  obtain ⟨x24, ex24⟩ : ∃ v : Int, v = at' x16.links x9.2 := ⟨_, rfl⟩
  replace h := h x24 ex24
  have f25 := fun H => ix_list (H := H) (fr := false) (f := intC) (k := .i64) kd_24 (fun _ => rfl) hb23 ex24
  simp [h3, h4, h5, h6, m4_1, m5_2, m6_3, f10, f11, f14, f17, f21, f22, f25, -indexAddrF]
  refine hk' _ _ _ ?_
  refine Runs.cut (fun ρ H n => ρ 3 = int link ∧ ρ 4 = pA n1 4 ∧ ρ 5 = pA (n1 + 1) 5 ∧ ρ 6 = pA (n1 + 2) 6 ∧ ρ 10 = .list true (r7.map intC2) ∧ ρ 11 = int x24 ∧ H (n1, 4) = some ⟨6, [bC false redex]⟩ ∧ H (n1 + 1, 5) = some ⟨6, [bC false agent]⟩ ∧ H (n1 + 2, 6) = some ⟨2, [mC false m]⟩) (by refine ⟨?_, ?_, ?_, ?_, ?_, ?_, ?_, ?_, ?_⟩ <;> simp [h3, h4, h5, h6, m4_1, m5_2, m6_3, f10, f11, f14, f17, f21, f22, f25, -indexAddrF]) ?_
  clear h3 h4 h5 h6 m4_1 m5_2 m6_3
  rintro ρ H n26 ⟨h3, h4, h5, h6, h10, h11, m4_1, m5_2, m6_3⟩
  refine Runs.seq ?_
  refine Runs.seqE Ty_ok (by decide) fun k' hk' => ?_
  simp [h3, h4, h5, h6, h10, h11, m4_1, m5_2, m6_3]
  refine hk' _ _ _ ?_
  refine Runs.block ?_
  refine Runs.loopW h (fun (sJ : Int) ρ H n => match sJ with | i29 => ρ 3 = int link ∧ ρ 4 = pA n1 4 ∧ ρ 5 = pA (n1 + 1) 5 ∧ ρ 6 = pA (n1 + 2) 6 ∧ ρ 10 = .list true (r7.map intC2) ∧ ρ 11 = int x24 ∧ ρ 12 = int i29 ∧ H (n1, 4) = some ⟨6, [bC false redex]⟩ ∧ H (n1 + 1, 5) = some ⟨6, [bC false agent]⟩ ∧ H (n1 + 2, 6) = some ⟨2, [mC false m]⟩) (by refine ⟨?_, ?_, ?_, ?_, ?_, ?_, ?_, ?_, ?_, ?_⟩ <;> simp [h3, h4, h5, h6, h10, h11, m4_1, m5_2, m6_3]) ?_
  clear h3 h4 h5 h6 h10 h11 m4_1 m5_2 m6_3
  rintro i29 ρ H n30 K h ⟨h3, h4, h5, h6, h10, h11, h12, m4_1, m5_2, m6_3⟩ IH31
  refine Runs.seq ?_
  refine Runs.seqE Ty_ok (by decide) fun k' hk' => ?_
  obtain ⟨len33, elen33⟩ : ∃ v : Int, v = (r7.length : Int) := ⟨_, rfl⟩
  replace h := h len33 elen33
  have f34 := fun H => len_list (H := H) (fr := true) (f := intC2) kd_105 elen33
  obtain ⟨c35, ec35⟩ : ∃ v : Bool, v = decide (i29 < len33) := ⟨_, rfl⟩
  replace h := h c35 ec35
  have f36 := ib_lss (k := .i64) ec35
  simp [h3, h4, h5, h6, h10, h11, h12, m4_1, m5_2, m6_3, f34, f36, -intBin, -lenF]
  refine hk' _ _ _ ?_
  refine Runs.ite (b := c35) (by simp [h3, h4, h5, h6, h10, h11, h12, m4_1, m5_2, m6_3]) (fun dc35 => ?_) (fun dc35 => ?_)
  · replace h := h.1 dc35
    refine Runs.skip ?_
    refine Runs.seq ?_
    refine Runs.block ?_
    refine Runs.seqD Ty_ok kindOp_ok draws (by decide) (by kernel_rfl) fun k' hk' => ?_
    obtain ⟨hb37, h⟩ := h
    obtain ⟨x38, ex38⟩ : ∃ v : Int × Int, v = at' r7 i29 := ⟨_, rfl⟩
    replace h := h x38 ex38
    have f39 := fun H => ix_list (H := H) (fr := true) (f := intC2) (k := .i64) kd_105 (fun _ => rfl) hb37 ex38
    have f40 := fun H => ixa_i (H := H) (k := .i64) (i := 0) (fr := true) (cs := [int x38.1, int x38.2]) kd_123 (by decide)
    obtain ⟨hb41, h⟩ := h
    obtain ⟨x42, ex42⟩ : ∃ v : Int, v = at' m.nodes x38.1 := ⟨_, rfl⟩
    replace h := h x42 ex42
    have f43 := fun H => ix_list (H := H) (fr := false) (f := intC) (k := .i64) kd_24 (fun _ => rfl) hb41 ex42
    obtain ⟨hb44, h⟩ := h
    obtain ⟨x45, ex45⟩ : ∃ v : GNode, v = at' agent.nodes x42 := ⟨_, rfl⟩
    replace h := h x45 ex45
    have f46 := fun H => ix_list (H := H) (fr := false) (f := (GNode.cells false)) (k := .i64) kd_38 (fun _ => rfl) hb44 ex45
    obtain ⟨hb47, h⟩ := h
    obtain ⟨x48, ex48⟩ : ∃ v : Int × Int, v = at' r7 i29 := ⟨_, rfl⟩
    replace h := h x48 ex48
    have hq49 := ex38.trans ex48.symm
    subst hq49
    have f50 := fun H => ix_list (H := H) (fr := true) (f := intC2) (k := .i64) kd_105 (fun _ => rfl) hb47 ex38
    have f51 := fun H => ixa_i (H := H) (k := .i64) (i := 1) (fr := true) (cs := [int x38.1, int x38.2]) kd_123 (by decide)
    obtain ⟨hb52, h⟩ := h
    obtain ⟨x53, ex53⟩ : ∃ v : Int, v = at' x45.links x38.2 := ⟨_, rfl⟩
    replace h := h x53 ex53
    have f54 := fun H => ix_list (H := H) (fr := false) (f := intC) (k := .i64) kd_24 (fun _ => rfl) hb52 ex53
    obtain ⟨c55, ec55⟩ : ∃ v : Bool, v = decide (x53 ≠ x24) := ⟨_, rfl⟩
    replace h := h c55 ec55
    have f56 := ib_neq (k := .i64) ec55
    simp [h3, h4, h5, h6, h10, h11, h12, m4_1, m5_2, m6_3, f39, f40, f43, f46, f50, f51, f54, f56, dc35, -indexAddrF, -intBin]
    refine hk' _ _ _ ?_
    refine Runs.cut (fun ρ H n => ρ 3 = int link ∧ ρ 4 = pA n1 4 ∧ ρ 5 = pA (n1 + 1) 5 ∧ ρ 6 = pA (n1 + 2) 6 ∧ ρ 10 = .list true (r7.map intC2) ∧ ρ 11 = int x24 ∧ ρ 12 = int i29 ∧ ρ 63 = bool c55 ∧ H (n1, 4) = some ⟨6, [bC false redex]⟩ ∧ H (n1 + 1, 5) = some ⟨6, [bC false agent]⟩ ∧ H (n1 + 2, 6) = some ⟨2, [mC false m]⟩) (by refine ⟨?_, ?_, ?_, ?_, ?_, ?_, ?_, ?_, ?_, ?_, ?_⟩ <;> simp [h3, h4, h5, h6, h10, h11, h12, m4_1, m5_2, m6_3, f39, f40, f43, f46, f50, f51, f54, f56, dc35, -indexAddrF, -intBin]) ?_
    clear h3 h4 h5 h6 h10 h11 h12 m4_1 m5_2 m6_3
    rintro ρ H n57 ⟨h3, h4, h5, h6, h10, h11, h12, h63, m4_1, m5_2, m6_3⟩
    refine Runs.ite (b := c55) (by simp [h3, h4, h5, h6, h10, h11, h12, h63, m4_1, m5_2, m6_3, dc35]) (fun dc55 => ?_) (fun dc55 => ?_)
    · replace h := h.1 dc55
      refine Runs.seqE Ty_ok (by decide) fun k' hk' => ?_
      simp [h3, h4, h5, h6, h10, h11, h12, h63, m4_1, m5_2, m6_3, dc35, dc55]
      refine hk' _ _ _ ?_
      exact Runs.ret2 (v := int x24) (w := bool false) Tryz.func79 Tryz.results79 (by simp [h3, h4, h5, h6, h10, h11, h12, h63, m4_1, m5_2, m6_3, dc35, dc55]) (by simp [h3, h4, h5, h6, h10, h11, h12, h63, m4_1, m5_2, m6_3, dc35, dc55]) (hQ _ _ _ _ (.of (.tupL (.cons (.v _) (.cons (.v _) .nil)))) ⟨(x24, false), h, rfl⟩)
    replace h := h.2 dc55
    refine Runs.skip ?_
    refine Runs.inBlock ?_
    refine Runs.evalE Ty_ok (by decide) fun k' hk' => ?_
    obtain ⟨hb58, h⟩ := h
    obtain ⟨v59, ev59⟩ : ∃ v : Int, v = i29 + 1 := ⟨_, rfl⟩
    replace h := h v59 ev59
    have f60 := ib_add hb58 ev59
    simp [h3, h4, h5, h6, h10, h11, h12, h63, m4_1, m5_2, m6_3, f60, dc35, dc55, -intBin]
    refine hk' _ _ _ ?_
    refine IH31 (v59) _ _ _ h (by refine ⟨?_, ?_, ?_, ?_, ?_, ?_, ?_, ?_, ?_, ?_⟩ <;> simp [h3, h4, h5, h6, h10, h11, h12, h63, m4_1, m5_2, m6_3, dc35, dc55])
  replace h := h.2 dc35
  refine Runs.exit rfl ?_
  refine Runs.seq ?_
  refine Runs.seqE Ty_ok (by decide) fun k' hk' => ?_
  obtain ⟨c61, ec61⟩ : ∃ v : Bool, v = decide (link < redex.edges) := ⟨_, rfl⟩
  replace h := h c61 ec61
  have f62 := ib_lss (k := .i64) ec61
  simp [h3, h4, h5, h6, h10, h11, h12, m4_1, m5_2, m6_3, f62, dc35, -intBin]
  refine hk' _ _ _ ?_
  refine Runs.ite (b := c61) (by simp [h3, h4, h5, h6, h10, h11, h12, m4_1, m5_2, m6_3, dc35]) (fun dc61 => ?_) (fun dc61 => ?_)
  · replace h := h.1 dc61
    refine Runs.seqE Ty_ok (by decide) fun k' hk' => ?_
    obtain ⟨J63, hJ64, hr65⟩ := h
    have fin67 : ∀ (sJ : Bool) (ρ : Env) (H : Heap) (n : Nat), J63 sJ → (match sJ with | b66 => ρ 8 = int x24 ∧ ρ 9 = bool b66) → Runs Tryz.prog 79 84 k' ρ H n Q := by
      rintro b66 ρ H n68 h ⟨h8, h9⟩
      replace h := hr65 _ h
      refine hk' _ _ _ ?_
      exact Runs.ret2 (v := int x24) (w := bool b66) Tryz.func79 Tryz.results79 (by simp [h8, h9, dc35, dc61]) (by simp [h8, h9, dc35, dc61]) (hQ _ _ _ _ (.of (.tupL (.cons (.v _) (.cons (.v _) .nil)))) ⟨(x24, b66), h, rfl⟩)
    replace h := hJ64
    obtain ⟨c69, ec69⟩ : ∃ v : Bool, v = decide (x24 < agent.edges) := ⟨_, rfl⟩
    replace h := h c69 ec69
    have f70 := ib_lss (k := .i64) ec69
    rcases Bool.eq_false_or_eq_true c69 with dc69 | dc69
    · replace h := h.1 dc69
      obtain ⟨hb71, h⟩ := h
      obtain ⟨r72, er72⟩ : ∃ v : List (Int × Int), v = l2Ports agent x24 := ⟨_, rfl⟩
      replace h := h r72 er72
      simp [h3, h4, h5, h6, h10, h11, h12, m4_1, m5_2, m6_3, f70, dc35, dc61, dc69, -intBin]
      refine RunK.callA Ty_ok ((l2Ports_ok agent x24 hb71).pure) e105 (.cons (argB false agent) (.cons (.v _ _ _) .nil)) (by decide) (by decide) rfl (by simp [h3, h4, h5, h6, h10, h11, h12, m4_1, m5_2, m6_3, f70, dc35, dc61, dc69, -intBin]) ?_
      rintro _ rfl
      rw [← er72]
      obtain ⟨len73, elen73⟩ : ∃ v : Int, v = (r72.length : Int) := ⟨_, rfl⟩
      replace h := h len73 elen73
      have f74 := fun H => len_list (H := H) (fr := true) (f := intC2) kd_105 elen73
      obtain ⟨len75, elen75⟩ : ∃ v : Int, v = (r7.length : Int) := ⟨_, rfl⟩
      replace h := h len75 elen75
      have f76 := fun H => len_list (H := H) (fr := true) (f := intC2) kd_105 elen75
      obtain ⟨c77, ec77⟩ : ∃ v : Bool, v = decide (len73 = len75) := ⟨_, rfl⟩
      replace h := h c77 ec77
      have f78 := ib_eql (k := .i64) ec77
      simp [h3, h4, h5, h6, h10, h11, h12, m4_1, m5_2, m6_3, f70, f74, f76, f78, dc35, dc61, dc69, -intBin, -lenF]
      exact fin67 (c77) _ _ _ h (by refine ⟨?_, ?_⟩ <;> simp [h3, h4, h5, h6, h10, h11, h12, m4_1, m5_2, m6_3, f70, f74, f76, f78, dc35, dc61, dc69, -intBin, -lenF])
    replace h := h.2 dc69
    simp [h3, h4, h5, h6, h10, h11, h12, m4_1, m5_2, m6_3, f70, dc35, dc61, dc69, -intBin]
    exact fin67 (false) _ _ _ h (by refine ⟨?_, ?_⟩ <;> simp [h3, h4, h5, h6, h10, h11, h12, m4_1, m5_2, m6_3, f70, dc35, dc61, dc69, -intBin])
  replace h := h.2 dc61
  refine Runs.skip ?_
  refine Runs.seqE Ty_ok (by decide) fun k' hk' => ?_
  simp [h3, h4, h5, h6, h10, h11, h12, m4_1, m5_2, m6_3, dc35, dc61]
  refine hk' _ _ _ ?_
  exact Runs.ret2 (v := int x24) (w := bool true) Tryz.func79 Tryz.results79 (by simp [h3, h4, h5, h6, h10, h11, h12, m4_1, m5_2, m6_3, dc35, dc61]) (by simp [h3, h4, h5, h6, h10, h11, h12, m4_1, m5_2, m6_3, dc35, dc61]) (hQ _ _ _ _ (.of (.tupL (.cons (.v _) (.cons (.v _) .nil)))) ⟨(x24, true), h, rfl⟩)

theorem l8Image_ok (redex : Big) (agent : Big) (m : Match) (link : Int) (hp : l8Image_pre redex agent m link) : PureC Tryz.prog 79 [.agg (bC false redex), .agg (bC false agent), .agg (mC false m), int link] (fun r => r = .tup [int ((l8Image redex agent m link).1), bool ((l8Image redex agent m link).2)]) := (l8Image_walk redex agent m link _ (l8Image_vc redex agent m link hp)).mono (by rintro _ ⟨_, rfl, rfl⟩; rfl)

theorem e49 : Ent Tryz.prog 49 := Ent.of Tryz.func49 (by kernel_rfl) rfl
theorem l8Links_walk (redex : Big) (agent : Big) (m : Match) (Z : ((List Int) × Bool) → Prop) (h : l8Links_wp redex agent m Z) : OwnS Tryz.prog 49 [.agg (bC false redex), .agg (bC false agent), .agg (mC false m)] (.t [.s [.c], .c]) (fun r => ∃ y : (List Int) × Bool, Z y ∧ r = .tup [.list true (y.1.map intC), bool y.2]) := by
  unfold l8Links_wp at h
  have sp : Sep noHeap 0 [] [] := Sep.nil (by simp)
  refine OwnS.of Tryz.func49 rfl Tryz.ntmps49 (by simp) fun Q hQ => ?_
  refine Runs.cut (fun ρ H n => ρ 0 = .agg (bC false redex) ∧ ρ 1 = .agg (bC false agent) ∧ ρ 2 = .agg (mC false m) ∧ Sep H n [] []) (by refine ⟨?_, ?_, ?_, sp⟩ <;> simp ) ?_
  rintro ρ H n1 ⟨h0, h1, h2, sp⟩
  refine Runs.seqE Ty_ok (by decide) fun k' hk' => ?_
  simp [h0, h1, h2]
  refine hk' _ _ _ ?_
  refine Runs.cut (fun ρ H n => ρ 3 = pA n1 3 ∧ ρ 4 = pA (n1 + 1) 4 ∧ ρ 5 = pA (n1 + 2) 5 ∧ H (n1, 3) = some ⟨6, [bC false redex]⟩ ∧ H (n1 + 1, 4) = some ⟨6, [bC false agent]⟩ ∧ H (n1 + 2, 5) = some ⟨2, [mC false m]⟩ ∧ Sep H n [] [(n1 + 2, 5), (n1 + 1, 4), (n1, 3)]) (by refine ⟨?_, ?_, ?_, ?_, ?_, ?_, sp.var.var.var⟩ <;> simp [h0, h1, h2]) ?_
  clear h0 h1 h2
  rintro ρ H n5 ⟨h3, h4, h5, m3_1, m4_2, m5_3, sp⟩
  refine Runs.seqE Ty_ok (by decide) fun k' hk' => ?_
  simp [h3, h4, h5, m3_1, m4_2, m5_3]
  refine hk' _ _ _ ?_
  refine Runs.cut (fun ρ H n => ∃ (v7 : AVal), ρ 3 = pA n1 3 ∧ ρ 4 = pA (n1 + 1) 4 ∧ ρ 5 = pA (n1 + 2) 5 ∧ ρ 8 = v7 ∧ H (n1, 3) = some ⟨6, [bC false redex]⟩ ∧ H (n1 + 1, 4) = some ⟨6, [bC false agent]⟩ ∧ H (n1 + 2, 5) = some ⟨2, [mC false m]⟩ ∧ Sep H n [oI v7 ([] : List Int)] [(n1 + 2, 5), (n1 + 1, 4), (n1, 3)]) (by refine ⟨.arr (n5, 12) 0 0 0, ?_, ?_, ?_, ?_, ?_, ?_, ?_, (Sep.addEmpty (l := [.c]) sp)⟩ <;> simp [h3, h4, h5, m3_1, m4_2, m5_3]) ?_
  clear h3 h4 h5 m3_1 m4_2 m5_3
  rintro ρ H n8 ⟨v7, h3, h4, h5, h8, m3_1, m4_2, m5_3, sp⟩
  refine Runs.seq ?_
  refine Runs.seqE Ty_ok (by decide) fun k' hk' => ?_
  simp [h3, h4, h5, h8, m3_1, m4_2, m5_3]
  refine hk' _ _ _ ?_
  refine Runs.block ?_
  refine Runs.loopW h (fun (sJ : Int × (List Int)) ρ H n => match sJ with | (link16, l17) => ∃ (v18 : AVal), ρ 3 = pA n1 3 ∧ ρ 4 = pA (n1 + 1) 4 ∧ ρ 5 = pA (n1 + 2) 5 ∧ ρ 8 = v18 ∧ ρ 9 = int link16 ∧ H (n1, 3) = some ⟨6, [bC false redex]⟩ ∧ H (n1 + 1, 4) = some ⟨6, [bC false agent]⟩ ∧ H (n1 + 2, 5) = some ⟨2, [mC false m]⟩ ∧ Sep H n [oI v18 l17] [(n1 + 2, 5), (n1 + 1, 4), (n1, 3)]) (by refine ⟨v7, ?_, ?_, ?_, ?_, ?_, ?_, ?_, ?_, sp⟩ <;> simp [h3, h4, h5, h8, m3_1, m4_2, m5_3]) ?_
  clear h3 h4 h5 h8 m3_1 m4_2 m5_3
  rintro ⟨link16, l17⟩ ρ H n19 K h ⟨v18, h3, h4, h5, h8, h9, m3_1, m4_2, m5_3, sp⟩ IH20
  refine Runs.seq ?_
  refine Runs.seqE Ty_ok (by decide) fun k' hk' => ?_
  obtain ⟨len22, elen22⟩ : ∃ v : Int, v = (redex.outer.length : Int) := ⟨_, rfl⟩
  replace h := h len22 elen22
  have f23 := fun H => len_list (H := H) (fr := false) (f := strC) kd_25 elen22
  obtain ⟨hb24, h⟩ := h
  obtain ⟨v25, ev25⟩ : ∃ v : Int, v = redex.edges + len22 := ⟨_, rfl⟩
  replace h := h v25 ev25
  have f26 := ib_add hb24 ev25
  obtain ⟨c27, ec27⟩ : ∃ v : Bool, v = decide (link16 < v25) := ⟨_, rfl⟩
  replace h := h c27 ec27
  have f28 := ib_lss (k := .i64) ec27
  simp [h3, h4, h5, h8, h9, m3_1, m4_2, m5_3, f23, f26, f28, -intBin, -lenF]
  refine hk' _ _ _ ?_
  refine Runs.ite (b := c27) (by simp [h3, h4, h5, h8, h9, m3_1, m4_2, m5_3]) (fun dc27 => ?_) (fun dc27 => ?_)
  · replace h := h.1 dc27
    refine Runs.skip ?_
    refine Runs.seq ?_
    refine Runs.block ?_
    refine Runs.seqE Ty_ok (by decide) fun k' hk' => ?_
    obtain ⟨hb29, h⟩ := h
    obtain ⟨r30, er30⟩ : ∃ v : Int × Bool, v = l8Image redex agent m link16 := ⟨_, rfl⟩
    replace h := h r30 er30
    simp [h3, h4, h5, h8, h9, m3_1, m4_2, m5_3, dc27]
    refine RunK.callA Ty_ok (l8Image_ok redex agent m link16 hb29) e79 (.cons (argB false redex) (.cons (argB false agent) (.cons (argM false m) (.cons (.v _ _ _) .nil)))) (by decide) (by decide) rfl (by simp [h3, h4, h5, h8, h9, m3_1, m4_2, m5_3, dc27]) ?_
    rintro _ rfl
    rw [← er30]
    simp [h3, h4, h5, h8, h9, m3_1, m4_2, m5_3, dc27]
    refine hk' _ _ _ ?_
    refine Runs.cut (fun ρ H n => ∃ (v31 : AVal), ρ 3 = pA n1 3 ∧ ρ 4 = pA (n1 + 1) 4 ∧ ρ 5 = pA (n1 + 2) 5 ∧ ρ 8 = v31 ∧ ρ 9 = int link16 ∧ ρ 10 = int r30.1 ∧ ρ 11 = bool r30.2 ∧ H (n1, 3) = some ⟨6, [bC false redex]⟩ ∧ H (n1 + 1, 4) = some ⟨6, [bC false agent]⟩ ∧ H (n1 + 2, 5) = some ⟨2, [mC false m]⟩ ∧ Sep H n [oI v31 l17] [(n1 + 2, 5), (n1 + 1, 4), (n1, 3)]) (by refine ⟨v18, ?_, ?_, ?_, ?_, ?_, ?_, ?_, ?_, ?_, ?_, sp⟩ <;> simp [h3, h4, h5, h8, h9, m3_1, m4_2, m5_3, dc27]) ?_
    clear h3 h4 h5 h8 h9 m3_1 m4_2 m5_3
    rintro ρ H n32 ⟨v31, h3, h4, h5, h8, h9, h10, h11, m3_1, m4_2, m5_3, sp⟩
    refine Runs.seq ?_
    refine Runs.seqE Ty_ok (by decide) fun k' hk' => ?_
    simp [h3, h4, h5, h8, h9, h10, h11, m3_1, m4_2, m5_3, dc27]
    refine hk' _ _ _ ?_
    refine Runs.ite (b := (!r30.2)) (by simp [h3, h4, h5, h8, h9, h10, h11, m3_1, m4_2, m5_3, dc27]) (fun dr30_2 => ?_) (fun dr30_2 => ?_)
    · have dr30_2 : r30.2 = false := by simpa using dr30_2
      replace h := h.2 dr30_2
      refine Runs.seqE Ty_ok (by decide) fun k' hk' => ?_
      simp [h3, h4, h5, h8, h9, h10, h11, m3_1, m4_2, m5_3, dc27, dr30_2]
      refine hk' _ _ _ ?_
      refine Runs.cut (fun ρ H n => ∃ (v34 : AVal), ρ 6 = v34 ∧ ρ 7 = bool false ∧ Sep H n [oI v34 ([] : List Int)] []) (by refine ⟨.arr (n32, 33) 0 0 0, ?_, ?_, (Sep.sub (Sep.dr (Sep.f1 (Sep.addEmpty (l := [.c]) sp))) (by simp +contextual))⟩ <;> simp [h3, h4, h5, h8, h9, h10, h11, m3_1, m4_2, m5_3, dc27, dr30_2]) ?_
      clear h3 h4 h5 h8 h9 h10 h11 m3_1 m4_2 m5_3
      rintro ρ H n35 ⟨v34, h6, h7, sp⟩
      exact Runs.ret2 (v := v34) (w := bool false) Tryz.func49 Tryz.results49 (by simp [h6, h7, dc27, dr30_2]) (by simp [h6, h7, dc27, dr30_2]) (hQ _ _ _ _ (Sep.sub (ids' := []) (Sep.packT (Fill.own (Fill.v _ Fill.nil)) sp) (by simp)) ⟨(([] : List Int), false), h, rfl⟩)
    have dr30_2 : r30.2 = true := by simpa using dr30_2
    replace h := h.1 dr30_2
    refine Runs.skip ?_
    refine Runs.evalE Ty_ok (by decide) fun k' hk' => ?_
    obtain ⟨hb37, h⟩ := h
    obtain ⟨l38, el38⟩ : ∃ v : List Int, v = l17 ++ [r30.1] := ⟨_, rfl⟩
    replace h := h l38 el38
    simp [h3, h4, h5, h8, h9, h10, h11, m3_1, m4_2, m5_3, dc27, dr30_2, -appendF]
    refine bind_append [] [] [[int r30.1]] [intC r30.1] sp kd_24 (by simp) (by simp) (by simp) (by simp [-one1, o1x]) (rows_one (Fill.v _ Fill.nil)) (by simp) (by simpa using hb37) ?_
    rintro v39 H40 n41 sp hfr42 hle43
    replace sp : Sep H40 n41 [oI v39 l38] [(n1 + 2, 5), (n1 + 1, 4), (n1, 3)] := Sep.ap el38 sp
    have m3_1 : H40 (n1, 3) = some ⟨6, [bC false redex]⟩ := (hfr42 _ (by simp)).trans (by simp [h3, h4, h5, h8, h9, h10, h11, m3_1, m4_2, m5_3, Heap.get_set])
    have m4_2 : H40 (n1 + 1, 4) = some ⟨6, [bC false agent]⟩ := (hfr42 _ (by simp)).trans (by simp [h3, h4, h5, h8, h9, h10, h11, m3_1, m4_2, m5_3, Heap.get_set])
    have m5_3 : H40 (n1 + 2, 5) = some ⟨2, [mC false m]⟩ := (hfr42 _ (by simp)).trans (by simp [h3, h4, h5, h8, h9, h10, h11, m3_1, m4_2, m5_3, Heap.get_set])
    simp [h3, h4, h5, h8, h9, h10, h11, m3_1, m4_2, m5_3, dc27, dr30_2]
    refine hk' _ _ _ ?_
    refine Runs.cut (fun ρ H n => ∃ (v45 : AVal), ρ 3 = pA n1 3 ∧ ρ 4 = pA (n1 + 1) 4 ∧ ρ 5 = pA (n1 + 2) 5 ∧ ρ 8 = v45 ∧ ρ 9 = int link16 ∧ H (n1, 3) = some ⟨6, [bC false redex]⟩ ∧ H (n1 + 1, 4) = some ⟨6, [bC false agent]⟩ ∧ H (n1 + 2, 5) = some ⟨2, [mC false m]⟩ ∧ Sep H n [oI v45 l38] [(n1 + 2, 5), (n1 + 1, 4), (n1, 3)]) (by refine ⟨v39, ?_, ?_, ?_, ?_, ?_, ?_, ?_, ?_, sp⟩ <;> simp [h3, h4, h5, h8, h9, h10, h11, m3_1, m4_2, m5_3, dc27, dr30_2]) ?_
    clear h3 h4 h5 h8 h9 h10 h11 m3_1 m4_2 m5_3
    rintro ρ H n46 ⟨v45, h3, h4, h5, h8, h9, m3_1, m4_2, m5_3, sp⟩
    refine Runs.inBlock ?_
    refine Runs.evalE Ty_ok (by decide) fun k' hk' => ?_
    obtain ⟨hb47, h⟩ := h
    obtain ⟨v48, ev48⟩ : ∃ v : Int, v = link16 + 1 := ⟨_, rfl⟩
    replace h := h v48 ev48
    have f49 := ib_add hb47 ev48
    simp [h3, h4, h5, h8, h9, m3_1, m4_2, m5_3, f49, dc27, dr30_2, -intBin]
    refine hk' _ _ _ ?_
    refine IH20 (v48, l38) _ _ _ h (by refine ⟨v45, ?_, ?_, ?_, ?_, ?_, ?_, ?_, ?_, sp⟩ <;> simp [h3, h4, h5, h8, h9, m3_1, m4_2, m5_3, dc27, dr30_2])
  replace h := h.2 dc27
  refine Runs.exit rfl ?_
  refine Runs.seqE Ty_ok (by decide) fun k' hk' => ?_
  simp [h3, h4, h5, h8, h9, m3_1, m4_2, m5_3, dc27]
  refine hk' _ _ _ ?_
  exact Runs.ret2 (v := v18) (w := bool true) Tryz.func49 Tryz.results49 (by simp [h3, h4, h5, h8, h9, m3_1, m4_2, m5_3, dc27]) (by simp [h3, h4, h5, h8, h9, m3_1, m4_2, m5_3, dc27]) (hQ _ _ _ _ (Sep.sub (ids' := []) (Sep.packT (Fill.own (Fill.v _ Fill.nil)) sp) (by simp)) ⟨(l17, true), h, rfl⟩)

theorem l8Links_ok (redex : Big) (agent : Big) (m : Match) (hp : l8Links_pre redex agent m) : OwnS Tryz.prog 49 [.agg (bC false redex), .agg (bC false agent), .agg (mC false m)] (.t [.s [.c], .c]) (fun r => r = .tup [.list true (((l8Links redex agent m).1).map intC), bool ((l8Links redex agent m).2)]) := (l8Links_walk redex agent m _ (l8Links_vc redex agent m hp)).mono (by rintro _ ⟨_, rfl, rfl⟩; rfl)

theorem e33 : Ent Tryz.prog 33 := Ent.of Tryz.func33 (by kernel_rfl) rfl
theorem l8Match_walk (redex : Big) (agent : Big) (m : Match) (Z : Bool → Prop) (h : l8Match_wp redex agent m Z) : PureC Tryz.prog 33 [.agg (bC false redex), .agg (bC false agent), .agg (mC false m)] (fun r => ∃ y : Bool, Z y ∧ r = bool y) := by
  unfold l8Match_wp at h
  refine PureC.of Tryz.func33 rfl Tryz.ntmps33 (by simp) fun Q hQ => ?_
  refine Runs.cut (fun ρ H n => ρ 0 = .agg (bC false redex) ∧ ρ 1 = .agg (bC false agent) ∧ ρ 2 = .agg (mC false m)) (by refine ⟨?_, ?_, ?_⟩ <;> simp ) ?_
  rintro ρ H n1 ⟨h0, h1, h2⟩
  refine Runs.seqE Ty_ok (by decide) fun k' hk' => ?_
  simp [h0, h1, h2]
  refine hk' _ _ _ ?_
  refine Runs.cut (fun ρ H n => ρ 3 = pA n1 3 ∧ ρ 4 = pA (n1 + 1) 4 ∧ ρ 5 = pA (n1 + 2) 5 ∧ H (n1, 3) = some ⟨6, [bC false redex]⟩ ∧ H (n1 + 1, 4) = some ⟨6, [bC false agent]⟩ ∧ H (n1 + 2, 5) = some ⟨2, [mC false m]⟩) (by refine ⟨?_, ?_, ?_, ?_, ?_, ?_⟩ <;> simp [h0, h1, h2]) ?_
  clear h0 h1 h2
  rintro ρ H n5 ⟨h3, h4, h5, m3_1, m4_2, m5_3⟩
  refine Runs.seq ?_
  refine Runs.seqE Ty_ok (by decide) fun k' hk' => ?_
  obtain ⟨J6, hJ7, hr8⟩ := h
  have fin10 : ∀ (sJ : Bool) (ρ : Env) (H : Heap) (n : Nat), J6 sJ → (match sJ with | b9 => ρ 3 = pA n1 3 ∧ ρ 4 = pA (n1 + 1) 4 ∧ ρ 5 = pA (n1 + 2) 5 ∧ ρ 35 = bool b9 ∧ H (n1, 3) = some ⟨6, [bC false redex]⟩ ∧ H (n1 + 1, 4) = some ⟨6, [bC false agent]⟩ ∧ H (n1 + 2, 5) = some ⟨2, [mC false m]⟩) → Runs Tryz.prog 33 44 k' ρ H n Q := by
    rintro b9 ρ H n11 h ⟨h3, h4, h5, h35, m3_1, m4_2, m5_3⟩
    replace h := hr8 _ h
    refine hk' _ _ _ ?_
    refine Runs.ite (b := b9) (by simp [h3, h4, h5, h35, m3_1, m4_2, m5_3]) (fun db9 => ?_) (fun db9 => ?_)
    · replace h := h.1 db9
      refine Runs.seqE Ty_ok (by decide) fun k' hk' => ?_
      simp [h3, h4, h5, h35, m3_1, m4_2, m5_3, db9]
      refine hk' _ _ _ ?_
      exact Runs.ret1 (v := bool false) Tryz.func33 Tryz.results33 (by simp [h3, h4, h5, h35, m3_1, m4_2, m5_3, db9]) (hQ _ _ _ _ (.of (.v _)) ⟨false, h, rfl⟩)
    replace h := h.2 db9
    refine Runs.skip ?_
    refine Runs.seqE Ty_ok (by decide) fun k' hk' => ?_
    obtain ⟨hb12, h⟩ := h
    obtain ⟨r13, er13⟩ : ∃ v : (List Int) × Bool, v = l8Links redex agent m := ⟨_, rfl⟩
    replace h := h r13 er13
    simp [h3, h4, h5, h35, m3_1, m4_2, m5_3, db9]
    refine RunK.callA Ty_ok ((l8Links_ok redex agent m hb12).pure) e49 (.cons (argB false redex) (.cons (argB false agent) (.cons (argM false m) .nil))) (by decide) (by decide) rfl (by simp [h3, h4, h5, h35, m3_1, m4_2, m5_3, db9]) ?_
    rintro _ rfl
    rw [← er13]
    simp [h3, h4, h5, h35, m3_1, m4_2, m5_3, db9]
    refine hk' _ _ _ ?_
    refine Runs.seqE Ty_ok (by decide) fun k' hk' => ?_
    simp [h3, h4, h5, h35, m3_1, m4_2, m5_3, db9]
    refine hk' _ _ _ ?_
    exact Runs.ret1 (v := bool r13.2) Tryz.func33 Tryz.results33 (by simp [h3, h4, h5, h35, m3_1, m4_2, m5_3, db9]) (hQ _ _ _ _ (.of (.v _)) ⟨r13.2, h, rfl⟩)
  replace h := hJ7
  obtain ⟨hb14, h⟩ := h
  obtain ⟨r15, er15⟩ : ∃ v : Bool, v = l8Images redex agent m.nodes := ⟨_, rfl⟩
  replace h := h r15 er15
  simp [h3, h4, h5, m3_1, m4_2, m5_3]
  refine RunK.callA Ty_ok (l8Images_ok redex agent m.nodes hb14) e59 (.cons (argB false redex) (.cons (argB false agent) (.cons (argI false m.nodes) .nil))) (by decide) (by decide) rfl (by simp [h3, h4, h5, m3_1, m4_2, m5_3]) ?_
  rintro _ rfl
  rw [← er15]
  rcases Bool.eq_false_or_eq_true r15 with dr15 | dr15
  · replace h := h.1 dr15
    obtain ⟨hb16, h⟩ := h
    obtain ⟨r17, er17⟩ : ∃ v : Bool, v = l8Places redex agent m := ⟨_, rfl⟩
    replace h := h r17 er17
    simp [h3, h4, h5, m3_1, m4_2, m5_3, dr15]
    refine RunK.callA Ty_ok (l8Places_ok redex agent m hb16) e60 (.cons (argB false redex) (.cons (argB false agent) (.cons (argM false m) .nil))) (by decide) (by decide) rfl (by simp [h3, h4, h5, m3_1, m4_2, m5_3, dr15]) ?_
    rintro _ rfl
    rw [← er17]
    rcases Bool.eq_false_or_eq_true r17 with dr17 | dr17
    · replace h := h.1 dr17
      obtain ⟨hb18, h⟩ := h
      obtain ⟨r19, er19⟩ : ∃ v : Bool, v = l8Parents redex agent m := ⟨_, rfl⟩
      replace h := h r19 er19
      simp [h3, h4, h5, m3_1, m4_2, m5_3, dr15, dr17]
      refine RunK.callA Ty_ok (l8Parents_ok redex agent m hb18) e61 (.cons (argB false redex) (.cons (argB false agent) (.cons (argM false m) .nil))) (by decide) (by decide) rfl (by simp [h3, h4, h5, m3_1, m4_2, m5_3, dr15, dr17]) ?_
      rintro _ rfl
      rw [← er19]
      rcases Bool.eq_false_or_eq_true r19 with dr19 | dr19
      · replace h := h.1 dr19
        obtain ⟨hb20, h⟩ := h
        obtain ⟨r21, er21⟩ : ∃ v : Bool, v = l8Kids redex agent m := ⟨_, rfl⟩
        replace h := h r21 er21
        simp [h3, h4, h5, m3_1, m4_2, m5_3, dr15, dr17, dr19]
        refine RunK.callA Ty_ok (l8Kids_ok redex agent m hb20) e62 (.cons (argB false redex) (.cons (argB false agent) (.cons (argM false m) .nil))) (by decide) (by decide) rfl (by simp [h3, h4, h5, m3_1, m4_2, m5_3, dr15, dr17, dr19]) ?_
        rintro _ rfl
        rw [← er21]
        simp [h3, h4, h5, m3_1, m4_2, m5_3, dr15, dr17, dr19]
        exact fin10 ((!r21)) _ _ _ h (by refine ⟨?_, ?_, ?_, ?_, ?_, ?_, ?_⟩ <;> simp [h3, h4, h5, m3_1, m4_2, m5_3, dr15, dr17, dr19])
      replace h := h.2 dr19
      simp [h3, h4, h5, m3_1, m4_2, m5_3, dr15, dr17, dr19]
      exact fin10 (true) _ _ _ h (by refine ⟨?_, ?_, ?_, ?_, ?_, ?_, ?_⟩ <;> simp [h3, h4, h5, m3_1, m4_2, m5_3, dr15, dr17, dr19])
    replace h := h.2 dr17
    simp [h3, h4, h5, m3_1, m4_2, m5_3, dr15, dr17]
    exact fin10 (true) _ _ _ h (by refine ⟨?_, ?_, ?_, ?_, ?_, ?_, ?_⟩ <;> simp [h3, h4, h5, m3_1, m4_2, m5_3, dr15, dr17])
  replace h := h.2 dr15
  simp [h3, h4, h5, m3_1, m4_2, m5_3, dr15]
  exact fin10 (true) _ _ _ h (by refine ⟨?_, ?_, ?_, ?_, ?_, ?_, ?_⟩ <;> simp [h3, h4, h5, m3_1, m4_2, m5_3, dr15])

theorem l8Match_ok (redex : Big) (agent : Big) (m : Match) (hp : l8Match_pre redex agent m) : PureC Tryz.prog 33 [.agg (bC false redex), .agg (bC false agent), .agg (mC false m)] (fun r => r = bool (l8Match redex agent m)) := (l8Match_walk redex agent m _ (l8Match_vc redex agent m hp)).mono (by rintro _ ⟨_, rfl, rfl⟩; rfl)

theorem e45 : Ent Tryz.prog 45 := Ent.of Tryz.func45 (by kernel_rfl) rfl
theorem l8Given_walk (sig : List Control) (redex : Big) (agent : Big) (m : Match) (Z : Bool → Prop) (h : l8Given_wp sig redex agent m Z) : PureC Tryz.prog 45 [.list false (sig.map Control.cells), .agg (bC false redex), .agg (bC false agent), .agg (mC false m)] (fun r => ∃ y : Bool, Z y ∧ r = bool y) := by
  unfold l8Given_wp at h
  refine PureC.of Tryz.func45 rfl Tryz.ntmps45 (by simp) fun Q hQ => ?_
  refine Runs.cut (fun ρ H n => ρ 0 = .list false (sig.map Control.cells) ∧ ρ 1 = .agg (bC false redex) ∧ ρ 2 = .agg (bC false agent) ∧ ρ 3 = .agg (mC false m)) (by refine ⟨?_, ?_, ?_, ?_⟩ <;> simp ) ?_
  rintro ρ H n1 ⟨h0, h1, h2, h3⟩
  refine Runs.seqE Ty_ok (by decide) fun k' hk' => ?_
  simp [h0, h1, h2, h3]
  refine hk' _ _ _ ?_
  refine Runs.cut (fun ρ H n => ρ 0 = .list false (sig.map Control.cells) ∧ ρ 5 = pA n1 5 ∧ ρ 6 = pA (n1 + 1) 6 ∧ ρ 7 = pA (n1 + 2) 7 ∧ H (n1, 5) = some ⟨6, [bC false redex]⟩ ∧ H (n1 + 1, 6) = some ⟨6, [bC false agent]⟩ ∧ H (n1 + 2, 7) = some ⟨2, [mC false m]⟩) (by refine ⟨?_, ?_, ?_, ?_, ?_, ?_, ?_⟩ <;> simp [h0, h1, h2, h3]) ?_
  clear h0 h1 h2 h3
  rintro ρ H n5 ⟨h0, h5, h6, h7, m5_1, m6_2, m7_3⟩
  refine Runs.seqE Ty_ok (by decide) fun k' hk' => ?_
  obtain ⟨J6, hJ7, hr8⟩ := h
  have fin10 : ∀ (sJ : Bool) (ρ : Env) (H : Heap) (n : Nat), J6 sJ → (match sJ with | b9 => ρ 8 = bool b9) → Runs Tryz.prog 45 19 k' ρ H n Q := by
    rintro b9 ρ H n11 h h8
    replace h := hr8 _ h
    refine hk' _ _ _ ?_
    exact Runs.ret1 (v := bool b9) Tryz.func45 Tryz.results45 (by simp [h8]) (hQ _ _ _ _ (.of (.v _)) ⟨b9, h, rfl⟩)
  replace h := hJ7
  obtain ⟨hb12, h⟩ := h
  obtain ⟨r13, er13⟩ : ∃ v : Bool, v = l8Both sig redex agent := ⟨_, rfl⟩
  replace h := h r13 er13
  simp [h0, h5, h6, h7, m5_1, m6_2, m7_3]
  refine RunK.callA Ty_ok (l8Both_ok sig redex agent hb12) e32 (.cons (argC false sig) (.cons (argB false redex) (.cons (argB false agent) .nil))) (by decide) (by decide) rfl (by simp [h0, h5, h6, h7, m5_1, m6_2, m7_3]) ?_
  rintro _ rfl
  rw [← er13]
  rcases Bool.eq_false_or_eq_true r13 with dr13 | dr13
  · replace h := h.1 dr13
    obtain ⟨hb14, h⟩ := h
    obtain ⟨r15, er15⟩ : ∃ v : Bool, v = l8Match redex agent m := ⟨_, rfl⟩
    replace h := h r15 er15
    simp [h0, h5, h6, h7, m5_1, m6_2, m7_3, dr13]
    refine RunK.callA Ty_ok (l8Match_ok redex agent m hb14) e33 (.cons (argB false redex) (.cons (argB false agent) (.cons (argM false m) .nil))) (by decide) (by decide) rfl (by simp [h0, h5, h6, h7, m5_1, m6_2, m7_3, dr13]) ?_
    rintro _ rfl
    rw [← er15]
    simp [h0, h5, h6, h7, m5_1, m6_2, m7_3, dr13]
    exact fin10 (r15) _ _ _ h (by simp [h0, h5, h6, h7, m5_1, m6_2, m7_3, dr13])
  replace h := h.2 dr13
  simp [h0, h5, h6, h7, m5_1, m6_2, m7_3, dr13]
  exact fin10 (false) _ _ _ h (by simp [h0, h5, h6, h7, m5_1, m6_2, m7_3, dr13])

theorem l8Given_ok (sig : List Control) (redex : Big) (agent : Big) (m : Match) (hp : l8Given_pre sig redex agent m) : PureC Tryz.prog 45 [.list false (sig.map Control.cells), .agg (bC false redex), .agg (bC false agent), .agg (mC false m)] (fun r => r = bool (l8Given sig redex agent m)) := (l8Given_walk sig redex agent m _ (l8Given_vc sig redex agent m hp)).mono (by rintro _ ⟨_, rfl, rfl⟩; rfl)

theorem e77 : Ent Tryz.prog 77 := Ent.of Tryz.func77 (by kernel_rfl) rfl
theorem l8Quiet_walk (sig : List Control) (agent : Big) (place : Int) (Z : Bool → Prop) (h : l8Quiet_wp sig agent place Z) : PureC Tryz.prog 77 [.list false (sig.map Control.cells), .agg (bC false agent), int place] (fun r => ∃ y : Bool, Z y ∧ r = bool y) := by
  unfold l8Quiet_wp at h
  refine PureC.of Tryz.func77 rfl Tryz.ntmps77 (by simp) fun Q hQ => ?_
  refine Runs.cut (fun ρ H n => ρ 0 = .list false (sig.map Control.cells) ∧ ρ 1 = .agg (bC false agent) ∧ ρ 2 = int place) (by refine ⟨?_, ?_, ?_⟩ <;> simp ) ?_
  rintro ρ H n1 ⟨h0, h1, h2⟩
  refine Runs.seqE Ty_ok (by decide) fun k' hk' => ?_
  simp [h0, h1, h2]
  refine hk' _ _ _ ?_
  refine Runs.cut (fun ρ H n => ρ 0 = .list false (sig.map Control.cells) ∧ ρ 2 = int place ∧ ρ 4 = pA n1 4 ∧ H (n1, 4) = some ⟨6, [bC false agent]⟩) (by refine ⟨?_, ?_, ?_, ?_⟩ <;> simp [h0, h1, h2]) ?_
  clear h0 h1 h2
  rintro ρ H n3 ⟨h0, h2, h4, m4_1⟩
  refine Runs.seq ?_
  refine Runs.block ?_
  refine Runs.loopW h (fun (sJ : Int) ρ H n => match sJ with | placeV6 => ρ 0 = .list false (sig.map Control.cells) ∧ ρ 2 = int placeV6 ∧ ρ 4 = pA n1 4 ∧ H (n1, 4) = some ⟨6, [bC false agent]⟩) (by refine ⟨?_, ?_, ?_, ?_⟩ <;> simp [h0, h2, h4, m4_1]) ?_
  clear h0 h2 h4 m4_1
  rintro placeV6 ρ H n7 K h ⟨h0, h2, h4, m4_1⟩ IH8
  refine Runs.seq ?_
  refine Runs.seqE Ty_ok (by decide) fun k' hk' => ?_
  obtain ⟨c10, ec10⟩ : ∃ v : Bool, v = decide (0 ≤ placeV6) := ⟨_, rfl⟩
  replace h := h c10 ec10
  have f11 := ib_geq (k := .i64) ec10
  simp [h0, h2, h4, m4_1, f11, -intBin]
  refine hk' _ _ _ ?_
  refine Runs.ite (b := c10) (by simp [h0, h2, h4, m4_1]) (fun dc10 => ?_) (fun dc10 => ?_)
  · replace h := h.1 dc10
    refine Runs.skip ?_
    refine Runs.block ?_
    refine Runs.seq ?_
    refine Runs.seqE Ty_ok (by decide) fun k' hk' => ?_
    obtain ⟨hb12, h⟩ := h
    obtain ⟨x13, ex13⟩ : ∃ v : GNode, v = at' agent.nodes placeV6 := ⟨_, rfl⟩
    replace h := h x13 ex13
    have f14 := fun H => ix_list (H := H) (fr := false) (f := (GNode.cells false)) (k := .i64) kd_38 (fun _ => rfl) hb12 ex13
    obtain ⟨hb15, h⟩ := h
    obtain ⟨x16, ex16⟩ : ∃ v : Control, v = at' sig x13.control := ⟨_, rfl⟩
    replace h := h x16 ex16
    have f17 := fun H => ix_list (H := H) (fr := false) (f := Control.cells) (k := .i64) kd_36 (fun _ => rfl) hb15 ex16
    obtain ⟨c18, ec18⟩ : ∃ v : Bool, v = decide (x16.kind = 1) := ⟨_, rfl⟩
    replace h := h c18 ec18
    have f19 := ib_eql (k := .i64) ec18
    simp [h0, h2, h4, m4_1, f14, f17, f19, dc10, -indexAddrF, -intBin]
    refine hk' _ _ _ ?_
    refine Runs.ite (b := c18) (by simp [h0, h2, h4, m4_1, dc10]) (fun dc18 => ?_) (fun dc18 => ?_)
    · replace h := h.1 dc18
      refine Runs.seqE Ty_ok (by decide) fun k' hk' => ?_
      simp [h0, h2, h4, m4_1, dc10, dc18]
      refine hk' _ _ _ ?_
      exact Runs.ret1 (v := bool true) Tryz.func77 Tryz.results77 (by simp [h0, h2, h4, m4_1, dc10, dc18]) (hQ _ _ _ _ (.of (.v _)) ⟨true, h, rfl⟩)
    replace h := h.2 dc18
    refine Runs.skip ?_
    refine Runs.evalE Ty_ok (by decide) fun k' hk' => ?_
    obtain ⟨hb20, h⟩ := h
    obtain ⟨x21, ex21⟩ : ∃ v : GNode, v = at' agent.nodes placeV6 := ⟨_, rfl⟩
    replace h := h x21 ex21
    have hq22 := ex13.trans ex21.symm
    subst hq22
    have f23 := fun H => ix_list (H := H) (fr := false) (f := (GNode.cells false)) (k := .i64) kd_38 (fun _ => rfl) hb20 ex13
    simp [h0, h2, h4, m4_1, f23, dc10, dc18, -indexAddrF]
    refine hk' _ _ _ ?_
    refine Runs.cut (fun ρ H n => ρ 0 = .list false (sig.map Control.cells) ∧ ρ 2 = int x13.parent ∧ ρ 4 = pA n1 4 ∧ H (n1, 4) = some ⟨6, [bC false agent]⟩) (by refine ⟨?_, ?_, ?_, ?_⟩ <;> simp [h0, h2, h4, m4_1, f23, dc10, dc18, -indexAddrF]) ?_
    clear h0 h2 h4 m4_1
    rintro ρ H n24 ⟨h0, h2, h4, m4_1⟩
    refine Runs.inBlock ?_
    refine IH8 (x13.parent) _ _ _ h (by refine ⟨?_, ?_, ?_, ?_⟩ <;> simp [h0, h2, h4, m4_1, dc10, dc18])
  replace h := h.2 dc10
  refine Runs.exit rfl ?_
  refine Runs.seqE Ty_ok (by decide) fun k' hk' => ?_
  simp [h0, h2, h4, m4_1, dc10]
  refine hk' _ _ _ ?_
  exact Runs.ret1 (v := bool false) Tryz.func77 Tryz.results77 (by simp [h0, h2, h4, m4_1, dc10]) (hQ _ _ _ _ (.of (.v _)) ⟨false, h, rfl⟩)

theorem l8Quiet_ok (sig : List Control) (agent : Big) (place : Int) (hp : l8Quiet_pre sig agent place) : PureC Tryz.prog 77 [.list false (sig.map Control.cells), .agg (bC false agent), int place] (fun r => r = bool (l8Quiet sig agent place)) := (l8Quiet_walk sig agent place _ (l8Quiet_vc sig agent place hp)).mono (by rintro _ ⟨_, rfl, rfl⟩; rfl)

theorem e46 : Ent Tryz.prog 46 := Ent.of Tryz.func46 (by kernel_rfl) rfl
theorem l8Active_walk (sig : List Control) (agent : Big) (m : Match) (Z : Bool → Prop) (h : l8Active_wp sig agent m Z) : PureC Tryz.prog 46 [.list false (sig.map Control.cells), .agg (bC false agent), .agg (mC false m)] (fun r => ∃ y : Bool, Z y ∧ r = bool y) := by
  unfold l8Active_wp at h
  refine PureC.of Tryz.func46 rfl Tryz.ntmps46 (by simp) fun Q hQ => ?_
  refine Runs.cut (fun ρ H n => ρ 0 = .list false (sig.map Control.cells) ∧ ρ 1 = .agg (bC false agent) ∧ ρ 2 = .agg (mC false m)) (by refine ⟨?_, ?_, ?_⟩ <;> simp ) ?_
  rintro ρ H n1 ⟨h0, h1, h2⟩
  refine Runs.seqE Ty_ok (by decide) fun k' hk' => ?_
  simp [h0, h1, h2]
  refine hk' _ _ _ ?_
  refine Runs.cut (fun ρ H n => ρ 0 = .list false (sig.map Control.cells) ∧ ρ 4 = pA n1 4 ∧ ρ 5 = pA (n1 + 1) 5 ∧ H (n1, 4) = some ⟨6, [bC false agent]⟩ ∧ H (n1 + 1, 5) = some ⟨2, [mC false m]⟩) (by refine ⟨?_, ?_, ?_, ?_, ?_⟩ <;> simp [h0, h1, h2]) ?_
  clear h0 h1 h2
  rintro ρ H n4 ⟨h0, h4, h5, m4_1, m5_2⟩
  refine Runs.seq ?_
  refine Runs.seqE Ty_ok (by decide) fun k' hk' => ?_
  simp [h0, h4, h5, m4_1, m5_2]
  refine hk' _ _ _ ?_
  refine Runs.block ?_
  refine Runs.loopW h (fun (sJ : Int) ρ H n => match sJ with | r7 => ρ 0 = .list false (sig.map Control.cells) ∧ ρ 4 = pA n1 4 ∧ ρ 5 = pA (n1 + 1) 5 ∧ ρ 7 = int r7 ∧ H (n1, 4) = some ⟨6, [bC false agent]⟩ ∧ H (n1 + 1, 5) = some ⟨2, [mC false m]⟩) (by refine ⟨?_, ?_, ?_, ?_, ?_, ?_⟩ <;> simp [h0, h4, h5, m4_1, m5_2]) ?_
  clear h0 h4 h5 m4_1 m5_2
  rintro r7 ρ H n8 K h ⟨h0, h4, h5, h7, m4_1, m5_2⟩ IH9
  refine Runs.seq ?_
  refine Runs.seqE Ty_ok (by decide) fun k' hk' => ?_
  obtain ⟨len11, elen11⟩ : ∃ v : Int, v = (m.roots.length : Int) := ⟨_, rfl⟩
  replace h := h len11 elen11
  have f12 := fun H => len_list (H := H) (fr := false) (f := intC) kd_24 elen11
  obtain ⟨c13, ec13⟩ : ∃ v : Bool, v = decide (r7 < len11) := ⟨_, rfl⟩
  replace h := h c13 ec13
  have f14 := ib_lss (k := .i64) ec13
  simp [h0, h4, h5, h7, m4_1, m5_2, f12, f14, -intBin, -lenF]
  refine hk' _ _ _ ?_
  refine Runs.ite (b := c13) (by simp [h0, h4, h5, h7, m4_1, m5_2]) (fun dc13 => ?_) (fun dc13 => ?_)
  · replace h := h.1 dc13
    refine Runs.skip ?_
    refine Runs.seq ?_
    refine Runs.block ?_
    refine Runs.seqD Ty_ok kindOp_ok draws (by decide) (by kernel_rfl) fun k' hk' => ?_
    obtain ⟨hb15, h⟩ := h
    obtain ⟨x16, ex16⟩ : ∃ v : Int, v = at' m.roots r7 := ⟨_, rfl⟩
    replace h := h x16 ex16
    have f17 := fun H => ix_list (H := H) (fr := false) (f := intC) (k := .i64) kd_24 (fun _ => rfl) hb15 ex16
    obtain ⟨hb18, h⟩ := h
    obtain ⟨r19, er19⟩ : ∃ v : Bool, v = l8Quiet sig agent x16 := ⟨_, rfl⟩
    replace h := h r19 er19
    simp [h0, h4, h5, h7, m4_1, m5_2, f17, dc13, -indexAddrF]
    refine RunDK.callA Ty_ok kindOp_ok (l8Quiet_ok sig agent x16 hb18) e77 (.cons (argC false sig) (.cons (argB false agent) (.cons (.v _ _ _) .nil))) (by decide) rfl (by simp [h0, h4, h5, h7, m4_1, m5_2, f17, dc13, -indexAddrF]) ?_
    rw [← er19]
    simp [h0, h4, h5, h7, m4_1, m5_2, f17, dc13, -indexAddrF]
    refine hk' _ _ _ ?_
    refine Runs.ite (b := r19) (by simp [h0, h4, h5, h7, m4_1, m5_2, dc13]) (fun dr19 => ?_) (fun dr19 => ?_)
    · replace h := h.1 dr19
      refine Runs.seqE Ty_ok (by decide) fun k' hk' => ?_
      simp [h0, h4, h5, h7, m4_1, m5_2, dc13, dr19]
      refine hk' _ _ _ ?_
      exact Runs.ret1 (v := bool false) Tryz.func46 Tryz.results46 (by simp [h0, h4, h5, h7, m4_1, m5_2, dc13, dr19]) (hQ _ _ _ _ (.of (.v _)) ⟨false, h, rfl⟩)
    replace h := h.2 dr19
    refine Runs.skip ?_
    refine Runs.inBlock ?_
    refine Runs.evalE Ty_ok (by decide) fun k' hk' => ?_
    obtain ⟨hb20, h⟩ := h
    obtain ⟨v21, ev21⟩ : ∃ v : Int, v = r7 + 1 := ⟨_, rfl⟩
    replace h := h v21 ev21
    have f22 := ib_add hb20 ev21
    simp [h0, h4, h5, h7, m4_1, m5_2, f22, dc13, dr19, -intBin]
    refine hk' _ _ _ ?_
    refine Runs.cut (fun ρ H n => ρ 0 = .list false (sig.map Control.cells) ∧ ρ 4 = pA n1 4 ∧ ρ 5 = pA (n1 + 1) 5 ∧ ρ 7 = int v21 ∧ H (n1, 4) = some ⟨6, [bC false agent]⟩ ∧ H (n1 + 1, 5) = some ⟨2, [mC false m]⟩) (by refine ⟨?_, ?_, ?_, ?_, ?_, ?_⟩ <;> simp [h0, h4, h5, h7, m4_1, m5_2, f22, dc13, dr19, -intBin]) ?_
    clear h0 h4 h5 h7 m4_1 m5_2
    rintro ρ H n23 ⟨h0, h4, h5, h7, m4_1, m5_2⟩
    refine IH9 (v21) _ _ _ h (by refine ⟨?_, ?_, ?_, ?_, ?_, ?_⟩ <;> simp [h0, h4, h5, h7, m4_1, m5_2, dc13, dr19])
  replace h := h.2 dc13
  refine Runs.exit rfl ?_
  refine Runs.seqE Ty_ok (by decide) fun k' hk' => ?_
  simp [h0, h4, h5, h7, m4_1, m5_2, dc13]
  refine hk' _ _ _ ?_
  exact Runs.ret1 (v := bool true) Tryz.func46 Tryz.results46 (by simp [h0, h4, h5, h7, m4_1, m5_2, dc13]) (hQ _ _ _ _ (.of (.v _)) ⟨true, h, rfl⟩)

theorem l8Active_ok (sig : List Control) (agent : Big) (m : Match) (hp : l8Active_pre sig agent m) : PureC Tryz.prog 46 [.list false (sig.map Control.cells), .agg (bC false agent), .agg (mC false m)] (fun r => r = bool (l8Active sig agent m)) := (l8Active_walk sig agent m _ (l8Active_vc sig agent m hp)).mono (by rintro _ ⟨_, rfl, rfl⟩; rfl)

theorem e17 : Ent Tryz.prog 17 := Ent.of Tryz.func17 (by kernel_rfl) rfl
theorem sIsActiveMatch_walk (sig : List Control) (redex : Big) (agent : Big) (m : Match) (Z : (Bool × Bool) → Prop) (h : sIsActiveMatch_wp sig redex agent m Z) : PureC Tryz.prog 17 [.list false (sig.map Control.cells), .agg (bC false redex), .agg (bC false agent), .agg (mC false m)] (fun r => ∃ y : Bool × Bool, Z y ∧ r = .tup [bool y.1, bool y.2]) := by
  unfold sIsActiveMatch_wp at h
  refine PureC.of Tryz.func17 rfl Tryz.ntmps17 (by simp) fun Q hQ => ?_
  refine Runs.cut (fun ρ H n => ρ 0 = .list false (sig.map Control.cells) ∧ ρ 1 = .agg (bC false redex) ∧ ρ 2 = .agg (bC false agent) ∧ ρ 3 = .agg (mC false m)) (by refine ⟨?_, ?_, ?_, ?_⟩ <;> simp ) ?_
  rintro ρ H n1 ⟨h0, h1, h2, h3⟩
  refine Runs.seqE Ty_ok (by decide) fun k' hk' => ?_
  simp [h0, h1, h2, h3]
  refine hk' _ _ _ ?_
  refine Runs.cut (fun ρ H n => ρ 0 = .list false (sig.map Control.cells) ∧ ρ 5 = pA n1 5 ∧ ρ 6 = pA (n1 + 1) 6 ∧ ρ 7 = pA (n1 + 2) 7 ∧ H (n1, 5) = some ⟨6, [bC false redex]⟩ ∧ H (n1 + 1, 6) = some ⟨6, [bC false agent]⟩ ∧ H (n1 + 2, 7) = some ⟨2, [mC false m]⟩) (by refine ⟨?_, ?_, ?_, ?_, ?_, ?_, ?_⟩ <;> simp [h0, h1, h2, h3]) ?_
  clear h0 h1 h2 h3
  rintro ρ H n5 ⟨h0, h5, h6, h7, m5_1, m6_2, m7_3⟩
  refine Runs.seq ?_
  refine Runs.seqE Ty_ok (by decide) fun k' hk' => ?_
  obtain ⟨hb6, h⟩ := h
  obtain ⟨r7, er7⟩ : ∃ v : Bool, v = l8Given sig redex agent m := ⟨_, rfl⟩
  replace h := h r7 er7
  simp [h0, h5, h6, h7, m5_1, m6_2, m7_3]
  refine RunK.callA Ty_ok (l8Given_ok sig redex agent m hb6) e45 (.cons (argC false sig) (.cons (argB false redex) (.cons (argB false agent) (.cons (argM false m) .nil)))) (by decide) (by decide) rfl (by simp [h0, h5, h6, h7, m5_1, m6_2, m7_3]) ?_
  rintro _ rfl
  rw [← er7]
  simp [h0, h5, h6, h7, m5_1, m6_2, m7_3]
  refine hk' _ _ _ ?_
  refine Runs.ite (b := (!r7)) (by simp [h0, h5, h6, h7, m5_1, m6_2, m7_3]) (fun dr7 => ?_) (fun dr7 => ?_)
  · have dr7 : r7 = false := by simpa using dr7
    replace h := h.2 dr7
    refine Runs.seqE Ty_ok (by decide) fun k' hk' => ?_
    simp [h0, h5, h6, h7, m5_1, m6_2, m7_3, dr7]
    refine hk' _ _ _ ?_
    exact Runs.ret2 (v := bool false) (w := bool false) Tryz.func17 Tryz.results17 (by simp [h0, h5, h6, h7, m5_1, m6_2, m7_3, dr7]) (by simp [h0, h5, h6, h7, m5_1, m6_2, m7_3, dr7]) (hQ _ _ _ _ (.of (.tupL (.cons (.v _) (.cons (.v _) .nil)))) ⟨(false, false), h, rfl⟩)
  have dr7 : r7 = true := by simpa using dr7
  replace h := h.1 dr7
  refine Runs.skip ?_
  refine Runs.seqE Ty_ok (by decide) fun k' hk' => ?_
  obtain ⟨hb8, h⟩ := h
  obtain ⟨r9, er9⟩ : ∃ v : Bool, v = l8Active sig agent m := ⟨_, rfl⟩
  replace h := h r9 er9
  simp [h0, h5, h6, h7, m5_1, m6_2, m7_3, dr7]
  refine RunK.callA Ty_ok (l8Active_ok sig agent m hb8) e46 (.cons (argC false sig) (.cons (argB false agent) (.cons (argM false m) .nil))) (by decide) (by decide) rfl (by simp [h0, h5, h6, h7, m5_1, m6_2, m7_3, dr7]) ?_
  rintro _ rfl
  rw [← er9]
  simp [h0, h5, h6, h7, m5_1, m6_2, m7_3, dr7]
  refine hk' _ _ _ ?_
  exact Runs.ret2 (v := bool r9) (w := bool true) Tryz.func17 Tryz.results17 (by simp [h0, h5, h6, h7, m5_1, m6_2, m7_3, dr7]) (by simp [h0, h5, h6, h7, m5_1, m6_2, m7_3, dr7]) (hQ _ _ _ _ (.of (.tupL (.cons (.v _) (.cons (.v _) .nil)))) ⟨(r9, true), h, rfl⟩)

theorem sIsActiveMatch_ok (sig : List Control) (redex : Big) (agent : Big) (m : Match) (hp : sIsActiveMatch_pre sig redex agent m) : PureC Tryz.prog 17 [.list false (sig.map Control.cells), .agg (bC false redex), .agg (bC false agent), .agg (mC false m)] (fun r => r = .tup [bool ((sIsActiveMatch sig redex agent m).1), bool ((sIsActiveMatch sig redex agent m).2)]) := (sIsActiveMatch_walk sig redex agent m _ (sIsActiveMatch_vc sig redex agent m hp)).mono (by rintro _ ⟨_, rfl, rfl⟩; rfl)
end Go.Ab.Vg

/- What walks by program lean on: the text of a mark, and nested slices handed over. -/
namespace Go.Ab.Vg
open Go.Proofs
end Go.Ab.Vg
