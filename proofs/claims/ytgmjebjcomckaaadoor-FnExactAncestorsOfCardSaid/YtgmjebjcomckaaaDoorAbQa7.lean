/- Merged texts (7 of 10) of the proof that ends in Ly: Lmw. -/
import Derived.Test.YtgmjebjcomckaaaDoorAbQa6
/- Walks by program for YtgmjebjcomckaaaDoorAbLm. -/
namespace Go.Ab.Vg
open Go.Proofs
set_option linter.unusedSimpArgs false
set_option linter.unusedVariables false
theorem e92 : Ent Tryd.prog 92 := Ent.of Tryd.func92 (by kernel_rfl) rfl
theorem toIntS_walk (a : List Int) (Z : (List Int) → Prop) (h : toIntS_wp a Z) : OwnS Tryd.prog 92 [.list false (a.map intC)] (.s [.c]) (fun r => ∃ y : List Int, Z y ∧ r = .list true (y.map intC)) := by
  unfold toIntS_wp at h
  have sp : Sep noHeap 0 [] [] := Sep.nil (by simp)
  refine OwnS.of Tryd.func92 rfl Tryd.ntmps92 (by simp) fun Q hQ => ?_
  refine Runs.cut (fun ρ H n => ρ 0 = .list false (a.map intC) ∧ Sep H n [] []) (by refine ⟨?_, sp⟩ <;> simp [intC]) ?_
  rintro ρ H n1 ⟨h0, sp⟩
  refine Runs.seqE Ty_ok (by decide) fun k' hk' => ?_
  simp [h0, intC]
  refine hk' _ _ _ ?_
  refine Runs.seqE Ty_ok (by decide) fun k' hk' => ?_
  obtain ⟨len2, elen2⟩ : ∃ v : Int, v = (a.length : Int) := ⟨_, rfl⟩
  replace h := h len2 elen2
  have f3 := fun H => len_list (H := H) (fr := false) (f := intC) kd_47 elen2
  obtain ⟨hb4, h⟩ := h
  obtain ⟨l5, el5⟩ : ∃ v : List Int, v = List.replicate len2.toNat default := ⟨_, rfl⟩
  replace h := h l5 el5
  simp [h0, f3, hb4, el5, intC, -lenF]
  refine hk' _ _ _ ?_
  refine Runs.cut (fun ρ H n => ∃ (v7 : AVal), ρ 0 = .list false (a.map intC) ∧ ρ 3 = v7 ∧ Sep H n [(.s [.c], v7, .list true (l5.map intC))] []) (by refine ⟨.arr (n1, 7) len2.toNat 0 len2.toNat, ?_, ?_, (by rw [el5]; exact Sep.addRep (z := [int 0]) (f := intC) (k := len2.toNat) sp (fun H => by show Row H [.c] [int 0] [int 0] []; simp [Row, Tr]))⟩ <;> simp [h0, f3, hb4, el5, intC, -lenF]) ?_
  clear h0
  rintro ρ H n8 ⟨v7, h0, h3, sp⟩
  refine Runs.seq ?_
  refine Runs.seqE Ty_ok (by decide) fun k' hk' => ?_
  simp [h0, h3, intC]
  refine hk' _ _ _ ?_
  refine Runs.block ?_
  refine Runs.loopW h (fun (s : Int × (List Int)) ρ H n => match s with | (i16, l17) => ∃ (v18 : AVal), ρ 0 = .list false (a.map intC) ∧ ρ 3 = v18 ∧ ρ 4 = int i16 ∧ Sep H n [(.s [.c], v18, .list true (l17.map intC))] []) (by refine ⟨v7, ?_, ?_, ?_, sp⟩ <;> simp [h0, h3, intC]) ?_
  clear h0 h3
  rintro ⟨i16, l17⟩ ρ H n19 K h ⟨v18, h0, h3, h4, sp⟩ IH
  refine Runs.seq ?_
  refine Runs.seqE Ty_ok (by decide) fun k' hk' => ?_
  obtain ⟨len21, elen21⟩ : ∃ v : Int, v = (a.length : Int) := ⟨_, rfl⟩
  replace h := h len21 elen21
  have f22 := fun H => len_list (H := H) (fr := false) (f := intC) kd_47 elen21
  obtain ⟨c23, ec23⟩ : ∃ v : Bool, v = decide (i16 < len21) := ⟨_, rfl⟩
  replace h := h c23 ec23
  have f24 := ib_lss (k := .i64) ec23
  simp [h0, h3, h4, f22, f24, intC, -intBin, -lenF]
  refine hk' _ _ _ ?_
  refine Runs.ite (b := c23) (by simp [h0, h3, h4, intC]) (fun dc23 => ?_) (fun dc23 => ?_)
  · replace h := h.1 dc23
    refine Runs.skip ?_
    refine Runs.seq ?_
    refine Runs.block ?_
    refine Runs.evalE Ty_ok (by decide) fun k' hk' => ?_
    obtain ⟨hb25, h⟩ := h
    obtain ⟨x26, ex26⟩ : ∃ v : Int, v = at' a i16 := ⟨_, rfl⟩
    replace h := h x26 ex26
    have f27 := fun H => ix_list (H := H) (fr := false) (f := intC) (k := .i64) kd_47 (fun _ => rfl) hb25 ex26
    obtain ⟨hb28, h⟩ := h
    obtain ⟨id29, hv, mo30, ln31, ni32⟩ := Sep.openF sp (by simp) hb28
    subst hv
    obtain ⟨x33, ex33⟩ : ∃ v : Int, v = at' l17 i16 := ⟨_, rfl⟩
    replace h := h x33 ex33
    have f34 := fun H (hm : H id29 = some ⟨1, l17.map intC⟩) => ix_arr (H := H) (k := .i64) (off := 0) (len := l17.length) (g := l17.length) kd_47 hm (by simp) rfl hb28
    have f35 := at_some (q := i16.toNat) hb28 ex33 rfl
    obtain ⟨l36, el36⟩ : ∃ v : List Int, v = l17.set i16.toNat x26 := ⟨_, rfl⟩
    replace h := h l36 el36
    simp [h0, h3, h4, mo30, f27, f34, f35, dc23, intC, -indexAddrF, -storeF]
    refine bind_store (q := i16.toNat) (news := intC x26) [] [] sp (by simp) (by simp; omega) (by simp) (by simp [-one1, o1_int, o1_bool, o1_str, o1_nil, o1_list, o1_arr, o1_ptr]) (Fill.v _ Fill.nil) ?_
    rintro H37 sp hfr38
    replace sp : Sep H37 n19 [(.s [.c], .arr id29 l17.length 0 l17.length, .list true (l36.map intC))] [] := by rw [el36, List.map_set]; exact sp
    simp [h0, h3, h4, f27, f34, f35, dc23, intC, -indexAddrF]
    refine hk' _ _ _ ?_
    refine Runs.cut (fun ρ H n => ∃ (v39 : AVal), ρ 0 = .list false (a.map intC) ∧ ρ 3 = v39 ∧ ρ 4 = int i16 ∧ Sep H n [(.s [.c], v39, .list true (l36.map intC))] []) (by refine ⟨.arr id29 l17.length 0 l17.length, ?_, ?_, ?_, sp⟩ <;> simp [h0, h3, h4, f27, f34, f35, dc23, intC, -indexAddrF]) ?_
    clear h0 h3 h4
    rintro ρ H n40 ⟨v39, h0, h3, h4, sp⟩
    refine Runs.inBlock ?_
    refine Runs.evalE Ty_ok (by decide) fun k' hk' => ?_
    obtain ⟨hb41, h⟩ := h
    obtain ⟨v42, ev42⟩ : ∃ v : Int, v = i16 + 1 := ⟨_, rfl⟩
    replace h := h v42 ev42
    have f43 := ib_add hb41 ev42
    simp [h0, h3, h4, f43, dc23, intC, -intBin]
    refine hk' _ _ _ ?_
    refine IH (v42, l36) _ _ _ h (by refine ⟨v39, ?_, ?_, ?_, sp⟩ <;> simp [h0, h3, h4, dc23, intC])
  · replace h := h.2 dc23
    refine Runs.exit rfl ?_
    refine Runs.seqE Ty_ok (by decide) fun k' hk' => ?_
    simp [h0, h3, h4, dc23, intC]
    refine hk' _ _ _ ?_
    exact Runs.ret1 (v := v18) Tryd.func92 Tryd.results92 (by simp [h0, h3, h4, dc23, intC]) (hQ _ _ _ _ (Sep.sub (ids' := []) sp (by simp)) ⟨l17, h, rfl⟩)

theorem toIntS_ok (a : List Int) (hp : toIntS_pre a) : OwnS Tryd.prog 92 [.list false (a.map intC)] (.s [.c]) (fun r => r = .list true ((toIntS a).map intC)) := (toIntS_walk a _ (toIntS_vc a hp)).mono (by rintro _ ⟨_, rfl, rfl⟩; rfl)

theorem e93 : Ent Tryd.prog 93 := Ent.of Tryd.func93 (by kernel_rfl) rfl
theorem toStringS_walk (a : List Str) (Z : (List Str) → Prop) (h : toStringS_wp a Z) : OwnS Tryd.prog 93 [.list false (a.map strC)] (.s [.c]) (fun r => ∃ y : List Str, Z y ∧ r = .list true (y.map strC)) := by
  unfold toStringS_wp at h
  have sp : Sep noHeap 0 [] [] := Sep.nil (by simp)
  refine OwnS.of Tryd.func93 rfl Tryd.ntmps93 (by simp) fun Q hQ => ?_
  refine Runs.cut (fun ρ H n => ρ 0 = .list false (a.map strC) ∧ Sep H n [] []) (by refine ⟨?_, sp⟩ <;> simp [strC]) ?_
  rintro ρ H n1 ⟨h0, sp⟩
  refine Runs.seqE Ty_ok (by decide) fun k' hk' => ?_
  simp [h0, strC]
  refine hk' _ _ _ ?_
  refine Runs.seqE Ty_ok (by decide) fun k' hk' => ?_
  obtain ⟨len2, elen2⟩ : ∃ v : Int, v = (a.length : Int) := ⟨_, rfl⟩
  replace h := h len2 elen2
  have f3 := fun H => len_list (H := H) (fr := false) (f := strC) kd_48 elen2
  obtain ⟨hb4, h⟩ := h
  obtain ⟨l5, el5⟩ : ∃ v : List Str, v = List.replicate len2.toNat default := ⟨_, rfl⟩
  replace h := h l5 el5
  simp [h0, f3, hb4, el5, strC, -lenF]
  refine hk' _ _ _ ?_
  refine Runs.cut (fun ρ H n => ∃ (v7 : AVal), ρ 0 = .list false (a.map strC) ∧ ρ 3 = v7 ∧ Sep H n [(.s [.c], v7, .list true (l5.map strC))] []) (by refine ⟨.arr (n1, 7) len2.toNat 0 len2.toNat, ?_, ?_, (by rw [el5]; exact Sep.addRep (z := [str []]) (f := strC) (k := len2.toNat) sp (fun H => by show Row H [.c] [str []] [str []] []; simp [Row, Tr]))⟩ <;> simp [h0, f3, hb4, el5, strC, -lenF]) ?_
  clear h0
  rintro ρ H n8 ⟨v7, h0, h3, sp⟩
  refine Runs.seq ?_
  refine Runs.seqE Ty_ok (by decide) fun k' hk' => ?_
  simp [h0, h3, strC]
  refine hk' _ _ _ ?_
  refine Runs.block ?_
  refine Runs.loopW h (fun (s : Int × (List Str)) ρ H n => match s with | (i16, l17) => ∃ (v18 : AVal), ρ 0 = .list false (a.map strC) ∧ ρ 3 = v18 ∧ ρ 4 = int i16 ∧ Sep H n [(.s [.c], v18, .list true (l17.map strC))] []) (by refine ⟨v7, ?_, ?_, ?_, sp⟩ <;> simp [h0, h3, strC]) ?_
  clear h0 h3
  rintro ⟨i16, l17⟩ ρ H n19 K h ⟨v18, h0, h3, h4, sp⟩ IH
  refine Runs.seq ?_
  refine Runs.seqE Ty_ok (by decide) fun k' hk' => ?_
  obtain ⟨len21, elen21⟩ : ∃ v : Int, v = (a.length : Int) := ⟨_, rfl⟩
  replace h := h len21 elen21
  have f22 := fun H => len_list (H := H) (fr := false) (f := strC) kd_48 elen21
  obtain ⟨c23, ec23⟩ : ∃ v : Bool, v = decide (i16 < len21) := ⟨_, rfl⟩
  replace h := h c23 ec23
  have f24 := ib_lss (k := .i64) ec23
  simp [h0, h3, h4, f22, f24, strC, -intBin, -lenF]
  refine hk' _ _ _ ?_
  refine Runs.ite (b := c23) (by simp [h0, h3, h4, strC]) (fun dc23 => ?_) (fun dc23 => ?_)
  · replace h := h.1 dc23
    refine Runs.skip ?_
    refine Runs.seq ?_
    refine Runs.block ?_
    refine Runs.evalE Ty_ok (by decide) fun k' hk' => ?_
    obtain ⟨hb25, h⟩ := h
    obtain ⟨x26, ex26⟩ : ∃ v : Str, v = at' a i16 := ⟨_, rfl⟩
    replace h := h x26 ex26
    have f27 := fun H => ix_list (H := H) (fr := false) (f := strC) (k := .i64) kd_48 (fun _ => rfl) hb25 ex26
    obtain ⟨hb28, h⟩ := h
    obtain ⟨id29, hv, mo30, ln31, ni32⟩ := Sep.openF sp (by simp) hb28
    subst hv
    obtain ⟨x33, ex33⟩ : ∃ v : Str, v = at' l17 i16 := ⟨_, rfl⟩
    replace h := h x33 ex33
    have f34 := fun H (hm : H id29 = some ⟨1, l17.map strC⟩) => ix_arr (H := H) (k := .i64) (off := 0) (len := l17.length) (g := l17.length) kd_48 hm (by simp) rfl hb28
    have f35 := at_some (q := i16.toNat) hb28 ex33 rfl
    obtain ⟨l36, el36⟩ : ∃ v : List Str, v = l17.set i16.toNat x26 := ⟨_, rfl⟩
    replace h := h l36 el36
    simp [h0, h3, h4, mo30, f27, f34, f35, dc23, strC, -indexAddrF, -storeF]
    refine bind_store (q := i16.toNat) (news := strC x26) [] [] sp (by simp) (by simp; omega) (by simp) (by simp [-one1, o1_int, o1_bool, o1_str, o1_nil, o1_list, o1_arr, o1_ptr]) (Fill.v _ Fill.nil) ?_
    rintro H37 sp hfr38
    replace sp : Sep H37 n19 [(.s [.c], .arr id29 l17.length 0 l17.length, .list true (l36.map strC))] [] := by rw [el36, List.map_set]; exact sp
    simp [h0, h3, h4, f27, f34, f35, dc23, strC, -indexAddrF]
    refine hk' _ _ _ ?_
    refine Runs.cut (fun ρ H n => ∃ (v39 : AVal), ρ 0 = .list false (a.map strC) ∧ ρ 3 = v39 ∧ ρ 4 = int i16 ∧ Sep H n [(.s [.c], v39, .list true (l36.map strC))] []) (by refine ⟨.arr id29 l17.length 0 l17.length, ?_, ?_, ?_, sp⟩ <;> simp [h0, h3, h4, f27, f34, f35, dc23, strC, -indexAddrF]) ?_
    clear h0 h3 h4
    rintro ρ H n40 ⟨v39, h0, h3, h4, sp⟩
    refine Runs.inBlock ?_
    refine Runs.evalE Ty_ok (by decide) fun k' hk' => ?_
    obtain ⟨hb41, h⟩ := h
    obtain ⟨v42, ev42⟩ : ∃ v : Int, v = i16 + 1 := ⟨_, rfl⟩
    replace h := h v42 ev42
    have f43 := ib_add hb41 ev42
    simp [h0, h3, h4, f43, dc23, strC, -intBin]
    refine hk' _ _ _ ?_
    refine IH (v42, l36) _ _ _ h (by refine ⟨v39, ?_, ?_, ?_, sp⟩ <;> simp [h0, h3, h4, dc23, strC])
  · replace h := h.2 dc23
    refine Runs.exit rfl ?_
    refine Runs.seqE Ty_ok (by decide) fun k' hk' => ?_
    simp [h0, h3, h4, dc23, strC]
    refine hk' _ _ _ ?_
    exact Runs.ret1 (v := v18) Tryd.func93 Tryd.results93 (by simp [h0, h3, h4, dc23, strC]) (hQ _ _ _ _ (Sep.sub (ids' := []) sp (by simp)) ⟨l17, h, rfl⟩)

theorem toStringS_ok (a : List Str) (hp : toStringS_pre a) : OwnS Tryd.prog 93 [.list false (a.map strC)] (.s [.c]) (fun r => r = .list true ((toStringS a).map strC)) := (toStringS_walk a _ (toStringS_vc a hp)).mono (by rintro _ ⟨_, rfl, rfl⟩; rfl)

theorem e90 : Ent Tryd.prog 90 := Ent.of Tryd.func90 (by kernel_rfl) rfl
theorem toControl_walk (a : Control) (Z : Control → Prop) (h : toControl_wp a Z) : PureC Tryd.prog 90 [.agg [str a.name, int a.ports, int a.kind]] (fun r => ∃ y : Control, Z y ∧ r = .agg [str y.name, int y.ports, int y.kind]) := by
  unfold toControl_wp at h
  refine PureC.of Tryd.func90 rfl Tryd.ntmps90 (by simp) fun Q hQ => ?_
  refine Runs.cut (fun ρ H n => ρ 0 = .agg [str a.name, int a.ports, int a.kind]) (by simp []) ?_
  rintro ρ H n1 h0
  refine Runs.seqE Ty_ok (by decide) fun k' hk' => ?_
  simp [h0]
  refine hk' _ _ _ ?_
  refine Runs.cut (fun ρ H n => ρ 1 = .ptr (n1, 1) 1 0 0 ∧ ρ 2 = .ptr (n1 + 1, 2) 1 0 0 ∧ H (n1, 1) = some ⟨3, [[str a.name, int a.ports, int a.kind]]⟩ ∧ H (n1 + 1, 2) = some ⟨3, [[str [], int 0, int 0]]⟩) (by refine ⟨?_, ?_, ?_, ?_⟩ <;> simp [h0]) ?_
  clear h0
  rintro ρ H n4 ⟨h1, h2, m1_1, m2_2⟩
  refine Runs.seqE Ty_ok (by decide) fun k' hk' => ?_
  simp [h1, h2, m1_1, m2_2]
  refine hk' _ _ _ ?_
  refine Runs.cut (fun ρ H n => ρ 1 = .ptr (n1, 1) 1 0 0 ∧ ρ 2 = .ptr (n1 + 1, 2) 1 0 0 ∧ ρ 3 = .ptr (n4, 3) 1 0 0 ∧ H (n1, 1) = some ⟨3, [[str a.name, int a.ports, int a.kind]]⟩ ∧ H (n1 + 1, 2) = some ⟨3, [[str [], int 0, int 0]]⟩ ∧ H (n4, 3) = some ⟨3, [[str [], int 0, int 0]]⟩) (by refine ⟨?_, ?_, ?_, ?_, ?_, ?_⟩ <;> simp [h1, h2, m1_1, m2_2]) ?_
  clear h1 h2 m1_1 m2_2
  rintro ρ H n6 ⟨h1, h2, h3, m1_1, m2_2, m3_4⟩
  refine Runs.seqE Ty_ok (by decide) fun k' hk' => ?_
  simp [h1, h2, h3, m1_1, m2_2, m3_4]
  refine hk' _ _ _ ?_
  refine Runs.cut (fun ρ H n => ρ 1 = .ptr (n1, 1) 1 0 0 ∧ ρ 2 = .ptr (n1 + 1, 2) 1 0 0 ∧ ρ 3 = .ptr (n4, 3) 1 0 0 ∧ H (n1, 1) = some ⟨3, [[str a.name, int a.ports, int a.kind]]⟩ ∧ H (n1 + 1, 2) = some ⟨3, [[str [], int 0, int 0]]⟩ ∧ H (n4, 3) = some ⟨3, [[str a.name, int 0, int 0]]⟩) (by refine ⟨?_, ?_, ?_, ?_, ?_, ?_⟩ <;> simp [h1, h2, h3, m1_1, m2_2, m3_4]) ?_
  clear h1 h2 h3 m1_1 m2_2 m3_4
  rintro ρ H n7 ⟨h1, h2, h3, m1_1, m2_2, m3_4⟩
  refine Runs.seqE Ty_ok (by decide) fun k' hk' => ?_
  simp [h1, h2, h3, m1_1, m2_2, m3_4]
  refine hk' _ _ _ ?_
  refine Runs.cut (fun ρ H n => ρ 1 = .ptr (n1, 1) 1 0 0 ∧ ρ 2 = .ptr (n1 + 1, 2) 1 0 0 ∧ ρ 3 = .ptr (n4, 3) 1 0 0 ∧ H (n1, 1) = some ⟨3, [[str a.name, int a.ports, int a.kind]]⟩ ∧ H (n1 + 1, 2) = some ⟨3, [[str [], int 0, int 0]]⟩ ∧ H (n4, 3) = some ⟨3, [[str a.name, int a.ports, int 0]]⟩) (by refine ⟨?_, ?_, ?_, ?_, ?_, ?_⟩ <;> simp [h1, h2, h3, m1_1, m2_2, m3_4]) ?_
  clear h1 h2 h3 m1_1 m2_2 m3_4
  rintro ρ H n8 ⟨h1, h2, h3, m1_1, m2_2, m3_4⟩
  refine Runs.seqE Ty_ok (by decide) fun k' hk' => ?_
  simp [h1, h2, h3, m1_1, m2_2, m3_4]
  refine hk' _ _ _ ?_
  refine Runs.cut (fun ρ H n => ρ 2 = .ptr (n1 + 1, 2) 1 0 0 ∧ ρ 3 = .ptr (n4, 3) 1 0 0 ∧ H (n1 + 1, 2) = some ⟨3, [[str [], int 0, int 0]]⟩ ∧ H (n4, 3) = some ⟨3, [[str a.name, int a.ports, int a.kind]]⟩) (by refine ⟨?_, ?_, ?_, ?_⟩ <;> simp [h1, h2, h3, m1_1, m2_2, m3_4]) ?_
  clear h1 h2 h3 m1_1 m2_2 m3_4
  rintro ρ H n9 ⟨h2, h3, m2_2, m3_4⟩
  refine Runs.seqE Ty_ok (by decide) fun k' hk' => ?_
  simp [h2, h3, m2_2, m3_4]
  refine hk' _ _ _ ?_
  refine Runs.cut (fun ρ H n => ρ 2 = .ptr (n1 + 1, 2) 1 0 0 ∧ H (n1 + 1, 2) = some ⟨3, [[str a.name, int a.ports, int a.kind]]⟩) (by refine ⟨?_, ?_⟩ <;> simp [h2, h3, m2_2, m3_4]) ?_
  clear h2 h3 m2_2 m3_4
  rintro ρ H n10 ⟨h2, m2_2⟩
  exact Runs.res1 Ty_ok (v := .agg [str a.name, int a.ports, int a.kind]) Tryd.func90 Tryd.results90 (by simp [h2, m2_2, resA]) (hQ _ _ _ _ (.of (.aggL (.cons (.v _) (.cons (.v _) (.cons (.v _) .nil))))) ⟨a, h, rfl⟩)

theorem toControl_ok (a : Control)  : PureC Tryd.prog 90 [.agg [str a.name, int a.ports, int a.kind]] (fun r => r = .agg [str ((toControl a).name), int ((toControl a).ports), int ((toControl a).kind)]) := (toControl_walk a _ (toControl_vc a )).mono (by rintro _ ⟨_, rfl, rfl⟩; rfl)

theorem e36 : Ent Tryd.prog 36 := Ent.of Tryd.func36 (by kernel_rfl) rfl
theorem toControlS_walk (a : List Control) (Z : (List Control) → Prop) (h : toControlS_wp a Z) : OwnS Tryd.prog 36 [.list false (a.map Control.cells)] (.s [.c, .c, .c]) (fun r => ∃ y : List Control, Z y ∧ r = .list true (y.map Control.cells)) := by
  unfold toControlS_wp at h
  have sp : Sep noHeap 0 [] [] := Sep.nil (by simp)
  refine OwnS.of Tryd.func36 rfl Tryd.ntmps36 (by simp) fun Q hQ => ?_
  refine Runs.cut (fun ρ H n => ρ 0 = .list false (a.map Control.cells) ∧ Sep H n [] []) (by refine ⟨?_, sp⟩ <;> simp [Control.cells, intC, strC]) ?_
  rintro ρ H n1 ⟨h0, sp⟩
  refine Runs.seqE Ty_ok (by decide) fun k' hk' => ?_
  simp [h0, Control.cells, intC, strC]
  refine hk' _ _ _ ?_
  refine Runs.seqE Ty_ok (by decide) fun k' hk' => ?_
  obtain ⟨len2, elen2⟩ : ∃ v : Int, v = (a.length : Int) := ⟨_, rfl⟩
  replace h := h len2 elen2
  have f3 := fun H => len_list (H := H) (fr := false) (f := Control.cells) kd_65 elen2
  obtain ⟨hb4, h⟩ := h
  obtain ⟨l5, el5⟩ : ∃ v : List Control, v = List.replicate len2.toNat default := ⟨_, rfl⟩
  replace h := h l5 el5
  simp [h0, f3, hb4, el5, Control.cells, intC, strC, -lenF]
  refine hk' _ _ _ ?_
  refine Runs.cut (fun ρ H n => ∃ (v7 : AVal), ρ 0 = .list false (a.map Control.cells) ∧ ρ 3 = v7 ∧ Sep H n [(.s [.c, .c, .c], v7, .list true (l5.map Control.cells))] []) (by refine ⟨.arr (n1, 7) len2.toNat 0 len2.toNat, ?_, ?_, (by rw [el5]; exact Sep.addRep (z := [str [], int 0, int 0]) (f := Control.cells) (k := len2.toNat) sp (fun H => by show Row H [.c, .c, .c] [str [], int 0, int 0] [str [], int 0, int 0] []; simp [Row, Tr]))⟩ <;> simp [h0, f3, hb4, el5, Control.cells, intC, strC, -lenF]) ?_
  clear h0
  rintro ρ H n8 ⟨v7, h0, h3, sp⟩
  refine Runs.seq ?_
  refine Runs.seqE Ty_ok (by decide) fun k' hk' => ?_
  simp [h0, h3, Control.cells, intC, strC]
  refine hk' _ _ _ ?_
  refine Runs.block ?_
  refine Runs.loopW h (fun (s : Int × (List Control)) ρ H n => match s with | (i16, l17) => ∃ (v18 : AVal), ρ 0 = .list false (a.map Control.cells) ∧ ρ 3 = v18 ∧ ρ 4 = int i16 ∧ Sep H n [(.s [.c, .c, .c], v18, .list true (l17.map Control.cells))] []) (by refine ⟨v7, ?_, ?_, ?_, sp⟩ <;> simp [h0, h3, Control.cells, intC, strC]) ?_
  clear h0 h3
  rintro ⟨i16, l17⟩ ρ H n19 K h ⟨v18, h0, h3, h4, sp⟩ IH
  refine Runs.seq ?_
  refine Runs.seqE Ty_ok (by decide) fun k' hk' => ?_
  obtain ⟨len21, elen21⟩ : ∃ v : Int, v = (a.length : Int) := ⟨_, rfl⟩
  replace h := h len21 elen21
  have f22 := fun H => len_list (H := H) (fr := false) (f := Control.cells) kd_65 elen21
  obtain ⟨c23, ec23⟩ : ∃ v : Bool, v = decide (i16 < len21) := ⟨_, rfl⟩
  replace h := h c23 ec23
  have f24 := ib_lss (k := .i64) ec23
  simp [h0, h3, h4, f22, f24, Control.cells, intC, strC, -intBin, -lenF]
  refine hk' _ _ _ ?_
  refine Runs.ite (b := c23) (by simp [h0, h3, h4, Control.cells, intC, strC]) (fun dc23 => ?_) (fun dc23 => ?_)
  · replace h := h.1 dc23
    refine Runs.skip ?_
    refine Runs.seq ?_
    refine Runs.block ?_
    refine Runs.evalE Ty_ok (by decide) fun k' hk' => ?_
    obtain ⟨hb25, h⟩ := h
    obtain ⟨x26, ex26⟩ : ∃ v : Control, v = at' a i16 := ⟨_, rfl⟩
    replace h := h x26 ex26
    have f27 := fun H => ix_list (H := H) (fr := false) (f := Control.cells) (k := .i64) kd_65 (fun _ => rfl) hb25 ex26
    obtain ⟨r28, er28⟩ : ∃ v : Control, v = toControl x26 := ⟨_, rfl⟩
    replace h := h r28 er28
    simp [h0, h3, h4, f27, dc23, Control.cells, intC, strC, -indexAddrF]
    refine RunK.callA Ty_ok (toControl_ok x26 ) e90 (.cons (ArgOk.agg (.cons (.v _ _ _) (.cons (.v _ _ _) (.cons (.v _ _ _) .nil)))) .nil) (by decide) (by decide) rfl (by simp [h0, h3, h4, f27, dc23, Control.cells, intC, strC, -indexAddrF]) ?_
    rintro _ rfl
    rw [← er28]
    obtain ⟨hb29, h⟩ := h
    obtain ⟨id30, hv, mo31, ln32, ni33⟩ := Sep.openF sp (by simp) hb29
    subst hv
    obtain ⟨x34, ex34⟩ : ∃ v : Control, v = at' l17 i16 := ⟨_, rfl⟩
    replace h := h x34 ex34
    have f35 := fun H (hm : H id30 = some ⟨3, l17.map Control.cells⟩) => ix_arr (H := H) (k := .i64) (off := 0) (len := l17.length) (g := l17.length) kd_45 hm (by simp) rfl hb29
    have f36 := at_some (q := i16.toNat) hb29 ex34 rfl
    obtain ⟨l37, el37⟩ : ∃ v : List Control, v = l17.set i16.toNat r28 := ⟨_, rfl⟩
    replace h := h l37 el37
    simp [h0, h3, h4, mo31, f27, f35, f36, dc23, Control.cells, intC, strC, -indexAddrF, -storeF]
    refine bind_store (q := i16.toNat) (news := Control.cells r28) [] [] sp (by simp) (by simp; omega) (by simp) (by simp [-one1, o1_int, o1_bool, o1_str, o1_nil, o1_list, o1_arr, o1_ptr]) (Fill.v _ (Fill.v _ (Fill.v _ Fill.nil))) ?_
    rintro H38 sp hfr39
    replace sp : Sep H38 n19 [(.s [.c, .c, .c], .arr id30 l17.length 0 l17.length, .list true (l37.map Control.cells))] [] := by rw [el37, List.map_set]; exact sp
    simp [h0, h3, h4, f27, f35, f36, dc23, Control.cells, intC, strC, -indexAddrF]
    refine hk' _ _ _ ?_
    refine Runs.cut (fun ρ H n => ∃ (v40 : AVal), ρ 0 = .list false (a.map Control.cells) ∧ ρ 3 = v40 ∧ ρ 4 = int i16 ∧ Sep H n [(.s [.c, .c, .c], v40, .list true (l37.map Control.cells))] []) (by refine ⟨.arr id30 l17.length 0 l17.length, ?_, ?_, ?_, sp⟩ <;> simp [h0, h3, h4, f27, f35, f36, dc23, Control.cells, intC, strC, -indexAddrF]) ?_
    clear h0 h3 h4
    rintro ρ H n41 ⟨v40, h0, h3, h4, sp⟩
    refine Runs.inBlock ?_
    refine Runs.evalE Ty_ok (by decide) fun k' hk' => ?_
    obtain ⟨hb42, h⟩ := h
    obtain ⟨v43, ev43⟩ : ∃ v : Int, v = i16 + 1 := ⟨_, rfl⟩
    replace h := h v43 ev43
    have f44 := ib_add hb42 ev43
    simp [h0, h3, h4, f44, dc23, Control.cells, intC, strC, -intBin]
    refine hk' _ _ _ ?_
    refine IH (v43, l37) _ _ _ h (by refine ⟨v40, ?_, ?_, ?_, sp⟩ <;> simp [h0, h3, h4, dc23, Control.cells, intC, strC])
  · replace h := h.2 dc23
    refine Runs.exit rfl ?_
    refine Runs.seqE Ty_ok (by decide) fun k' hk' => ?_
    simp [h0, h3, h4, dc23, Control.cells, intC, strC]
    refine hk' _ _ _ ?_
    exact Runs.ret1 (v := v18) Tryd.func36 Tryd.results36 (by simp [h0, h3, h4, dc23, Control.cells, intC, strC]) (hQ _ _ _ _ (Sep.sub (ids' := []) sp (by simp)) ⟨l17, h, rfl⟩)

theorem toControlS_ok (a : List Control) (hp : toControlS_pre a) : OwnS Tryd.prog 36 [.list false (a.map Control.cells)] (.s [.c, .c, .c]) (fun r => r = .list true ((toControlS a).map Control.cells)) := (toControlS_walk a _ (toControlS_vc a hp)).mono (by rintro _ ⟨_, rfl, rfl⟩; rfl)

theorem e141 : Ent Tryd.prog 141 := Ent.of Tryd.func141 (by kernel_rfl) rfl
theorem toWire_walk (a : Wire) (Z : Wire → Prop) (h : toWire_wp a Z) : PureC Tryd.prog 141 [.agg [str a.name, int a.link]] (fun r => ∃ y : Wire, Z y ∧ r = .agg [str y.name, int y.link]) := by
  unfold toWire_wp at h
  refine PureC.of Tryd.func141 rfl Tryd.ntmps141 (by simp) fun Q hQ => ?_
  refine Runs.cut (fun ρ H n => ρ 0 = .agg [str a.name, int a.link]) (by simp []) ?_
  rintro ρ H n1 h0
  refine Runs.seqE Ty_ok (by decide) fun k' hk' => ?_
  simp [h0]
  refine hk' _ _ _ ?_
  refine Runs.cut (fun ρ H n => ρ 1 = .ptr (n1, 1) 1 0 0 ∧ ρ 2 = .ptr (n1 + 1, 2) 1 0 0 ∧ H (n1, 1) = some ⟨2, [[str a.name, int a.link]]⟩ ∧ H (n1 + 1, 2) = some ⟨2, [[str [], int 0]]⟩) (by refine ⟨?_, ?_, ?_, ?_⟩ <;> simp [h0]) ?_
  clear h0
  rintro ρ H n4 ⟨h1, h2, m1_1, m2_2⟩
  refine Runs.seqE Ty_ok (by decide) fun k' hk' => ?_
  simp [h1, h2, m1_1, m2_2]
  refine hk' _ _ _ ?_
  refine Runs.cut (fun ρ H n => ρ 1 = .ptr (n1, 1) 1 0 0 ∧ ρ 2 = .ptr (n1 + 1, 2) 1 0 0 ∧ ρ 3 = .ptr (n4, 3) 1 0 0 ∧ H (n1, 1) = some ⟨2, [[str a.name, int a.link]]⟩ ∧ H (n1 + 1, 2) = some ⟨2, [[str [], int 0]]⟩ ∧ H (n4, 3) = some ⟨2, [[str [], int 0]]⟩) (by refine ⟨?_, ?_, ?_, ?_, ?_, ?_⟩ <;> simp [h1, h2, m1_1, m2_2]) ?_
  clear h1 h2 m1_1 m2_2
  rintro ρ H n6 ⟨h1, h2, h3, m1_1, m2_2, m3_4⟩
  refine Runs.seqE Ty_ok (by decide) fun k' hk' => ?_
  simp [h1, h2, h3, m1_1, m2_2, m3_4]
  refine hk' _ _ _ ?_
  refine Runs.cut (fun ρ H n => ρ 1 = .ptr (n1, 1) 1 0 0 ∧ ρ 2 = .ptr (n1 + 1, 2) 1 0 0 ∧ ρ 3 = .ptr (n4, 3) 1 0 0 ∧ H (n1, 1) = some ⟨2, [[str a.name, int a.link]]⟩ ∧ H (n1 + 1, 2) = some ⟨2, [[str [], int 0]]⟩ ∧ H (n4, 3) = some ⟨2, [[str a.name, int 0]]⟩) (by refine ⟨?_, ?_, ?_, ?_, ?_, ?_⟩ <;> simp [h1, h2, h3, m1_1, m2_2, m3_4]) ?_
  clear h1 h2 h3 m1_1 m2_2 m3_4
  rintro ρ H n7 ⟨h1, h2, h3, m1_1, m2_2, m3_4⟩
  refine Runs.seqE Ty_ok (by decide) fun k' hk' => ?_
  simp [h1, h2, h3, m1_1, m2_2, m3_4]
  refine hk' _ _ _ ?_
  refine Runs.cut (fun ρ H n => ρ 2 = .ptr (n1 + 1, 2) 1 0 0 ∧ ρ 3 = .ptr (n4, 3) 1 0 0 ∧ H (n1 + 1, 2) = some ⟨2, [[str [], int 0]]⟩ ∧ H (n4, 3) = some ⟨2, [[str a.name, int a.link]]⟩) (by refine ⟨?_, ?_, ?_, ?_⟩ <;> simp [h1, h2, h3, m1_1, m2_2, m3_4]) ?_
  clear h1 h2 h3 m1_1 m2_2 m3_4
  rintro ρ H n8 ⟨h2, h3, m2_2, m3_4⟩
  refine Runs.seqE Ty_ok (by decide) fun k' hk' => ?_
  simp [h2, h3, m2_2, m3_4]
  refine hk' _ _ _ ?_
  refine Runs.cut (fun ρ H n => ρ 2 = .ptr (n1 + 1, 2) 1 0 0 ∧ H (n1 + 1, 2) = some ⟨2, [[str a.name, int a.link]]⟩) (by refine ⟨?_, ?_⟩ <;> simp [h2, h3, m2_2, m3_4]) ?_
  clear h2 h3 m2_2 m3_4
  rintro ρ H n9 ⟨h2, m2_2⟩
  exact Runs.res1 Ty_ok (v := .agg [str a.name, int a.link]) Tryd.func141 Tryd.results141 (by simp [h2, m2_2, resA]) (hQ _ _ _ _ (.of (.aggL (.cons (.v _) (.cons (.v _) .nil)))) ⟨a, h, rfl⟩)

theorem toWire_ok (a : Wire)  : PureC Tryd.prog 141 [.agg [str a.name, int a.link]] (fun r => r = .agg [str ((toWire a).name), int ((toWire a).link)]) := (toWire_walk a _ (toWire_vc a )).mono (by rintro _ ⟨_, rfl, rfl⟩; rfl)

theorem e94 : Ent Tryd.prog 94 := Ent.of Tryd.func94 (by kernel_rfl) rfl
theorem toWireS_walk (a : List Wire) (Z : (List Wire) → Prop) (h : toWireS_wp a Z) : OwnS Tryd.prog 94 [.list false (a.map Wire.cells)] (.s [.c, .c]) (fun r => ∃ y : List Wire, Z y ∧ r = .list true (y.map Wire.cells)) := by
  unfold toWireS_wp at h
  have sp : Sep noHeap 0 [] [] := Sep.nil (by simp)
  refine OwnS.of Tryd.func94 rfl Tryd.ntmps94 (by simp) fun Q hQ => ?_
  refine Runs.cut (fun ρ H n => ρ 0 = .list false (a.map Wire.cells) ∧ Sep H n [] []) (by refine ⟨?_, sp⟩ <;> simp [Wire.cells, intC, strC]) ?_
  rintro ρ H n1 ⟨h0, sp⟩
  refine Runs.seqE Ty_ok (by decide) fun k' hk' => ?_
  simp [h0, Wire.cells, intC, strC]
  refine hk' _ _ _ ?_
  refine Runs.seqE Ty_ok (by decide) fun k' hk' => ?_
  obtain ⟨len2, elen2⟩ : ∃ v : Int, v = (a.length : Int) := ⟨_, rfl⟩
  replace h := h len2 elen2
  have f3 := fun H => len_list (H := H) (fr := false) (f := Wire.cells) kd_67 elen2
  obtain ⟨hb4, h⟩ := h
  obtain ⟨l5, el5⟩ : ∃ v : List Wire, v = List.replicate len2.toNat default := ⟨_, rfl⟩
  replace h := h l5 el5
  simp [h0, f3, hb4, el5, Wire.cells, intC, strC, -lenF]
  refine hk' _ _ _ ?_
  refine Runs.cut (fun ρ H n => ∃ (v7 : AVal), ρ 0 = .list false (a.map Wire.cells) ∧ ρ 3 = v7 ∧ Sep H n [(.s [.c, .c], v7, .list true (l5.map Wire.cells))] []) (by refine ⟨.arr (n1, 7) len2.toNat 0 len2.toNat, ?_, ?_, (by rw [el5]; exact Sep.addRep (z := [str [], int 0]) (f := Wire.cells) (k := len2.toNat) sp (fun H => by show Row H [.c, .c] [str [], int 0] [str [], int 0] []; simp [Row, Tr]))⟩ <;> simp [h0, f3, hb4, el5, Wire.cells, intC, strC, -lenF]) ?_
  clear h0
  rintro ρ H n8 ⟨v7, h0, h3, sp⟩
  refine Runs.seq ?_
  refine Runs.seqE Ty_ok (by decide) fun k' hk' => ?_
  simp [h0, h3, Wire.cells, intC, strC]
  refine hk' _ _ _ ?_
  refine Runs.block ?_
  refine Runs.loopW h (fun (s : Int × (List Wire)) ρ H n => match s with | (i16, l17) => ∃ (v18 : AVal), ρ 0 = .list false (a.map Wire.cells) ∧ ρ 3 = v18 ∧ ρ 4 = int i16 ∧ Sep H n [(.s [.c, .c], v18, .list true (l17.map Wire.cells))] []) (by refine ⟨v7, ?_, ?_, ?_, sp⟩ <;> simp [h0, h3, Wire.cells, intC, strC]) ?_
  clear h0 h3
  rintro ⟨i16, l17⟩ ρ H n19 K h ⟨v18, h0, h3, h4, sp⟩ IH
  refine Runs.seq ?_
  refine Runs.seqE Ty_ok (by decide) fun k' hk' => ?_
  obtain ⟨len21, elen21⟩ : ∃ v : Int, v = (a.length : Int) := ⟨_, rfl⟩
  replace h := h len21 elen21
  have f22 := fun H => len_list (H := H) (fr := false) (f := Wire.cells) kd_67 elen21
  obtain ⟨c23, ec23⟩ : ∃ v : Bool, v = decide (i16 < len21) := ⟨_, rfl⟩
  replace h := h c23 ec23
  have f24 := ib_lss (k := .i64) ec23
  simp [h0, h3, h4, f22, f24, Wire.cells, intC, strC, -intBin, -lenF]
  refine hk' _ _ _ ?_
  refine Runs.ite (b := c23) (by simp [h0, h3, h4, Wire.cells, intC, strC]) (fun dc23 => ?_) (fun dc23 => ?_)
  · replace h := h.1 dc23
    refine Runs.skip ?_
    refine Runs.seq ?_
    refine Runs.block ?_
    refine Runs.evalE Ty_ok (by decide) fun k' hk' => ?_
    obtain ⟨hb25, h⟩ := h
    obtain ⟨x26, ex26⟩ : ∃ v : Wire, v = at' a i16 := ⟨_, rfl⟩
    replace h := h x26 ex26
    have f27 := fun H => ix_list (H := H) (fr := false) (f := Wire.cells) (k := .i64) kd_67 (fun _ => rfl) hb25 ex26
    obtain ⟨r28, er28⟩ : ∃ v : Wire, v = toWire x26 := ⟨_, rfl⟩
    replace h := h r28 er28
    simp [h0, h3, h4, f27, dc23, Wire.cells, intC, strC, -indexAddrF]
    refine RunK.callA Ty_ok (toWire_ok x26 ) e141 (.cons (ArgOk.agg (.cons (.v _ _ _) (.cons (.v _ _ _) .nil))) .nil) (by decide) (by decide) rfl (by simp [h0, h3, h4, f27, dc23, Wire.cells, intC, strC, -indexAddrF]) ?_
    rintro _ rfl
    rw [← er28]
    obtain ⟨hb29, h⟩ := h
    obtain ⟨id30, hv, mo31, ln32, ni33⟩ := Sep.openF sp (by simp) hb29
    subst hv
    obtain ⟨x34, ex34⟩ : ∃ v : Wire, v = at' l17 i16 := ⟨_, rfl⟩
    replace h := h x34 ex34
    have f35 := fun H (hm : H id30 = some ⟨2, l17.map Wire.cells⟩) => ix_arr (H := H) (k := .i64) (off := 0) (len := l17.length) (g := l17.length) kd_49 hm (by simp) rfl hb29
    have f36 := at_some (q := i16.toNat) hb29 ex34 rfl
    obtain ⟨l37, el37⟩ : ∃ v : List Wire, v = l17.set i16.toNat r28 := ⟨_, rfl⟩
    replace h := h l37 el37
    simp [h0, h3, h4, mo31, f27, f35, f36, dc23, Wire.cells, intC, strC, -indexAddrF, -storeF]
    refine bind_store (q := i16.toNat) (news := Wire.cells r28) [] [] sp (by simp) (by simp; omega) (by simp) (by simp [-one1, o1_int, o1_bool, o1_str, o1_nil, o1_list, o1_arr, o1_ptr]) (Fill.v _ (Fill.v _ Fill.nil)) ?_
    rintro H38 sp hfr39
    replace sp : Sep H38 n19 [(.s [.c, .c], .arr id30 l17.length 0 l17.length, .list true (l37.map Wire.cells))] [] := by rw [el37, List.map_set]; exact sp
    simp [h0, h3, h4, f27, f35, f36, dc23, Wire.cells, intC, strC, -indexAddrF]
    refine hk' _ _ _ ?_
    refine Runs.cut (fun ρ H n => ∃ (v40 : AVal), ρ 0 = .list false (a.map Wire.cells) ∧ ρ 3 = v40 ∧ ρ 4 = int i16 ∧ Sep H n [(.s [.c, .c], v40, .list true (l37.map Wire.cells))] []) (by refine ⟨.arr id30 l17.length 0 l17.length, ?_, ?_, ?_, sp⟩ <;> simp [h0, h3, h4, f27, f35, f36, dc23, Wire.cells, intC, strC, -indexAddrF]) ?_
    clear h0 h3 h4
    rintro ρ H n41 ⟨v40, h0, h3, h4, sp⟩
    refine Runs.inBlock ?_
    refine Runs.evalE Ty_ok (by decide) fun k' hk' => ?_
    obtain ⟨hb42, h⟩ := h
    obtain ⟨v43, ev43⟩ : ∃ v : Int, v = i16 + 1 := ⟨_, rfl⟩
    replace h := h v43 ev43
    have f44 := ib_add hb42 ev43
    simp [h0, h3, h4, f44, dc23, Wire.cells, intC, strC, -intBin]
    refine hk' _ _ _ ?_
    refine IH (v43, l37) _ _ _ h (by refine ⟨v40, ?_, ?_, ?_, sp⟩ <;> simp [h0, h3, h4, dc23, Wire.cells, intC, strC])
  · replace h := h.2 dc23
    refine Runs.exit rfl ?_
    refine Runs.seqE Ty_ok (by decide) fun k' hk' => ?_
    simp [h0, h3, h4, dc23, Wire.cells, intC, strC]
    refine hk' _ _ _ ?_
    exact Runs.ret1 (v := v18) Tryd.func94 Tryd.results94 (by simp [h0, h3, h4, dc23, Wire.cells, intC, strC]) (hQ _ _ _ _ (Sep.sub (ids' := []) sp (by simp)) ⟨l17, h, rfl⟩)

theorem toWireS_ok (a : List Wire) (hp : toWireS_pre a) : OwnS Tryd.prog 94 [.list false (a.map Wire.cells)] (.s [.c, .c]) (fun r => r = .list true ((toWireS a).map Wire.cells)) := (toWireS_walk a _ (toWireS_vc a hp)).mono (by rintro _ ⟨_, rfl, rfl⟩; rfl)

theorem e140 : Ent Tryd.prog 140 := Ent.of Tryd.func140 (by kernel_rfl) rfl
theorem toNode_walk (a : GNode) (Z : GNode → Prop) (h : toNode_wp a Z) : OwnS Tryd.prog 140 [.agg [int a.control, int a.parent, .list false (a.links.map intC)]] (.a [.c, .c, .s [.c]]) (fun r => ∃ y : GNode, Z y ∧ r = .agg [int y.control, int y.parent, .list true (y.links.map intC)]) := by
  unfold toNode_wp at h
  have sp : Sep noHeap 0 [] [] := Sep.nil (by simp)
  refine OwnS.of Tryd.func140 rfl Tryd.ntmps140 (by simp) fun Q hQ => ?_
  refine Runs.cut (fun ρ H n => ρ 0 = .agg [int a.control, int a.parent, .list false (a.links.map intC)] ∧ Sep H n [] []) (by refine ⟨?_, sp⟩ <;> simp [intC]) ?_
  rintro ρ H n1 ⟨h0, sp⟩
  refine Runs.seqE Ty_ok (by decide) fun k' hk' => ?_
  simp [h0, intC]
  refine hk' _ _ _ ?_
  refine Runs.cut (fun ρ H n => ρ 1 = .ptr (n1, 1) 1 0 0 ∧ ρ 2 = .ptr (n1 + 1, 2) 1 0 0 ∧ H (n1, 1) = some ⟨3, [[int a.control, int a.parent, .list false (a.links.map intC)]]⟩ ∧ H (n1 + 1, 2) = some ⟨3, [[int 0, int 0, .v (.slice none 0 0)]]⟩ ∧ Sep H n [] [(n1 + 1, 2), (n1, 1)]) (by refine ⟨?_, ?_, ?_, ?_, (Sep.var (Sep.var sp))⟩ <;> simp [h0, intC]) ?_
  clear h0
  rintro ρ H n4 ⟨h1, h2, m1_1, m2_2, sp⟩
  refine Runs.seqE Ty_ok (by decide) fun k' hk' => ?_
  simp [h1, h2, m1_1, m2_2, intC]
  refine hk' _ _ _ ?_
  refine Runs.cut (fun ρ H n => ρ 1 = .ptr (n1, 1) 1 0 0 ∧ ρ 2 = .ptr (n1 + 1, 2) 1 0 0 ∧ ρ 3 = .ptr (n4, 3) 1 0 0 ∧ H (n1, 1) = some ⟨3, [[int a.control, int a.parent, .list false (a.links.map intC)]]⟩ ∧ H (n1 + 1, 2) = some ⟨3, [[int 0, int 0, .v (.slice none 0 0)]]⟩ ∧ H (n4, 3) = some ⟨3, [[int 0, int 0, .v (.slice none 0 0)]]⟩ ∧ Sep H n [] [(n4, 3), (n1 + 1, 2), (n1, 1)]) (by refine ⟨?_, ?_, ?_, ?_, ?_, ?_, (Sep.var sp)⟩ <;> simp [h1, h2, m1_1, m2_2, intC]) ?_
  clear h1 h2 m1_1 m2_2
  rintro ρ H n6 ⟨h1, h2, h3, m1_1, m2_2, m3_4, sp⟩
  refine Runs.seqE Ty_ok (by decide) fun k' hk' => ?_
  simp [h1, h2, h3, m1_1, m2_2, m3_4, intC]
  refine hk' _ _ _ ?_
  refine Runs.cut (fun ρ H n => ρ 1 = .ptr (n1, 1) 1 0 0 ∧ ρ 2 = .ptr (n1 + 1, 2) 1 0 0 ∧ ρ 3 = .ptr (n4, 3) 1 0 0 ∧ H (n1, 1) = some ⟨3, [[int a.control, int a.parent, .list false (a.links.map intC)]]⟩ ∧ H (n1 + 1, 2) = some ⟨3, [[int 0, int 0, .v (.slice none 0 0)]]⟩ ∧ H (n4, 3) = some ⟨3, [[int a.control, int 0, .v (.slice none 0 0)]]⟩ ∧ Sep H n [] [(n4, 3), (n1 + 1, 2), (n1, 1)]) (by refine ⟨?_, ?_, ?_, ?_, ?_, ?_, (Sep.setVar (w := (n4, 3)) sp (by simp))⟩ <;> simp [h1, h2, h3, m1_1, m2_2, m3_4, intC]) ?_
  clear h1 h2 h3 m1_1 m2_2 m3_4
  rintro ρ H n7 ⟨h1, h2, h3, m1_1, m2_2, m3_4, sp⟩
  refine Runs.seqE Ty_ok (by decide) fun k' hk' => ?_
  simp [h1, h2, h3, m1_1, m2_2, m3_4, intC]
  refine hk' _ _ _ ?_
  refine Runs.cut (fun ρ H n => ρ 1 = .ptr (n1, 1) 1 0 0 ∧ ρ 2 = .ptr (n1 + 1, 2) 1 0 0 ∧ ρ 3 = .ptr (n4, 3) 1 0 0 ∧ H (n1, 1) = some ⟨3, [[int a.control, int a.parent, .list false (a.links.map intC)]]⟩ ∧ H (n1 + 1, 2) = some ⟨3, [[int 0, int 0, .v (.slice none 0 0)]]⟩ ∧ H (n4, 3) = some ⟨3, [[int a.control, int a.parent, .v (.slice none 0 0)]]⟩ ∧ Sep H n [] [(n4, 3), (n1 + 1, 2), (n1, 1)]) (by refine ⟨?_, ?_, ?_, ?_, ?_, ?_, (Sep.setVar (w := (n4, 3)) sp (by simp))⟩ <;> simp [h1, h2, h3, m1_1, m2_2, m3_4, intC]) ?_
  clear h1 h2 h3 m1_1 m2_2 m3_4
  rintro ρ H n8 ⟨h1, h2, h3, m1_1, m2_2, m3_4, sp⟩
  refine Runs.seqE Ty_ok (by decide) fun k' hk' => ?_
  obtain ⟨hb9, h⟩ := h
  obtain ⟨r10, er10⟩ : ∃ v : List Int, v = toIntS a.links := ⟨_, rfl⟩
  replace h := h r10 er10
  simp [h1, h2, h3, m1_1, m2_2, m3_4, intC]
  refine RunK.callW Ty_ok (toIntS_ok a.links hb9) e92 (.cons (ArgOk.listF (fr := false) (els := a.links.map intC) (by simp [intC])) .nil) sp (by decide) (by decide) rfl (by simp [h1, h2, h3, m1_1, m2_2, m3_4, intC]) ?_
  rintro v11 H12 n13 _ sp rfl hle15 hfr14
  rw [← er10] at sp
  have m1_1 : H12 (n1, 1) = some ⟨3, [[int a.control, int a.parent, .list false (a.links.map intC)]]⟩ := (hfr14 _ (by simp)).trans (by simp [h1, h2, h3, m1_1, m2_2, m3_4, Heap.get_set])
  have m2_2 : H12 (n1 + 1, 2) = some ⟨3, [[int 0, int 0, .v (.slice none 0 0)]]⟩ := (hfr14 _ (by simp)).trans (by simp [h1, h2, h3, m1_1, m2_2, m3_4, Heap.get_set])
  have m3_4 : H12 (n4, 3) = some ⟨3, [[int a.control, int a.parent, .v (.slice none 0 0)]]⟩ := (hfr14 _ (by simp)).trans (by simp [h1, h2, h3, m1_1, m2_2, m3_4, Heap.get_set])
  have f17 := cell_own (Sep.cells sp)
  have f18 := cell_own (Sep.one1 sp)
  simp [h1, h2, h3, m1_1, m2_2, m3_4, f17, f18, intC, -cellsA, -one1, cA_int, cA_bool, cA_str, cA_nil, cA_agg, cA_list, cA_arr, cA_ptr, o1_int, o1_bool, o1_str, o1_nil, o1_list, o1_arr, o1_ptr]
  refine hk' _ _ _ ?_
  refine Runs.cut (fun ρ H n => ∃ (v19 : AVal), ρ 2 = .ptr (n1 + 1, 2) 1 0 0 ∧ ρ 3 = .ptr (n4, 3) 1 0 0 ∧ H (n1 + 1, 2) = some ⟨3, [[int 0, int 0, .v (.slice none 0 0)]]⟩ ∧ H (n4, 3) = some ⟨3, [[int a.control, int a.parent, v19]]⟩ ∧ Sep H n [(.s [.c], v19, .list true (r10.map intC))] [(n4, 3), (n1 + 1, 2)]) (by refine ⟨v11, ?_, ?_, ?_, ?_, (Sep.sub (Sep.setVar (w := (n4, 3)) sp (by simp)) (by simp +contextual))⟩ <;> simp [h1, h2, h3, m1_1, m2_2, m3_4, f17, f18, intC, -cellsA, -one1, cA_int, cA_bool, cA_str, cA_nil, cA_agg, cA_list, cA_arr, cA_ptr, o1_int, o1_bool, o1_str, o1_nil, o1_list, o1_arr, o1_ptr]) ?_
  clear h1 h2 h3 m1_1 m2_2 m3_4
  rintro ρ H n20 ⟨v19, h2, h3, m2_2, m3_4, sp⟩
  refine Runs.seqE Ty_ok (by decide) fun k' hk' => ?_
  have f21 := cell_own (Sep.cells sp)
  have f22 := cell_own (Sep.one1 sp)
  simp [h2, h3, m2_2, m3_4, f21, f22, intC, -cellsA, -one1, cA_int, cA_bool, cA_str, cA_nil, cA_agg, cA_list, cA_arr, cA_ptr, o1_int, o1_bool, o1_str, o1_nil, o1_list, o1_arr, o1_ptr]
  refine hk' _ _ _ ?_
  refine Runs.cut (fun ρ H n => ∃ (v23 : AVal), ρ 2 = .ptr (n1 + 1, 2) 1 0 0 ∧ H (n1 + 1, 2) = some ⟨3, [[int a.control, int a.parent, v23]]⟩ ∧ Sep H n [(.s [.c], v23, .list true (r10.map intC))] [(n1 + 1, 2)]) (by refine ⟨v19, ?_, ?_, (Sep.sub (Sep.setVar (w := (n1 + 1, 2)) sp (by simp)) (by simp +contextual))⟩ <;> simp [h2, h3, m2_2, m3_4, f21, f22, intC, -cellsA, -one1, cA_int, cA_bool, cA_str, cA_nil, cA_agg, cA_list, cA_arr, cA_ptr, o1_int, o1_bool, o1_str, o1_nil, o1_list, o1_arr, o1_ptr]) ?_
  clear h2 h3 m2_2 m3_4
  rintro ρ H n24 ⟨v23, h2, m2_2, sp⟩
  exact Runs.res1 Ty_ok (v := .agg [int a.control, int a.parent, v23]) Tryd.func140 Tryd.results140 (by simp [h2, m2_2, resA, intC]) (hQ _ _ _ _ (Sep.sub (ids' := []) (Sep.pack (K := []) (Fill.v _ (Fill.v _ (Fill.own Fill.nil))) sp) (by simp)) ⟨(GNode.mk a.control a.parent r10), h, rfl⟩)

theorem toNode_ok (a : GNode) (hp : toNode_pre a) : OwnS Tryd.prog 140 [.agg [int a.control, int a.parent, .list false (a.links.map intC)]] (.a [.c, .c, .s [.c]]) (fun r => r = .agg [int ((toNode a).control), int ((toNode a).parent), .list true (((toNode a).links).map intC)]) := (toNode_walk a _ (toNode_vc a hp)).mono (by rintro _ ⟨_, rfl, rfl⟩; rfl)

theorem e91 : Ent Tryd.prog 91 := Ent.of Tryd.func91 (by kernel_rfl) rfl
theorem toNodeS_walk (a : List GNode) (Z : (List GNode) → Prop) (h : toNodeS_wp a Z) : OwnS Tryd.prog 91 [.list false (a.map (GNode.cells false))] (.s [.c, .c, .s [.c]]) (fun r => ∃ y : List GNode, Z y ∧ r = .list true (y.map (GNode.cells true))) := by
  unfold toNodeS_wp at h
  have sp : Sep noHeap 0 [] [] := Sep.nil (by simp)
  refine OwnS.of Tryd.func91 rfl Tryd.ntmps91 (by simp) fun Q hQ => ?_
  refine Runs.cut (fun ρ H n => ρ 0 = .list false (a.map (GNode.cells false)) ∧ Sep H n [] []) (by refine ⟨?_, sp⟩ <;> simp [GNode.cells, intC, sliceC]) ?_
  rintro ρ H n1 ⟨h0, sp⟩
  refine Runs.seqE Ty_ok (by decide) fun k' hk' => ?_
  simp [h0, GNode.cells, intC, sliceC]
  refine hk' _ _ _ ?_
  refine Runs.seqE Ty_ok (by decide) fun k' hk' => ?_
  obtain ⟨len2, elen2⟩ : ∃ v : Int, v = (a.length : Int) := ⟨_, rfl⟩
  replace h := h len2 elen2
  have f3 := fun H => len_list (H := H) (fr := false) (f := (GNode.cells false)) kd_66 elen2
  obtain ⟨hb4, h⟩ := h
  obtain ⟨l5, el5⟩ : ∃ v : List GNode, v = List.replicate len2.toNat default := ⟨_, rfl⟩
  replace h := h l5 el5
  simp [h0, f3, hb4, el5, GNode.cells, intC, sliceC, -lenF]
  refine hk' _ _ _ ?_
  refine Runs.cut (fun ρ H n => ∃ (v7 : AVal), ρ 0 = .list false (a.map (GNode.cells false)) ∧ ρ 3 = v7 ∧ Sep H n [(.s [.c, .c, .s [.c]], v7, .list true (l5.map (GNode.cells true)))] []) (by refine ⟨.arr (n1, 7) len2.toNat 0 len2.toNat, ?_, ?_, (by rw [el5]; exact Sep.addRep (z := [int 0, int 0, .v (.slice none 0 0)]) (f := (GNode.cells true)) (k := len2.toNat) sp (fun H => by show Row H [.c, .c, .s [.c]] [int 0, int 0, .v (.slice none 0 0)] [int 0, int 0, .list true []] []; simp [Row, Tr]))⟩ <;> simp [h0, f3, hb4, el5, GNode.cells, intC, sliceC, -lenF]) ?_
  clear h0
  rintro ρ H n8 ⟨v7, h0, h3, sp⟩
  refine Runs.seq ?_
  refine Runs.seqE Ty_ok (by decide) fun k' hk' => ?_
  simp [h0, h3, GNode.cells, intC, sliceC]
  refine hk' _ _ _ ?_
  refine Runs.block ?_
  refine Runs.loopW h (fun (s : Int × (List GNode)) ρ H n => match s with | (i16, l17) => ∃ (v18 : AVal), ρ 0 = .list false (a.map (GNode.cells false)) ∧ ρ 3 = v18 ∧ ρ 4 = int i16 ∧ Sep H n [(.s [.c, .c, .s [.c]], v18, .list true (l17.map (GNode.cells true)))] []) (by refine ⟨v7, ?_, ?_, ?_, sp⟩ <;> simp [h0, h3, GNode.cells, intC, sliceC]) ?_
  clear h0 h3
  rintro ⟨i16, l17⟩ ρ H n19 K h ⟨v18, h0, h3, h4, sp⟩ IH
  refine Runs.seq ?_
  refine Runs.seqE Ty_ok (by decide) fun k' hk' => ?_
  obtain ⟨len21, elen21⟩ : ∃ v : Int, v = (a.length : Int) := ⟨_, rfl⟩
  replace h := h len21 elen21
  have f22 := fun H => len_list (H := H) (fr := false) (f := (GNode.cells false)) kd_66 elen21
  obtain ⟨c23, ec23⟩ : ∃ v : Bool, v = decide (i16 < len21) := ⟨_, rfl⟩
  replace h := h c23 ec23
  have f24 := ib_lss (k := .i64) ec23
  simp [h0, h3, h4, f22, f24, GNode.cells, intC, sliceC, -intBin, -lenF]
  refine hk' _ _ _ ?_
  refine Runs.ite (b := c23) (by simp [h0, h3, h4, GNode.cells, intC, sliceC]) (fun dc23 => ?_) (fun dc23 => ?_)
  · replace h := h.1 dc23
    refine Runs.skip ?_
    refine Runs.seq ?_
    refine Runs.block ?_
    refine Runs.evalE Ty_ok (by decide) fun k' hk' => ?_
    obtain ⟨hb25, h⟩ := h
    obtain ⟨x26, ex26⟩ : ∃ v : GNode, v = at' a i16 := ⟨_, rfl⟩
    replace h := h x26 ex26
    have f27 := fun H => ix_list (H := H) (fr := false) (f := (GNode.cells false)) (k := .i64) kd_66 (fun _ => rfl) hb25 ex26
    obtain ⟨hb28, h⟩ := h
    obtain ⟨r29, er29⟩ : ∃ v : GNode, v = toNode x26 := ⟨_, rfl⟩
    replace h := h r29 er29
    simp [h0, h3, h4, f27, dc23, GNode.cells, intC, sliceC, -indexAddrF]
    refine RunK.callW Ty_ok (toNode_ok x26 hb28) e140 (.cons (ArgOk.agg (.cons (.v _ _ _) (.cons (.v _ _ _) (.cons (ArgOk.listF (fr := false) (els := x26.links.map intC) (by simp [intC])) .nil)))) .nil) sp (by decide) (by decide) rfl (by simp [h0, h3, h4, f27, dc23, GNode.cells, intC, sliceC, -indexAddrF]) ?_
    rintro v30 H31 n32 _ sp rfl hle34 hfr33
    rw [← er29] at sp
    replace sp := Sep.unpack sp
    obtain ⟨L38, hv, hl39, sp⟩ := sp
    subst hv
    obtain ⟨v35, v36, v37, hv⟩ := len3 (by simpa using hl39)
    subst hv
    simp only [zip3, List.cons_append, List.nil_append] at sp
    replace sp := Sep.scalar sp
    obtain ⟨hv, sp⟩ := sp
    subst hv
    replace sp := Sep.scalar sp
    obtain ⟨hv, sp⟩ := sp
    subst hv
    replace sp := Sep.rot sp
    simp only [List.cons_append, List.nil_append] at sp
    replace sp : Sep H31 n32 [(.s [.c, .c, .s [.c]], v18, .list true (l17.map (GNode.cells true))), (.s [.c], v37, .list true (r29.links.map intC))] [] := sp
    obtain ⟨hb41, h⟩ := h
    obtain ⟨id42, hv, f43⟩ := Sep.index (k := .i64) (i := i16) sp kd_46 (by simp) (by simpa using hb41)
    subst hv
    simp only [List.length_map] at sp f43
    obtain ⟨l44, el44⟩ : ∃ v : List GNode, v = l17.set i16.toNat r29 := ⟨_, rfl⟩
    replace h := h l44 el44
    simp [h0, h3, h4, f27, f43, dc23, GNode.cells, intC, sliceC, -indexAddrF, -storeF]
    refine bind_store (q := i16.toNat) (news := (GNode.cells true) r29) [(.s [.c], v37, .list true (r29.links.map intC))] [] (Sep.front (K1 := [(.s [.c], v37, .list true (r29.links.map intC))]) (K2 := []) (Sep.front (K1 := [(.s [.c, .c, .s [.c]], .arr id42 l17.length 0 l17.length, .list true (l17.map (GNode.cells true)))]) (K2 := []) sp)) (by simp) (by simp; omega) (by simp) (by simp [-one1, o1_int, o1_bool, o1_str, o1_nil, o1_list, o1_arr, o1_ptr, Sep.one1 (Sep.right (K1 := [(.s [.c, .c, .s [.c]], .arr id42 l17.length 0 l17.length, .list true (l17.map (GNode.cells true)))]) (Sep.front (K1 := [(.s [.c], v37, .list true (r29.links.map intC))]) (K2 := []) (Sep.front (K1 := [(.s [.c, .c, .s [.c]], .arr id42 l17.length 0 l17.length, .list true (l17.map (GNode.cells true)))]) (K2 := []) sp)))]) (Fill.v _ (Fill.v _ (Fill.own Fill.nil))) ?_
    rintro H45 sp hfr46
    replace sp : Sep H45 n32 [(.s [.c, .c, .s [.c]], .arr id42 l17.length 0 l17.length, .list true (l44.map (GNode.cells true)))] [] := by rw [el44, List.map_set]; exact sp
    simp [h0, h3, h4, f27, f43, dc23, GNode.cells, intC, sliceC, -indexAddrF]
    refine hk' _ _ _ ?_
    refine Runs.cut (fun ρ H n => ∃ (v47 : AVal), ρ 0 = .list false (a.map (GNode.cells false)) ∧ ρ 3 = v47 ∧ ρ 4 = int i16 ∧ Sep H n [(.s [.c, .c, .s [.c]], v47, .list true (l44.map (GNode.cells true)))] []) (by refine ⟨.arr id42 l17.length 0 l17.length, ?_, ?_, ?_, sp⟩ <;> simp [h0, h3, h4, f27, f43, dc23, GNode.cells, intC, sliceC, -indexAddrF]) ?_
    clear h0 h3 h4
    rintro ρ H n48 ⟨v47, h0, h3, h4, sp⟩
    refine Runs.inBlock ?_
    refine Runs.evalE Ty_ok (by decide) fun k' hk' => ?_
    obtain ⟨hb49, h⟩ := h
    obtain ⟨v50, ev50⟩ : ∃ v : Int, v = i16 + 1 := ⟨_, rfl⟩
    replace h := h v50 ev50
    have f51 := ib_add hb49 ev50
    simp [h0, h3, h4, f51, dc23, GNode.cells, intC, sliceC, -intBin]
    refine hk' _ _ _ ?_
    refine IH (v50, l44) _ _ _ h (by refine ⟨v47, ?_, ?_, ?_, sp⟩ <;> simp [h0, h3, h4, dc23, GNode.cells, intC, sliceC])
  · replace h := h.2 dc23
    refine Runs.exit rfl ?_
    refine Runs.seqE Ty_ok (by decide) fun k' hk' => ?_
    simp [h0, h3, h4, dc23, GNode.cells, intC, sliceC]
    refine hk' _ _ _ ?_
    exact Runs.ret1 (v := v18) Tryd.func91 Tryd.results91 (by simp [h0, h3, h4, dc23, GNode.cells, intC, sliceC]) (hQ _ _ _ _ (Sep.sub (ids' := []) sp (by simp)) ⟨l17, h, rfl⟩)

theorem toNodeS_ok (a : List GNode) (hp : toNodeS_pre a) : OwnS Tryd.prog 91 [.list false (a.map (GNode.cells false))] (.s [.c, .c, .s [.c]]) (fun r => r = .list true ((toNodeS a).map (GNode.cells true))) := (toNodeS_walk a _ (toNodeS_vc a hp)).mono (by rintro _ ⟨_, rfl, rfl⟩; rfl)

theorem e37 : Ent Tryd.prog 37 := Ent.of Tryd.func37 (by kernel_rfl) rfl
theorem toBigraph_walk (a : Big) (Z : Big → Prop) (h : toBigraph_wp a Z) : OwnS Tryd.prog 37 [.agg [int a.roots, .list false (a.nodes.map (GNode.cells false)), .list false (a.sites.map intC), int a.edges, .list false (a.outer.map strC), .list false (a.inner.map Wire.cells)]] (.a [.c, .s [.c, .c, .s [.c]], .s [.c], .c, .s [.c], .s [.c, .c]]) (fun r => ∃ y : Big, Z y ∧ r = .agg [int y.roots, .list true (y.nodes.map (GNode.cells true)), .list true (y.sites.map intC), int y.edges, .list true (y.outer.map strC), .list true (y.inner.map Wire.cells)]) := by
  unfold toBigraph_wp at h
  have sp : Sep noHeap 0 [] [] := Sep.nil (by simp)
  refine OwnS.of Tryd.func37 rfl Tryd.ntmps37 (by simp) fun Q hQ => ?_
  refine Runs.cut (fun ρ H n => ρ 0 = .agg [int a.roots, .list false (a.nodes.map (GNode.cells false)), .list false (a.sites.map intC), int a.edges, .list false (a.outer.map strC), .list false (a.inner.map Wire.cells)] ∧ Sep H n [] []) (by refine ⟨?_, sp⟩ <;> simp [GNode.cells, Wire.cells, intC, sliceC, strC]) ?_
  rintro ρ H n1 ⟨h0, sp⟩
  refine Runs.seqE Ty_ok (by decide) fun k' hk' => ?_
  simp [h0, GNode.cells, Wire.cells, intC, sliceC, strC]
  refine hk' _ _ _ ?_
  refine Runs.cut (fun ρ H n => ρ 1 = .ptr (n1, 1) 1 0 0 ∧ ρ 2 = .ptr (n1 + 1, 2) 1 0 0 ∧ H (n1, 1) = some ⟨6, [[int a.roots, .list false (a.nodes.map (GNode.cells false)), .list false (a.sites.map intC), int a.edges, .list false (a.outer.map strC), .list false (a.inner.map Wire.cells)]]⟩ ∧ H (n1 + 1, 2) = some ⟨6, [[int 0, .v (.slice none 0 0), .v (.slice none 0 0), int 0, .v (.slice none 0 0), .v (.slice none 0 0)]]⟩ ∧ Sep H n [] [(n1 + 1, 2), (n1, 1)]) (by refine ⟨?_, ?_, ?_, ?_, (Sep.var (Sep.var sp))⟩ <;> simp [h0, GNode.cells, Wire.cells, intC, sliceC, strC]) ?_
  clear h0
  rintro ρ H n4 ⟨h1, h2, m1_1, m2_2, sp⟩
  refine Runs.seqE Ty_ok (by decide) fun k' hk' => ?_
  simp [h1, h2, m1_1, m2_2, GNode.cells, Wire.cells, intC, sliceC, strC]
  refine hk' _ _ _ ?_
  refine Runs.cut (fun ρ H n => ρ 1 = .ptr (n1, 1) 1 0 0 ∧ ρ 2 = .ptr (n1 + 1, 2) 1 0 0 ∧ ρ 3 = .ptr (n4, 3) 1 0 0 ∧ H (n1, 1) = some ⟨6, [[int a.roots, .list false (a.nodes.map (GNode.cells false)), .list false (a.sites.map intC), int a.edges, .list false (a.outer.map strC), .list false (a.inner.map Wire.cells)]]⟩ ∧ H (n1 + 1, 2) = some ⟨6, [[int 0, .v (.slice none 0 0), .v (.slice none 0 0), int 0, .v (.slice none 0 0), .v (.slice none 0 0)]]⟩ ∧ H (n4, 3) = some ⟨6, [[int 0, .v (.slice none 0 0), .v (.slice none 0 0), int 0, .v (.slice none 0 0), .v (.slice none 0 0)]]⟩ ∧ Sep H n [] [(n4, 3), (n1 + 1, 2), (n1, 1)]) (by refine ⟨?_, ?_, ?_, ?_, ?_, ?_, (Sep.var sp)⟩ <;> simp [h1, h2, m1_1, m2_2, GNode.cells, Wire.cells, intC, sliceC, strC]) ?_
  clear h1 h2 m1_1 m2_2
  rintro ρ H n6 ⟨h1, h2, h3, m1_1, m2_2, m3_4, sp⟩
  refine Runs.seqE Ty_ok (by decide) fun k' hk' => ?_
  simp [h1, h2, h3, m1_1, m2_2, m3_4, GNode.cells, Wire.cells, intC, sliceC, strC]
  refine hk' _ _ _ ?_
  refine Runs.cut (fun ρ H n => ρ 1 = .ptr (n1, 1) 1 0 0 ∧ ρ 2 = .ptr (n1 + 1, 2) 1 0 0 ∧ ρ 3 = .ptr (n4, 3) 1 0 0 ∧ H (n1, 1) = some ⟨6, [[int a.roots, .list false (a.nodes.map (GNode.cells false)), .list false (a.sites.map intC), int a.edges, .list false (a.outer.map strC), .list false (a.inner.map Wire.cells)]]⟩ ∧ H (n1 + 1, 2) = some ⟨6, [[int 0, .v (.slice none 0 0), .v (.slice none 0 0), int 0, .v (.slice none 0 0), .v (.slice none 0 0)]]⟩ ∧ H (n4, 3) = some ⟨6, [[int a.roots, .v (.slice none 0 0), .v (.slice none 0 0), int 0, .v (.slice none 0 0), .v (.slice none 0 0)]]⟩ ∧ Sep H n [] [(n4, 3), (n1 + 1, 2), (n1, 1)]) (by refine ⟨?_, ?_, ?_, ?_, ?_, ?_, (Sep.setVar (w := (n4, 3)) sp (by simp))⟩ <;> simp [h1, h2, h3, m1_1, m2_2, m3_4, GNode.cells, Wire.cells, intC, sliceC, strC]) ?_
  clear h1 h2 h3 m1_1 m2_2 m3_4
  rintro ρ H n7 ⟨h1, h2, h3, m1_1, m2_2, m3_4, sp⟩
  refine Runs.seqE Ty_ok (by decide) fun k' hk' => ?_
  obtain ⟨hb8, h⟩ := h
  obtain ⟨r9, er9⟩ : ∃ v : List GNode, v = toNodeS a.nodes := ⟨_, rfl⟩
  replace h := h r9 er9
  simp [h1, h2, h3, m1_1, m2_2, m3_4, GNode.cells, Wire.cells, intC, sliceC, strC]
  refine RunK.callW Ty_ok (toNodeS_ok a.nodes hb8) e91 (.cons (ArgOk.nest_Node false a.nodes) .nil) sp (by decide) (by decide) rfl (by simp [h1, h2, h3, m1_1, m2_2, m3_4, GNode.cells, Wire.cells, intC, sliceC, strC]) ?_
  rintro v10 H11 n12 _ sp rfl hle14 hfr13
  rw [← er9] at sp
  have m1_1 : H11 (n1, 1) = some ⟨6, [[int a.roots, .list false (a.nodes.map (GNode.cells false)), .list false (a.sites.map intC), int a.edges, .list false (a.outer.map strC), .list false (a.inner.map Wire.cells)]]⟩ := (hfr13 _ (by simp)).trans (by simp [h1, h2, h3, m1_1, m2_2, m3_4, Heap.get_set])
  have m2_2 : H11 (n1 + 1, 2) = some ⟨6, [[int 0, .v (.slice none 0 0), .v (.slice none 0 0), int 0, .v (.slice none 0 0), .v (.slice none 0 0)]]⟩ := (hfr13 _ (by simp)).trans (by simp [h1, h2, h3, m1_1, m2_2, m3_4, Heap.get_set])
  have m3_4 : H11 (n4, 3) = some ⟨6, [[int a.roots, .v (.slice none 0 0), .v (.slice none 0 0), int 0, .v (.slice none 0 0), .v (.slice none 0 0)]]⟩ := (hfr13 _ (by simp)).trans (by simp [h1, h2, h3, m1_1, m2_2, m3_4, Heap.get_set])
  have f16 := cell_own (Sep.cells sp)
  have f17 := cell_own (Sep.one1 sp)
  simp [h1, h2, h3, m1_1, m2_2, m3_4, f16, f17, GNode.cells, Wire.cells, intC, sliceC, strC, -cellsA, -one1, cA_int, cA_bool, cA_str, cA_nil, cA_agg, cA_list, cA_arr, cA_ptr, o1_int, o1_bool, o1_str, o1_nil, o1_list, o1_arr, o1_ptr]
  refine hk' _ _ _ ?_
  refine Runs.cut (fun ρ H n => ∃ (v18 : AVal), ρ 1 = .ptr (n1, 1) 1 0 0 ∧ ρ 2 = .ptr (n1 + 1, 2) 1 0 0 ∧ ρ 3 = .ptr (n4, 3) 1 0 0 ∧ H (n1, 1) = some ⟨6, [[int a.roots, .list false (a.nodes.map (GNode.cells false)), .list false (a.sites.map intC), int a.edges, .list false (a.outer.map strC), .list false (a.inner.map Wire.cells)]]⟩ ∧ H (n1 + 1, 2) = some ⟨6, [[int 0, .v (.slice none 0 0), .v (.slice none 0 0), int 0, .v (.slice none 0 0), .v (.slice none 0 0)]]⟩ ∧ H (n4, 3) = some ⟨6, [[int a.roots, v18, .v (.slice none 0 0), int 0, .v (.slice none 0 0), .v (.slice none 0 0)]]⟩ ∧ Sep H n [(.s [.c, .c, .s [.c]], v18, .list true (r9.map (GNode.cells true)))] [(n4, 3), (n1 + 1, 2), (n1, 1)]) (by refine ⟨v10, ?_, ?_, ?_, ?_, ?_, ?_, (Sep.setVar (w := (n4, 3)) sp (by simp))⟩ <;> simp [h1, h2, h3, m1_1, m2_2, m3_4, f16, f17, GNode.cells, Wire.cells, intC, sliceC, strC, -cellsA, -one1, cA_int, cA_bool, cA_str, cA_nil, cA_agg, cA_list, cA_arr, cA_ptr, o1_int, o1_bool, o1_str, o1_nil, o1_list, o1_arr, o1_ptr]) ?_
  clear h1 h2 h3 m1_1 m2_2 m3_4
  rintro ρ H n19 ⟨v18, h1, h2, h3, m1_1, m2_2, m3_4, sp⟩
  refine Runs.seqE Ty_ok (by decide) fun k' hk' => ?_
  obtain ⟨hb20, h⟩ := h
  obtain ⟨r21, er21⟩ : ∃ v : List Int, v = toIntS a.sites := ⟨_, rfl⟩
  replace h := h r21 er21
  simp [h1, h2, h3, m1_1, m2_2, m3_4, GNode.cells, Wire.cells, intC, sliceC, strC]
  refine RunK.callW Ty_ok (toIntS_ok a.sites hb20) e92 (.cons (ArgOk.listF (fr := false) (els := a.sites.map intC) (by simp [intC])) .nil) sp (by decide) (by decide) rfl (by simp [h1, h2, h3, m1_1, m2_2, m3_4, GNode.cells, Wire.cells, intC, sliceC, strC]) ?_
  rintro v22 H23 n24 _ sp rfl hle26 hfr25
  rw [← er21] at sp
  have m1_1 : H23 (n1, 1) = some ⟨6, [[int a.roots, .list false (a.nodes.map (GNode.cells false)), .list false (a.sites.map intC), int a.edges, .list false (a.outer.map strC), .list false (a.inner.map Wire.cells)]]⟩ := (hfr25 _ (by simp)).trans (by simp [h1, h2, h3, m1_1, m2_2, m3_4, Heap.get_set])
  have m2_2 : H23 (n1 + 1, 2) = some ⟨6, [[int 0, .v (.slice none 0 0), .v (.slice none 0 0), int 0, .v (.slice none 0 0), .v (.slice none 0 0)]]⟩ := (hfr25 _ (by simp)).trans (by simp [h1, h2, h3, m1_1, m2_2, m3_4, Heap.get_set])
  have m3_4 : H23 (n4, 3) = some ⟨6, [[int a.roots, v18, .v (.slice none 0 0), int 0, .v (.slice none 0 0), .v (.slice none 0 0)]]⟩ := (hfr25 _ (by simp)).trans (by simp [h1, h2, h3, m1_1, m2_2, m3_4, Heap.get_set])
  have f28 := cell_own (Sep.cells sp)
  have f29 := cell_own (Sep.one1 sp)
  simp [h1, h2, h3, m1_1, m2_2, m3_4, f28, f29, GNode.cells, Wire.cells, intC, sliceC, strC, -cellsA, -one1, cA_int, cA_bool, cA_str, cA_nil, cA_agg, cA_list, cA_arr, cA_ptr, o1_int, o1_bool, o1_str, o1_nil, o1_list, o1_arr, o1_ptr]
  refine hk' _ _ _ ?_
  refine Runs.cut (fun ρ H n => ∃ (v30 : AVal) (v31 : AVal), ρ 1 = .ptr (n1, 1) 1 0 0 ∧ ρ 2 = .ptr (n1 + 1, 2) 1 0 0 ∧ ρ 3 = .ptr (n4, 3) 1 0 0 ∧ H (n1, 1) = some ⟨6, [[int a.roots, .list false (a.nodes.map (GNode.cells false)), .list false (a.sites.map intC), int a.edges, .list false (a.outer.map strC), .list false (a.inner.map Wire.cells)]]⟩ ∧ H (n1 + 1, 2) = some ⟨6, [[int 0, .v (.slice none 0 0), .v (.slice none 0 0), int 0, .v (.slice none 0 0), .v (.slice none 0 0)]]⟩ ∧ H (n4, 3) = some ⟨6, [[int a.roots, v31, v30, int 0, .v (.slice none 0 0), .v (.slice none 0 0)]]⟩ ∧ Sep H n [(.s [.c], v30, .list true (r21.map intC)), (.s [.c, .c, .s [.c]], v31, .list true (r9.map (GNode.cells true)))] [(n4, 3), (n1 + 1, 2), (n1, 1)]) (by refine ⟨v22, v18, ?_, ?_, ?_, ?_, ?_, ?_, (Sep.front (K1 := [(.s [.c, .c, .s [.c]], v18, .list true (r9.map (GNode.cells true)))]) (K2 := []) (Sep.front (K1 := [(.s [.c], v22, .list true (r21.map intC))]) (K2 := []) (Sep.setVar (w := (n4, 3)) sp (by simp))))⟩ <;> simp [h1, h2, h3, m1_1, m2_2, m3_4, f28, f29, GNode.cells, Wire.cells, intC, sliceC, strC, -cellsA, -one1, cA_int, cA_bool, cA_str, cA_nil, cA_agg, cA_list, cA_arr, cA_ptr, o1_int, o1_bool, o1_str, o1_nil, o1_list, o1_arr, o1_ptr]) ?_
  clear h1 h2 h3 m1_1 m2_2 m3_4
  rintro ρ H n32 ⟨v30, v31, h1, h2, h3, m1_1, m2_2, m3_4, sp⟩
  refine Runs.seqE Ty_ok (by decide) fun k' hk' => ?_
  simp [h1, h2, h3, m1_1, m2_2, m3_4, GNode.cells, Wire.cells, intC, sliceC, strC]
  refine hk' _ _ _ ?_
  refine Runs.cut (fun ρ H n => ∃ (v33 : AVal) (v34 : AVal), ρ 1 = .ptr (n1, 1) 1 0 0 ∧ ρ 2 = .ptr (n1 + 1, 2) 1 0 0 ∧ ρ 3 = .ptr (n4, 3) 1 0 0 ∧ H (n1, 1) = some ⟨6, [[int a.roots, .list false (a.nodes.map (GNode.cells false)), .list false (a.sites.map intC), int a.edges, .list false (a.outer.map strC), .list false (a.inner.map Wire.cells)]]⟩ ∧ H (n1 + 1, 2) = some ⟨6, [[int 0, .v (.slice none 0 0), .v (.slice none 0 0), int 0, .v (.slice none 0 0), .v (.slice none 0 0)]]⟩ ∧ H (n4, 3) = some ⟨6, [[int a.roots, v34, v33, int a.edges, .v (.slice none 0 0), .v (.slice none 0 0)]]⟩ ∧ Sep H n [(.s [.c], v33, .list true (r21.map intC)), (.s [.c, .c, .s [.c]], v34, .list true (r9.map (GNode.cells true)))] [(n4, 3), (n1 + 1, 2), (n1, 1)]) (by refine ⟨v30, v31, ?_, ?_, ?_, ?_, ?_, ?_, (Sep.front (K1 := [(.s [.c, .c, .s [.c]], v31, .list true (r9.map (GNode.cells true)))]) (K2 := []) (Sep.front (K1 := [(.s [.c], v30, .list true (r21.map intC))]) (K2 := []) (Sep.setVar (w := (n4, 3)) sp (by simp))))⟩ <;> simp [h1, h2, h3, m1_1, m2_2, m3_4, GNode.cells, Wire.cells, intC, sliceC, strC]) ?_
  clear h1 h2 h3 m1_1 m2_2 m3_4
  rintro ρ H n35 ⟨v33, v34, h1, h2, h3, m1_1, m2_2, m3_4, sp⟩
  refine Runs.seqE Ty_ok (by decide) fun k' hk' => ?_
  obtain ⟨hb36, h⟩ := h
  obtain ⟨r37, er37⟩ : ∃ v : List Str, v = toStringS a.outer := ⟨_, rfl⟩
  replace h := h r37 er37
  simp [h1, h2, h3, m1_1, m2_2, m3_4, GNode.cells, Wire.cells, intC, sliceC, strC]
  refine RunK.callW Ty_ok (toStringS_ok a.outer hb36) e93 (.cons (ArgOk.listF (fr := false) (els := a.outer.map strC) (by simp [strC])) .nil) sp (by decide) (by decide) rfl (by simp [h1, h2, h3, m1_1, m2_2, m3_4, GNode.cells, Wire.cells, intC, sliceC, strC]) ?_
  rintro v38 H39 n40 _ sp rfl hle42 hfr41
  rw [← er37] at sp
  have m1_1 : H39 (n1, 1) = some ⟨6, [[int a.roots, .list false (a.nodes.map (GNode.cells false)), .list false (a.sites.map intC), int a.edges, .list false (a.outer.map strC), .list false (a.inner.map Wire.cells)]]⟩ := (hfr41 _ (by simp)).trans (by simp [h1, h2, h3, m1_1, m2_2, m3_4, Heap.get_set])
  have m2_2 : H39 (n1 + 1, 2) = some ⟨6, [[int 0, .v (.slice none 0 0), .v (.slice none 0 0), int 0, .v (.slice none 0 0), .v (.slice none 0 0)]]⟩ := (hfr41 _ (by simp)).trans (by simp [h1, h2, h3, m1_1, m2_2, m3_4, Heap.get_set])
  have m3_4 : H39 (n4, 3) = some ⟨6, [[int a.roots, v34, v33, int a.edges, .v (.slice none 0 0), .v (.slice none 0 0)]]⟩ := (hfr41 _ (by simp)).trans (by simp [h1, h2, h3, m1_1, m2_2, m3_4, Heap.get_set])
  have f44 := cell_own (Sep.cells sp)
  have f45 := cell_own (Sep.one1 sp)
  simp [h1, h2, h3, m1_1, m2_2, m3_4, f44, f45, GNode.cells, Wire.cells, intC, sliceC, strC, -cellsA, -one1, cA_int, cA_bool, cA_str, cA_nil, cA_agg, cA_list, cA_arr, cA_ptr, o1_int, o1_bool, o1_str, o1_nil, o1_list, o1_arr, o1_ptr]
  refine hk' _ _ _ ?_
  refine Runs.cut (fun ρ H n => ∃ (v46 : AVal) (v47 : AVal) (v48 : AVal), ρ 1 = .ptr (n1, 1) 1 0 0 ∧ ρ 2 = .ptr (n1 + 1, 2) 1 0 0 ∧ ρ 3 = .ptr (n4, 3) 1 0 0 ∧ H (n1, 1) = some ⟨6, [[int a.roots, .list false (a.nodes.map (GNode.cells false)), .list false (a.sites.map intC), int a.edges, .list false (a.outer.map strC), .list false (a.inner.map Wire.cells)]]⟩ ∧ H (n1 + 1, 2) = some ⟨6, [[int 0, .v (.slice none 0 0), .v (.slice none 0 0), int 0, .v (.slice none 0 0), .v (.slice none 0 0)]]⟩ ∧ H (n4, 3) = some ⟨6, [[int a.roots, v48, v47, int a.edges, v46, .v (.slice none 0 0)]]⟩ ∧ Sep H n [(.s [.c], v46, .list true (r37.map strC)), (.s [.c], v47, .list true (r21.map intC)), (.s [.c, .c, .s [.c]], v48, .list true (r9.map (GNode.cells true)))] [(n4, 3), (n1 + 1, 2), (n1, 1)]) (by refine ⟨v38, v33, v34, ?_, ?_, ?_, ?_, ?_, ?_, (Sep.front (K1 := [(.s [.c], v33, .list true (r21.map intC)), (.s [.c, .c, .s [.c]], v34, .list true (r9.map (GNode.cells true)))]) (K2 := []) (Sep.front (K1 := [(.s [.c, .c, .s [.c]], v34, .list true (r9.map (GNode.cells true))), (.s [.c], v38, .list true (r37.map strC))]) (K2 := []) (Sep.front (K1 := [(.s [.c], v38, .list true (r37.map strC)), (.s [.c], v33, .list true (r21.map intC))]) (K2 := []) (Sep.setVar (w := (n4, 3)) sp (by simp)))))⟩ <;> simp [h1, h2, h3, m1_1, m2_2, m3_4, f44, f45, GNode.cells, Wire.cells, intC, sliceC, strC, -cellsA, -one1, cA_int, cA_bool, cA_str, cA_nil, cA_agg, cA_list, cA_arr, cA_ptr, o1_int, o1_bool, o1_str, o1_nil, o1_list, o1_arr, o1_ptr]) ?_
  clear h1 h2 h3 m1_1 m2_2 m3_4
  rintro ρ H n49 ⟨v46, v47, v48, h1, h2, h3, m1_1, m2_2, m3_4, sp⟩
  refine Runs.seqE Ty_ok (by decide) fun k' hk' => ?_
  obtain ⟨hb50, h⟩ := h
  obtain ⟨r51, er51⟩ : ∃ v : List Wire, v = toWireS a.inner := ⟨_, rfl⟩
  replace h := h r51 er51
  simp [h1, h2, h3, m1_1, m2_2, m3_4, GNode.cells, Wire.cells, intC, sliceC, strC]
  refine RunK.callW Ty_ok (toWireS_ok a.inner hb50) e94 (.cons (ArgOk.listF (fr := false) (els := a.inner.map Wire.cells) (by simp [Wire.cells, strC, intC])) .nil) sp (by decide) (by decide) rfl (by simp [h1, h2, h3, m1_1, m2_2, m3_4, GNode.cells, Wire.cells, intC, sliceC, strC]) ?_
  rintro v52 H53 n54 _ sp rfl hle56 hfr55
  rw [← er51] at sp
  have m1_1 : H53 (n1, 1) = some ⟨6, [[int a.roots, .list false (a.nodes.map (GNode.cells false)), .list false (a.sites.map intC), int a.edges, .list false (a.outer.map strC), .list false (a.inner.map Wire.cells)]]⟩ := (hfr55 _ (by simp)).trans (by simp [h1, h2, h3, m1_1, m2_2, m3_4, Heap.get_set])
  have m2_2 : H53 (n1 + 1, 2) = some ⟨6, [[int 0, .v (.slice none 0 0), .v (.slice none 0 0), int 0, .v (.slice none 0 0), .v (.slice none 0 0)]]⟩ := (hfr55 _ (by simp)).trans (by simp [h1, h2, h3, m1_1, m2_2, m3_4, Heap.get_set])
  have m3_4 : H53 (n4, 3) = some ⟨6, [[int a.roots, v48, v47, int a.edges, v46, .v (.slice none 0 0)]]⟩ := (hfr55 _ (by simp)).trans (by simp [h1, h2, h3, m1_1, m2_2, m3_4, Heap.get_set])
  have f58 := cell_own (Sep.cells sp)
  have f59 := cell_own (Sep.one1 sp)
  simp [h1, h2, h3, m1_1, m2_2, m3_4, f58, f59, GNode.cells, Wire.cells, intC, sliceC, strC, -cellsA, -one1, cA_int, cA_bool, cA_str, cA_nil, cA_agg, cA_list, cA_arr, cA_ptr, o1_int, o1_bool, o1_str, o1_nil, o1_list, o1_arr, o1_ptr]
  refine hk' _ _ _ ?_
  refine Runs.cut (fun ρ H n => ∃ (v60 : AVal) (v61 : AVal) (v62 : AVal) (v63 : AVal), ρ 2 = .ptr (n1 + 1, 2) 1 0 0 ∧ ρ 3 = .ptr (n4, 3) 1 0 0 ∧ H (n1 + 1, 2) = some ⟨6, [[int 0, .v (.slice none 0 0), .v (.slice none 0 0), int 0, .v (.slice none 0 0), .v (.slice none 0 0)]]⟩ ∧ H (n4, 3) = some ⟨6, [[int a.roots, v63, v62, int a.edges, v61, v60]]⟩ ∧ Sep H n [(.s [.c, .c], v60, .list true (r51.map Wire.cells)), (.s [.c], v61, .list true (r37.map strC)), (.s [.c], v62, .list true (r21.map intC)), (.s [.c, .c, .s [.c]], v63, .list true (r9.map (GNode.cells true)))] [(n4, 3), (n1 + 1, 2)]) (by refine ⟨v52, v46, v47, v48, ?_, ?_, ?_, ?_, (Sep.sub (Sep.front (K1 := [(.s [.c], v46, .list true (r37.map strC)), (.s [.c], v47, .list true (r21.map intC)), (.s [.c, .c, .s [.c]], v48, .list true (r9.map (GNode.cells true)))]) (K2 := []) (Sep.front (K1 := [(.s [.c], v47, .list true (r21.map intC)), (.s [.c, .c, .s [.c]], v48, .list true (r9.map (GNode.cells true))), (.s [.c, .c], v52, .list true (r51.map Wire.cells))]) (K2 := []) (Sep.front (K1 := [(.s [.c, .c, .s [.c]], v48, .list true (r9.map (GNode.cells true))), (.s [.c, .c], v52, .list true (r51.map Wire.cells)), (.s [.c], v46, .list true (r37.map strC))]) (K2 := []) (Sep.front (K1 := [(.s [.c, .c], v52, .list true (r51.map Wire.cells)), (.s [.c], v46, .list true (r37.map strC)), (.s [.c], v47, .list true (r21.map intC))]) (K2 := []) (Sep.setVar (w := (n4, 3)) sp (by simp)))))) (by simp +contextual))⟩ <;> simp [h1, h2, h3, m1_1, m2_2, m3_4, f58, f59, GNode.cells, Wire.cells, intC, sliceC, strC, -cellsA, -one1, cA_int, cA_bool, cA_str, cA_nil, cA_agg, cA_list, cA_arr, cA_ptr, o1_int, o1_bool, o1_str, o1_nil, o1_list, o1_arr, o1_ptr]) ?_
  clear h1 h2 h3 m1_1 m2_2 m3_4
  rintro ρ H n64 ⟨v60, v61, v62, v63, h2, h3, m2_2, m3_4, sp⟩
  refine Runs.seqE Ty_ok (by decide) fun k' hk' => ?_
  have f65 := cell_own (Sep.cells (Sep.front (K1 := [(.s [.c, .c], v60, .list true (r51.map Wire.cells)), (.s [.c], v61, .list true (r37.map strC)), (.s [.c], v62, .list true (r21.map intC))]) (K2 := []) sp))
  have f66 := cell_own (Sep.one1 (Sep.front (K1 := [(.s [.c, .c], v60, .list true (r51.map Wire.cells)), (.s [.c], v61, .list true (r37.map strC)), (.s [.c], v62, .list true (r21.map intC))]) (K2 := []) sp))
  have f67 := cell_own (Sep.cells (Sep.front (K1 := [(.s [.c, .c], v60, .list true (r51.map Wire.cells)), (.s [.c], v61, .list true (r37.map strC))]) (K2 := [(.s [.c, .c, .s [.c]], v63, .list true (r9.map (GNode.cells true)))]) sp))
  have f68 := cell_own (Sep.one1 (Sep.front (K1 := [(.s [.c, .c], v60, .list true (r51.map Wire.cells)), (.s [.c], v61, .list true (r37.map strC))]) (K2 := [(.s [.c, .c, .s [.c]], v63, .list true (r9.map (GNode.cells true)))]) sp))
  have f69 := cell_own (Sep.cells (Sep.front (K1 := [(.s [.c, .c], v60, .list true (r51.map Wire.cells))]) (K2 := [(.s [.c], v62, .list true (r21.map intC)), (.s [.c, .c, .s [.c]], v63, .list true (r9.map (GNode.cells true)))]) sp))
  have f70 := cell_own (Sep.one1 (Sep.front (K1 := [(.s [.c, .c], v60, .list true (r51.map Wire.cells))]) (K2 := [(.s [.c], v62, .list true (r21.map intC)), (.s [.c, .c, .s [.c]], v63, .list true (r9.map (GNode.cells true)))]) sp))
  have f71 := cell_own (Sep.cells sp)
  have f72 := cell_own (Sep.one1 sp)
  simp [h2, h3, m2_2, m3_4, f65, f66, f67, f68, f69, f70, f71, f72, GNode.cells, Wire.cells, intC, sliceC, strC, -cellsA, -one1, cA_int, cA_bool, cA_str, cA_nil, cA_agg, cA_list, cA_arr, cA_ptr, o1_int, o1_bool, o1_str, o1_nil, o1_list, o1_arr, o1_ptr]
  refine hk' _ _ _ ?_
  refine Runs.cut (fun ρ H n => ∃ (v73 : AVal) (v74 : AVal) (v75 : AVal) (v76 : AVal), ρ 2 = .ptr (n1 + 1, 2) 1 0 0 ∧ H (n1 + 1, 2) = some ⟨6, [[int a.roots, v76, v75, int a.edges, v74, v73]]⟩ ∧ Sep H n [(.s [.c, .c], v73, .list true (r51.map Wire.cells)), (.s [.c], v74, .list true (r37.map strC)), (.s [.c], v75, .list true (r21.map intC)), (.s [.c, .c, .s [.c]], v76, .list true (r9.map (GNode.cells true)))] [(n1 + 1, 2)]) (by refine ⟨v60, v61, v62, v63, ?_, ?_, (Sep.sub (Sep.front (K1 := [(.s [.c], v61, .list true (r37.map strC)), (.s [.c], v62, .list true (r21.map intC)), (.s [.c, .c, .s [.c]], v63, .list true (r9.map (GNode.cells true)))]) (K2 := []) (Sep.front (K1 := [(.s [.c], v62, .list true (r21.map intC)), (.s [.c, .c, .s [.c]], v63, .list true (r9.map (GNode.cells true))), (.s [.c, .c], v60, .list true (r51.map Wire.cells))]) (K2 := []) (Sep.front (K1 := [(.s [.c, .c, .s [.c]], v63, .list true (r9.map (GNode.cells true))), (.s [.c, .c], v60, .list true (r51.map Wire.cells)), (.s [.c], v61, .list true (r37.map strC))]) (K2 := []) (Sep.front (K1 := [(.s [.c, .c], v60, .list true (r51.map Wire.cells)), (.s [.c], v61, .list true (r37.map strC)), (.s [.c], v62, .list true (r21.map intC))]) (K2 := []) (Sep.setVar (w := (n1 + 1, 2)) sp (by simp)))))) (by simp +contextual))⟩ <;> simp [h2, h3, m2_2, m3_4, f65, f66, f67, f68, f69, f70, f71, f72, GNode.cells, Wire.cells, intC, sliceC, strC, -cellsA, -one1, cA_int, cA_bool, cA_str, cA_nil, cA_agg, cA_list, cA_arr, cA_ptr, o1_int, o1_bool, o1_str, o1_nil, o1_list, o1_arr, o1_ptr]) ?_
  clear h2 h3 m2_2 m3_4
  rintro ρ H n77 ⟨v73, v74, v75, v76, h2, m2_2, sp⟩
  exact Runs.res1 Ty_ok (v := .agg [int a.roots, v76, v75, int a.edges, v74, v73]) Tryd.func37 Tryd.results37 (by simp [h2, m2_2, resA, GNode.cells, Wire.cells, intC, sliceC, strC]) (hQ _ _ _ _ (Sep.sub (ids' := []) (Sep.pack (K := []) (Fill.v _ (Fill.own (Fill.own (Fill.v _ (Fill.own (Fill.own Fill.nil)))))) (Sep.front (K1 := [(.s [.c], v75, .list true (r21.map intC)), (.s [.c], v74, .list true (r37.map strC)), (.s [.c, .c], v73, .list true (r51.map Wire.cells))]) (K2 := []) (Sep.front (K1 := [(.s [.c], v74, .list true (r37.map strC)), (.s [.c, .c], v73, .list true (r51.map Wire.cells))]) (K2 := [(.s [.c, .c, .s [.c]], v76, .list true (r9.map (GNode.cells true)))]) (Sep.front (K1 := [(.s [.c, .c], v73, .list true (r51.map Wire.cells))]) (K2 := [(.s [.c], v75, .list true (r21.map intC)), (.s [.c, .c, .s [.c]], v76, .list true (r9.map (GNode.cells true)))]) sp)))) (by simp)) ⟨(Big.mk a.roots r9 r21 a.edges r37 r51), h, rfl⟩)

theorem toBigraph_ok (a : Big) (hp : toBigraph_pre a) : OwnS Tryd.prog 37 [.agg [int a.roots, .list false (a.nodes.map (GNode.cells false)), .list false (a.sites.map intC), int a.edges, .list false (a.outer.map strC), .list false (a.inner.map Wire.cells)]] (.a [.c, .s [.c, .c, .s [.c]], .s [.c], .c, .s [.c], .s [.c, .c]]) (fun r => r = .agg [int ((toBigraph a).roots), .list true (((toBigraph a).nodes).map (GNode.cells true)), .list true (((toBigraph a).sites).map intC), int ((toBigraph a).edges), .list true (((toBigraph a).outer).map strC), .list true (((toBigraph a).inner).map Wire.cells)]) := (toBigraph_walk a _ (toBigraph_vc a hp)).mono (by rintro _ ⟨_, rfl, rfl⟩; rfl)

theorem e43 : Ent Tryd.prog 43 := Ent.of Tryd.func43 (by kernel_rfl) rfl
theorem markIntS_walk (a : List Int) (k_ : Int) (Z : ((List Int) × Int) → Prop) (h : markIntS_wp a k_ Z) : MutS Tryd.prog 43 (fun v => [v, int k_]) (.s [.c]) (.list true (a.map intC)) (fun e' r => ∃ y : (List Int) × Int, Z y ∧ e' = .list true (y.1.map intC) ∧ r = int y.2) := by
  unfold markIntS_wp at h
  refine MutS.of Tryd.func43 rfl Tryd.ntmps43 (fun _ => by simp) fun H0 n0 v0 K0 ids0 sp Q hQ => ?_
  have h00 := sp.1
  have hid : ∀ i ∈ ids0, H0 i = H0 i := fun _ _ => rfl
  have hnn : n0 ≤ n0 := Nat.le_refl _
  refine Runs.cut (fun ρ H n => ρ 0 = v0 ∧ ρ 1 = int k_ ∧ n0 ≤ n ∧ (∀ i ∈ ids0, H i = H0 i) ∧ Sep H n ((.s [.c], v0, .list true (a.map intC)) :: K0) (ids0)) (by refine ⟨?_, ?_, (by omega), hid, sp⟩ <;> simp [intC]) ?_
  rintro ρ H n2 ⟨h0, h1, hnn, hid, sp⟩
  have hq_n2 := hnn
  refine Runs.seqE Ty_ok (by decide) fun k' hk' => ?_
  simp [h0, h1, intC]
  refine hk' _ _ _ ?_
  refine Runs.seq ?_
  refine Runs.seqE Ty_ok (by decide) fun k' hk' => ?_
  simp [h0, h1, intC]
  refine hk' _ _ _ ?_
  refine Runs.block ?_
  refine Runs.loopW h (fun (s : Int × Int × (List Int)) ρ H n => match s with | (k10, i11, l12) => ρ 0 = v0 ∧ ρ 1 = int k10 ∧ ρ 5 = int i11 ∧ n0 ≤ n ∧ (∀ i ∈ ids0, H i = H0 i) ∧ Sep H n ((.s [.c], v0, .list true (l12.map intC)) :: K0) (ids0)) (by refine ⟨?_, ?_, ?_, (by omega), hid, sp⟩ <;> simp [h0, h1, intC]) ?_
  clear h0 h1
  rintro ⟨k10, i11, l12⟩ ρ H n13 K h ⟨h0, h1, h5, hnn, hid, sp⟩ IH
  have hq_n13 := hnn
  refine Runs.seq ?_
  refine Runs.seqE Ty_ok (by decide) fun k' hk' => ?_
  obtain ⟨len15, elen15⟩ : ∃ v : Int, v = (l12.length : Int) := ⟨_, rfl⟩
  replace h := h len15 elen15
  have f16 := len_own (Sep.len (m := len15) sp kd_47 (by rw [elen15, List.length_map]))
  obtain ⟨c17, ec17⟩ : ∃ v : Bool, v = decide (i11 < len15) := ⟨_, rfl⟩
  replace h := h c17 ec17
  have f18 := ib_lss (k := .i64) ec17
  simp [h0, h1, h5, f16, f18, intC, -intBin, -lenF]
  refine hk' _ _ _ ?_
  refine Runs.ite (b := c17) (by simp [h0, h1, h5, intC]) (fun dc17 => ?_) (fun dc17 => ?_)
  · replace h := h.1 dc17
    refine Runs.skip ?_
    refine Runs.seq ?_
    refine Runs.block ?_
    refine Runs.seqE Ty_ok (by decide) fun k' hk' => ?_
    obtain ⟨hb19, h⟩ := h
    obtain ⟨id20, hv, mo21, ln22, ni23⟩ := Sep.openF sp (by simp) hb19
    subst hv
    obtain ⟨x24, ex24⟩ : ∃ v : Int, v = at' l12 i11 := ⟨_, rfl⟩
    replace h := h x24 ex24
    have f25 := fun H (hm : H id20 = some ⟨1, l12.map intC⟩) => ix_arr (H := H) (k := .i64) (off := 0) (len := l12.length) (g := l12.length) kd_47 hm (by simp) rfl hb19
    have f26 := at_some (q := i11.toNat) hb19 ex24 rfl
    obtain ⟨l27, el27⟩ : ∃ v : List Int, v = l12.set i11.toNat k10 := ⟨_, rfl⟩
    replace h := h l27 el27
    simp [h0, h1, h5, mo21, f25, f26, dc17, intC, -indexAddrF, -storeF]
    refine bind_store (q := i11.toNat) (news := intC k10) [] (K0) sp (by simp) (by simp; omega) (by simp) (by simp [-one1, o1_int, o1_bool, o1_str, o1_nil, o1_list, o1_arr, o1_ptr]) (Fill.v _ Fill.nil) ?_
    rintro H28 sp hfr29
    replace sp : Sep H28 n13 ((.s [.c], .arr id20 l12.length 0 l12.length, .list true (l27.map intC)) :: K0) (ids0) := by rw [el27, List.map_set]; exact sp
    have hid : ∀ i ∈ ids0, H28 i = H0 i := fun i hi => (hfr29 i (by simp [hi])).trans (hid i hi)
    simp [h0, h1, h5, f25, f26, dc17, intC, -indexAddrF]
    refine hk' _ _ _ ?_
    refine Runs.cut (fun ρ H n => ρ 0 = .arr id20 l12.length 0 l12.length ∧ ρ 1 = int k10 ∧ ρ 5 = int i11 ∧ n0 ≤ n ∧ (∀ i ∈ ids0, H i = H0 i) ∧ Sep H n ((.s [.c], .arr id20 l12.length 0 l12.length, .list true (l27.map intC)) :: K0) (ids0)) (by refine ⟨?_, ?_, ?_, (by omega), hid, sp⟩ <;> simp [h0, h1, h5, f25, f26, dc17, intC, -indexAddrF]) ?_
    clear h0 h1 h5
    rintro ρ H n30 ⟨h0, h1, h5, hnn, hid, sp⟩
    have hq_n30 := hnn
    refine Runs.evalE Ty_ok (by decide) fun k' hk' => ?_
    obtain ⟨hb31, h⟩ := h
    obtain ⟨v32, ev32⟩ : ∃ v : Int, v = k10 + 1 := ⟨_, rfl⟩
    replace h := h v32 ev32
    have f33 := ib_add hb31 ev32
    simp [h0, h1, h5, f33, dc17, intC, -intBin]
    refine hk' _ _ _ ?_
    refine Runs.inBlock ?_
    refine Runs.evalE Ty_ok (by decide) fun k' hk' => ?_
    obtain ⟨hb34, h⟩ := h
    obtain ⟨v35, ev35⟩ : ∃ v : Int, v = i11 + 1 := ⟨_, rfl⟩
    replace h := h v35 ev35
    have f36 := ib_add hb34 ev35
    simp [h0, h1, h5, f36, dc17, intC, -intBin]
    refine hk' _ _ _ ?_
    refine IH (v32, v35, l27) _ _ _ h (by refine ⟨?_, ?_, ?_, (by omega), hid, sp⟩ <;> simp [h0, h1, h5, dc17, intC])
  · replace h := h.2 dc17
    refine Runs.exit rfl ?_
    refine Runs.seqE Ty_ok (by decide) fun k' hk' => ?_
    simp [h0, h1, h5, dc17, intC]
    refine hk' _ _ _ ?_
    exact Runs.ret1 (v := int k10) Tryd.func43 Tryd.results43 (by simp [h0, h1, h5, dc17, intC]) (hQ _ _ _ _ (Sep.sub sp (by simp +contextual)) hid (by omega) ⟨(l12, k10), h, rfl, rfl⟩)

theorem markIntS_ok (a : List Int) (k_ : Int) (hp : markIntS_pre a k_) : MutS Tryd.prog 43 (fun v => [v, int k_]) (.s [.c]) (.list true (a.map intC)) (fun e' r => e' = .list true (((markIntS a k_).1).map intC) ∧ r = int ((markIntS a k_).2)) := (markIntS_walk a k_ _ (markIntS_vc a k_ hp)).mono (by rintro _ _ ⟨_, rfl, rfl, rfl⟩; exact ⟨rfl, rfl⟩)

theorem e101 : Ent Tryd.prog 101 := Ent.of Tryd.func101 (by kernel_rfl) rfl
theorem markStringS_walk (a : List Str) (k_ : Int) (Z : ((List Str) × Int) → Prop) (h : markStringS_wp a k_ Z) : MutS Tryd.prog 101 (fun v => [v, int k_]) (.s [.c]) (.list true (a.map strC)) (fun e' r => ∃ y : (List Str) × Int, Z y ∧ e' = .list true (y.1.map strC) ∧ r = int y.2) := by
  unfold markStringS_wp at h
  refine MutS.of Tryd.func101 rfl Tryd.ntmps101 (fun _ => by simp) fun H0 n0 v0 K0 ids0 sp Q hQ => ?_
  have h00 := sp.1
  have hid : ∀ i ∈ ids0, H0 i = H0 i := fun _ _ => rfl
  have hnn : n0 ≤ n0 := Nat.le_refl _
  refine Runs.cut (fun ρ H n => ρ 0 = v0 ∧ ρ 1 = int k_ ∧ n0 ≤ n ∧ (∀ i ∈ ids0, H i = H0 i) ∧ Sep H n ((.s [.c], v0, .list true (a.map strC)) :: K0) (ids0)) (by refine ⟨?_, ?_, (by omega), hid, sp⟩ <;> simp [strC]) ?_
  rintro ρ H n2 ⟨h0, h1, hnn, hid, sp⟩
  have hq_n2 := hnn
  refine Runs.seqE Ty_ok (by decide) fun k' hk' => ?_
  simp [h0, h1, strC]
  refine hk' _ _ _ ?_
  refine Runs.seq ?_
  refine Runs.seqE Ty_ok (by decide) fun k' hk' => ?_
  simp [h0, h1, strC]
  refine hk' _ _ _ ?_
  refine Runs.block ?_
  refine Runs.loopW h (fun (s : Int × Int × (List Str)) ρ H n => match s with | (k10, i11, l12) => ρ 0 = v0 ∧ ρ 1 = int k10 ∧ ρ 5 = int i11 ∧ n0 ≤ n ∧ (∀ i ∈ ids0, H i = H0 i) ∧ Sep H n ((.s [.c], v0, .list true (l12.map strC)) :: K0) (ids0)) (by refine ⟨?_, ?_, ?_, (by omega), hid, sp⟩ <;> simp [h0, h1, strC]) ?_
  clear h0 h1
  rintro ⟨k10, i11, l12⟩ ρ H n13 K h ⟨h0, h1, h5, hnn, hid, sp⟩ IH
  have hq_n13 := hnn
  refine Runs.seq ?_
  refine Runs.seqE Ty_ok (by decide) fun k' hk' => ?_
  obtain ⟨len15, elen15⟩ : ∃ v : Int, v = (l12.length : Int) := ⟨_, rfl⟩
  replace h := h len15 elen15
  have f16 := len_own (Sep.len (m := len15) sp kd_48 (by rw [elen15, List.length_map]))
  obtain ⟨c17, ec17⟩ : ∃ v : Bool, v = decide (i11 < len15) := ⟨_, rfl⟩
  replace h := h c17 ec17
  have f18 := ib_lss (k := .i64) ec17
  simp [h0, h1, h5, f16, f18, strC, -intBin, -lenF]
  refine hk' _ _ _ ?_
  refine Runs.ite (b := c17) (by simp [h0, h1, h5, strC]) (fun dc17 => ?_) (fun dc17 => ?_)
  · replace h := h.1 dc17
    refine Runs.skip ?_
    refine Runs.seq ?_
    refine Runs.block ?_
    refine Runs.seqE Ty_ok (by decide) fun k' hk' => ?_
    obtain ⟨hb19, h⟩ := h
    obtain ⟨r20, er20⟩ : ∃ v : Str, v = markTxt k10 := ⟨_, rfl⟩
    replace h := h r20 er20
    simp [h0, h1, h5, dc17, strC]
    refine RunK.callA Ty_ok (markTxt_ok k10 hb19) e99 (.cons (.v _ _ _) .nil) (by decide) (by decide) rfl (by simp [h0, h1, h5, dc17, strC]) ?_
    rintro _ rfl
    rw [← er20]
    obtain ⟨hb21, h⟩ := h
    obtain ⟨id22, hv, mo23, ln24, ni25⟩ := Sep.openF sp (by simp) hb21
    subst hv
    obtain ⟨x26, ex26⟩ : ∃ v : Str, v = at' l12 i11 := ⟨_, rfl⟩
    replace h := h x26 ex26
    have f27 := fun H (hm : H id22 = some ⟨1, l12.map strC⟩) => ix_arr (H := H) (k := .i64) (off := 0) (len := l12.length) (g := l12.length) kd_48 hm (by simp) rfl hb21
    have f28 := at_some (q := i11.toNat) hb21 ex26 rfl
    obtain ⟨l29, el29⟩ : ∃ v : List Str, v = l12.set i11.toNat r20 := ⟨_, rfl⟩
    replace h := h l29 el29
    simp [h0, h1, h5, mo23, f27, f28, dc17, strC, -indexAddrF, -storeF]
    refine bind_store (q := i11.toNat) (news := strC r20) [] (K0) sp (by simp) (by simp; omega) (by simp) (by simp [-one1, o1_int, o1_bool, o1_str, o1_nil, o1_list, o1_arr, o1_ptr]) (Fill.v _ Fill.nil) ?_
    rintro H30 sp hfr31
    replace sp : Sep H30 n13 ((.s [.c], .arr id22 l12.length 0 l12.length, .list true (l29.map strC)) :: K0) (ids0) := by rw [el29, List.map_set]; exact sp
    have hid : ∀ i ∈ ids0, H30 i = H0 i := fun i hi => (hfr31 i (by simp [hi])).trans (hid i hi)
    simp [h0, h1, h5, f27, f28, dc17, strC, -indexAddrF]
    refine hk' _ _ _ ?_
    refine Runs.cut (fun ρ H n => ρ 0 = .arr id22 l12.length 0 l12.length ∧ ρ 1 = int k10 ∧ ρ 5 = int i11 ∧ n0 ≤ n ∧ (∀ i ∈ ids0, H i = H0 i) ∧ Sep H n ((.s [.c], .arr id22 l12.length 0 l12.length, .list true (l29.map strC)) :: K0) (ids0)) (by refine ⟨?_, ?_, ?_, (by omega), hid, sp⟩ <;> simp [h0, h1, h5, f27, f28, dc17, strC, -indexAddrF]) ?_
    clear h0 h1 h5
    rintro ρ H n32 ⟨h0, h1, h5, hnn, hid, sp⟩
    have hq_n32 := hnn
    refine Runs.evalE Ty_ok (by decide) fun k' hk' => ?_
    obtain ⟨hb33, h⟩ := h
    obtain ⟨v34, ev34⟩ : ∃ v : Int, v = k10 + 1 := ⟨_, rfl⟩
    replace h := h v34 ev34
    have f35 := ib_add hb33 ev34
    simp [h0, h1, h5, f35, dc17, strC, -intBin]
    refine hk' _ _ _ ?_
    refine Runs.inBlock ?_
    refine Runs.evalE Ty_ok (by decide) fun k' hk' => ?_
    obtain ⟨hb36, h⟩ := h
    obtain ⟨v37, ev37⟩ : ∃ v : Int, v = i11 + 1 := ⟨_, rfl⟩
    replace h := h v37 ev37
    have f38 := ib_add hb36 ev37
    simp [h0, h1, h5, f38, dc17, strC, -intBin]
    refine hk' _ _ _ ?_
    refine IH (v34, v37, l29) _ _ _ h (by refine ⟨?_, ?_, ?_, (by omega), hid, sp⟩ <;> simp [h0, h1, h5, dc17, strC])
  · replace h := h.2 dc17
    refine Runs.exit rfl ?_
    refine Runs.seqE Ty_ok (by decide) fun k' hk' => ?_
    simp [h0, h1, h5, dc17, strC]
    refine hk' _ _ _ ?_
    exact Runs.ret1 (v := int k10) Tryd.func101 Tryd.results101 (by simp [h0, h1, h5, dc17, strC]) (hQ _ _ _ _ (Sep.sub sp (by simp +contextual)) hid (by omega) ⟨(l12, k10), h, rfl, rfl⟩)

theorem markStringS_ok (a : List Str) (k_ : Int) (hp : markStringS_pre a k_) : MutS Tryd.prog 101 (fun v => [v, int k_]) (.s [.c]) (.list true (a.map strC)) (fun e' r => e' = .list true (((markStringS a k_).1).map strC) ∧ r = int ((markStringS a k_).2)) := (markStringS_walk a k_ _ (markStringS_vc a k_ hp)).mono (by rintro _ _ ⟨_, rfl, rfl, rfl⟩; exact ⟨rfl, rfl⟩)

theorem e102 : Ent Tryd.prog 102 := Ent.of Tryd.func102 (by kernel_rfl) rfl
theorem markWireS_walk (a : List Wire) (k_ : Int) (Z : ((List Wire) × Int) → Prop) (h : markWireS_wp a k_ Z) : MutS Tryd.prog 102 (fun v => [v, int k_]) (.s [.c, .c]) (.list true (a.map Wire.cells)) (fun e' r => ∃ y : (List Wire) × Int, Z y ∧ e' = .list true (y.1.map Wire.cells) ∧ r = int y.2) := by
  unfold markWireS_wp at h
  refine MutS.of Tryd.func102 rfl Tryd.ntmps102 (fun _ => by simp) fun H0 n0 v0 K0 ids0 sp Q hQ => ?_
  have h00 := sp.1
  have hid : ∀ i ∈ ids0, H0 i = H0 i := fun _ _ => rfl
  have hnn : n0 ≤ n0 := Nat.le_refl _
  refine Runs.cut (fun ρ H n => ρ 0 = v0 ∧ ρ 1 = int k_ ∧ n0 ≤ n ∧ (∀ i ∈ ids0, H i = H0 i) ∧ Sep H n ((.s [.c, .c], v0, .list true (a.map Wire.cells)) :: K0) (ids0)) (by refine ⟨?_, ?_, (by omega), hid, sp⟩ <;> simp [Wire.cells, intC, strC]) ?_
  rintro ρ H n2 ⟨h0, h1, hnn, hid, sp⟩
  have hq_n2 := hnn
  refine Runs.seqE Ty_ok (by decide) fun k' hk' => ?_
  simp [h0, h1, Wire.cells, intC, strC]
  refine hk' _ _ _ ?_
  refine Runs.seq ?_
  refine Runs.seqE Ty_ok (by decide) fun k' hk' => ?_
  simp [h0, h1, Wire.cells, intC, strC]
  refine hk' _ _ _ ?_
  refine Runs.block ?_
  refine Runs.loopW h (fun (s : Int × Int × (List Wire)) ρ H n => match s with | (k10, i11, l12) => ρ 0 = v0 ∧ ρ 1 = int k10 ∧ ρ 5 = int i11 ∧ n0 ≤ n ∧ (∀ i ∈ ids0, H i = H0 i) ∧ Sep H n ((.s [.c, .c], v0, .list true (l12.map Wire.cells)) :: K0) (ids0)) (by refine ⟨?_, ?_, ?_, (by omega), hid, sp⟩ <;> simp [h0, h1, Wire.cells, intC, strC]) ?_
  clear h0 h1
  rintro ⟨k10, i11, l12⟩ ρ H n13 K h ⟨h0, h1, h5, hnn, hid, sp⟩ IH
  have hq_n13 := hnn
  refine Runs.seq ?_
  refine Runs.seqE Ty_ok (by decide) fun k' hk' => ?_
  obtain ⟨len15, elen15⟩ : ∃ v : Int, v = (l12.length : Int) := ⟨_, rfl⟩
  replace h := h len15 elen15
  have f16 := len_own (Sep.len (m := len15) sp kd_49 (by rw [elen15, List.length_map]))
  obtain ⟨c17, ec17⟩ : ∃ v : Bool, v = decide (i11 < len15) := ⟨_, rfl⟩
  replace h := h c17 ec17
  have f18 := ib_lss (k := .i64) ec17
  simp [h0, h1, h5, f16, f18, Wire.cells, intC, strC, -intBin, -lenF]
  refine hk' _ _ _ ?_
  refine Runs.ite (b := c17) (by simp [h0, h1, h5, Wire.cells, intC, strC]) (fun dc17 => ?_) (fun dc17 => ?_)
  · replace h := h.1 dc17
    refine Runs.skip ?_
    refine Runs.seq ?_
    refine Runs.block ?_
    refine Runs.seqE Ty_ok (by decide) fun k' hk' => ?_
    obtain ⟨hb19, h⟩ := h
    obtain ⟨r20, er20⟩ : ∃ v : Str, v = markTxt k10 := ⟨_, rfl⟩
    replace h := h r20 er20
    simp [h0, h1, h5, dc17, Wire.cells, intC, strC]
    refine RunK.callA Ty_ok (markTxt_ok k10 hb19) e99 (.cons (.v _ _ _) .nil) (by decide) (by decide) rfl (by simp [h0, h1, h5, dc17, Wire.cells, intC, strC]) ?_
    rintro _ rfl
    rw [← er20]
    obtain ⟨hb21, h⟩ := h
    obtain ⟨id22, hv, mo23, ln24, ni25⟩ := Sep.openF sp (by simp) hb21
    subst hv
    obtain ⟨x26, ex26⟩ : ∃ v : Wire, v = at' l12 i11 := ⟨_, rfl⟩
    replace h := h x26 ex26
    have f27 := fun H (hm : H id22 = some ⟨2, l12.map Wire.cells⟩) => ix_arr (H := H) (k := .i64) (off := 0) (len := l12.length) (g := l12.length) kd_49 hm (by simp) rfl hb21
    have f28 := at_some (q := i11.toNat) hb21 ex26 rfl
    obtain ⟨l29, el29⟩ : ∃ v : List Wire, v = l12.set i11.toNat (Wire.mk r20 x26.link) := ⟨_, rfl⟩
    replace h := h l29 el29
    simp [h0, h1, h5, mo23, f27, f28, dc17, Wire.cells, intC, strC, -indexAddrF, -storeF]
    refine bind_field (i := ty9) (q := i11.toNat) (off := 0) (new := [str r20]) (ix := i11) (x := x26) (y := (Wire.mk r20 x26.link)) (f := Wire.cells) sp (by simp) (by simp) hb21 ex26 rfl rfl (fun _ => rfl) (by simp [Wire.cells, intC, strC]) (by simp) (by simp [splice, Wire.cells, intC, strC]) (by simp) ?_
    rintro H30 sp hfr31
    replace sp : Sep H30 n13 ((.s [.c, .c], .arr id22 l12.length 0 l12.length, .list true (l29.map Wire.cells)) :: K0) (ids0) := by rw [el29]; exact sp
    have hid : ∀ i ∈ ids0, H30 i = H0 i := fun i hi => (hfr31 i (by simp [hi])).trans (hid i hi)
    simp [h0, h1, h5, f27, f28, dc17, Wire.cells, intC, strC, -indexAddrF]
    refine hk' _ _ _ ?_
    refine Runs.cut (fun ρ H n => ρ 0 = .arr id22 l12.length 0 l12.length ∧ ρ 1 = int k10 ∧ ρ 5 = int i11 ∧ n0 ≤ n ∧ (∀ i ∈ ids0, H i = H0 i) ∧ Sep H n ((.s [.c, .c], .arr id22 l12.length 0 l12.length, .list true (l29.map Wire.cells)) :: K0) (ids0)) (by refine ⟨?_, ?_, ?_, (by omega), hid, sp⟩ <;> simp [h0, h1, h5, f27, f28, dc17, Wire.cells, intC, strC, -indexAddrF]) ?_
    clear h0 h1 h5
    rintro ρ H n32 ⟨h0, h1, h5, hnn, hid, sp⟩
    have hq_n32 := hnn
    refine Runs.seqE Ty_ok (by decide) fun k' hk' => ?_
    obtain ⟨hb33, h⟩ := h
    obtain ⟨v34, ev34⟩ : ∃ v : Int, v = k10 + 1 := ⟨_, rfl⟩
    replace h := h v34 ev34
    have f35 := ib_add hb33 ev34
    simp [h0, h1, h5, f35, dc17, Wire.cells, intC, strC, -intBin]
    refine hk' _ _ _ ?_
    refine Runs.seqE Ty_ok (by decide) fun k' hk' => ?_
    obtain ⟨hb36, h⟩ := h
    obtain ⟨id37, hv, mo38, ln39, ni40⟩ := Sep.openF sp (by simp) hb36
    simp only [AVal.arr.injEq] at hv
    obtain ⟨hv, hln41, -⟩ := hv
    subst hv
    have hlshln41 := hln41.symm
    obtain ⟨x42, ex42⟩ : ∃ v : Wire, v = at' l29 i11 := ⟨_, rfl⟩
    replace h := h x42 ex42
    have f43 := fun H (hm : H id22 = some ⟨2, l29.map Wire.cells⟩) => ix_arr (H := H) (k := .i64) (off := 0) (len := l12.length) (g := l12.length) kd_49 hm (by simp [hln41]) rfl (by rw [hln41]; exact hb36)
    have f44 := at_some (q := i11.toNat) hb36 ex42 rfl
    obtain ⟨l45, el45⟩ : ∃ v : List Wire, v = l29.set i11.toNat (Wire.mk x42.name v34) := ⟨_, rfl⟩
    replace h := h l45 el45
    simp [h0, h1, h5, hlshln41, mo38, f43, f44, dc17, Wire.cells, intC, strC, -indexAddrF, -storeF]
    refine bind_field (i := ty3) (q := i11.toNat) (off := 1) (new := [int v34]) (ix := i11) (x := x42) (y := (Wire.mk x42.name v34)) (f := Wire.cells) sp (by simp) (by simp) hb36 ex42 rfl hln41 (fun _ => rfl) (by simp [Wire.cells, intC, strC]) (by simp) (by simp [splice, Wire.cells, intC, strC]) (by simp) ?_
    rintro H46 sp hfr47
    replace sp : Sep H46 n32 ((.s [.c, .c], .arr id22 l12.length 0 l12.length, .list true (l45.map Wire.cells)) :: K0) (ids0) := by rw [el45]; exact sp
    have hid : ∀ i ∈ ids0, H46 i = H0 i := fun i hi => (hfr47 i (by simp [hi])).trans (hid i hi)
    simp [h0, h1, h5, hlshln41, f43, f44, dc17, Wire.cells, intC, strC, -indexAddrF]
    refine hk' _ _ _ ?_
    refine Runs.cut (fun ρ H n => ρ 0 = .arr id22 l12.length 0 l12.length ∧ ρ 1 = int v34 ∧ ρ 5 = int i11 ∧ n0 ≤ n ∧ (∀ i ∈ ids0, H i = H0 i) ∧ Sep H n ((.s [.c, .c], .arr id22 l12.length 0 l12.length, .list true (l45.map Wire.cells)) :: K0) (ids0)) (by refine ⟨?_, ?_, ?_, (by omega), hid, sp⟩ <;> simp [h0, h1, h5, hlshln41, f43, f44, dc17, Wire.cells, intC, strC, -indexAddrF]) ?_
    clear h0 h1 h5 hlshln41
    rintro ρ H n48 ⟨h0, h1, h5, hnn, hid, sp⟩
    have hq_n48 := hnn
    refine Runs.evalE Ty_ok (by decide) fun k' hk' => ?_
    obtain ⟨hb49, h⟩ := h
    obtain ⟨v50, ev50⟩ : ∃ v : Int, v = v34 + 1 := ⟨_, rfl⟩
    replace h := h v50 ev50
    have f51 := ib_add hb49 ev50
    simp [h0, h1, h5, f51, dc17, Wire.cells, intC, strC, -intBin]
    refine hk' _ _ _ ?_
    refine Runs.inBlock ?_
    refine Runs.evalE Ty_ok (by decide) fun k' hk' => ?_
    obtain ⟨hb52, h⟩ := h
    obtain ⟨v53, ev53⟩ : ∃ v : Int, v = i11 + 1 := ⟨_, rfl⟩
    replace h := h v53 ev53
    have f54 := ib_add hb52 ev53
    simp [h0, h1, h5, f54, dc17, Wire.cells, intC, strC, -intBin]
    refine hk' _ _ _ ?_
    refine IH (v50, v53, l45) _ _ _ h (by refine ⟨?_, ?_, ?_, (by omega), hid, sp⟩ <;> simp [h0, h1, h5, dc17, Wire.cells, intC, strC])
  · replace h := h.2 dc17
    refine Runs.exit rfl ?_
    refine Runs.seqE Ty_ok (by decide) fun k' hk' => ?_
    simp [h0, h1, h5, dc17, Wire.cells, intC, strC]
    refine hk' _ _ _ ?_
    exact Runs.ret1 (v := int k10) Tryd.func102 Tryd.results102 (by simp [h0, h1, h5, dc17, Wire.cells, intC, strC]) (hQ _ _ _ _ (Sep.sub sp (by simp +contextual)) hid (by omega) ⟨(l12, k10), h, rfl, rfl⟩)

theorem markWireS_ok (a : List Wire) (k_ : Int) (hp : markWireS_pre a k_) : MutS Tryd.prog 102 (fun v => [v, int k_]) (.s [.c, .c]) (.list true (a.map Wire.cells)) (fun e' r => e' = .list true (((markWireS a k_).1).map Wire.cells) ∧ r = int ((markWireS a k_).2)) := (markWireS_walk a k_ _ (markWireS_vc a k_ hp)).mono (by rintro _ _ ⟨_, rfl, rfl, rfl⟩; exact ⟨rfl, rfl⟩)

theorem e41 : Ent Tryd.prog 41 := Ent.of Tryd.func41 (by kernel_rfl) rfl
theorem markControlS_walk (a : List Control) (k_ : Int) (Z : ((List Control) × Int) → Prop) (h : markControlS_wp a k_ Z) : MutS Tryd.prog 41 (fun v => [v, int k_]) (.s [.c, .c, .c]) (.list true (a.map Control.cells)) (fun e' r => ∃ y : (List Control) × Int, Z y ∧ e' = .list true (y.1.map Control.cells) ∧ r = int y.2) := by
  unfold markControlS_wp at h
  refine MutS.of Tryd.func41 rfl Tryd.ntmps41 (fun _ => by simp) fun H0 n0 v0 K0 ids0 sp Q hQ => ?_
  have h00 := sp.1
  have hid : ∀ i ∈ ids0, H0 i = H0 i := fun _ _ => rfl
  have hnn : n0 ≤ n0 := Nat.le_refl _
  refine Runs.cut (fun ρ H n => ρ 0 = v0 ∧ ρ 1 = int k_ ∧ n0 ≤ n ∧ (∀ i ∈ ids0, H i = H0 i) ∧ Sep H n ((.s [.c, .c, .c], v0, .list true (a.map Control.cells)) :: K0) (ids0)) (by refine ⟨?_, ?_, (by omega), hid, sp⟩ <;> simp [Control.cells, intC, strC]) ?_
  rintro ρ H n2 ⟨h0, h1, hnn, hid, sp⟩
  have hq_n2 := hnn
  refine Runs.seqE Ty_ok (by decide) fun k' hk' => ?_
  simp [h0, h1, Control.cells, intC, strC]
  refine hk' _ _ _ ?_
  refine Runs.seq ?_
  refine Runs.seqE Ty_ok (by decide) fun k' hk' => ?_
  simp [h0, h1, Control.cells, intC, strC]
  refine hk' _ _ _ ?_
  refine Runs.block ?_
  refine Runs.loopW h (fun (s : Int × Int × (List Control)) ρ H n => match s with | (k10, i11, l12) => ρ 0 = v0 ∧ ρ 1 = int k10 ∧ ρ 5 = int i11 ∧ n0 ≤ n ∧ (∀ i ∈ ids0, H i = H0 i) ∧ Sep H n ((.s [.c, .c, .c], v0, .list true (l12.map Control.cells)) :: K0) (ids0)) (by refine ⟨?_, ?_, ?_, (by omega), hid, sp⟩ <;> simp [h0, h1, Control.cells, intC, strC]) ?_
  clear h0 h1
  rintro ⟨k10, i11, l12⟩ ρ H n13 K h ⟨h0, h1, h5, hnn, hid, sp⟩ IH
  have hq_n13 := hnn
  refine Runs.seq ?_
  refine Runs.seqE Ty_ok (by decide) fun k' hk' => ?_
  obtain ⟨len15, elen15⟩ : ∃ v : Int, v = (l12.length : Int) := ⟨_, rfl⟩
  replace h := h len15 elen15
  have f16 := len_own (Sep.len (m := len15) sp kd_45 (by rw [elen15, List.length_map]))
  obtain ⟨c17, ec17⟩ : ∃ v : Bool, v = decide (i11 < len15) := ⟨_, rfl⟩
  replace h := h c17 ec17
  have f18 := ib_lss (k := .i64) ec17
  simp [h0, h1, h5, f16, f18, Control.cells, intC, strC, -intBin, -lenF]
  refine hk' _ _ _ ?_
  refine Runs.ite (b := c17) (by simp [h0, h1, h5, Control.cells, intC, strC]) (fun dc17 => ?_) (fun dc17 => ?_)
  · replace h := h.1 dc17
    refine Runs.skip ?_
    refine Runs.seq ?_
    refine Runs.block ?_
    refine Runs.seqE Ty_ok (by decide) fun k' hk' => ?_
    obtain ⟨hb19, h⟩ := h
    obtain ⟨r20, er20⟩ : ∃ v : Str, v = markTxt k10 := ⟨_, rfl⟩
    replace h := h r20 er20
    simp [h0, h1, h5, dc17, Control.cells, intC, strC]
    refine RunK.callA Ty_ok (markTxt_ok k10 hb19) e99 (.cons (.v _ _ _) .nil) (by decide) (by decide) rfl (by simp [h0, h1, h5, dc17, Control.cells, intC, strC]) ?_
    rintro _ rfl
    rw [← er20]
    obtain ⟨hb21, h⟩ := h
    obtain ⟨id22, hv, mo23, ln24, ni25⟩ := Sep.openF sp (by simp) hb21
    subst hv
    obtain ⟨x26, ex26⟩ : ∃ v : Control, v = at' l12 i11 := ⟨_, rfl⟩
    replace h := h x26 ex26
    have f27 := fun H (hm : H id22 = some ⟨3, l12.map Control.cells⟩) => ix_arr (H := H) (k := .i64) (off := 0) (len := l12.length) (g := l12.length) kd_45 hm (by simp) rfl hb21
    have f28 := at_some (q := i11.toNat) hb21 ex26 rfl
    obtain ⟨l29, el29⟩ : ∃ v : List Control, v = l12.set i11.toNat (Control.mk r20 x26.ports x26.kind) := ⟨_, rfl⟩
    replace h := h l29 el29
    simp [h0, h1, h5, mo23, f27, f28, dc17, Control.cells, intC, strC, -indexAddrF, -storeF]
    refine bind_field (i := ty9) (q := i11.toNat) (off := 0) (new := [str r20]) (ix := i11) (x := x26) (y := (Control.mk r20 x26.ports x26.kind)) (f := Control.cells) sp (by simp) (by simp) hb21 ex26 rfl rfl (fun _ => rfl) (by simp [Control.cells, intC, strC]) (by simp) (by simp [splice, Control.cells, intC, strC]) (by simp) ?_
    rintro H30 sp hfr31
    replace sp : Sep H30 n13 ((.s [.c, .c, .c], .arr id22 l12.length 0 l12.length, .list true (l29.map Control.cells)) :: K0) (ids0) := by rw [el29]; exact sp
    have hid : ∀ i ∈ ids0, H30 i = H0 i := fun i hi => (hfr31 i (by simp [hi])).trans (hid i hi)
    simp [h0, h1, h5, f27, f28, dc17, Control.cells, intC, strC, -indexAddrF]
    refine hk' _ _ _ ?_
    refine Runs.cut (fun ρ H n => ρ 0 = .arr id22 l12.length 0 l12.length ∧ ρ 1 = int k10 ∧ ρ 5 = int i11 ∧ n0 ≤ n ∧ (∀ i ∈ ids0, H i = H0 i) ∧ Sep H n ((.s [.c, .c, .c], .arr id22 l12.length 0 l12.length, .list true (l29.map Control.cells)) :: K0) (ids0)) (by refine ⟨?_, ?_, ?_, (by omega), hid, sp⟩ <;> simp [h0, h1, h5, f27, f28, dc17, Control.cells, intC, strC, -indexAddrF]) ?_
    clear h0 h1 h5
    rintro ρ H n32 ⟨h0, h1, h5, hnn, hid, sp⟩
    have hq_n32 := hnn
    refine Runs.seqE Ty_ok (by decide) fun k' hk' => ?_
    obtain ⟨hb33, h⟩ := h
    obtain ⟨v34, ev34⟩ : ∃ v : Int, v = k10 + 1 := ⟨_, rfl⟩
    replace h := h v34 ev34
    have f35 := ib_add hb33 ev34
    simp [h0, h1, h5, f35, dc17, Control.cells, intC, strC, -intBin]
    refine hk' _ _ _ ?_
    refine Runs.seqE Ty_ok (by decide) fun k' hk' => ?_
    obtain ⟨hb36, h⟩ := h
    obtain ⟨id37, hv, mo38, ln39, ni40⟩ := Sep.openF sp (by simp) hb36
    simp only [AVal.arr.injEq] at hv
    obtain ⟨hv, hln41, -⟩ := hv
    subst hv
    have hlshln41 := hln41.symm
    obtain ⟨x42, ex42⟩ : ∃ v : Control, v = at' l29 i11 := ⟨_, rfl⟩
    replace h := h x42 ex42
    have f43 := fun H (hm : H id22 = some ⟨3, l29.map Control.cells⟩) => ix_arr (H := H) (k := .i64) (off := 0) (len := l12.length) (g := l12.length) kd_45 hm (by simp [hln41]) rfl (by rw [hln41]; exact hb36)
    have f44 := at_some (q := i11.toNat) hb36 ex42 rfl
    obtain ⟨l45, el45⟩ : ∃ v : List Control, v = l29.set i11.toNat (Control.mk x42.name v34 x42.kind) := ⟨_, rfl⟩
    replace h := h l45 el45
    simp [h0, h1, h5, hlshln41, mo38, f43, f44, dc17, Control.cells, intC, strC, -indexAddrF, -storeF]
    refine bind_field (i := ty3) (q := i11.toNat) (off := 1) (new := [int v34]) (ix := i11) (x := x42) (y := (Control.mk x42.name v34 x42.kind)) (f := Control.cells) sp (by simp) (by simp) hb36 ex42 rfl hln41 (fun _ => rfl) (by simp [Control.cells, intC, strC]) (by simp) (by simp [splice, Control.cells, intC, strC]) (by simp) ?_
    rintro H46 sp hfr47
    replace sp : Sep H46 n32 ((.s [.c, .c, .c], .arr id22 l12.length 0 l12.length, .list true (l45.map Control.cells)) :: K0) (ids0) := by rw [el45]; exact sp
    have hid : ∀ i ∈ ids0, H46 i = H0 i := fun i hi => (hfr47 i (by simp [hi])).trans (hid i hi)
    simp [h0, h1, h5, hlshln41, f43, f44, dc17, Control.cells, intC, strC, -indexAddrF]
    refine hk' _ _ _ ?_
    refine Runs.cut (fun ρ H n => ρ 0 = .arr id22 l12.length 0 l12.length ∧ ρ 1 = int v34 ∧ ρ 5 = int i11 ∧ n0 ≤ n ∧ (∀ i ∈ ids0, H i = H0 i) ∧ Sep H n ((.s [.c, .c, .c], .arr id22 l12.length 0 l12.length, .list true (l45.map Control.cells)) :: K0) (ids0)) (by refine ⟨?_, ?_, ?_, (by omega), hid, sp⟩ <;> simp [h0, h1, h5, hlshln41, f43, f44, dc17, Control.cells, intC, strC, -indexAddrF]) ?_
    clear h0 h1 h5 hlshln41
    rintro ρ H n48 ⟨h0, h1, h5, hnn, hid, sp⟩
    have hq_n48 := hnn
    refine Runs.seqE Ty_ok (by decide) fun k' hk' => ?_
    obtain ⟨hb49, h⟩ := h
    obtain ⟨v50, ev50⟩ : ∃ v : Int, v = v34 + 1 := ⟨_, rfl⟩
    replace h := h v50 ev50
    have f51 := ib_add hb49 ev50
    simp [h0, h1, h5, f51, dc17, Control.cells, intC, strC, -intBin]
    refine hk' _ _ _ ?_
    refine Runs.seqE Ty_ok (by decide) fun k' hk' => ?_
    obtain ⟨hb52, h⟩ := h
    obtain ⟨id53, hv, mo54, ln55, ni56⟩ := Sep.openF sp (by simp) hb52
    simp only [AVal.arr.injEq] at hv
    obtain ⟨hv, hln57, -⟩ := hv
    subst hv
    have hlshln57 := hln57.symm
    obtain ⟨x58, ex58⟩ : ∃ v : Control, v = at' l45 i11 := ⟨_, rfl⟩
    replace h := h x58 ex58
    have f59 := fun H (hm : H id22 = some ⟨3, l45.map Control.cells⟩) => ix_arr (H := H) (k := .i64) (off := 0) (len := l12.length) (g := l12.length) kd_45 hm (by simp [hln57]) rfl (by rw [hln57]; exact hb52)
    have f60 := at_some (q := i11.toNat) hb52 ex58 rfl
    obtain ⟨l61, el61⟩ : ∃ v : List Control, v = l45.set i11.toNat (Control.mk x58.name x58.ports v50) := ⟨_, rfl⟩
    replace h := h l61 el61
    simp [h0, h1, h5, hlshln57, mo54, f59, f60, dc17, Control.cells, intC, strC, -indexAddrF, -storeF]
    refine bind_field (i := ty3) (q := i11.toNat) (off := 2) (new := [int v50]) (ix := i11) (x := x58) (y := (Control.mk x58.name x58.ports v50)) (f := Control.cells) sp (by simp) (by simp) hb52 ex58 rfl hln57 (fun _ => rfl) (by simp [Control.cells, intC, strC]) (by simp) (by simp [splice, Control.cells, intC, strC]) (by simp) ?_
    rintro H62 sp hfr63
    replace sp : Sep H62 n48 ((.s [.c, .c, .c], .arr id22 l12.length 0 l12.length, .list true (l61.map Control.cells)) :: K0) (ids0) := by rw [el61]; exact sp
    have hid : ∀ i ∈ ids0, H62 i = H0 i := fun i hi => (hfr63 i (by simp [hi])).trans (hid i hi)
    simp [h0, h1, h5, hlshln57, f59, f60, dc17, Control.cells, intC, strC, -indexAddrF]
    refine hk' _ _ _ ?_
    refine Runs.cut (fun ρ H n => ρ 0 = .arr id22 l12.length 0 l12.length ∧ ρ 1 = int v50 ∧ ρ 5 = int i11 ∧ n0 ≤ n ∧ (∀ i ∈ ids0, H i = H0 i) ∧ Sep H n ((.s [.c, .c, .c], .arr id22 l12.length 0 l12.length, .list true (l61.map Control.cells)) :: K0) (ids0)) (by refine ⟨?_, ?_, ?_, (by omega), hid, sp⟩ <;> simp [h0, h1, h5, hlshln57, f59, f60, dc17, Control.cells, intC, strC, -indexAddrF]) ?_
    clear h0 h1 h5 hlshln57
    rintro ρ H n64 ⟨h0, h1, h5, hnn, hid, sp⟩
    have hq_n64 := hnn
    refine Runs.evalE Ty_ok (by decide) fun k' hk' => ?_
    obtain ⟨hb65, h⟩ := h
    obtain ⟨v66, ev66⟩ : ∃ v : Int, v = v50 + 1 := ⟨_, rfl⟩
    replace h := h v66 ev66
    have f67 := ib_add hb65 ev66
    simp [h0, h1, h5, f67, dc17, Control.cells, intC, strC, -intBin]
    refine hk' _ _ _ ?_
    refine Runs.inBlock ?_
    refine Runs.evalE Ty_ok (by decide) fun k' hk' => ?_
    obtain ⟨hb68, h⟩ := h
    obtain ⟨v69, ev69⟩ : ∃ v : Int, v = i11 + 1 := ⟨_, rfl⟩
    replace h := h v69 ev69
    have f70 := ib_add hb68 ev69
    simp [h0, h1, h5, f70, dc17, Control.cells, intC, strC, -intBin]
    refine hk' _ _ _ ?_
    refine IH (v66, v69, l61) _ _ _ h (by refine ⟨?_, ?_, ?_, (by omega), hid, sp⟩ <;> simp [h0, h1, h5, dc17, Control.cells, intC, strC])
  · replace h := h.2 dc17
    refine Runs.exit rfl ?_
    refine Runs.seqE Ty_ok (by decide) fun k' hk' => ?_
    simp [h0, h1, h5, dc17, Control.cells, intC, strC]
    refine hk' _ _ _ ?_
    exact Runs.ret1 (v := int k10) Tryd.func41 Tryd.results41 (by simp [h0, h1, h5, dc17, Control.cells, intC, strC]) (hQ _ _ _ _ (Sep.sub sp (by simp +contextual)) hid (by omega) ⟨(l12, k10), h, rfl, rfl⟩)

theorem markControlS_ok (a : List Control) (k_ : Int) (hp : markControlS_pre a k_) : MutS Tryd.prog 41 (fun v => [v, int k_]) (.s [.c, .c, .c]) (.list true (a.map Control.cells)) (fun e' r => e' = .list true (((markControlS a k_).1).map Control.cells) ∧ r = int ((markControlS a k_).2)) := (markControlS_walk a k_ _ (markControlS_vc a k_ hp)).mono (by rintro _ _ ⟨_, rfl, rfl, rfl⟩; exact ⟨rfl, rfl⟩)

theorem e44 : Ent Tryd.prog 44 := Ent.of Tryd.func44 (by kernel_rfl) rfl
theorem heldIntS_walk (a : List Int) (k_ : Int) (Z : Int → Prop) (h : heldIntS_wp a k_ Z) : PureC Tryd.prog 44 [.list false (a.map intC), int k_] (fun r => ∃ y : Int, Z y ∧ r = int y) := by
  unfold heldIntS_wp at h
  refine PureC.of Tryd.func44 rfl Tryd.ntmps44 (by simp) fun Q hQ => ?_
  refine Runs.cut (fun ρ H n => ρ 0 = .list false (a.map intC) ∧ ρ 1 = int k_) (by refine ⟨?_, ?_⟩ <;> simp [intC]) ?_
  rintro ρ H n1 ⟨h0, h1⟩
  refine Runs.seqE Ty_ok (by decide) fun k' hk' => ?_
  simp [h0, h1, intC]
  refine hk' _ _ _ ?_
  refine Runs.seq ?_
  refine Runs.seqE Ty_ok (by decide) fun k' hk' => ?_
  simp [h0, h1, intC]
  refine hk' _ _ _ ?_
  refine Runs.block ?_
  refine Runs.loopW h (fun (s : Int × Int) ρ H n => match s with | (k5, i6) => ρ 0 = .list false (a.map intC) ∧ ρ 1 = int k5 ∧ ρ 5 = int i6) (by refine ⟨?_, ?_, ?_⟩ <;> simp [h0, h1, intC]) ?_
  clear h0 h1
  rintro ⟨k5, i6⟩ ρ H n7 K h ⟨h0, h1, h5⟩ IH
  refine Runs.seq ?_
  refine Runs.seqE Ty_ok (by decide) fun k' hk' => ?_
  obtain ⟨len9, elen9⟩ : ∃ v : Int, v = (a.length : Int) := ⟨_, rfl⟩
  replace h := h len9 elen9
  have f10 := fun H => len_list (H := H) (fr := false) (f := intC) kd_47 elen9
  obtain ⟨c11, ec11⟩ : ∃ v : Bool, v = decide (i6 < len9) := ⟨_, rfl⟩
  replace h := h c11 ec11
  have f12 := ib_lss (k := .i64) ec11
  simp [h0, h1, h5, f10, f12, intC, -intBin, -lenF]
  refine hk' _ _ _ ?_
  refine Runs.ite (b := c11) (by simp [h0, h1, h5, intC]) (fun dc11 => ?_) (fun dc11 => ?_)
  · replace h := h.1 dc11
    refine Runs.skip ?_
    refine Runs.seq ?_
    refine Runs.block ?_
    refine Runs.seq ?_
    refine Runs.seqE Ty_ok (by decide) fun k' hk' => ?_
    obtain ⟨hb13, h⟩ := h
    obtain ⟨x14, ex14⟩ : ∃ v : Int, v = at' a i6 := ⟨_, rfl⟩
    replace h := h x14 ex14
    have f15 := fun H => ix_list (H := H) (fr := false) (f := intC) (k := .i64) kd_47 (fun _ => rfl) hb13 ex14
    obtain ⟨c16, ec16⟩ : ∃ v : Bool, v = decide (x14 ≠ k5) := ⟨_, rfl⟩
    replace h := h c16 ec16
    have f17 := ib_neq (k := .i64) ec16
    simp [h0, h1, h5, f15, f17, dc11, intC, -indexAddrF, -intBin]
    refine hk' _ _ _ ?_
    refine Runs.ite (b := c16) (by simp [h0, h1, h5, dc11, intC]) (fun dc16 => ?_) (fun dc16 => ?_)
    · replace h := h.1 dc16
      refine Runs.seqE Ty_ok (by decide) fun k' hk' => ?_
      simp [h0, h1, h5, dc11, dc16, intC]
      refine hk' _ _ _ ?_
      exact Runs.ret1 (v := int (-1)) Tryd.func44 Tryd.results44 (by simp [h0, h1, h5, dc11, dc16, intC]) (hQ _ _ _ _ (.of (.v _)) ⟨(-1), h, rfl⟩)
    · replace h := h.2 dc16
      refine Runs.skip ?_
      refine Runs.evalE Ty_ok (by decide) fun k' hk' => ?_
      obtain ⟨hb18, h⟩ := h
      obtain ⟨v19, ev19⟩ : ∃ v : Int, v = k5 + 1 := ⟨_, rfl⟩
      replace h := h v19 ev19
      have f20 := ib_add hb18 ev19
      simp [h0, h1, h5, f20, dc11, dc16, intC, -intBin]
      refine hk' _ _ _ ?_
      refine Runs.inBlock ?_
      refine Runs.evalE Ty_ok (by decide) fun k' hk' => ?_
      obtain ⟨hb21, h⟩ := h
      obtain ⟨v22, ev22⟩ : ∃ v : Int, v = i6 + 1 := ⟨_, rfl⟩
      replace h := h v22 ev22
      have f23 := ib_add hb21 ev22
      simp [h0, h1, h5, f23, dc11, dc16, intC, -intBin]
      refine hk' _ _ _ ?_
      refine Runs.cut (fun ρ H n => ρ 0 = .list false (a.map intC) ∧ ρ 1 = int v19 ∧ ρ 5 = int v22) (by refine ⟨?_, ?_, ?_⟩ <;> simp [h0, h1, h5, f23, dc11, dc16, intC, -intBin]) ?_
      clear h0 h1 h5
      rintro ρ H n24 ⟨h0, h1, h5⟩
      refine IH (v19, v22) _ _ _ h (by refine ⟨?_, ?_, ?_⟩ <;> simp [h0, h1, h5, dc11, dc16, intC])
  · replace h := h.2 dc11
    refine Runs.exit rfl ?_
    refine Runs.seqE Ty_ok (by decide) fun k' hk' => ?_
    simp [h0, h1, h5, dc11, intC]
    refine hk' _ _ _ ?_
    exact Runs.ret1 (v := int k5) Tryd.func44 Tryd.results44 (by simp [h0, h1, h5, dc11, intC]) (hQ _ _ _ _ (.of (.v _)) ⟨k5, h, rfl⟩)

theorem heldIntS_ok (a : List Int) (k_ : Int) (hp : heldIntS_pre a k_) : PureC Tryd.prog 44 [.list false (a.map intC), int k_] (fun r => r = int (heldIntS a k_)) := (heldIntS_walk a k_ _ (heldIntS_vc a k_ hp)).mono (by rintro _ ⟨_, rfl, rfl⟩; rfl)
end Go.Ab.Vg
