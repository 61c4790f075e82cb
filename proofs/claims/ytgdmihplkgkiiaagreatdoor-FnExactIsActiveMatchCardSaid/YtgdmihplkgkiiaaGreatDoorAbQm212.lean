/- Merged texts (12 of 15) of the proof that ends in M2y: Lmw Nmw. -/
import Derived.Test.YtgdmihplkgkiiaaGreatDoorAbQm211
/- Walks by program for YtgdmihplkgkiiaaGreatDoorAbLm. -/
namespace Go.Ab.Vg
open Go.Proofs
set_option maxRecDepth 100000
set_option linter.unusedSimpArgs false
set_option linter.unusedVariables false
attribute [local simp] Control.cells GNode.cells Wire.cells intC sliceC strC bC pA
theorem e36 : Ent Tryz.prog 36 := Ent.of Tryz.func36 (by kernel_rfl) rfl
theorem toIntS_walk (a : List Int) (Z : (List Int) → Prop) (h : toIntS_wp a Z) : OwnS Tryz.prog 36 [.list false (a.map intC)] (.s [.c]) (fun r => ∃ y : List Int, Z y ∧ r = .list true (y.map intC)) := by
  unfold toIntS_wp at h
  have sp : Sep noHeap 0 [] [] := Sep.nil (by simp)
  refine OwnS.of Tryz.func36 rfl Tryz.ntmps36 (by simp) fun Q hQ => ?_
  refine Runs.cut (fun ρ H n => ρ 0 = .list false (a.map intC) ∧ Sep H n [] []) (by refine ⟨?_, sp⟩ <;> simp ) ?_
  rintro ρ H n1 ⟨h0, sp⟩
  refine Runs.seqE Ty_ok (by decide) fun k' hk' => ?_
  simp [h0]
  refine hk' _ _ _ ?_
  refine Runs.seqE Ty_ok (by decide) fun k' hk' => ?_
  obtain ⟨len2, elen2⟩ : ∃ v : Int, v = (a.length : Int) := ⟨_, rfl⟩
  replace h := h len2 elen2
  have f3 := fun H => len_list (H := H) (fr := false) (f := intC) kd_24 elen2
  obtain ⟨hb4, h⟩ := h
  obtain ⟨l5, el5⟩ : ∃ v : List Int, v = List.replicate len2.toNat default := ⟨_, rfl⟩
  replace h := h l5 el5
  simp [h0, f3, hb4, el5, -lenF]
  refine hk' _ _ _ ?_
  refine Runs.cut (fun ρ H n => ∃ (v7 : AVal), ρ 0 = .list false (a.map intC) ∧ ρ 3 = v7 ∧ Sep H n [oI v7 l5] []) (by refine ⟨.arr (n1, 7) len2.toNat 0 len2.toNat, ?_, ?_, (by rw [el5]; exact Sep.addRep (z := [int 0]) (f := intC) (k := len2.toNat) sp (fun H => by show Row H [.c] [int 0] [int 0] []; simp [Row, Tr]))⟩ <;> simp [h0, f3, hb4, el5, -lenF]) ?_
  clear h0
  rintro ρ H n8 ⟨v7, h0, h3, sp⟩
  refine Runs.seq ?_
  refine Runs.seqE Ty_ok (by decide) fun k' hk' => ?_
  simp [h0, h3]
  refine hk' _ _ _ ?_
  refine Runs.block ?_
  refine Runs.loopW h (fun (sJ : Int × (List Int)) ρ H n => match sJ with | (i16, l17) => ∃ (v18 : AVal), ρ 0 = .list false (a.map intC) ∧ ρ 3 = v18 ∧ ρ 4 = int i16 ∧ Sep H n [oI v18 l17] []) (by refine ⟨v7, ?_, ?_, ?_, sp⟩ <;> simp [h0, h3]) ?_
  clear h0 h3
  rintro ⟨i16, l17⟩ ρ H n19 K h ⟨v18, h0, h3, h4, sp⟩ IH20
  refine Runs.seq ?_
  refine Runs.seqE Ty_ok (by decide) fun k' hk' => ?_
  obtain ⟨len22, elen22⟩ : ∃ v : Int, v = (a.length : Int) := ⟨_, rfl⟩
  replace h := h len22 elen22
  have f23 := fun H => len_list (H := H) (fr := false) (f := intC) kd_24 elen22
  obtain ⟨c24, ec24⟩ : ∃ v : Bool, v = decide (i16 < len22) := ⟨_, rfl⟩
  replace h := h c24 ec24
  have f25 := ib_lss (k := .i64) ec24
  simp [h0, h3, h4, f23, f25, -intBin, -lenF]
  refine hk' _ _ _ ?_
  refine Runs.ite (b := c24) (by simp [h0, h3, h4]) (fun dc24 => ?_) (fun dc24 => ?_)
  · replace h := h.1 dc24
    refine Runs.skip ?_
    refine Runs.seq ?_
    refine Runs.block ?_
    refine Runs.evalE Ty_ok (by decide) fun k' hk' => ?_
    obtain ⟨hb26, h⟩ := h
    obtain ⟨x27, ex27⟩ : ∃ v : Int, v = at' a i16 := ⟨_, rfl⟩
    replace h := h x27 ex27
    have f28 := fun H => ix_list (H := H) (fr := false) (f := intC) (k := .i64) kd_24 (fun _ => rfl) hb26 ex27
    obtain ⟨hb29, h⟩ := h
    obtain ⟨id30, hv, mo31, ln32, ni33⟩ := Sep.openF sp (by simp) hb29
    subst hv
    obtain ⟨x34, ex34⟩ : ∃ v : Int, v = at' l17 i16 := ⟨_, rfl⟩
    replace h := h x34 ex34
    have f35 := fun H (hm : H id30 = some ⟨1, l17.map intC⟩) => ix_arr (H := H) (k := .i64) (off := 0) (len := l17.length) (g := l17.length) kd_24 hm (by simp) rfl hb29
    have f36 := at_some (q := i16.toNat) hb29 ex34 rfl
    obtain ⟨l37, el37⟩ : ∃ v : List Int, v = l17.set i16.toNat x27 := ⟨_, rfl⟩
    replace h := h l37 el37
    simp [h0, h3, h4, mo31, f28, f35, f36, dc24, -indexAddrF, -storeF]
    refine bind_store (q := i16.toNat) (news := intC x27) [] [] sp (by simp) (by simp; omega) (by simp) (by simp [-one1, o1x]) (Fill.v _ Fill.nil) ?_
    rintro H38 sp hfr39
    replace sp : Sep H38 n19 [oI (.arr id30 l17.length 0 l17.length) l37] [] := Sep.st el37 sp
    simp [h0, h3, h4, f28, f35, f36, dc24, -indexAddrF]
    refine hk' _ _ _ ?_
    refine Runs.cut (fun ρ H n => ∃ (v41 : AVal), ρ 0 = .list false (a.map intC) ∧ ρ 3 = v41 ∧ ρ 4 = int i16 ∧ Sep H n [oI v41 l37] []) (by refine ⟨.arr id30 l17.length 0 l17.length, ?_, ?_, ?_, sp⟩ <;> simp [h0, h3, h4, f28, f35, f36, dc24, -indexAddrF]) ?_
    clear h0 h3 h4
    rintro ρ H n42 ⟨v41, h0, h3, h4, sp⟩
    refine Runs.inBlock ?_
    refine Runs.evalE Ty_ok (by decide) fun k' hk' => ?_
    obtain ⟨hb43, h⟩ := h
    obtain ⟨v44, ev44⟩ : ∃ v : Int, v = i16 + 1 := ⟨_, rfl⟩
    replace h := h v44 ev44
    have f45 := ib_add hb43 ev44
    simp [h0, h3, h4, f45, dc24, -intBin]
    refine hk' _ _ _ ?_
    refine IH20 (v44, l37) _ _ _ h (by refine ⟨v41, ?_, ?_, ?_, sp⟩ <;> simp [h0, h3, h4, dc24])
  replace h := h.2 dc24
  refine Runs.exit rfl ?_
  refine Runs.seqE Ty_ok (by decide) fun k' hk' => ?_
  simp [h0, h3, h4, dc24]
  refine hk' _ _ _ ?_
  exact Runs.ret1 (v := v18) Tryz.func36 Tryz.results36 (by simp [h0, h3, h4, dc24]) (hQ _ _ _ _ (Sep.sub (ids' := []) sp (by simp)) ⟨l17, h, rfl⟩)

theorem toIntS_ok (a : List Int) (hp : toIntS_pre a) : OwnS Tryz.prog 36 [.list false (a.map intC)] (.s [.c]) (fun r => r = .list true ((toIntS a).map intC)) := (toIntS_walk a _ (toIntS_vc a hp)).mono (by rintro _ ⟨_, rfl, rfl⟩; rfl)

theorem e37 : Ent Tryz.prog 37 := Ent.of Tryz.func37 (by kernel_rfl) rfl
theorem toStringS_walk (a : List Str) (Z : (List Str) → Prop) (h : toStringS_wp a Z) : OwnS Tryz.prog 37 [.list false (a.map strC)] (.s [.c]) (fun r => ∃ y : List Str, Z y ∧ r = .list true (y.map strC)) := by
  unfold toStringS_wp at h
  have sp : Sep noHeap 0 [] [] := Sep.nil (by simp)
  refine OwnS.of Tryz.func37 rfl Tryz.ntmps37 (by simp) fun Q hQ => ?_
  refine Runs.cut (fun ρ H n => ρ 0 = .list false (a.map strC) ∧ Sep H n [] []) (by refine ⟨?_, sp⟩ <;> simp ) ?_
  rintro ρ H n1 ⟨h0, sp⟩
  refine Runs.seqE Ty_ok (by decide) fun k' hk' => ?_
  simp [h0]
  refine hk' _ _ _ ?_
  refine Runs.seqE Ty_ok (by decide) fun k' hk' => ?_
  obtain ⟨len2, elen2⟩ : ∃ v : Int, v = (a.length : Int) := ⟨_, rfl⟩
  replace h := h len2 elen2
  have f3 := fun H => len_list (H := H) (fr := false) (f := strC) kd_25 elen2
  obtain ⟨hb4, h⟩ := h
  obtain ⟨l5, el5⟩ : ∃ v : List Str, v = List.replicate len2.toNat default := ⟨_, rfl⟩
  replace h := h l5 el5
  simp [h0, f3, hb4, el5, -lenF]
  refine hk' _ _ _ ?_
  refine Runs.cut (fun ρ H n => ∃ (v7 : AVal), ρ 0 = .list false (a.map strC) ∧ ρ 3 = v7 ∧ Sep H n [oS v7 l5] []) (by refine ⟨.arr (n1, 7) len2.toNat 0 len2.toNat, ?_, ?_, (by rw [el5]; exact Sep.addRep (z := [str []]) (f := strC) (k := len2.toNat) sp (fun H => by show Row H [.c] [str []] [str []] []; simp [Row, Tr]))⟩ <;> simp [h0, f3, hb4, el5, -lenF]) ?_
  clear h0
  rintro ρ H n8 ⟨v7, h0, h3, sp⟩
  refine Runs.seq ?_
  refine Runs.seqE Ty_ok (by decide) fun k' hk' => ?_
  simp [h0, h3]
  refine hk' _ _ _ ?_
  refine Runs.block ?_
  refine Runs.loopW h (fun (sJ : Int × (List Str)) ρ H n => match sJ with | (i16, l17) => ∃ (v18 : AVal), ρ 0 = .list false (a.map strC) ∧ ρ 3 = v18 ∧ ρ 4 = int i16 ∧ Sep H n [oS v18 l17] []) (by refine ⟨v7, ?_, ?_, ?_, sp⟩ <;> simp [h0, h3]) ?_
  clear h0 h3
  rintro ⟨i16, l17⟩ ρ H n19 K h ⟨v18, h0, h3, h4, sp⟩ IH20
  refine Runs.seq ?_
  refine Runs.seqE Ty_ok (by decide) fun k' hk' => ?_
  obtain ⟨len22, elen22⟩ : ∃ v : Int, v = (a.length : Int) := ⟨_, rfl⟩
  replace h := h len22 elen22
  have f23 := fun H => len_list (H := H) (fr := false) (f := strC) kd_25 elen22
  obtain ⟨c24, ec24⟩ : ∃ v : Bool, v = decide (i16 < len22) := ⟨_, rfl⟩
  replace h := h c24 ec24
  have f25 := ib_lss (k := .i64) ec24
  simp [h0, h3, h4, f23, f25, -intBin, -lenF]
  refine hk' _ _ _ ?_
  refine Runs.ite (b := c24) (by simp [h0, h3, h4]) (fun dc24 => ?_) (fun dc24 => ?_)
  · replace h := h.1 dc24
    refine Runs.skip ?_
    refine Runs.seq ?_
    refine Runs.block ?_
    refine Runs.evalE Ty_ok (by decide) fun k' hk' => ?_
    obtain ⟨hb26, h⟩ := h
    obtain ⟨x27, ex27⟩ : ∃ v : Str, v = at' a i16 := ⟨_, rfl⟩
    replace h := h x27 ex27
    have f28 := fun H => ix_list (H := H) (fr := false) (f := strC) (k := .i64) kd_25 (fun _ => rfl) hb26 ex27
    obtain ⟨hb29, h⟩ := h
    obtain ⟨id30, hv, mo31, ln32, ni33⟩ := Sep.openF sp (by simp) hb29
    subst hv
    obtain ⟨x34, ex34⟩ : ∃ v : Str, v = at' l17 i16 := ⟨_, rfl⟩
    replace h := h x34 ex34
    have f35 := fun H (hm : H id30 = some ⟨1, l17.map strC⟩) => ix_arr (H := H) (k := .i64) (off := 0) (len := l17.length) (g := l17.length) kd_25 hm (by simp) rfl hb29
    have f36 := at_some (q := i16.toNat) hb29 ex34 rfl
    obtain ⟨l37, el37⟩ : ∃ v : List Str, v = l17.set i16.toNat x27 := ⟨_, rfl⟩
    replace h := h l37 el37
    simp [h0, h3, h4, mo31, f28, f35, f36, dc24, -indexAddrF, -storeF]
    refine bind_store (q := i16.toNat) (news := strC x27) [] [] sp (by simp) (by simp; omega) (by simp) (by simp [-one1, o1x]) (Fill.v _ Fill.nil) ?_
    rintro H38 sp hfr39
    replace sp : Sep H38 n19 [oS (.arr id30 l17.length 0 l17.length) l37] [] := Sep.st el37 sp
    simp [h0, h3, h4, f28, f35, f36, dc24, -indexAddrF]
    refine hk' _ _ _ ?_
    refine Runs.cut (fun ρ H n => ∃ (v41 : AVal), ρ 0 = .list false (a.map strC) ∧ ρ 3 = v41 ∧ ρ 4 = int i16 ∧ Sep H n [oS v41 l37] []) (by refine ⟨.arr id30 l17.length 0 l17.length, ?_, ?_, ?_, sp⟩ <;> simp [h0, h3, h4, f28, f35, f36, dc24, -indexAddrF]) ?_
    clear h0 h3 h4
    rintro ρ H n42 ⟨v41, h0, h3, h4, sp⟩
    refine Runs.inBlock ?_
    refine Runs.evalE Ty_ok (by decide) fun k' hk' => ?_
    obtain ⟨hb43, h⟩ := h
    obtain ⟨v44, ev44⟩ : ∃ v : Int, v = i16 + 1 := ⟨_, rfl⟩
    replace h := h v44 ev44
    have f45 := ib_add hb43 ev44
    simp [h0, h3, h4, f45, dc24, -intBin]
    refine hk' _ _ _ ?_
    refine IH20 (v44, l37) _ _ _ h (by refine ⟨v41, ?_, ?_, ?_, sp⟩ <;> simp [h0, h3, h4, dc24])
  replace h := h.2 dc24
  refine Runs.exit rfl ?_
  refine Runs.seqE Ty_ok (by decide) fun k' hk' => ?_
  simp [h0, h3, h4, dc24]
  refine hk' _ _ _ ?_
  exact Runs.ret1 (v := v18) Tryz.func37 Tryz.results37 (by simp [h0, h3, h4, dc24]) (hQ _ _ _ _ (Sep.sub (ids' := []) sp (by simp)) ⟨l17, h, rfl⟩)

theorem toStringS_ok (a : List Str) (hp : toStringS_pre a) : OwnS Tryz.prog 37 [.list false (a.map strC)] (.s [.c]) (fun r => r = .list true ((toStringS a).map strC)) := (toStringS_walk a _ (toStringS_vc a hp)).mono (by rintro _ ⟨_, rfl, rfl⟩; rfl)

theorem e34 : Ent Tryz.prog 34 := Ent.of Tryz.func34 (by kernel_rfl) rfl
theorem toControl_walk (a : Control) (Z : Control → Prop) (h : toControl_wp a Z) : PureC Tryz.prog 34 [.agg [str a.name, int a.ports, int a.kind]] (fun r => ∃ y : Control, Z y ∧ r = .agg [str y.name, int y.ports, int y.kind]) := by
  unfold toControl_wp at h
  refine PureC.of Tryz.func34 rfl Tryz.ntmps34 (by simp) fun Q hQ => ?_
  refine Runs.cut (fun ρ H n => ρ 0 = .agg [str a.name, int a.ports, int a.kind]) (by simp []) ?_
  rintro ρ H n1 h0
  refine Runs.seqE Ty_ok (by decide) fun k' hk' => ?_
  simp [h0]
  refine hk' _ _ _ ?_
  refine Runs.cut (fun ρ H n => ρ 1 = pA n1 1 ∧ ρ 2 = pA (n1 + 1) 2 ∧ H (n1, 1) = some ⟨3, [[str a.name, int a.ports, int a.kind]]⟩ ∧ H (n1 + 1, 2) = some ⟨3, [[str [], int 0, int 0]]⟩) (by refine ⟨?_, ?_, ?_, ?_⟩ <;> simp [h0]) ?_
  clear h0
  rintro ρ H n4 ⟨h1, h2, m1_1, m2_2⟩
  refine Runs.seqE Ty_ok (by decide) fun k' hk' => ?_
  simp [h1, h2, m1_1, m2_2]
  refine hk' _ _ _ ?_
  refine Runs.cut (fun ρ H n => ρ 1 = pA n1 1 ∧ ρ 2 = pA (n1 + 1) 2 ∧ ρ 3 = pA n4 3 ∧ H (n1, 1) = some ⟨3, [[str a.name, int a.ports, int a.kind]]⟩ ∧ H (n1 + 1, 2) = some ⟨3, [[str [], int 0, int 0]]⟩ ∧ H (n4, 3) = some ⟨3, [[str [], int 0, int 0]]⟩) (by refine ⟨?_, ?_, ?_, ?_, ?_, ?_⟩ <;> simp [h1, h2, m1_1, m2_2]) ?_
  clear h1 h2 m1_1 m2_2
  rintro ρ H n6 ⟨h1, h2, h3, m1_1, m2_2, m3_4⟩
  refine Runs.seqE Ty_ok (by decide) fun k' hk' => ?_
  simp [h1, h2, h3, m1_1, m2_2, m3_4]
  refine hk' _ _ _ ?_
  refine Runs.cut (fun ρ H n => ρ 1 = pA n1 1 ∧ ρ 2 = pA (n1 + 1) 2 ∧ ρ 3 = pA n4 3 ∧ H (n1, 1) = some ⟨3, [[str a.name, int a.ports, int a.kind]]⟩ ∧ H (n1 + 1, 2) = some ⟨3, [[str [], int 0, int 0]]⟩ ∧ H (n4, 3) = some ⟨3, [[str a.name, int 0, int 0]]⟩) (by refine ⟨?_, ?_, ?_, ?_, ?_, ?_⟩ <;> simp [h1, h2, h3, m1_1, m2_2, m3_4]) ?_
  clear h1 h2 h3 m1_1 m2_2 m3_4
  rintro ρ H n7 ⟨h1, h2, h3, m1_1, m2_2, m3_4⟩
  refine Runs.seqE Ty_ok (by decide) fun k' hk' => ?_
  simp [h1, h2, h3, m1_1, m2_2, m3_4]
  refine hk' _ _ _ ?_
  refine Runs.cut (fun ρ H n => ρ 1 = pA n1 1 ∧ ρ 2 = pA (n1 + 1) 2 ∧ ρ 3 = pA n4 3 ∧ H (n1, 1) = some ⟨3, [[str a.name, int a.ports, int a.kind]]⟩ ∧ H (n1 + 1, 2) = some ⟨3, [[str [], int 0, int 0]]⟩ ∧ H (n4, 3) = some ⟨3, [[str a.name, int a.ports, int 0]]⟩) (by refine ⟨?_, ?_, ?_, ?_, ?_, ?_⟩ <;> simp [h1, h2, h3, m1_1, m2_2, m3_4]) ?_
  clear h1 h2 h3 m1_1 m2_2 m3_4
  rintro ρ H n8 ⟨h1, h2, h3, m1_1, m2_2, m3_4⟩
  refine Runs.seqE Ty_ok (by decide) fun k' hk' => ?_
  simp [h1, h2, h3, m1_1, m2_2, m3_4]
  refine hk' _ _ _ ?_
  refine Runs.cut (fun ρ H n => ρ 2 = pA (n1 + 1) 2 ∧ ρ 3 = pA n4 3 ∧ H (n1 + 1, 2) = some ⟨3, [[str [], int 0, int 0]]⟩ ∧ H (n4, 3) = some ⟨3, [[str a.name, int a.ports, int a.kind]]⟩) (by refine ⟨?_, ?_, ?_, ?_⟩ <;> simp [h1, h2, h3, m1_1, m2_2, m3_4]) ?_
  clear h1 h2 h3 m1_1 m2_2 m3_4
  rintro ρ H n9 ⟨h2, h3, m2_2, m3_4⟩
  refine Runs.seqE Ty_ok (by decide) fun k' hk' => ?_
  simp [h2, h3, m2_2, m3_4]
  refine hk' _ _ _ ?_
  refine Runs.cut (fun ρ H n => ρ 2 = pA (n1 + 1) 2 ∧ H (n1 + 1, 2) = some ⟨3, [[str a.name, int a.ports, int a.kind]]⟩) (by refine ⟨?_, ?_⟩ <;> simp [h2, h3, m2_2, m3_4]) ?_
  clear h2 h3 m2_2 m3_4
  rintro ρ H n10 ⟨h2, m2_2⟩
  exact Runs.res1 Ty_ok (v := .agg [str a.name, int a.ports, int a.kind]) Tryz.func34 Tryz.results34 (by simp [h2, m2_2, resA]) (hQ _ _ _ _ (.of (.aggL (.cons (.v _) (.cons (.v _) (.cons (.v _) .nil))))) ⟨a, h, rfl⟩)

theorem toControl_ok (a : Control)  : PureC Tryz.prog 34 [.agg [str a.name, int a.ports, int a.kind]] (fun r => r = .agg [str ((toControl a).name), int ((toControl a).ports), int ((toControl a).kind)]) := (toControl_walk a _ (toControl_vc a )).mono (by rintro _ ⟨_, rfl, rfl⟩; rfl)

theorem e10 : Ent Tryz.prog 10 := Ent.of Tryz.func10 (by kernel_rfl) rfl
theorem toControlS_walk (a : List Control) (Z : (List Control) → Prop) (h : toControlS_wp a Z) : OwnS Tryz.prog 10 [.list false (a.map Control.cells)] (.s [.c, .c, .c]) (fun r => ∃ y : List Control, Z y ∧ r = .list true (y.map Control.cells)) := by
  unfold toControlS_wp at h
  have sp : Sep noHeap 0 [] [] := Sep.nil (by simp)
  refine OwnS.of Tryz.func10 rfl Tryz.ntmps10 (by simp) fun Q hQ => ?_
  refine Runs.cut (fun ρ H n => ρ 0 = .list false (a.map Control.cells) ∧ Sep H n [] []) (by refine ⟨?_, sp⟩ <;> simp ) ?_
  rintro ρ H n1 ⟨h0, sp⟩
  refine Runs.seqE Ty_ok (by decide) fun k' hk' => ?_
  simp [h0]
  refine hk' _ _ _ ?_
  refine Runs.seqE Ty_ok (by decide) fun k' hk' => ?_
  obtain ⟨len2, elen2⟩ : ∃ v : Int, v = (a.length : Int) := ⟨_, rfl⟩
  replace h := h len2 elen2
  have f3 := fun H => len_list (H := H) (fr := false) (f := Control.cells) kd_22 elen2
  obtain ⟨hb4, h⟩ := h
  obtain ⟨l5, el5⟩ : ∃ v : List Control, v = List.replicate len2.toNat default := ⟨_, rfl⟩
  replace h := h l5 el5
  simp [h0, f3, hb4, el5, -lenF]
  refine hk' _ _ _ ?_
  refine Runs.cut (fun ρ H n => ∃ (v7 : AVal), ρ 0 = .list false (a.map Control.cells) ∧ ρ 3 = v7 ∧ Sep H n [oE [.c, .c, .c] Control.cells v7 l5] []) (by refine ⟨.arr (n1, 7) len2.toNat 0 len2.toNat, ?_, ?_, (by rw [el5]; exact Sep.addRep (z := [str [], int 0, int 0]) (f := Control.cells) (k := len2.toNat) sp (fun H => by show Row H [.c, .c, .c] [str [], int 0, int 0] [str [], int 0, int 0] []; simp [Row, Tr]))⟩ <;> simp [h0, f3, hb4, el5, -lenF]) ?_
  clear h0
  rintro ρ H n8 ⟨v7, h0, h3, sp⟩
  refine Runs.seq ?_
  refine Runs.seqE Ty_ok (by decide) fun k' hk' => ?_
  simp [h0, h3]
  refine hk' _ _ _ ?_
  refine Runs.block ?_
  refine Runs.loopW h (fun (sJ : Int × (List Control)) ρ H n => match sJ with | (i16, l17) => ∃ (v18 : AVal), ρ 0 = .list false (a.map Control.cells) ∧ ρ 3 = v18 ∧ ρ 4 = int i16 ∧ Sep H n [oE [.c, .c, .c] Control.cells v18 l17] []) (by refine ⟨v7, ?_, ?_, ?_, sp⟩ <;> simp [h0, h3]) ?_
  clear h0 h3
  rintro ⟨i16, l17⟩ ρ H n19 K h ⟨v18, h0, h3, h4, sp⟩ IH20
  refine Runs.seq ?_
  refine Runs.seqE Ty_ok (by decide) fun k' hk' => ?_
  obtain ⟨len22, elen22⟩ : ∃ v : Int, v = (a.length : Int) := ⟨_, rfl⟩
  replace h := h len22 elen22
  have f23 := fun H => len_list (H := H) (fr := false) (f := Control.cells) kd_22 elen22
  obtain ⟨c24, ec24⟩ : ∃ v : Bool, v = decide (i16 < len22) := ⟨_, rfl⟩
  replace h := h c24 ec24
  have f25 := ib_lss (k := .i64) ec24
  simp [h0, h3, h4, f23, f25, -intBin, -lenF]
  refine hk' _ _ _ ?_
  refine Runs.ite (b := c24) (by simp [h0, h3, h4]) (fun dc24 => ?_) (fun dc24 => ?_)
  · replace h := h.1 dc24
    refine Runs.skip ?_
    refine Runs.seq ?_
    refine Runs.block ?_
    refine Runs.evalE Ty_ok (by decide) fun k' hk' => ?_
    obtain ⟨hb26, h⟩ := h
    obtain ⟨x27, ex27⟩ : ∃ v : Control, v = at' a i16 := ⟨_, rfl⟩
    replace h := h x27 ex27
    have f28 := fun H => ix_list (H := H) (fr := false) (f := Control.cells) (k := .i64) kd_22 (fun _ => rfl) hb26 ex27
    obtain ⟨r29, er29⟩ : ∃ v : Control, v = toControl x27 := ⟨_, rfl⟩
    replace h := h r29 er29
    simp [h0, h3, h4, f28, dc24, -indexAddrF]
    refine RunK.callA Ty_ok (toControl_ok x27 ) e34 (.cons (ArgOk.agg (.cons (.v _ _ _) (.cons (.v _ _ _) (.cons (.v _ _ _) .nil)))) .nil) (by decide) (by decide) rfl (by simp [h0, h3, h4, f28, dc24, -indexAddrF]) ?_
    rintro _ rfl
    rw [← er29]
    obtain ⟨hb30, h⟩ := h
    obtain ⟨id31, hv, mo32, ln33, ni34⟩ := Sep.openF sp (by simp) hb30
    subst hv
    obtain ⟨x35, ex35⟩ : ∃ v : Control, v = at' l17 i16 := ⟨_, rfl⟩
    replace h := h x35 ex35
    have f36 := fun H (hm : H id31 = some ⟨3, l17.map Control.cells⟩) => ix_arr (H := H) (k := .i64) (off := 0) (len := l17.length) (g := l17.length) kd_36 hm (by simp) rfl hb30
    have f37 := at_some (q := i16.toNat) hb30 ex35 rfl
    obtain ⟨l38, el38⟩ : ∃ v : List Control, v = l17.set i16.toNat r29 := ⟨_, rfl⟩
    replace h := h l38 el38
    simp [h0, h3, h4, mo32, f28, f36, f37, dc24, -indexAddrF, -storeF]
    refine bind_store (q := i16.toNat) (news := Control.cells r29) [] [] sp (by simp) (by simp; omega) (by simp) (by simp [-one1, o1x]) (Fill.v _ (Fill.v _ (Fill.v _ Fill.nil))) ?_
    rintro H39 sp hfr40
    replace sp : Sep H39 n19 [oE [.c, .c, .c] Control.cells (.arr id31 l17.length 0 l17.length) l38] [] := Sep.st el38 sp
    simp [h0, h3, h4, f28, f36, f37, dc24, -indexAddrF]
    refine hk' _ _ _ ?_
    refine Runs.cut (fun ρ H n => ∃ (v42 : AVal), ρ 0 = .list false (a.map Control.cells) ∧ ρ 3 = v42 ∧ ρ 4 = int i16 ∧ Sep H n [oE [.c, .c, .c] Control.cells v42 l38] []) (by refine ⟨.arr id31 l17.length 0 l17.length, ?_, ?_, ?_, sp⟩ <;> simp [h0, h3, h4, f28, f36, f37, dc24, -indexAddrF]) ?_
    clear h0 h3 h4
    rintro ρ H n43 ⟨v42, h0, h3, h4, sp⟩
    refine Runs.inBlock ?_
    refine Runs.evalE Ty_ok (by decide) fun k' hk' => ?_
    obtain ⟨hb44, h⟩ := h
    obtain ⟨v45, ev45⟩ : ∃ v : Int, v = i16 + 1 := ⟨_, rfl⟩
    replace h := h v45 ev45
    have f46 := ib_add hb44 ev45
    simp [h0, h3, h4, f46, dc24, -intBin]
    refine hk' _ _ _ ?_
    refine IH20 (v45, l38) _ _ _ h (by refine ⟨v42, ?_, ?_, ?_, sp⟩ <;> simp [h0, h3, h4, dc24])
  replace h := h.2 dc24
  refine Runs.exit rfl ?_
  refine Runs.seqE Ty_ok (by decide) fun k' hk' => ?_
  simp [h0, h3, h4, dc24]
  refine hk' _ _ _ ?_
  exact Runs.ret1 (v := v18) Tryz.func10 Tryz.results10 (by simp [h0, h3, h4, dc24]) (hQ _ _ _ _ (Sep.sub (ids' := []) sp (by simp)) ⟨l17, h, rfl⟩)

theorem toControlS_ok (a : List Control) (hp : toControlS_pre a) : OwnS Tryz.prog 10 [.list false (a.map Control.cells)] (.s [.c, .c, .c]) (fun r => r = .list true ((toControlS a).map Control.cells)) := (toControlS_walk a _ (toControlS_vc a hp)).mono (by rintro _ ⟨_, rfl, rfl⟩; rfl)

theorem e64 : Ent Tryz.prog 64 := Ent.of Tryz.func64 (by kernel_rfl) rfl
theorem toWire_walk (a : Wire) (Z : Wire → Prop) (h : toWire_wp a Z) : PureC Tryz.prog 64 [.agg [str a.name, int a.link]] (fun r => ∃ y : Wire, Z y ∧ r = .agg [str y.name, int y.link]) := by
  unfold toWire_wp at h
  refine PureC.of Tryz.func64 rfl Tryz.ntmps64 (by simp) fun Q hQ => ?_
  refine Runs.cut (fun ρ H n => ρ 0 = .agg [str a.name, int a.link]) (by simp []) ?_
  rintro ρ H n1 h0
  refine Runs.seqE Ty_ok (by decide) fun k' hk' => ?_
  simp [h0]
  refine hk' _ _ _ ?_
  refine Runs.cut (fun ρ H n => ρ 1 = pA n1 1 ∧ ρ 2 = pA (n1 + 1) 2 ∧ H (n1, 1) = some ⟨2, [[str a.name, int a.link]]⟩ ∧ H (n1 + 1, 2) = some ⟨2, [[str [], int 0]]⟩) (by refine ⟨?_, ?_, ?_, ?_⟩ <;> simp [h0]) ?_
  clear h0
  rintro ρ H n4 ⟨h1, h2, m1_1, m2_2⟩
  refine Runs.seqE Ty_ok (by decide) fun k' hk' => ?_
  simp [h1, h2, m1_1, m2_2]
  refine hk' _ _ _ ?_
  refine Runs.cut (fun ρ H n => ρ 1 = pA n1 1 ∧ ρ 2 = pA (n1 + 1) 2 ∧ ρ 3 = pA n4 3 ∧ H (n1, 1) = some ⟨2, [[str a.name, int a.link]]⟩ ∧ H (n1 + 1, 2) = some ⟨2, [[str [], int 0]]⟩ ∧ H (n4, 3) = some ⟨2, [[str [], int 0]]⟩) (by refine ⟨?_, ?_, ?_, ?_, ?_, ?_⟩ <;> simp [h1, h2, m1_1, m2_2]) ?_
  clear h1 h2 m1_1 m2_2
  rintro ρ H n6 ⟨h1, h2, h3, m1_1, m2_2, m3_4⟩
  refine Runs.seqE Ty_ok (by decide) fun k' hk' => ?_
  simp [h1, h2, h3, m1_1, m2_2, m3_4]
  refine hk' _ _ _ ?_
  refine Runs.cut (fun ρ H n => ρ 1 = pA n1 1 ∧ ρ 2 = pA (n1 + 1) 2 ∧ ρ 3 = pA n4 3 ∧ H (n1, 1) = some ⟨2, [[str a.name, int a.link]]⟩ ∧ H (n1 + 1, 2) = some ⟨2, [[str [], int 0]]⟩ ∧ H (n4, 3) = some ⟨2, [[str a.name, int 0]]⟩) (by refine ⟨?_, ?_, ?_, ?_, ?_, ?_⟩ <;> simp [h1, h2, h3, m1_1, m2_2, m3_4]) ?_
  clear h1 h2 h3 m1_1 m2_2 m3_4
  rintro ρ H n7 ⟨h1, h2, h3, m1_1, m2_2, m3_4⟩
  refine Runs.seqE Ty_ok (by decide) fun k' hk' => ?_
  simp [h1, h2, h3, m1_1, m2_2, m3_4]
  refine hk' _ _ _ ?_
  refine Runs.cut (fun ρ H n => ρ 2 = pA (n1 + 1) 2 ∧ ρ 3 = pA n4 3 ∧ H (n1 + 1, 2) = some ⟨2, [[str [], int 0]]⟩ ∧ H (n4, 3) = some ⟨2, [[str a.name, int a.link]]⟩) (by refine ⟨?_, ?_, ?_, ?_⟩ <;> simp [h1, h2, h3, m1_1, m2_2, m3_4]) ?_
  clear h1 h2 h3 m1_1 m2_2 m3_4
  rintro ρ H n8 ⟨h2, h3, m2_2, m3_4⟩
  refine Runs.seqE Ty_ok (by decide) fun k' hk' => ?_
  simp [h2, h3, m2_2, m3_4]
  refine hk' _ _ _ ?_
  refine Runs.cut (fun ρ H n => ρ 2 = pA (n1 + 1) 2 ∧ H (n1 + 1, 2) = some ⟨2, [[str a.name, int a.link]]⟩) (by refine ⟨?_, ?_⟩ <;> simp [h2, h3, m2_2, m3_4]) ?_
  clear h2 h3 m2_2 m3_4
  rintro ρ H n9 ⟨h2, m2_2⟩
  exact Runs.res1 Ty_ok (v := .agg [str a.name, int a.link]) Tryz.func64 Tryz.results64 (by simp [h2, m2_2, resA]) (hQ _ _ _ _ (.of (.aggL (.cons (.v _) (.cons (.v _) .nil)))) ⟨a, h, rfl⟩)

theorem toWire_ok (a : Wire)  : PureC Tryz.prog 64 [.agg [str a.name, int a.link]] (fun r => r = .agg [str ((toWire a).name), int ((toWire a).link)]) := (toWire_walk a _ (toWire_vc a )).mono (by rintro _ ⟨_, rfl, rfl⟩; rfl)

theorem e38 : Ent Tryz.prog 38 := Ent.of Tryz.func38 (by kernel_rfl) rfl
theorem toWireS_walk (a : List Wire) (Z : (List Wire) → Prop) (h : toWireS_wp a Z) : OwnS Tryz.prog 38 [.list false (a.map Wire.cells)] (.s [.c, .c]) (fun r => ∃ y : List Wire, Z y ∧ r = .list true (y.map Wire.cells)) := by
  unfold toWireS_wp at h
  have sp : Sep noHeap 0 [] [] := Sep.nil (by simp)
  refine OwnS.of Tryz.func38 rfl Tryz.ntmps38 (by simp) fun Q hQ => ?_
  refine Runs.cut (fun ρ H n => ρ 0 = .list false (a.map Wire.cells) ∧ Sep H n [] []) (by refine ⟨?_, sp⟩ <;> simp ) ?_
  rintro ρ H n1 ⟨h0, sp⟩
  refine Runs.seqE Ty_ok (by decide) fun k' hk' => ?_
  simp [h0]
  refine hk' _ _ _ ?_
  refine Runs.seqE Ty_ok (by decide) fun k' hk' => ?_
  obtain ⟨len2, elen2⟩ : ∃ v : Int, v = (a.length : Int) := ⟨_, rfl⟩
  replace h := h len2 elen2
  have f3 := fun H => len_list (H := H) (fr := false) (f := Wire.cells) kd_26 elen2
  obtain ⟨hb4, h⟩ := h
  obtain ⟨l5, el5⟩ : ∃ v : List Wire, v = List.replicate len2.toNat default := ⟨_, rfl⟩
  replace h := h l5 el5
  simp [h0, f3, hb4, el5, -lenF]
  refine hk' _ _ _ ?_
  refine Runs.cut (fun ρ H n => ∃ (v7 : AVal), ρ 0 = .list false (a.map Wire.cells) ∧ ρ 3 = v7 ∧ Sep H n [oW v7 l5] []) (by refine ⟨.arr (n1, 7) len2.toNat 0 len2.toNat, ?_, ?_, (by rw [el5]; exact Sep.addRep (z := [str [], int 0]) (f := Wire.cells) (k := len2.toNat) sp (fun H => by show Row H [.c, .c] [str [], int 0] [str [], int 0] []; simp [Row, Tr]))⟩ <;> simp [h0, f3, hb4, el5, -lenF]) ?_
  clear h0
  rintro ρ H n8 ⟨v7, h0, h3, sp⟩
  refine Runs.seq ?_
  refine Runs.seqE Ty_ok (by decide) fun k' hk' => ?_
  simp [h0, h3]
  refine hk' _ _ _ ?_
  refine Runs.block ?_
  refine Runs.loopW h (fun (sJ : Int × (List Wire)) ρ H n => match sJ with | (i16, l17) => ∃ (v18 : AVal), ρ 0 = .list false (a.map Wire.cells) ∧ ρ 3 = v18 ∧ ρ 4 = int i16 ∧ Sep H n [oW v18 l17] []) (by refine ⟨v7, ?_, ?_, ?_, sp⟩ <;> simp [h0, h3]) ?_
  clear h0 h3
  rintro ⟨i16, l17⟩ ρ H n19 K h ⟨v18, h0, h3, h4, sp⟩ IH20
  refine Runs.seq ?_
  refine Runs.seqE Ty_ok (by decide) fun k' hk' => ?_
  obtain ⟨len22, elen22⟩ : ∃ v : Int, v = (a.length : Int) := ⟨_, rfl⟩
  replace h := h len22 elen22
  have f23 := fun H => len_list (H := H) (fr := false) (f := Wire.cells) kd_26 elen22
  obtain ⟨c24, ec24⟩ : ∃ v : Bool, v = decide (i16 < len22) := ⟨_, rfl⟩
  replace h := h c24 ec24
  have f25 := ib_lss (k := .i64) ec24
  simp [h0, h3, h4, f23, f25, -intBin, -lenF]
  refine hk' _ _ _ ?_
  refine Runs.ite (b := c24) (by simp [h0, h3, h4]) (fun dc24 => ?_) (fun dc24 => ?_)
  · replace h := h.1 dc24
    refine Runs.skip ?_
    refine Runs.seq ?_
    refine Runs.block ?_
    refine Runs.evalE Ty_ok (by decide) fun k' hk' => ?_
    obtain ⟨hb26, h⟩ := h
    obtain ⟨x27, ex27⟩ : ∃ v : Wire, v = at' a i16 := ⟨_, rfl⟩
    replace h := h x27 ex27
    have f28 := fun H => ix_list (H := H) (fr := false) (f := Wire.cells) (k := .i64) kd_26 (fun _ => rfl) hb26 ex27
    obtain ⟨r29, er29⟩ : ∃ v : Wire, v = toWire x27 := ⟨_, rfl⟩
    replace h := h r29 er29
    simp [h0, h3, h4, f28, dc24, -indexAddrF]
    refine RunK.callA Ty_ok (toWire_ok x27 ) e64 (.cons (ArgOk.agg (.cons (.v _ _ _) (.cons (.v _ _ _) .nil))) .nil) (by decide) (by decide) rfl (by simp [h0, h3, h4, f28, dc24, -indexAddrF]) ?_
    rintro _ rfl
    rw [← er29]
    obtain ⟨hb30, h⟩ := h
    obtain ⟨id31, hv, mo32, ln33, ni34⟩ := Sep.openF sp (by simp) hb30
    subst hv
    obtain ⟨x35, ex35⟩ : ∃ v : Wire, v = at' l17 i16 := ⟨_, rfl⟩
    replace h := h x35 ex35
    have f36 := fun H (hm : H id31 = some ⟨2, l17.map Wire.cells⟩) => ix_arr (H := H) (k := .i64) (off := 0) (len := l17.length) (g := l17.length) kd_39 hm (by simp) rfl hb30
    have f37 := at_some (q := i16.toNat) hb30 ex35 rfl
    obtain ⟨l38, el38⟩ : ∃ v : List Wire, v = l17.set i16.toNat r29 := ⟨_, rfl⟩
    replace h := h l38 el38
    simp [h0, h3, h4, mo32, f28, f36, f37, dc24, -indexAddrF, -storeF]
    refine bind_store (q := i16.toNat) (news := Wire.cells r29) [] [] sp (by simp) (by simp; omega) (by simp) (by simp [-one1, o1x]) (Fill.v _ (Fill.v _ Fill.nil)) ?_
    rintro H39 sp hfr40
    replace sp : Sep H39 n19 [oW (.arr id31 l17.length 0 l17.length) l38] [] := Sep.st el38 sp
    simp [h0, h3, h4, f28, f36, f37, dc24, -indexAddrF]
    refine hk' _ _ _ ?_
    refine Runs.cut (fun ρ H n => ∃ (v42 : AVal), ρ 0 = .list false (a.map Wire.cells) ∧ ρ 3 = v42 ∧ ρ 4 = int i16 ∧ Sep H n [oW v42 l38] []) (by refine ⟨.arr id31 l17.length 0 l17.length, ?_, ?_, ?_, sp⟩ <;> simp [h0, h3, h4, f28, f36, f37, dc24, -indexAddrF]) ?_
    clear h0 h3 h4
    rintro ρ H n43 ⟨v42, h0, h3, h4, sp⟩
    refine Runs.inBlock ?_
    refine Runs.evalE Ty_ok (by decide) fun k' hk' => ?_
    obtain ⟨hb44, h⟩ := h
    obtain ⟨v45, ev45⟩ : ∃ v : Int, v = i16 + 1 := ⟨_, rfl⟩
    replace h := h v45 ev45
    have f46 := ib_add hb44 ev45
    simp [h0, h3, h4, f46, dc24, -intBin]
    refine hk' _ _ _ ?_
    refine IH20 (v45, l38) _ _ _ h (by refine ⟨v42, ?_, ?_, ?_, sp⟩ <;> simp [h0, h3, h4, dc24])
  replace h := h.2 dc24
  refine Runs.exit rfl ?_
  refine Runs.seqE Ty_ok (by decide) fun k' hk' => ?_
  simp [h0, h3, h4, dc24]
  refine hk' _ _ _ ?_
  exact Runs.ret1 (v := v18) Tryz.func38 Tryz.results38 (by simp [h0, h3, h4, dc24]) (hQ _ _ _ _ (Sep.sub (ids' := []) sp (by simp)) ⟨l17, h, rfl⟩)

theorem toWireS_ok (a : List Wire) (hp : toWireS_pre a) : OwnS Tryz.prog 38 [.list false (a.map Wire.cells)] (.s [.c, .c]) (fun r => r = .list true ((toWireS a).map Wire.cells)) := (toWireS_walk a _ (toWireS_vc a hp)).mono (by rintro _ ⟨_, rfl, rfl⟩; rfl)

theorem e63 : Ent Tryz.prog 63 := Ent.of Tryz.func63 (by kernel_rfl) rfl
theorem toNode_walk (a : GNode) (Z : GNode → Prop) (h : toNode_wp a Z) : OwnS Tryz.prog 63 [.agg [int a.control, int a.parent, .list false (a.links.map intC)]] (.a [.c, .c, .s [.c]]) (fun r => ∃ y : GNode, Z y ∧ r = .agg [int y.control, int y.parent, .list true (y.links.map intC)]) := by
  unfold toNode_wp at h
  have sp : Sep noHeap 0 [] [] := Sep.nil (by simp)
  refine OwnS.of Tryz.func63 rfl Tryz.ntmps63 (by simp) fun Q hQ => ?_
  refine Runs.cut (fun ρ H n => ρ 0 = .agg [int a.control, int a.parent, .list false (a.links.map intC)] ∧ Sep H n [] []) (by refine ⟨?_, sp⟩ <;> simp ) ?_
  rintro ρ H n1 ⟨h0, sp⟩
  refine Runs.seqE Ty_ok (by decide) fun k' hk' => ?_
  simp [h0]
  refine hk' _ _ _ ?_
  refine Runs.cut (fun ρ H n => ρ 1 = pA n1 1 ∧ ρ 2 = pA (n1 + 1) 2 ∧ H (n1, 1) = some ⟨3, [[int a.control, int a.parent, .list false (a.links.map intC)]]⟩ ∧ H (n1 + 1, 2) = some ⟨3, [[int 0, int 0, .v (.slice none 0 0)]]⟩ ∧ Sep H n [] [(n1 + 1, 2), (n1, 1)]) (by refine ⟨?_, ?_, ?_, ?_, sp.var.var⟩ <;> simp [h0]) ?_
  clear h0
  rintro ρ H n4 ⟨h1, h2, m1_1, m2_2, sp⟩
  refine Runs.seqE Ty_ok (by decide) fun k' hk' => ?_
  simp [h1, h2, m1_1, m2_2]
  refine hk' _ _ _ ?_
  refine Runs.cut (fun ρ H n => ρ 1 = pA n1 1 ∧ ρ 2 = pA (n1 + 1) 2 ∧ ρ 3 = pA n4 3 ∧ H (n1, 1) = some ⟨3, [[int a.control, int a.parent, .list false (a.links.map intC)]]⟩ ∧ H (n1 + 1, 2) = some ⟨3, [[int 0, int 0, .v (.slice none 0 0)]]⟩ ∧ H (n4, 3) = some ⟨3, [[int 0, int 0, .v (.slice none 0 0)]]⟩ ∧ Sep H n [] [(n4, 3), (n1 + 1, 2), (n1, 1)]) (by refine ⟨?_, ?_, ?_, ?_, ?_, ?_, sp.var⟩ <;> simp [h1, h2, m1_1, m2_2]) ?_
  clear h1 h2 m1_1 m2_2
  rintro ρ H n6 ⟨h1, h2, h3, m1_1, m2_2, m3_4, sp⟩
  refine Runs.seqE Ty_ok (by decide) fun k' hk' => ?_
  simp [h1, h2, h3, m1_1, m2_2, m3_4]
  refine hk' _ _ _ ?_
  refine Runs.cut (fun ρ H n => ρ 1 = pA n1 1 ∧ ρ 2 = pA (n1 + 1) 2 ∧ ρ 3 = pA n4 3 ∧ H (n1, 1) = some ⟨3, [[int a.control, int a.parent, .list false (a.links.map intC)]]⟩ ∧ H (n1 + 1, 2) = some ⟨3, [[int 0, int 0, .v (.slice none 0 0)]]⟩ ∧ H (n4, 3) = some ⟨3, [[int a.control, int 0, .v (.slice none 0 0)]]⟩ ∧ Sep H n [] [(n4, 3), (n1 + 1, 2), (n1, 1)]) (by refine ⟨?_, ?_, ?_, ?_, ?_, ?_, (Sep.setVar (w := (n4, 3)) sp (by simp))⟩ <;> simp [h1, h2, h3, m1_1, m2_2, m3_4]) ?_
  clear h1 h2 h3 m1_1 m2_2 m3_4
  rintro ρ H n7 ⟨h1, h2, h3, m1_1, m2_2, m3_4, sp⟩
  refine Runs.seqE Ty_ok (by decide) fun k' hk' => ?_
  simp [h1, h2, h3, m1_1, m2_2, m3_4]
  refine hk' _ _ _ ?_
  refine Runs.cut (fun ρ H n => ρ 1 = pA n1 1 ∧ ρ 2 = pA (n1 + 1) 2 ∧ ρ 3 = pA n4 3 ∧ H (n1, 1) = some ⟨3, [[int a.control, int a.parent, .list false (a.links.map intC)]]⟩ ∧ H (n1 + 1, 2) = some ⟨3, [[int 0, int 0, .v (.slice none 0 0)]]⟩ ∧ H (n4, 3) = some ⟨3, [[int a.control, int a.parent, .v (.slice none 0 0)]]⟩ ∧ Sep H n [] [(n4, 3), (n1 + 1, 2), (n1, 1)]) (by refine ⟨?_, ?_, ?_, ?_, ?_, ?_, (Sep.setVar (w := (n4, 3)) sp (by simp))⟩ <;> simp [h1, h2, h3, m1_1, m2_2, m3_4]) ?_
  clear h1 h2 h3 m1_1 m2_2 m3_4
  rintro ρ H n8 ⟨h1, h2, h3, m1_1, m2_2, m3_4, sp⟩
  refine Runs.seqE Ty_ok (by decide) fun k' hk' => ?_
  obtain ⟨hb9, h⟩ := h
  obtain ⟨r10, er10⟩ : ∃ v : List Int, v = toIntS a.links := ⟨_, rfl⟩
  replace h := h r10 er10
  simp [h1, h2, h3, m1_1, m2_2, m3_4]
  refine RunK.callW Ty_ok (toIntS_ok a.links hb9) e36 (.cons (argI false a.links) .nil) sp (by decide) (by decide) rfl (by simp [h1, h2, h3, m1_1, m2_2, m3_4]) ?_
  rintro v11 H12 n13 _ sp rfl hle15 hfr14
  rw [← er10] at sp
  have m1_1 : H12 (n1, 1) = some ⟨3, [[int a.control, int a.parent, .list false (a.links.map intC)]]⟩ := (hfr14 _ (by simp)).trans (by simp [h1, h2, h3, m1_1, m2_2, m3_4, Heap.get_set])
  have m2_2 : H12 (n1 + 1, 2) = some ⟨3, [[int 0, int 0, .v (.slice none 0 0)]]⟩ := (hfr14 _ (by simp)).trans (by simp [h1, h2, h3, m1_1, m2_2, m3_4, Heap.get_set])
  have m3_4 : H12 (n4, 3) = some ⟨3, [[int a.control, int a.parent, .v (.slice none 0 0)]]⟩ := (hfr14 _ (by simp)).trans (by simp [h1, h2, h3, m1_1, m2_2, m3_4, Heap.get_set])
  have f18 := Sep.oc sp
  simp [h1, h2, h3, m1_1, m2_2, m3_4, f18, -cellsA, -one1, cAx, o1x]
  refine hk' _ _ _ ?_
  refine Runs.cut (fun ρ H n => ∃ (v19 : AVal), ρ 2 = pA (n1 + 1) 2 ∧ ρ 3 = pA n4 3 ∧ H (n1 + 1, 2) = some ⟨3, [[int 0, int 0, .v (.slice none 0 0)]]⟩ ∧ H (n4, 3) = some ⟨3, [[int a.control, int a.parent, v19]]⟩ ∧ Sep H n [oI v19 r10] [(n4, 3), (n1 + 1, 2)]) (by refine ⟨v11, ?_, ?_, ?_, ?_, (Sep.sub (Sep.setVar (w := (n4, 3)) sp (by simp)) (by simp +contextual))⟩ <;> simp [h1, h2, h3, m1_1, m2_2, m3_4, f18, -cellsA, -one1, cAx, o1x]) ?_
  clear h1 h2 h3 m1_1 m2_2 m3_4
  rintro ρ H n20 ⟨v19, h2, h3, m2_2, m3_4, sp⟩
  refine Runs.seqE Ty_ok (by decide) fun k' hk' => ?_
  have f21 := Sep.oc sp
  simp [h2, h3, m2_2, m3_4, f21, -cellsA, -one1, cAx, o1x]
  refine hk' _ _ _ ?_
  refine Runs.cut (fun ρ H n => ∃ (v22 : AVal), ρ 2 = pA (n1 + 1) 2 ∧ H (n1 + 1, 2) = some ⟨3, [[int a.control, int a.parent, v22]]⟩ ∧ Sep H n [oI v22 r10] [(n1 + 1, 2)]) (by refine ⟨v19, ?_, ?_, (Sep.sub (Sep.setVar (w := (n1 + 1, 2)) sp (by simp)) (by simp +contextual))⟩ <;> simp [h2, h3, m2_2, m3_4, f21, -cellsA, -one1, cAx, o1x]) ?_
  clear h2 h3 m2_2 m3_4
  rintro ρ H n23 ⟨v22, h2, m2_2, sp⟩
  exact Runs.res1 Ty_ok (v := .agg [int a.control, int a.parent, v22]) Tryz.func63 Tryz.results63 (by simp [h2, m2_2, resA]) (hQ _ _ _ _ (Sep.sub (ids' := []) (Sep.pack (Fill.v _ (Fill.v _ (Fill.own Fill.nil))) sp) (by simp)) ⟨(GNode.mk a.control a.parent r10), h, rfl⟩)

theorem toNode_ok (a : GNode) (hp : toNode_pre a) : OwnS Tryz.prog 63 [.agg [int a.control, int a.parent, .list false (a.links.map intC)]] (.a [.c, .c, .s [.c]]) (fun r => r = .agg [int ((toNode a).control), int ((toNode a).parent), .list true (((toNode a).links).map intC)]) := (toNode_walk a _ (toNode_vc a hp)).mono (by rintro _ ⟨_, rfl, rfl⟩; rfl)

theorem e35 : Ent Tryz.prog 35 := Ent.of Tryz.func35 (by kernel_rfl) rfl
theorem toNodeS_walk (a : List GNode) (Z : (List GNode) → Prop) (h : toNodeS_wp a Z) : OwnS Tryz.prog 35 [.list false (a.map (GNode.cells false))] (.s [.c, .c, .s [.c]]) (fun r => ∃ y : List GNode, Z y ∧ r = .list true (y.map (GNode.cells true))) := by
  unfold toNodeS_wp at h
  have sp : Sep noHeap 0 [] [] := Sep.nil (by simp)
  refine OwnS.of Tryz.func35 rfl Tryz.ntmps35 (by simp) fun Q hQ => ?_
  refine Runs.cut (fun ρ H n => ρ 0 = .list false (a.map (GNode.cells false)) ∧ Sep H n [] []) (by refine ⟨?_, sp⟩ <;> simp ) ?_
  rintro ρ H n1 ⟨h0, sp⟩
  refine Runs.seqE Ty_ok (by decide) fun k' hk' => ?_
  simp [h0]
  refine hk' _ _ _ ?_
  refine Runs.seqE Ty_ok (by decide) fun k' hk' => ?_
  obtain ⟨len2, elen2⟩ : ∃ v : Int, v = (a.length : Int) := ⟨_, rfl⟩
  replace h := h len2 elen2
  have f3 := fun H => len_list (H := H) (fr := false) (f := (GNode.cells false)) kd_23 elen2
  obtain ⟨hb4, h⟩ := h
  obtain ⟨l5, el5⟩ : ∃ v : List GNode, v = List.replicate len2.toNat default := ⟨_, rfl⟩
  replace h := h l5 el5
  simp [h0, f3, hb4, el5, -lenF]
  refine hk' _ _ _ ?_
  refine Runs.cut (fun ρ H n => ∃ (v7 : AVal), ρ 0 = .list false (a.map (GNode.cells false)) ∧ ρ 3 = v7 ∧ Sep H n [oN v7 l5] []) (by refine ⟨.arr (n1, 7) len2.toNat 0 len2.toNat, ?_, ?_, (by rw [el5]; exact Sep.addRep (z := [int 0, int 0, .v (.slice none 0 0)]) (f := (GNode.cells true)) (k := len2.toNat) sp (fun H => by show Row H [.c, .c, .s [.c]] [int 0, int 0, .v (.slice none 0 0)] [int 0, int 0, .list true []] []; simp [Row, Tr]))⟩ <;> simp [h0, f3, hb4, el5, -lenF]) ?_
  clear h0
  rintro ρ H n8 ⟨v7, h0, h3, sp⟩
  refine Runs.seq ?_
  refine Runs.seqE Ty_ok (by decide) fun k' hk' => ?_
  simp [h0, h3]
  refine hk' _ _ _ ?_
  refine Runs.block ?_
  refine Runs.loopW h (fun (sJ : Int × (List GNode)) ρ H n => match sJ with | (i16, l17) => ∃ (v18 : AVal), ρ 0 = .list false (a.map (GNode.cells false)) ∧ ρ 3 = v18 ∧ ρ 4 = int i16 ∧ Sep H n [oN v18 l17] []) (by refine ⟨v7, ?_, ?_, ?_, sp⟩ <;> simp [h0, h3]) ?_
  clear h0 h3
  rintro ⟨i16, l17⟩ ρ H n19 K h ⟨v18, h0, h3, h4, sp⟩ IH20
  refine Runs.seq ?_
  refine Runs.seqE Ty_ok (by decide) fun k' hk' => ?_
  obtain ⟨len22, elen22⟩ : ∃ v : Int, v = (a.length : Int) := ⟨_, rfl⟩
  replace h := h len22 elen22
  have f23 := fun H => len_list (H := H) (fr := false) (f := (GNode.cells false)) kd_23 elen22
  obtain ⟨c24, ec24⟩ : ∃ v : Bool, v = decide (i16 < len22) := ⟨_, rfl⟩
  replace h := h c24 ec24
  have f25 := ib_lss (k := .i64) ec24
  simp [h0, h3, h4, f23, f25, -intBin, -lenF]
  refine hk' _ _ _ ?_
  refine Runs.ite (b := c24) (by simp [h0, h3, h4]) (fun dc24 => ?_) (fun dc24 => ?_)
  · replace h := h.1 dc24
    refine Runs.skip ?_
    refine Runs.seq ?_
    refine Runs.block ?_
    refine Runs.evalE Ty_ok (by decide) fun k' hk' => ?_
    obtain ⟨hb26, h⟩ := h
    obtain ⟨x27, ex27⟩ : ∃ v : GNode, v = at' a i16 := ⟨_, rfl⟩
    replace h := h x27 ex27
    have f28 := fun H => ix_list (H := H) (fr := false) (f := (GNode.cells false)) (k := .i64) kd_23 (fun _ => rfl) hb26 ex27
    obtain ⟨hb29, h⟩ := h
    obtain ⟨r30, er30⟩ : ∃ v : GNode, v = toNode x27 := ⟨_, rfl⟩
    replace h := h r30 er30
    simp [h0, h3, h4, f28, dc24, -indexAddrF]
    refine RunK.callW Ty_ok (toNode_ok x27 hb29) e63 (.cons (ArgOk.agg (.cons (.v _ _ _) (.cons (.v _ _ _) (.cons (argI false x27.links) .nil)))) .nil) sp (by decide) (by decide) rfl (by simp [h0, h3, h4, f28, dc24, -indexAddrF]) ?_
    rintro v31 H32 n33 _ sp rfl hle35 hfr34
    rw [← er30] at sp
    replace sp := Sep.unpack sp
    obtain ⟨L40, hv, hl41, sp⟩ := sp
    subst hv
    obtain ⟨v37, v38, v39, hv⟩ := len3 (by simpa using hl41)
    subst hv
    simp only [zip3, List.cons_append, List.nil_append] at sp
    replace sp := Sep.scalar sp
    obtain ⟨hv, sp⟩ := sp
    subst hv
    replace sp := Sep.scalar sp
    obtain ⟨hv, sp⟩ := sp
    subst hv
    replace sp := Sep.rot sp
    try simp only [List.cons_append, List.nil_append, List.append_assoc] at sp
    replace sp : Sep H32 n33 [oN v18 l17, oI v39 r30.links] [] := sp
    obtain ⟨hb43, h⟩ := h
    obtain ⟨x44, ex44⟩ : ∃ v : GNode, v = at' l17 i16 := ⟨_, rfl⟩
    replace h := h x44 ex44
    obtain ⟨id45, els46, row47, W48, hq49, mo50, moL51, moR52, hrl53, hW54, hsub55, hni56, spr57, hcl58⟩ := Sep.rowF (q := i16.toNat) (f := (GNode.cells true)) sp hb43 ex44 rfl
    subst hq49
    obtain ⟨c59, c60, c61, hq49⟩ := len3 (by simpa using hrl53)
    subst hq49
    replace spr57 : Sep _ _ [(.c, c59, int x44.control), (.c, c60, int x44.parent), (.s [.c], c61, .list true (x44.links.map intC))] W48 := spr57
    obtain rfl := Sep.cAt (K1 := []) (K2 := [(.c, c60, int x44.parent), (.s [.c], c61, .list true (x44.links.map intC))]) spr57
    obtain rfl := Sep.cAt (K1 := [(.c, int x44.control, int x44.control)]) (K2 := [(.s [.c], c61, .list true (x44.links.map intC))]) spr57
    have f62 := ix_arr (k := .i64) (off := 0) (len := l17.length) kd_38 mo50 moL51 rfl hb43
    obtain ⟨l63, el63⟩ : ∃ v : List GNode, v = l17.set i16.toNat r30 := ⟨_, rfl⟩
    replace h := h l63 el63
    simp [h0, h3, h4, mo50, moL51, moR52, f28, f62, dc24, -indexAddrF, -storeF]
    refine bind_store (q := i16.toNat) (news := (GNode.cells true) r30) [oI v39 r30.links] [] sp.f1.f1 (by simp) (by simp; omega) (by simp) (by simp [-one1, o1x, Sep.one1 sp.f1.f1.dr]) (Fill.v _ (Fill.v _ (Fill.own Fill.nil))) ?_
    rintro H64 sp hfr65
    replace sp : Sep H64 n33 [oN (.arr id45 l17.length 0 l17.length) l63] [] := Sep.st el63 sp
    simp [h0, h3, h4, f28, f62, dc24, -indexAddrF]
    refine hk' _ _ _ ?_
    refine Runs.cut (fun ρ H n => ∃ (v67 : AVal), ρ 0 = .list false (a.map (GNode.cells false)) ∧ ρ 3 = v67 ∧ ρ 4 = int i16 ∧ Sep H n [oN v67 l63] []) (by refine ⟨.arr id45 l17.length 0 l17.length, ?_, ?_, ?_, sp⟩ <;> simp [h0, h3, h4, f28, f62, dc24, -indexAddrF]) ?_
    clear h0 h3 h4
    rintro ρ H n68 ⟨v67, h0, h3, h4, sp⟩
    refine Runs.inBlock ?_
    refine Runs.evalE Ty_ok (by decide) fun k' hk' => ?_
    obtain ⟨hb69, h⟩ := h
    obtain ⟨v70, ev70⟩ : ∃ v : Int, v = i16 + 1 := ⟨_, rfl⟩
    replace h := h v70 ev70
    have f71 := ib_add hb69 ev70
    simp [h0, h3, h4, f71, dc24, -intBin]
    refine hk' _ _ _ ?_
    refine IH20 (v70, l63) _ _ _ h (by refine ⟨v67, ?_, ?_, ?_, sp⟩ <;> simp [h0, h3, h4, dc24])
  replace h := h.2 dc24
  refine Runs.exit rfl ?_
  refine Runs.seqE Ty_ok (by decide) fun k' hk' => ?_
  simp [h0, h3, h4, dc24]
  refine hk' _ _ _ ?_
  exact Runs.ret1 (v := v18) Tryz.func35 Tryz.results35 (by simp [h0, h3, h4, dc24]) (hQ _ _ _ _ (Sep.sub (ids' := []) sp (by simp)) ⟨l17, h, rfl⟩)

theorem toNodeS_ok (a : List GNode) (hp : toNodeS_pre a) : OwnS Tryz.prog 35 [.list false (a.map (GNode.cells false))] (.s [.c, .c, .s [.c]]) (fun r => r = .list true ((toNodeS a).map (GNode.cells true))) := (toNodeS_walk a _ (toNodeS_vc a hp)).mono (by rintro _ ⟨_, rfl, rfl⟩; rfl)

theorem e11 : Ent Tryz.prog 11 := Ent.of Tryz.func11 (by kernel_rfl) rfl
theorem toBigraph_walk (a : Big) (Z : Big → Prop) (h : toBigraph_wp a Z) : OwnS Tryz.prog 11 [.agg (bC false a)] (.a [.c, .s [.c, .c, .s [.c]], .s [.c], .c, .s [.c], .s [.c, .c]]) (fun r => ∃ y : Big, Z y ∧ r = .agg (bC true y)) := by
  unfold toBigraph_wp at h
  have sp : Sep noHeap 0 [] [] := Sep.nil (by simp)
  refine OwnS.of Tryz.func11 rfl Tryz.ntmps11 (by simp) fun Q hQ => ?_
  refine Runs.cut (fun ρ H n => ρ 0 = .agg (bC false a) ∧ Sep H n [] []) (by refine ⟨?_, sp⟩ <;> simp ) ?_
  rintro ρ H n1 ⟨h0, sp⟩
  refine Runs.seqE Ty_ok (by decide) fun k' hk' => ?_
  simp [h0]
  refine hk' _ _ _ ?_
  refine Runs.cut (fun ρ H n => ρ 1 = pA n1 1 ∧ ρ 2 = pA (n1 + 1) 2 ∧ H (n1, 1) = some ⟨6, [bC false a]⟩ ∧ H (n1 + 1, 2) = some ⟨6, [[int 0, .v (.slice none 0 0), .v (.slice none 0 0), int 0, .v (.slice none 0 0), .v (.slice none 0 0)]]⟩ ∧ Sep H n [] [(n1 + 1, 2), (n1, 1)]) (by refine ⟨?_, ?_, ?_, ?_, sp.var.var⟩ <;> simp [h0]) ?_
  clear h0
  rintro ρ H n4 ⟨h1, h2, m1_1, m2_2, sp⟩
  refine Runs.seqE Ty_ok (by decide) fun k' hk' => ?_
  simp [h1, h2, m1_1, m2_2]
  refine hk' _ _ _ ?_
  refine Runs.cut (fun ρ H n => ρ 1 = pA n1 1 ∧ ρ 2 = pA (n1 + 1) 2 ∧ ρ 3 = pA n4 3 ∧ H (n1, 1) = some ⟨6, [bC false a]⟩ ∧ H (n1 + 1, 2) = some ⟨6, [[int 0, .v (.slice none 0 0), .v (.slice none 0 0), int 0, .v (.slice none 0 0), .v (.slice none 0 0)]]⟩ ∧ H (n4, 3) = some ⟨6, [[int 0, .v (.slice none 0 0), .v (.slice none 0 0), int 0, .v (.slice none 0 0), .v (.slice none 0 0)]]⟩ ∧ Sep H n [] [(n4, 3), (n1 + 1, 2), (n1, 1)]) (by refine ⟨?_, ?_, ?_, ?_, ?_, ?_, sp.var⟩ <;> simp [h1, h2, m1_1, m2_2]) ?_
  clear h1 h2 m1_1 m2_2
  rintro ρ H n6 ⟨h1, h2, h3, m1_1, m2_2, m3_4, sp⟩
  refine Runs.seqE Ty_ok (by decide) fun k' hk' => ?_
  simp [h1, h2, h3, m1_1, m2_2, m3_4]
  refine hk' _ _ _ ?_
  refine Runs.cut (fun ρ H n => ρ 1 = pA n1 1 ∧ ρ 2 = pA (n1 + 1) 2 ∧ ρ 3 = pA n4 3 ∧ H (n1, 1) = some ⟨6, [bC false a]⟩ ∧ H (n1 + 1, 2) = some ⟨6, [[int 0, .v (.slice none 0 0), .v (.slice none 0 0), int 0, .v (.slice none 0 0), .v (.slice none 0 0)]]⟩ ∧ H (n4, 3) = some ⟨6, [[int a.roots, .v (.slice none 0 0), .v (.slice none 0 0), int 0, .v (.slice none 0 0), .v (.slice none 0 0)]]⟩ ∧ Sep H n [] [(n4, 3), (n1 + 1, 2), (n1, 1)]) (by refine ⟨?_, ?_, ?_, ?_, ?_, ?_, (Sep.setVar (w := (n4, 3)) sp (by simp))⟩ <;> simp [h1, h2, h3, m1_1, m2_2, m3_4]) ?_
  clear h1 h2 h3 m1_1 m2_2 m3_4
  rintro ρ H n7 ⟨h1, h2, h3, m1_1, m2_2, m3_4, sp⟩
  refine Runs.seqE Ty_ok (by decide) fun k' hk' => ?_
  obtain ⟨hb8, h⟩ := h
  obtain ⟨r9, er9⟩ : ∃ v : List GNode, v = toNodeS a.nodes := ⟨_, rfl⟩
  replace h := h r9 er9
  simp [h1, h2, h3, m1_1, m2_2, m3_4]
  refine RunK.callW Ty_ok (toNodeS_ok a.nodes hb8) e35 (.cons (ArgOk.nest_Node false a.nodes) .nil) sp (by decide) (by decide) rfl (by simp [h1, h2, h3, m1_1, m2_2, m3_4]) ?_
  rintro v10 H11 n12 _ sp rfl hle14 hfr13
  rw [← er9] at sp
  have m1_1 : H11 (n1, 1) = some ⟨6, [bC false a]⟩ := (hfr13 _ (by simp)).trans (by simp [h1, h2, h3, m1_1, m2_2, m3_4, Heap.get_set])
  have m2_2 : H11 (n1 + 1, 2) = some ⟨6, [[int 0, .v (.slice none 0 0), .v (.slice none 0 0), int 0, .v (.slice none 0 0), .v (.slice none 0 0)]]⟩ := (hfr13 _ (by simp)).trans (by simp [h1, h2, h3, m1_1, m2_2, m3_4, Heap.get_set])
  have m3_4 : H11 (n4, 3) = some ⟨6, [[int a.roots, .v (.slice none 0 0), .v (.slice none 0 0), int 0, .v (.slice none 0 0), .v (.slice none 0 0)]]⟩ := (hfr13 _ (by simp)).trans (by simp [h1, h2, h3, m1_1, m2_2, m3_4, Heap.get_set])
  have f17 := Sep.oc sp
  simp [h1, h2, h3, m1_1, m2_2, m3_4, f17, -cellsA, -one1, cAx, o1x]
  refine hk' _ _ _ ?_
  refine Runs.cut (fun ρ H n => ∃ (v18 : AVal), ρ 1 = pA n1 1 ∧ ρ 2 = pA (n1 + 1) 2 ∧ ρ 3 = pA n4 3 ∧ H (n1, 1) = some ⟨6, [bC false a]⟩ ∧ H (n1 + 1, 2) = some ⟨6, [[int 0, .v (.slice none 0 0), .v (.slice none 0 0), int 0, .v (.slice none 0 0), .v (.slice none 0 0)]]⟩ ∧ H (n4, 3) = some ⟨6, [[int a.roots, v18, .v (.slice none 0 0), int 0, .v (.slice none 0 0), .v (.slice none 0 0)]]⟩ ∧ Sep H n [oN v18 r9] [(n4, 3), (n1 + 1, 2), (n1, 1)]) (by refine ⟨v10, ?_, ?_, ?_, ?_, ?_, ?_, (Sep.setVar (w := (n4, 3)) sp (by simp))⟩ <;> simp [h1, h2, h3, m1_1, m2_2, m3_4, f17, -cellsA, -one1, cAx, o1x]) ?_
  clear h1 h2 h3 m1_1 m2_2 m3_4
  rintro ρ H n19 ⟨v18, h1, h2, h3, m1_1, m2_2, m3_4, sp⟩
  refine Runs.seqE Ty_ok (by decide) fun k' hk' => ?_
  obtain ⟨hb20, h⟩ := h
  obtain ⟨r21, er21⟩ : ∃ v : List Int, v = toIntS a.sites := ⟨_, rfl⟩
  replace h := h r21 er21
  simp [h1, h2, h3, m1_1, m2_2, m3_4]
  refine RunK.callW Ty_ok (toIntS_ok a.sites hb20) e36 (.cons (argI false a.sites) .nil) sp (by decide) (by decide) rfl (by simp [h1, h2, h3, m1_1, m2_2, m3_4]) ?_
  rintro v22 H23 n24 _ sp rfl hle26 hfr25
  rw [← er21] at sp
  have m1_1 : H23 (n1, 1) = some ⟨6, [bC false a]⟩ := (hfr25 _ (by simp)).trans (by simp [h1, h2, h3, m1_1, m2_2, m3_4, Heap.get_set])
  have m2_2 : H23 (n1 + 1, 2) = some ⟨6, [[int 0, .v (.slice none 0 0), .v (.slice none 0 0), int 0, .v (.slice none 0 0), .v (.slice none 0 0)]]⟩ := (hfr25 _ (by simp)).trans (by simp [h1, h2, h3, m1_1, m2_2, m3_4, Heap.get_set])
  have m3_4 : H23 (n4, 3) = some ⟨6, [[int a.roots, v18, .v (.slice none 0 0), int 0, .v (.slice none 0 0), .v (.slice none 0 0)]]⟩ := (hfr25 _ (by simp)).trans (by simp [h1, h2, h3, m1_1, m2_2, m3_4, Heap.get_set])
  have f29 := Sep.oc sp
  simp [h1, h2, h3, m1_1, m2_2, m3_4, f29, -cellsA, -one1, cAx, o1x]
  refine hk' _ _ _ ?_
  refine Runs.cut (fun ρ H n => ∃ (v30 v31 : AVal), ρ 1 = pA n1 1 ∧ ρ 2 = pA (n1 + 1) 2 ∧ ρ 3 = pA n4 3 ∧ H (n1, 1) = some ⟨6, [bC false a]⟩ ∧ H (n1 + 1, 2) = some ⟨6, [[int 0, .v (.slice none 0 0), .v (.slice none 0 0), int 0, .v (.slice none 0 0), .v (.slice none 0 0)]]⟩ ∧ H (n4, 3) = some ⟨6, [[int a.roots, v31, v30, int 0, .v (.slice none 0 0), .v (.slice none 0 0)]]⟩ ∧ Sep H n [oI v30 r21, oN v31 r9] [(n4, 3), (n1 + 1, 2), (n1, 1)]) (by refine ⟨v22, v18, ?_, ?_, ?_, ?_, ?_, ?_, (Sep.f1 (Sep.f1 (Sep.setVar (w := (n4, 3)) sp (by simp))))⟩ <;> simp [h1, h2, h3, m1_1, m2_2, m3_4, f29, -cellsA, -one1, cAx, o1x]) ?_
  clear h1 h2 h3 m1_1 m2_2 m3_4
  rintro ρ H n32 ⟨v30, v31, h1, h2, h3, m1_1, m2_2, m3_4, sp⟩
  refine Runs.seqE Ty_ok (by decide) fun k' hk' => ?_
  simp [h1, h2, h3, m1_1, m2_2, m3_4]
  refine hk' _ _ _ ?_
  refine Runs.cut (fun ρ H n => ∃ (v33 v34 : AVal), ρ 1 = pA n1 1 ∧ ρ 2 = pA (n1 + 1) 2 ∧ ρ 3 = pA n4 3 ∧ H (n1, 1) = some ⟨6, [bC false a]⟩ ∧ H (n1 + 1, 2) = some ⟨6, [[int 0, .v (.slice none 0 0), .v (.slice none 0 0), int 0, .v (.slice none 0 0), .v (.slice none 0 0)]]⟩ ∧ H (n4, 3) = some ⟨6, [[int a.roots, v34, v33, int a.edges, .v (.slice none 0 0), .v (.slice none 0 0)]]⟩ ∧ Sep H n [oI v33 r21, oN v34 r9] [(n4, 3), (n1 + 1, 2), (n1, 1)]) (by refine ⟨v30, v31, ?_, ?_, ?_, ?_, ?_, ?_, (Sep.f1 (Sep.f1 (Sep.setVar (w := (n4, 3)) sp (by simp))))⟩ <;> simp [h1, h2, h3, m1_1, m2_2, m3_4]) ?_
  clear h1 h2 h3 m1_1 m2_2 m3_4
  rintro ρ H n35 ⟨v33, v34, h1, h2, h3, m1_1, m2_2, m3_4, sp⟩
  refine Runs.seqE Ty_ok (by decide) fun k' hk' => ?_
  obtain ⟨hb36, h⟩ := h
  obtain ⟨r37, er37⟩ : ∃ v : List Str, v = toStringS a.outer := ⟨_, rfl⟩
  replace h := h r37 er37
  simp [h1, h2, h3, m1_1, m2_2, m3_4]
  refine RunK.callW Ty_ok (toStringS_ok a.outer hb36) e37 (.cons (argS false a.outer) .nil) sp (by decide) (by decide) rfl (by simp [h1, h2, h3, m1_1, m2_2, m3_4]) ?_
  rintro v38 H39 n40 _ sp rfl hle42 hfr41
  rw [← er37] at sp
  have m1_1 : H39 (n1, 1) = some ⟨6, [bC false a]⟩ := (hfr41 _ (by simp)).trans (by simp [h1, h2, h3, m1_1, m2_2, m3_4, Heap.get_set])
  have m2_2 : H39 (n1 + 1, 2) = some ⟨6, [[int 0, .v (.slice none 0 0), .v (.slice none 0 0), int 0, .v (.slice none 0 0), .v (.slice none 0 0)]]⟩ := (hfr41 _ (by simp)).trans (by simp [h1, h2, h3, m1_1, m2_2, m3_4, Heap.get_set])
  have m3_4 : H39 (n4, 3) = some ⟨6, [[int a.roots, v34, v33, int a.edges, .v (.slice none 0 0), .v (.slice none 0 0)]]⟩ := (hfr41 _ (by simp)).trans (by simp [h1, h2, h3, m1_1, m2_2, m3_4, Heap.get_set])
  have f45 := Sep.oc sp
  simp [h1, h2, h3, m1_1, m2_2, m3_4, f45, -cellsA, -one1, cAx, o1x]
  refine hk' _ _ _ ?_
  refine Runs.cut (fun ρ H n => ∃ (v46 v47 v48 : AVal), ρ 1 = pA n1 1 ∧ ρ 2 = pA (n1 + 1) 2 ∧ ρ 3 = pA n4 3 ∧ H (n1, 1) = some ⟨6, [bC false a]⟩ ∧ H (n1 + 1, 2) = some ⟨6, [[int 0, .v (.slice none 0 0), .v (.slice none 0 0), int 0, .v (.slice none 0 0), .v (.slice none 0 0)]]⟩ ∧ H (n4, 3) = some ⟨6, [[int a.roots, v48, v47, int a.edges, v46, .v (.slice none 0 0)]]⟩ ∧ Sep H n [oS v46 r37, oI v47 r21, oN v48 r9] [(n4, 3), (n1 + 1, 2), (n1, 1)]) (by refine ⟨v38, v33, v34, ?_, ?_, ?_, ?_, ?_, ?_, (Sep.f2 (Sep.f2 (Sep.f2 (Sep.setVar (w := (n4, 3)) sp (by simp)))))⟩ <;> simp [h1, h2, h3, m1_1, m2_2, m3_4, f45, -cellsA, -one1, cAx, o1x]) ?_
  clear h1 h2 h3 m1_1 m2_2 m3_4
  rintro ρ H n49 ⟨v46, v47, v48, h1, h2, h3, m1_1, m2_2, m3_4, sp⟩
  refine Runs.seqE Ty_ok (by decide) fun k' hk' => ?_
  obtain ⟨hb50, h⟩ := h
  obtain ⟨r51, er51⟩ : ∃ v : List Wire, v = toWireS a.inner := ⟨_, rfl⟩
  replace h := h r51 er51
  simp [h1, h2, h3, m1_1, m2_2, m3_4]
  refine RunK.callW Ty_ok (toWireS_ok a.inner hb50) e38 (.cons (argW false a.inner) .nil) sp (by decide) (by decide) rfl (by simp [h1, h2, h3, m1_1, m2_2, m3_4]) ?_
  rintro v52 H53 n54 _ sp rfl hle56 hfr55
  rw [← er51] at sp
  have m1_1 : H53 (n1, 1) = some ⟨6, [bC false a]⟩ := (hfr55 _ (by simp)).trans (by simp [h1, h2, h3, m1_1, m2_2, m3_4, Heap.get_set])
  have m2_2 : H53 (n1 + 1, 2) = some ⟨6, [[int 0, .v (.slice none 0 0), .v (.slice none 0 0), int 0, .v (.slice none 0 0), .v (.slice none 0 0)]]⟩ := (hfr55 _ (by simp)).trans (by simp [h1, h2, h3, m1_1, m2_2, m3_4, Heap.get_set])
  have m3_4 : H53 (n4, 3) = some ⟨6, [[int a.roots, v48, v47, int a.edges, v46, .v (.slice none 0 0)]]⟩ := (hfr55 _ (by simp)).trans (by simp [h1, h2, h3, m1_1, m2_2, m3_4, Heap.get_set])
  have f59 := Sep.oc sp
  simp [h1, h2, h3, m1_1, m2_2, m3_4, f59, -cellsA, -one1, cAx, o1x]
  refine hk' _ _ _ ?_
  refine Runs.cut (fun ρ H n => ∃ (v60 v61 v62 v63 : AVal), ρ 2 = pA (n1 + 1) 2 ∧ ρ 3 = pA n4 3 ∧ H (n1 + 1, 2) = some ⟨6, [[int 0, .v (.slice none 0 0), .v (.slice none 0 0), int 0, .v (.slice none 0 0), .v (.slice none 0 0)]]⟩ ∧ H (n4, 3) = some ⟨6, [[int a.roots, v63, v62, int a.edges, v61, v60]]⟩ ∧ Sep H n [oW v60 r51, oS v61 r37, oI v62 r21, oN v63 r9] [(n4, 3), (n1 + 1, 2)]) (by refine ⟨v52, v46, v47, v48, ?_, ?_, ?_, ?_, (Sep.sub (Sep.f3 (Sep.f3 (Sep.f3 (Sep.f3 (Sep.setVar (w := (n4, 3)) sp (by simp)))))) (by simp +contextual))⟩ <;> simp [h1, h2, h3, m1_1, m2_2, m3_4, f59, -cellsA, -one1, cAx, o1x]) ?_
  clear h1 h2 h3 m1_1 m2_2 m3_4
  rintro ρ H n64 ⟨v60, v61, v62, v63, h2, h3, m2_2, m3_4, sp⟩
  refine Runs.seqE Ty_ok (by decide) fun k' hk' => ?_
  have f65 := Sep.oc sp.f3
  have f66 := Sep.oc sp.f2
  have f67 := Sep.oc sp.f1
  have f68 := Sep.oc sp
  simp [h2, h3, m2_2, m3_4, f65, f66, f67, f68, -cellsA, -one1, cAx, o1x]
  refine hk' _ _ _ ?_
  refine Runs.cut (fun ρ H n => ∃ (v69 v70 v71 v72 : AVal), ρ 2 = pA (n1 + 1) 2 ∧ H (n1 + 1, 2) = some ⟨6, [[int a.roots, v72, v71, int a.edges, v70, v69]]⟩ ∧ Sep H n [oW v69 r51, oS v70 r37, oI v71 r21, oN v72 r9] [(n1 + 1, 2)]) (by refine ⟨v60, v61, v62, v63, ?_, ?_, (Sep.sub (Sep.f3 (Sep.f3 (Sep.f3 (Sep.f3 (Sep.setVar (w := (n1 + 1, 2)) sp (by simp)))))) (by simp +contextual))⟩ <;> simp [h2, h3, m2_2, m3_4, f65, f66, f67, f68, -cellsA, -one1, cAx, o1x]) ?_
  clear h2 h3 m2_2 m3_4
  rintro ρ H n73 ⟨v69, v70, v71, v72, h2, m2_2, sp⟩
  exact Runs.res1 Ty_ok (v := .agg [int a.roots, v72, v71, int a.edges, v70, v69]) Tryz.func11 Tryz.results11 (by simp [h2, m2_2, resA]) (hQ _ _ _ _ (Sep.sub (ids' := []) (Sep.pack (Fill.v _ (Fill.own (Fill.own (Fill.v _ (Fill.own (Fill.own Fill.nil)))))) sp.f1.f2.f3) (by simp)) ⟨(Big.mk a.roots r9 r21 a.edges r37 r51), h, rfl⟩)

theorem toBigraph_ok (a : Big) (hp : toBigraph_pre a) : OwnS Tryz.prog 11 [.agg (bC false a)] (.a [.c, .s [.c, .c, .s [.c]], .s [.c], .c, .s [.c], .s [.c, .c]]) (fun r => r = .agg [int ((toBigraph a).roots), .list true (((toBigraph a).nodes).map (GNode.cells true)), .list true (((toBigraph a).sites).map intC), int ((toBigraph a).edges), .list true (((toBigraph a).outer).map strC), .list true (((toBigraph a).inner).map Wire.cells)]) := (toBigraph_walk a _ (toBigraph_vc a hp)).mono (by rintro _ ⟨_, rfl, rfl⟩; rfl)

end Go.Ab.Vg

/- Walks by program for YtgdmihplkgkiiaaGreatDoorAbNm. -/
namespace Go.Ab.Vg
open Go.Proofs
set_option maxRecDepth 100000
set_option linter.unusedSimpArgs false
set_option linter.unusedVariables false
attribute [local simp] GNode.cells Wire.cells intC sliceC strC bC pA
end Go.Ab.Vg
