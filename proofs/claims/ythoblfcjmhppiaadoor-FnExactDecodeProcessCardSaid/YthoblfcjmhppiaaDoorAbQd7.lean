/- Merged texts (7 of 10) of the proof that ends in Dy: Lmw Mpw. -/
import Derived.Test.YthoblfcjmhppiaaDoorAbQd6
/- Walks by program for YthoblfcjmhppiaaDoorAbLm. -/
namespace Go.Ab.Vg
open Go.Proofs
set_option linter.unusedSimpArgs false
set_option linter.unusedVariables false
theorem e30 : Ent Tryd.prog 30 := Ent.of Tryd.func30 (by kernel_rfl) rfl
theorem toIntS_walk (a : List Int) (Z : (List Int) → Prop) (h : toIntS_wp a Z) : OwnS Tryd.prog 30 [.list false (a.map intC)] (.s [.c]) (fun r => ∃ y : List Int, Z y ∧ r = .list true (y.map intC)) := by
  unfold toIntS_wp at h
  have sp : Sep noHeap 0 [] [] := Sep.nil (by simp)
  refine OwnS.of Tryd.func30 rfl Tryd.ntmps30 (by simp) fun Q hQ => ?_
  refine Runs.cut (fun ρ H n => ρ 0 = .list false (a.map intC) ∧ Sep H n [] []) (by refine ⟨?_, sp⟩ <;> simp [intC]) ?_
  rintro ρ H n1 ⟨h0, sp⟩
  refine Runs.seqE Ty_ok (by decide) fun k' hk' => ?_
  simp [h0, intC]
  refine hk' _ _ _ ?_
  refine Runs.seqE Ty_ok (by decide) fun k' hk' => ?_
  obtain ⟨len2, elen2⟩ : ∃ v : Int, v = (a.length : Int) := ⟨_, rfl⟩
  replace h := h len2 elen2
  have f3 := fun H => len_list (H := H) (fr := false) (f := intC) kd_23 elen2
  obtain ⟨hb4, h⟩ := h
  obtain ⟨l5, el5⟩ : ∃ v : List Int, v = List.replicate len2.toNat default := ⟨_, rfl⟩
  replace h := h l5 el5
  simp [h0, f3, hb4, el5, intC, -lenF]
  refine hk' _ _ _ ?_
  refine Runs.cut (fun ρ H n => ∃ (v7 : AVal), ρ 0 = .list false (a.map intC) ∧ ρ 3 = v7 ∧ Sep H n [(.s [.c], v7, .list true (l5.map intC))] []) (by refine ⟨.arr (n1, 7) len2.toNat 0 len2.toNat, ?_, ?_, (by rw [el5]; exact Sep.addRep (z := [int 0]) (f := intC) (k := len2.toNat) sp (fun H => by show Row H [.c] [int 0] [int 0] []; simp [Row, Tr]))⟩ <;> simp [h0, f3, hb4, el5, intC, -lenF]) ?_
  clear h0
  rintro ρ H n8 ⟨v7, h0, h3, sp⟩
  refine Runs.seq ?_
  refine Runs.seqE Ty_ok (by decide) fun k' hk' => ?_
  simp [h0, h3, intC]
  refine hk' _ _ _ ?_
  refine Runs.block ?_
  refine Runs.loopW h (fun (s : Int × (List Int)) ρ H n => match s with | (i16, l17) => ∃ (v18 : AVal), ρ 0 = .list false (a.map intC) ∧ ρ 3 = v18 ∧ ρ 4 = int i16 ∧ Sep H n [(.s [.c], v18, .list true (l17.map intC))] []) (by refine ⟨v7, ?_, ?_, ?_, sp⟩ <;> simp [h0, h3, intC]) ?_
  clear h0 h3
  rintro ⟨i16, l17⟩ ρ H n19 K h ⟨v18, h0, h3, h4, sp⟩ IH20
  refine Runs.seq ?_
  refine Runs.seqE Ty_ok (by decide) fun k' hk' => ?_
  obtain ⟨len22, elen22⟩ : ∃ v : Int, v = (a.length : Int) := ⟨_, rfl⟩
  replace h := h len22 elen22
  have f23 := fun H => len_list (H := H) (fr := false) (f := intC) kd_23 elen22
  obtain ⟨c24, ec24⟩ : ∃ v : Bool, v = decide (i16 < len22) := ⟨_, rfl⟩
  replace h := h c24 ec24
  have f25 := ib_lss (k := .i64) ec24
  simp [h0, h3, h4, f23, f25, intC, -intBin, -lenF]
  refine hk' _ _ _ ?_
  refine Runs.ite (b := c24) (by simp [h0, h3, h4, intC]) (fun dc24 => ?_) (fun dc24 => ?_)
  · replace h := h.1 dc24
    refine Runs.skip ?_
    refine Runs.seq ?_
    refine Runs.block ?_
    refine Runs.evalE Ty_ok (by decide) fun k' hk' => ?_
    obtain ⟨hb26, h⟩ := h
    obtain ⟨x27, ex27⟩ : ∃ v : Int, v = at' a i16 := ⟨_, rfl⟩
    replace h := h x27 ex27
    have f28 := fun H => ix_list (H := H) (fr := false) (f := intC) (k := .i64) kd_23 (fun _ => rfl) hb26 ex27
    obtain ⟨hb29, h⟩ := h
    obtain ⟨id30, hv, mo31, ln32, ni33⟩ := Sep.openF sp (by simp) hb29
    subst hv
    obtain ⟨x34, ex34⟩ : ∃ v : Int, v = at' l17 i16 := ⟨_, rfl⟩
    replace h := h x34 ex34
    have f35 := fun H (hm : H id30 = some ⟨1, l17.map intC⟩) => ix_arr (H := H) (k := .i64) (off := 0) (len := l17.length) (g := l17.length) kd_23 hm (by simp) rfl hb29
    have f36 := at_some (q := i16.toNat) hb29 ex34 rfl
    obtain ⟨l37, el37⟩ : ∃ v : List Int, v = l17.set i16.toNat x27 := ⟨_, rfl⟩
    replace h := h l37 el37
    simp [h0, h3, h4, mo31, f28, f35, f36, dc24, intC, -indexAddrF, -storeF]
    refine bind_store (q := i16.toNat) (news := intC x27) [] [] sp (by simp) (by simp; omega) (by simp) (by simp [-one1, o1_int, o1_bool, o1_str, o1_nil, o1_list, o1_arr, o1_ptr]) (Fill.v _ Fill.nil) ?_
    rintro H38 sp hfr39
    replace sp : Sep H38 n19 [(.s [.c], .arr id30 l17.length 0 l17.length, .list true (l37.map intC))] [] := by rw [el37, List.map_set]; exact sp
    simp [h0, h3, h4, f28, f35, f36, dc24, intC, -indexAddrF]
    refine hk' _ _ _ ?_
    refine Runs.cut (fun ρ H n => ∃ (v41 : AVal), ρ 0 = .list false (a.map intC) ∧ ρ 3 = v41 ∧ ρ 4 = int i16 ∧ Sep H n [(.s [.c], v41, .list true (l37.map intC))] []) (by refine ⟨.arr id30 l17.length 0 l17.length, ?_, ?_, ?_, sp⟩ <;> simp [h0, h3, h4, f28, f35, f36, dc24, intC, -indexAddrF]) ?_
    clear h0 h3 h4
    rintro ρ H n42 ⟨v41, h0, h3, h4, sp⟩
    refine Runs.inBlock ?_
    refine Runs.evalE Ty_ok (by decide) fun k' hk' => ?_
    obtain ⟨hb43, h⟩ := h
    obtain ⟨v44, ev44⟩ : ∃ v : Int, v = i16 + 1 := ⟨_, rfl⟩
    replace h := h v44 ev44
    have f45 := ib_add hb43 ev44
    simp [h0, h3, h4, f45, dc24, intC, -intBin]
    refine hk' _ _ _ ?_
    refine IH20 (v44, l37) _ _ _ h (by refine ⟨v41, ?_, ?_, ?_, sp⟩ <;> simp [h0, h3, h4, dc24, intC])
  · replace h := h.2 dc24
    refine Runs.exit rfl ?_
    refine Runs.seqE Ty_ok (by decide) fun k' hk' => ?_
    simp [h0, h3, h4, dc24, intC]
    refine hk' _ _ _ ?_
    exact Runs.ret1 (v := v18) Tryd.func30 Tryd.results30 (by simp [h0, h3, h4, dc24, intC]) (hQ _ _ _ _ (Sep.sub (ids' := []) sp (by simp)) ⟨l17, h, rfl⟩)

theorem toIntS_ok (a : List Int) (hp : toIntS_pre a) : OwnS Tryd.prog 30 [.list false (a.map intC)] (.s [.c]) (fun r => r = .list true ((toIntS a).map intC)) := (toIntS_walk a _ (toIntS_vc a hp)).mono (by rintro _ ⟨_, rfl, rfl⟩; rfl)

theorem e31 : Ent Tryd.prog 31 := Ent.of Tryd.func31 (by kernel_rfl) rfl
theorem toStringS_walk (a : List Str) (Z : (List Str) → Prop) (h : toStringS_wp a Z) : OwnS Tryd.prog 31 [.list false (a.map strC)] (.s [.c]) (fun r => ∃ y : List Str, Z y ∧ r = .list true (y.map strC)) := by
  unfold toStringS_wp at h
  have sp : Sep noHeap 0 [] [] := Sep.nil (by simp)
  refine OwnS.of Tryd.func31 rfl Tryd.ntmps31 (by simp) fun Q hQ => ?_
  refine Runs.cut (fun ρ H n => ρ 0 = .list false (a.map strC) ∧ Sep H n [] []) (by refine ⟨?_, sp⟩ <;> simp [strC]) ?_
  rintro ρ H n1 ⟨h0, sp⟩
  refine Runs.seqE Ty_ok (by decide) fun k' hk' => ?_
  simp [h0, strC]
  refine hk' _ _ _ ?_
  refine Runs.seqE Ty_ok (by decide) fun k' hk' => ?_
  obtain ⟨len2, elen2⟩ : ∃ v : Int, v = (a.length : Int) := ⟨_, rfl⟩
  replace h := h len2 elen2
  have f3 := fun H => len_list (H := H) (fr := false) (f := strC) kd_24 elen2
  obtain ⟨hb4, h⟩ := h
  obtain ⟨l5, el5⟩ : ∃ v : List Str, v = List.replicate len2.toNat default := ⟨_, rfl⟩
  replace h := h l5 el5
  simp [h0, f3, hb4, el5, strC, -lenF]
  refine hk' _ _ _ ?_
  refine Runs.cut (fun ρ H n => ∃ (v7 : AVal), ρ 0 = .list false (a.map strC) ∧ ρ 3 = v7 ∧ Sep H n [(.s [.c], v7, .list true (l5.map strC))] []) (by refine ⟨.arr (n1, 7) len2.toNat 0 len2.toNat, ?_, ?_, (by rw [el5]; exact Sep.addRep (z := [str []]) (f := strC) (k := len2.toNat) sp (fun H => by show Row H [.c] [str []] [str []] []; simp [Row, Tr]))⟩ <;> simp [h0, f3, hb4, el5, strC, -lenF]) ?_
  clear h0
  rintro ρ H n8 ⟨v7, h0, h3, sp⟩
  refine Runs.seq ?_
  refine Runs.seqE Ty_ok (by decide) fun k' hk' => ?_
  simp [h0, h3, strC]
  refine hk' _ _ _ ?_
  refine Runs.block ?_
  refine Runs.loopW h (fun (s : Int × (List Str)) ρ H n => match s with | (i16, l17) => ∃ (v18 : AVal), ρ 0 = .list false (a.map strC) ∧ ρ 3 = v18 ∧ ρ 4 = int i16 ∧ Sep H n [(.s [.c], v18, .list true (l17.map strC))] []) (by refine ⟨v7, ?_, ?_, ?_, sp⟩ <;> simp [h0, h3, strC]) ?_
  clear h0 h3
  rintro ⟨i16, l17⟩ ρ H n19 K h ⟨v18, h0, h3, h4, sp⟩ IH20
  refine Runs.seq ?_
  refine Runs.seqE Ty_ok (by decide) fun k' hk' => ?_
  obtain ⟨len22, elen22⟩ : ∃ v : Int, v = (a.length : Int) := ⟨_, rfl⟩
  replace h := h len22 elen22
  have f23 := fun H => len_list (H := H) (fr := false) (f := strC) kd_24 elen22
  obtain ⟨c24, ec24⟩ : ∃ v : Bool, v = decide (i16 < len22) := ⟨_, rfl⟩
  replace h := h c24 ec24
  have f25 := ib_lss (k := .i64) ec24
  simp [h0, h3, h4, f23, f25, strC, -intBin, -lenF]
  refine hk' _ _ _ ?_
  refine Runs.ite (b := c24) (by simp [h0, h3, h4, strC]) (fun dc24 => ?_) (fun dc24 => ?_)
  · replace h := h.1 dc24
    refine Runs.skip ?_
    refine Runs.seq ?_
    refine Runs.block ?_
    refine Runs.evalE Ty_ok (by decide) fun k' hk' => ?_
    obtain ⟨hb26, h⟩ := h
    obtain ⟨x27, ex27⟩ : ∃ v : Str, v = at' a i16 := ⟨_, rfl⟩
    replace h := h x27 ex27
    have f28 := fun H => ix_list (H := H) (fr := false) (f := strC) (k := .i64) kd_24 (fun _ => rfl) hb26 ex27
    obtain ⟨hb29, h⟩ := h
    obtain ⟨id30, hv, mo31, ln32, ni33⟩ := Sep.openF sp (by simp) hb29
    subst hv
    obtain ⟨x34, ex34⟩ : ∃ v : Str, v = at' l17 i16 := ⟨_, rfl⟩
    replace h := h x34 ex34
    have f35 := fun H (hm : H id30 = some ⟨1, l17.map strC⟩) => ix_arr (H := H) (k := .i64) (off := 0) (len := l17.length) (g := l17.length) kd_24 hm (by simp) rfl hb29
    have f36 := at_some (q := i16.toNat) hb29 ex34 rfl
    obtain ⟨l37, el37⟩ : ∃ v : List Str, v = l17.set i16.toNat x27 := ⟨_, rfl⟩
    replace h := h l37 el37
    simp [h0, h3, h4, mo31, f28, f35, f36, dc24, strC, -indexAddrF, -storeF]
    refine bind_store (q := i16.toNat) (news := strC x27) [] [] sp (by simp) (by simp; omega) (by simp) (by simp [-one1, o1_int, o1_bool, o1_str, o1_nil, o1_list, o1_arr, o1_ptr]) (Fill.v _ Fill.nil) ?_
    rintro H38 sp hfr39
    replace sp : Sep H38 n19 [(.s [.c], .arr id30 l17.length 0 l17.length, .list true (l37.map strC))] [] := by rw [el37, List.map_set]; exact sp
    simp [h0, h3, h4, f28, f35, f36, dc24, strC, -indexAddrF]
    refine hk' _ _ _ ?_
    refine Runs.cut (fun ρ H n => ∃ (v41 : AVal), ρ 0 = .list false (a.map strC) ∧ ρ 3 = v41 ∧ ρ 4 = int i16 ∧ Sep H n [(.s [.c], v41, .list true (l37.map strC))] []) (by refine ⟨.arr id30 l17.length 0 l17.length, ?_, ?_, ?_, sp⟩ <;> simp [h0, h3, h4, f28, f35, f36, dc24, strC, -indexAddrF]) ?_
    clear h0 h3 h4
    rintro ρ H n42 ⟨v41, h0, h3, h4, sp⟩
    refine Runs.inBlock ?_
    refine Runs.evalE Ty_ok (by decide) fun k' hk' => ?_
    obtain ⟨hb43, h⟩ := h
    obtain ⟨v44, ev44⟩ : ∃ v : Int, v = i16 + 1 := ⟨_, rfl⟩
    replace h := h v44 ev44
    have f45 := ib_add hb43 ev44
    simp [h0, h3, h4, f45, dc24, strC, -intBin]
    refine hk' _ _ _ ?_
    refine IH20 (v44, l37) _ _ _ h (by refine ⟨v41, ?_, ?_, ?_, sp⟩ <;> simp [h0, h3, h4, dc24, strC])
  · replace h := h.2 dc24
    refine Runs.exit rfl ?_
    refine Runs.seqE Ty_ok (by decide) fun k' hk' => ?_
    simp [h0, h3, h4, dc24, strC]
    refine hk' _ _ _ ?_
    exact Runs.ret1 (v := v18) Tryd.func31 Tryd.results31 (by simp [h0, h3, h4, dc24, strC]) (hQ _ _ _ _ (Sep.sub (ids' := []) sp (by simp)) ⟨l17, h, rfl⟩)

theorem toStringS_ok (a : List Str) (hp : toStringS_pre a) : OwnS Tryd.prog 31 [.list false (a.map strC)] (.s [.c]) (fun r => r = .list true ((toStringS a).map strC)) := (toStringS_walk a _ (toStringS_vc a hp)).mono (by rintro _ ⟨_, rfl, rfl⟩; rfl)

theorem e62 : Ent Tryd.prog 62 := Ent.of Tryd.func62 (by kernel_rfl) rfl
theorem toWire_walk (a : Wire) (Z : Wire → Prop) (h : toWire_wp a Z) : PureC Tryd.prog 62 [.agg [str a.name, int a.link]] (fun r => ∃ y : Wire, Z y ∧ r = .agg [str y.name, int y.link]) := by
  unfold toWire_wp at h
  refine PureC.of Tryd.func62 rfl Tryd.ntmps62 (by simp) fun Q hQ => ?_
  refine Runs.cut (fun ρ H n => ρ 0 = .agg [str a.name, int a.link]) (by simp []) ?_
  rintro ρ H n1 h0
  refine Runs.seqE Ty_ok (by decide) fun k' hk' => ?_
  simp [h0]
  refine hk' _ _ _ ?_
  refine Runs.cut (fun ρ H n => ρ 1 = .ptr (n1, 1) 1 0 0 ∧ ρ 2 = .ptr (n1 + 1, 2) 1 0 0 ∧ H (n1, 1) = some ⟨2, [[str a.name, int a.link]]⟩ ∧ H (n1 + 1, 2) = some ⟨2, [[str [], int 0]]⟩) (by refine ⟨?_, ?_, ?_, ?_⟩ <;> simp [h0]) ?_
  clear h0
  rintro ρ H n4 ⟨h1, h2, m1_1, m2_2⟩
  refine Runs.seqE Ty_ok (by decide) fun k' hk' => ?_
  simp [h1, h2, m1_1, m2_2]
  refine hk' _ _ _ ?_
  refine Runs.cut (fun ρ H n => ρ 1 = .ptr (n1, 1) 1 0 0 ∧ ρ 2 = .ptr (n1 + 1, 2) 1 0 0 ∧ ρ 3 = .ptr (n4, 3) 1 0 0 ∧ H (n1, 1) = some ⟨2, [[str a.name, int a.link]]⟩ ∧ H (n1 + 1, 2) = some ⟨2, [[str [], int 0]]⟩ ∧ H (n4, 3) = some ⟨2, [[str [], int 0]]⟩) (by refine ⟨?_, ?_, ?_, ?_, ?_, ?_⟩ <;> simp [h1, h2, m1_1, m2_2]) ?_
  clear h1 h2 m1_1 m2_2
  rintro ρ H n6 ⟨h1, h2, h3, m1_1, m2_2, m3_4⟩
  refine Runs.seqE Ty_ok (by decide) fun k' hk' => ?_
  simp [h1, h2, h3, m1_1, m2_2, m3_4]
  refine hk' _ _ _ ?_
  refine Runs.cut (fun ρ H n => ρ 1 = .ptr (n1, 1) 1 0 0 ∧ ρ 2 = .ptr (n1 + 1, 2) 1 0 0 ∧ ρ 3 = .ptr (n4, 3) 1 0 0 ∧ H (n1, 1) = some ⟨2, [[str a.name, int a.link]]⟩ ∧ H (n1 + 1, 2) = some ⟨2, [[str [], int 0]]⟩ ∧ H (n4, 3) = some ⟨2, [[str a.name, int 0]]⟩) (by refine ⟨?_, ?_, ?_, ?_, ?_, ?_⟩ <;> simp [h1, h2, h3, m1_1, m2_2, m3_4]) ?_
  clear h1 h2 h3 m1_1 m2_2 m3_4
  rintro ρ H n7 ⟨h1, h2, h3, m1_1, m2_2, m3_4⟩
  refine Runs.seqE Ty_ok (by decide) fun k' hk' => ?_
  simp [h1, h2, h3, m1_1, m2_2, m3_4]
  refine hk' _ _ _ ?_
  refine Runs.cut (fun ρ H n => ρ 2 = .ptr (n1 + 1, 2) 1 0 0 ∧ ρ 3 = .ptr (n4, 3) 1 0 0 ∧ H (n1 + 1, 2) = some ⟨2, [[str [], int 0]]⟩ ∧ H (n4, 3) = some ⟨2, [[str a.name, int a.link]]⟩) (by refine ⟨?_, ?_, ?_, ?_⟩ <;> simp [h1, h2, h3, m1_1, m2_2, m3_4]) ?_
  clear h1 h2 h3 m1_1 m2_2 m3_4
  rintro ρ H n8 ⟨h2, h3, m2_2, m3_4⟩
  refine Runs.seqE Ty_ok (by decide) fun k' hk' => ?_
  simp [h2, h3, m2_2, m3_4]
  refine hk' _ _ _ ?_
  refine Runs.cut (fun ρ H n => ρ 2 = .ptr (n1 + 1, 2) 1 0 0 ∧ H (n1 + 1, 2) = some ⟨2, [[str a.name, int a.link]]⟩) (by refine ⟨?_, ?_⟩ <;> simp [h2, h3, m2_2, m3_4]) ?_
  clear h2 h3 m2_2 m3_4
  rintro ρ H n9 ⟨h2, m2_2⟩
  exact Runs.res1 Ty_ok (v := .agg [str a.name, int a.link]) Tryd.func62 Tryd.results62 (by simp [h2, m2_2, resA]) (hQ _ _ _ _ (.of (.aggL (.cons (.v _) (.cons (.v _) .nil)))) ⟨a, h, rfl⟩)

theorem toWire_ok (a : Wire)  : PureC Tryd.prog 62 [.agg [str a.name, int a.link]] (fun r => r = .agg [str ((toWire a).name), int ((toWire a).link)]) := (toWire_walk a _ (toWire_vc a )).mono (by rintro _ ⟨_, rfl, rfl⟩; rfl)

theorem e32 : Ent Tryd.prog 32 := Ent.of Tryd.func32 (by kernel_rfl) rfl
theorem toWireS_walk (a : List Wire) (Z : (List Wire) → Prop) (h : toWireS_wp a Z) : OwnS Tryd.prog 32 [.list false (a.map Wire.cells)] (.s [.c, .c]) (fun r => ∃ y : List Wire, Z y ∧ r = .list true (y.map Wire.cells)) := by
  unfold toWireS_wp at h
  have sp : Sep noHeap 0 [] [] := Sep.nil (by simp)
  refine OwnS.of Tryd.func32 rfl Tryd.ntmps32 (by simp) fun Q hQ => ?_
  refine Runs.cut (fun ρ H n => ρ 0 = .list false (a.map Wire.cells) ∧ Sep H n [] []) (by refine ⟨?_, sp⟩ <;> simp [Wire.cells, intC, strC]) ?_
  rintro ρ H n1 ⟨h0, sp⟩
  refine Runs.seqE Ty_ok (by decide) fun k' hk' => ?_
  simp [h0, Wire.cells, intC, strC]
  refine hk' _ _ _ ?_
  refine Runs.seqE Ty_ok (by decide) fun k' hk' => ?_
  obtain ⟨len2, elen2⟩ : ∃ v : Int, v = (a.length : Int) := ⟨_, rfl⟩
  replace h := h len2 elen2
  have f3 := fun H => len_list (H := H) (fr := false) (f := Wire.cells) kd_25 elen2
  obtain ⟨hb4, h⟩ := h
  obtain ⟨l5, el5⟩ : ∃ v : List Wire, v = List.replicate len2.toNat default := ⟨_, rfl⟩
  replace h := h l5 el5
  simp [h0, f3, hb4, el5, Wire.cells, intC, strC, -lenF]
  refine hk' _ _ _ ?_
  refine Runs.cut (fun ρ H n => ∃ (v7 : AVal), ρ 0 = .list false (a.map Wire.cells) ∧ ρ 3 = v7 ∧ Sep H n [(.s [.c, .c], v7, .list true (l5.map Wire.cells))] []) (by refine ⟨.arr (n1, 7) len2.toNat 0 len2.toNat, ?_, ?_, (by rw [el5]; exact Sep.addRep (z := [str [], int 0]) (f := Wire.cells) (k := len2.toNat) sp (fun H => by show Row H [.c, .c] [str [], int 0] [str [], int 0] []; simp [Row, Tr]))⟩ <;> simp [h0, f3, hb4, el5, Wire.cells, intC, strC, -lenF]) ?_
  clear h0
  rintro ρ H n8 ⟨v7, h0, h3, sp⟩
  refine Runs.seq ?_
  refine Runs.seqE Ty_ok (by decide) fun k' hk' => ?_
  simp [h0, h3, Wire.cells, intC, strC]
  refine hk' _ _ _ ?_
  refine Runs.block ?_
  refine Runs.loopW h (fun (s : Int × (List Wire)) ρ H n => match s with | (i16, l17) => ∃ (v18 : AVal), ρ 0 = .list false (a.map Wire.cells) ∧ ρ 3 = v18 ∧ ρ 4 = int i16 ∧ Sep H n [(.s [.c, .c], v18, .list true (l17.map Wire.cells))] []) (by refine ⟨v7, ?_, ?_, ?_, sp⟩ <;> simp [h0, h3, Wire.cells, intC, strC]) ?_
  clear h0 h3
  rintro ⟨i16, l17⟩ ρ H n19 K h ⟨v18, h0, h3, h4, sp⟩ IH20
  refine Runs.seq ?_
  refine Runs.seqE Ty_ok (by decide) fun k' hk' => ?_
  obtain ⟨len22, elen22⟩ : ∃ v : Int, v = (a.length : Int) := ⟨_, rfl⟩
  replace h := h len22 elen22
  have f23 := fun H => len_list (H := H) (fr := false) (f := Wire.cells) kd_25 elen22
  obtain ⟨c24, ec24⟩ : ∃ v : Bool, v = decide (i16 < len22) := ⟨_, rfl⟩
  replace h := h c24 ec24
  have f25 := ib_lss (k := .i64) ec24
  simp [h0, h3, h4, f23, f25, Wire.cells, intC, strC, -intBin, -lenF]
  refine hk' _ _ _ ?_
  refine Runs.ite (b := c24) (by simp [h0, h3, h4, Wire.cells, intC, strC]) (fun dc24 => ?_) (fun dc24 => ?_)
  · replace h := h.1 dc24
    refine Runs.skip ?_
    refine Runs.seq ?_
    refine Runs.block ?_
    refine Runs.evalE Ty_ok (by decide) fun k' hk' => ?_
    obtain ⟨hb26, h⟩ := h
    obtain ⟨x27, ex27⟩ : ∃ v : Wire, v = at' a i16 := ⟨_, rfl⟩
    replace h := h x27 ex27
    have f28 := fun H => ix_list (H := H) (fr := false) (f := Wire.cells) (k := .i64) kd_25 (fun _ => rfl) hb26 ex27
    obtain ⟨r29, er29⟩ : ∃ v : Wire, v = toWire x27 := ⟨_, rfl⟩
    replace h := h r29 er29
    simp [h0, h3, h4, f28, dc24, Wire.cells, intC, strC, -indexAddrF]
    refine RunK.callA Ty_ok (toWire_ok x27 ) e62 (.cons (ArgOk.agg (.cons (.v _ _ _) (.cons (.v _ _ _) .nil))) .nil) (by decide) (by decide) rfl (by simp [h0, h3, h4, f28, dc24, Wire.cells, intC, strC, -indexAddrF]) ?_
    rintro _ rfl
    rw [← er29]
    obtain ⟨hb30, h⟩ := h
    obtain ⟨id31, hv, mo32, ln33, ni34⟩ := Sep.openF sp (by simp) hb30
    subst hv
    obtain ⟨x35, ex35⟩ : ∃ v : Wire, v = at' l17 i16 := ⟨_, rfl⟩
    replace h := h x35 ex35
    have f36 := fun H (hm : H id31 = some ⟨2, l17.map Wire.cells⟩) => ix_arr (H := H) (k := .i64) (off := 0) (len := l17.length) (g := l17.length) kd_35 hm (by simp) rfl hb30
    have f37 := at_some (q := i16.toNat) hb30 ex35 rfl
    obtain ⟨l38, el38⟩ : ∃ v : List Wire, v = l17.set i16.toNat r29 := ⟨_, rfl⟩
    replace h := h l38 el38
    simp [h0, h3, h4, mo32, f28, f36, f37, dc24, Wire.cells, intC, strC, -indexAddrF, -storeF]
    refine bind_store (q := i16.toNat) (news := Wire.cells r29) [] [] sp (by simp) (by simp; omega) (by simp) (by simp [-one1, o1_int, o1_bool, o1_str, o1_nil, o1_list, o1_arr, o1_ptr]) (Fill.v _ (Fill.v _ Fill.nil)) ?_
    rintro H39 sp hfr40
    replace sp : Sep H39 n19 [(.s [.c, .c], .arr id31 l17.length 0 l17.length, .list true (l38.map Wire.cells))] [] := by rw [el38, List.map_set]; exact sp
    simp [h0, h3, h4, f28, f36, f37, dc24, Wire.cells, intC, strC, -indexAddrF]
    refine hk' _ _ _ ?_
    refine Runs.cut (fun ρ H n => ∃ (v42 : AVal), ρ 0 = .list false (a.map Wire.cells) ∧ ρ 3 = v42 ∧ ρ 4 = int i16 ∧ Sep H n [(.s [.c, .c], v42, .list true (l38.map Wire.cells))] []) (by refine ⟨.arr id31 l17.length 0 l17.length, ?_, ?_, ?_, sp⟩ <;> simp [h0, h3, h4, f28, f36, f37, dc24, Wire.cells, intC, strC, -indexAddrF]) ?_
    clear h0 h3 h4
    rintro ρ H n43 ⟨v42, h0, h3, h4, sp⟩
    refine Runs.inBlock ?_
    refine Runs.evalE Ty_ok (by decide) fun k' hk' => ?_
    obtain ⟨hb44, h⟩ := h
    obtain ⟨v45, ev45⟩ : ∃ v : Int, v = i16 + 1 := ⟨_, rfl⟩
    replace h := h v45 ev45
    have f46 := ib_add hb44 ev45
    simp [h0, h3, h4, f46, dc24, Wire.cells, intC, strC, -intBin]
    refine hk' _ _ _ ?_
    refine IH20 (v45, l38) _ _ _ h (by refine ⟨v42, ?_, ?_, ?_, sp⟩ <;> simp [h0, h3, h4, dc24, Wire.cells, intC, strC])
  · replace h := h.2 dc24
    refine Runs.exit rfl ?_
    refine Runs.seqE Ty_ok (by decide) fun k' hk' => ?_
    simp [h0, h3, h4, dc24, Wire.cells, intC, strC]
    refine hk' _ _ _ ?_
    exact Runs.ret1 (v := v18) Tryd.func32 Tryd.results32 (by simp [h0, h3, h4, dc24, Wire.cells, intC, strC]) (hQ _ _ _ _ (Sep.sub (ids' := []) sp (by simp)) ⟨l17, h, rfl⟩)

theorem toWireS_ok (a : List Wire) (hp : toWireS_pre a) : OwnS Tryd.prog 32 [.list false (a.map Wire.cells)] (.s [.c, .c]) (fun r => r = .list true ((toWireS a).map Wire.cells)) := (toWireS_walk a _ (toWireS_vc a hp)).mono (by rintro _ ⟨_, rfl, rfl⟩; rfl)

theorem e61 : Ent Tryd.prog 61 := Ent.of Tryd.func61 (by kernel_rfl) rfl
theorem toNode_walk (a : GNode) (Z : GNode → Prop) (h : toNode_wp a Z) : OwnS Tryd.prog 61 [.agg [int a.control, int a.parent, .list false (a.links.map intC)]] (.a [.c, .c, .s [.c]]) (fun r => ∃ y : GNode, Z y ∧ r = .agg [int y.control, int y.parent, .list true (y.links.map intC)]) := by
  unfold toNode_wp at h
  have sp : Sep noHeap 0 [] [] := Sep.nil (by simp)
  refine OwnS.of Tryd.func61 rfl Tryd.ntmps61 (by simp) fun Q hQ => ?_
  refine Runs.cut (fun ρ H n => ρ 0 = .agg [int a.control, int a.parent, .list false (a.links.map intC)] ∧ Sep H n [] []) (by refine ⟨?_, sp⟩ <;> simp [intC]) ?_
  rintro ρ H n1 ⟨h0, sp⟩
  refine Runs.seqE Ty_ok (by decide) fun k' hk' => ?_
  simp [h0, intC]
  refine hk' _ _ _ ?_
  refine Runs.cut (fun ρ H n => ρ 1 = .ptr (n1, 1) 1 0 0 ∧ ρ 2 = .ptr (n1 + 1, 2) 1 0 0 ∧ H (n1, 1) = some ⟨3, [[int a.control, int a.parent, .list false (a.links.map intC)]]⟩ ∧ H (n1 + 1, 2) = some ⟨3, [[int 0, int 0, .v (.slice none 0 0)]]⟩ ∧ Sep H n [] [(n1 + 1, 2), (n1, 1)]) (by refine ⟨?_, ?_, ?_, ?_, (Sep.var (Sep.var sp))⟩ <;> simp [h0, intC]) ?_
  clear h0
  rintro ρ H n4 ⟨h1, h2, m1_1, m2_2, sp⟩
  refine Runs.seqE Ty_ok (by decide) fun k' hk' => ?_
  simp [h1, h2, m1_1, m2_2, intC]
  refine hk' _ _ _ ?_
  refine Runs.cut (fun ρ H n => ρ 1 = .ptr (n1, 1) 1 0 0 ∧ ρ 2 = .ptr (n1 + 1, 2) 1 0 0 ∧ ρ 3 = .ptr (n4, 3) 1 0 0 ∧ H (n1, 1) = some ⟨3, [[int a.control, int a.parent, .list false (a.links.map intC)]]⟩ ∧ H (n1 + 1, 2) = some ⟨3, [[int 0, int 0, .v (.slice none 0 0)]]⟩ ∧ H (n4, 3) = some ⟨3, [[int 0, int 0, .v (.slice none 0 0)]]⟩ ∧ Sep H n [] [(n4, 3), (n1 + 1, 2), (n1, 1)]) (by refine ⟨?_, ?_, ?_, ?_, ?_, ?_, (Sep.var sp)⟩ <;> simp [h1, h2, m1_1, m2_2, intC]) ?_
  clear h1 h2 m1_1 m2_2
  rintro ρ H n6 ⟨h1, h2, h3, m1_1, m2_2, m3_4, sp⟩
  refine Runs.seqE Ty_ok (by decide) fun k' hk' => ?_
  simp [h1, h2, h3, m1_1, m2_2, m3_4, intC]
  refine hk' _ _ _ ?_
  refine Runs.cut (fun ρ H n => ρ 1 = .ptr (n1, 1) 1 0 0 ∧ ρ 2 = .ptr (n1 + 1, 2) 1 0 0 ∧ ρ 3 = .ptr (n4, 3) 1 0 0 ∧ H (n1, 1) = some ⟨3, [[int a.control, int a.parent, .list false (a.links.map intC)]]⟩ ∧ H (n1 + 1, 2) = some ⟨3, [[int 0, int 0, .v (.slice none 0 0)]]⟩ ∧ H (n4, 3) = some ⟨3, [[int a.control, int 0, .v (.slice none 0 0)]]⟩ ∧ Sep H n [] [(n4, 3), (n1 + 1, 2), (n1, 1)]) (by refine ⟨?_, ?_, ?_, ?_, ?_, ?_, (Sep.setVar (w := (n4, 3)) sp (by simp))⟩ <;> simp [h1, h2, h3, m1_1, m2_2, m3_4, intC]) ?_
  clear h1 h2 h3 m1_1 m2_2 m3_4
  rintro ρ H n7 ⟨h1, h2, h3, m1_1, m2_2, m3_4, sp⟩
  refine Runs.seqE Ty_ok (by decide) fun k' hk' => ?_
  simp [h1, h2, h3, m1_1, m2_2, m3_4, intC]
  refine hk' _ _ _ ?_
  refine Runs.cut (fun ρ H n => ρ 1 = .ptr (n1, 1) 1 0 0 ∧ ρ 2 = .ptr (n1 + 1, 2) 1 0 0 ∧ ρ 3 = .ptr (n4, 3) 1 0 0 ∧ H (n1, 1) = some ⟨3, [[int a.control, int a.parent, .list false (a.links.map intC)]]⟩ ∧ H (n1 + 1, 2) = some ⟨3, [[int 0, int 0, .v (.slice none 0 0)]]⟩ ∧ H (n4, 3) = some ⟨3, [[int a.control, int a.parent, .v (.slice none 0 0)]]⟩ ∧ Sep H n [] [(n4, 3), (n1 + 1, 2), (n1, 1)]) (by refine ⟨?_, ?_, ?_, ?_, ?_, ?_, (Sep.setVar (w := (n4, 3)) sp (by simp))⟩ <;> simp [h1, h2, h3, m1_1, m2_2, m3_4, intC]) ?_
  clear h1 h2 h3 m1_1 m2_2 m3_4
  rintro ρ H n8 ⟨h1, h2, h3, m1_1, m2_2, m3_4, sp⟩
  refine Runs.seqE Ty_ok (by decide) fun k' hk' => ?_
  obtain ⟨hb9, h⟩ := h
  obtain ⟨r10, er10⟩ : ∃ v : List Int, v = toIntS a.links := ⟨_, rfl⟩
  replace h := h r10 er10
  simp [h1, h2, h3, m1_1, m2_2, m3_4, intC]
  refine RunK.callW Ty_ok (toIntS_ok a.links hb9) e30 (.cons (ArgOk.listF (fr := false) (els := a.links.map intC) (by simp [intC])) .nil) sp (by decide) (by decide) rfl (by simp [h1, h2, h3, m1_1, m2_2, m3_4, intC]) ?_
  rintro v11 H12 n13 _ sp rfl hle15 hfr14
  rw [← er10] at sp
  have m1_1 : H12 (n1, 1) = some ⟨3, [[int a.control, int a.parent, .list false (a.links.map intC)]]⟩ := (hfr14 _ (by simp)).trans (by simp [h1, h2, h3, m1_1, m2_2, m3_4, Heap.get_set])
  have m2_2 : H12 (n1 + 1, 2) = some ⟨3, [[int 0, int 0, .v (.slice none 0 0)]]⟩ := (hfr14 _ (by simp)).trans (by simp [h1, h2, h3, m1_1, m2_2, m3_4, Heap.get_set])
  have m3_4 : H12 (n4, 3) = some ⟨3, [[int a.control, int a.parent, .v (.slice none 0 0)]]⟩ := (hfr14 _ (by simp)).trans (by simp [h1, h2, h3, m1_1, m2_2, m3_4, Heap.get_set])
  have f18 := cell_own (Sep.cells sp)
  have f19 := cell_own (Sep.one1 sp)
  simp [h1, h2, h3, m1_1, m2_2, m3_4, f18, f19, intC, -cellsA, -one1, cA_int, cA_bool, cA_str, cA_nil, cA_agg, cA_list, cA_arr, cA_ptr, o1_int, o1_bool, o1_str, o1_nil, o1_list, o1_arr, o1_ptr]
  refine hk' _ _ _ ?_
  refine Runs.cut (fun ρ H n => ∃ (v20 : AVal), ρ 2 = .ptr (n1 + 1, 2) 1 0 0 ∧ ρ 3 = .ptr (n4, 3) 1 0 0 ∧ H (n1 + 1, 2) = some ⟨3, [[int 0, int 0, .v (.slice none 0 0)]]⟩ ∧ H (n4, 3) = some ⟨3, [[int a.control, int a.parent, v20]]⟩ ∧ Sep H n [(.s [.c], v20, .list true (r10.map intC))] [(n4, 3), (n1 + 1, 2)]) (by refine ⟨v11, ?_, ?_, ?_, ?_, (Sep.sub (Sep.setVar (w := (n4, 3)) sp (by simp)) (by simp +contextual))⟩ <;> simp [h1, h2, h3, m1_1, m2_2, m3_4, f18, f19, intC, -cellsA, -one1, cA_int, cA_bool, cA_str, cA_nil, cA_agg, cA_list, cA_arr, cA_ptr, o1_int, o1_bool, o1_str, o1_nil, o1_list, o1_arr, o1_ptr]) ?_
  clear h1 h2 h3 m1_1 m2_2 m3_4
  rintro ρ H n21 ⟨v20, h2, h3, m2_2, m3_4, sp⟩
  refine Runs.seqE Ty_ok (by decide) fun k' hk' => ?_
  have f22 := cell_own (Sep.cells sp)
  have f23 := cell_own (Sep.one1 sp)
  simp [h2, h3, m2_2, m3_4, f22, f23, intC, -cellsA, -one1, cA_int, cA_bool, cA_str, cA_nil, cA_agg, cA_list, cA_arr, cA_ptr, o1_int, o1_bool, o1_str, o1_nil, o1_list, o1_arr, o1_ptr]
  refine hk' _ _ _ ?_
  refine Runs.cut (fun ρ H n => ∃ (v24 : AVal), ρ 2 = .ptr (n1 + 1, 2) 1 0 0 ∧ H (n1 + 1, 2) = some ⟨3, [[int a.control, int a.parent, v24]]⟩ ∧ Sep H n [(.s [.c], v24, .list true (r10.map intC))] [(n1 + 1, 2)]) (by refine ⟨v20, ?_, ?_, (Sep.sub (Sep.setVar (w := (n1 + 1, 2)) sp (by simp)) (by simp +contextual))⟩ <;> simp [h2, h3, m2_2, m3_4, f22, f23, intC, -cellsA, -one1, cA_int, cA_bool, cA_str, cA_nil, cA_agg, cA_list, cA_arr, cA_ptr, o1_int, o1_bool, o1_str, o1_nil, o1_list, o1_arr, o1_ptr]) ?_
  clear h2 h3 m2_2 m3_4
  rintro ρ H n25 ⟨v24, h2, m2_2, sp⟩
  exact Runs.res1 Ty_ok (v := .agg [int a.control, int a.parent, v24]) Tryd.func61 Tryd.results61 (by simp [h2, m2_2, resA, intC]) (hQ _ _ _ _ (Sep.sub (ids' := []) (Sep.pack (K := []) (Fill.v _ (Fill.v _ (Fill.own Fill.nil))) sp) (by simp)) ⟨(GNode.mk a.control a.parent r10), h, rfl⟩)

theorem toNode_ok (a : GNode) (hp : toNode_pre a) : OwnS Tryd.prog 61 [.agg [int a.control, int a.parent, .list false (a.links.map intC)]] (.a [.c, .c, .s [.c]]) (fun r => r = .agg [int ((toNode a).control), int ((toNode a).parent), .list true (((toNode a).links).map intC)]) := (toNode_walk a _ (toNode_vc a hp)).mono (by rintro _ ⟨_, rfl, rfl⟩; rfl)

theorem e29 : Ent Tryd.prog 29 := Ent.of Tryd.func29 (by kernel_rfl) rfl
theorem toNodeS_walk (a : List GNode) (Z : (List GNode) → Prop) (h : toNodeS_wp a Z) : OwnS Tryd.prog 29 [.list false (a.map (GNode.cells false))] (.s [.c, .c, .s [.c]]) (fun r => ∃ y : List GNode, Z y ∧ r = .list true (y.map (GNode.cells true))) := by
  unfold toNodeS_wp at h
  have sp : Sep noHeap 0 [] [] := Sep.nil (by simp)
  refine OwnS.of Tryd.func29 rfl Tryd.ntmps29 (by simp) fun Q hQ => ?_
  refine Runs.cut (fun ρ H n => ρ 0 = .list false (a.map (GNode.cells false)) ∧ Sep H n [] []) (by refine ⟨?_, sp⟩ <;> simp [GNode.cells, intC, sliceC]) ?_
  rintro ρ H n1 ⟨h0, sp⟩
  refine Runs.seqE Ty_ok (by decide) fun k' hk' => ?_
  simp [h0, GNode.cells, intC, sliceC]
  refine hk' _ _ _ ?_
  refine Runs.seqE Ty_ok (by decide) fun k' hk' => ?_
  obtain ⟨len2, elen2⟩ : ∃ v : Int, v = (a.length : Int) := ⟨_, rfl⟩
  replace h := h len2 elen2
  have f3 := fun H => len_list (H := H) (fr := false) (f := (GNode.cells false)) kd_22 elen2
  obtain ⟨hb4, h⟩ := h
  obtain ⟨l5, el5⟩ : ∃ v : List GNode, v = List.replicate len2.toNat default := ⟨_, rfl⟩
  replace h := h l5 el5
  simp [h0, f3, hb4, el5, GNode.cells, intC, sliceC, -lenF]
  refine hk' _ _ _ ?_
  refine Runs.cut (fun ρ H n => ∃ (v7 : AVal), ρ 0 = .list false (a.map (GNode.cells false)) ∧ ρ 3 = v7 ∧ Sep H n [(.s [.c, .c, .s [.c]], v7, .list true (l5.map (GNode.cells true)))] []) (by refine ⟨.arr (n1, 7) len2.toNat 0 len2.toNat, ?_, ?_, (by rw [el5]; exact Sep.addRep (z := [int 0, int 0, .v (.slice none 0 0)]) (f := (GNode.cells true)) (k := len2.toNat) sp (fun H => by show Row H [.c, .c, .s [.c]] [int 0, int 0, .v (.slice none 0 0)] [int 0, int 0, .list true []] []; simp [Row, Tr]))⟩ <;> simp [h0, f3, hb4, el5, GNode.cells, intC, sliceC, -lenF]) ?_
  clear h0
  rintro ρ H n8 ⟨v7, h0, h3, sp⟩
  refine Runs.seq ?_
  refine Runs.seqE Ty_ok (by decide) fun k' hk' => ?_
  simp [h0, h3, GNode.cells, intC, sliceC]
  refine hk' _ _ _ ?_
  refine Runs.block ?_
  refine Runs.loopW h (fun (s : Int × (List GNode)) ρ H n => match s with | (i16, l17) => ∃ (v18 : AVal), ρ 0 = .list false (a.map (GNode.cells false)) ∧ ρ 3 = v18 ∧ ρ 4 = int i16 ∧ Sep H n [(.s [.c, .c, .s [.c]], v18, .list true (l17.map (GNode.cells true)))] []) (by refine ⟨v7, ?_, ?_, ?_, sp⟩ <;> simp [h0, h3, GNode.cells, intC, sliceC]) ?_
  clear h0 h3
  rintro ⟨i16, l17⟩ ρ H n19 K h ⟨v18, h0, h3, h4, sp⟩ IH20
  refine Runs.seq ?_
  refine Runs.seqE Ty_ok (by decide) fun k' hk' => ?_
  obtain ⟨len22, elen22⟩ : ∃ v : Int, v = (a.length : Int) := ⟨_, rfl⟩
  replace h := h len22 elen22
  have f23 := fun H => len_list (H := H) (fr := false) (f := (GNode.cells false)) kd_22 elen22
  obtain ⟨c24, ec24⟩ : ∃ v : Bool, v = decide (i16 < len22) := ⟨_, rfl⟩
  replace h := h c24 ec24
  have f25 := ib_lss (k := .i64) ec24
  simp [h0, h3, h4, f23, f25, GNode.cells, intC, sliceC, -intBin, -lenF]
  refine hk' _ _ _ ?_
  refine Runs.ite (b := c24) (by simp [h0, h3, h4, GNode.cells, intC, sliceC]) (fun dc24 => ?_) (fun dc24 => ?_)
  · replace h := h.1 dc24
    refine Runs.skip ?_
    refine Runs.seq ?_
    refine Runs.block ?_
    refine Runs.evalE Ty_ok (by decide) fun k' hk' => ?_
    obtain ⟨hb26, h⟩ := h
    obtain ⟨x27, ex27⟩ : ∃ v : GNode, v = at' a i16 := ⟨_, rfl⟩
    replace h := h x27 ex27
    have f28 := fun H => ix_list (H := H) (fr := false) (f := (GNode.cells false)) (k := .i64) kd_22 (fun _ => rfl) hb26 ex27
    obtain ⟨hb29, h⟩ := h
    obtain ⟨r30, er30⟩ : ∃ v : GNode, v = toNode x27 := ⟨_, rfl⟩
    replace h := h r30 er30
    simp [h0, h3, h4, f28, dc24, GNode.cells, intC, sliceC, -indexAddrF]
    refine RunK.callW Ty_ok (toNode_ok x27 hb29) e61 (.cons (ArgOk.agg (.cons (.v _ _ _) (.cons (.v _ _ _) (.cons (ArgOk.listF (fr := false) (els := x27.links.map intC) (by simp [intC])) .nil)))) .nil) sp (by decide) (by decide) rfl (by simp [h0, h3, h4, f28, dc24, GNode.cells, intC, sliceC, -indexAddrF]) ?_
    rintro v31 H32 n33 _ sp rfl hle35 hfr34
    rw [← er30] at sp
    replace sp := Sep.unpack sp
    obtain ⟨L40, hv, hl41, sp⟩ := sp
    subst hv
    obtain ⟨v37, v38, v39, hv⟩ := len3 (by simpa using hl41)
    subst hv
    simp only [zip3, List.cons_append, List.nil_append] at sp
    replace sp := Sep.scalar sp
    obtain ⟨hv, sp⟩ := sp
    subst hv
    replace sp := Sep.scalar sp
    obtain ⟨hv, sp⟩ := sp
    subst hv
    replace sp := Sep.rot sp
    try simp only [List.cons_append, List.nil_append, List.append_assoc] at sp
    replace sp : Sep H32 n33 [(.s [.c, .c, .s [.c]], v18, .list true (l17.map (GNode.cells true))), (.s [.c], v39, .list true (r30.links.map intC))] [] := sp
    obtain ⟨hb43, h⟩ := h
    obtain ⟨id44, hv, f45⟩ := Sep.index (k := .i64) (i := i16) sp kd_34 (by simp) (by simpa using hb43)
    subst hv
    simp only [List.length_map] at sp f45
    obtain ⟨l46, el46⟩ : ∃ v : List GNode, v = l17.set i16.toNat r30 := ⟨_, rfl⟩
    replace h := h l46 el46
    simp [h0, h3, h4, f28, f45, dc24, GNode.cells, intC, sliceC, -indexAddrF, -storeF]
    refine bind_store (q := i16.toNat) (news := (GNode.cells true) r30) [(.s [.c], v39, .list true (r30.links.map intC))] [] (Sep.front (K1 := [(.s [.c], v39, .list true (r30.links.map intC))]) (K2 := []) (Sep.front (K1 := [(.s [.c, .c, .s [.c]], .arr id44 l17.length 0 l17.length, .list true (l17.map (GNode.cells true)))]) (K2 := []) sp)) (by simp) (by simp; omega) (by simp) (by simp [-one1, o1_int, o1_bool, o1_str, o1_nil, o1_list, o1_arr, o1_ptr, Sep.one1 (Sep.right (K1 := [(.s [.c, .c, .s [.c]], .arr id44 l17.length 0 l17.length, .list true (l17.map (GNode.cells true)))]) (Sep.front (K1 := [(.s [.c], v39, .list true (r30.links.map intC))]) (K2 := []) (Sep.front (K1 := [(.s [.c, .c, .s [.c]], .arr id44 l17.length 0 l17.length, .list true (l17.map (GNode.cells true)))]) (K2 := []) sp)))]) (Fill.v _ (Fill.v _ (Fill.own Fill.nil))) ?_
    rintro H47 sp hfr48
    replace sp : Sep H47 n33 [(.s [.c, .c, .s [.c]], .arr id44 l17.length 0 l17.length, .list true (l46.map (GNode.cells true)))] [] := by rw [el46, List.map_set]; exact sp
    simp [h0, h3, h4, f28, f45, dc24, GNode.cells, intC, sliceC, -indexAddrF]
    refine hk' _ _ _ ?_
    refine Runs.cut (fun ρ H n => ∃ (v50 : AVal), ρ 0 = .list false (a.map (GNode.cells false)) ∧ ρ 3 = v50 ∧ ρ 4 = int i16 ∧ Sep H n [(.s [.c, .c, .s [.c]], v50, .list true (l46.map (GNode.cells true)))] []) (by refine ⟨.arr id44 l17.length 0 l17.length, ?_, ?_, ?_, sp⟩ <;> simp [h0, h3, h4, f28, f45, dc24, GNode.cells, intC, sliceC, -indexAddrF]) ?_
    clear h0 h3 h4
    rintro ρ H n51 ⟨v50, h0, h3, h4, sp⟩
    refine Runs.inBlock ?_
    refine Runs.evalE Ty_ok (by decide) fun k' hk' => ?_
    obtain ⟨hb52, h⟩ := h
    obtain ⟨v53, ev53⟩ : ∃ v : Int, v = i16 + 1 := ⟨_, rfl⟩
    replace h := h v53 ev53
    have f54 := ib_add hb52 ev53
    simp [h0, h3, h4, f54, dc24, GNode.cells, intC, sliceC, -intBin]
    refine hk' _ _ _ ?_
    refine IH20 (v53, l46) _ _ _ h (by refine ⟨v50, ?_, ?_, ?_, sp⟩ <;> simp [h0, h3, h4, dc24, GNode.cells, intC, sliceC])
  · replace h := h.2 dc24
    refine Runs.exit rfl ?_
    refine Runs.seqE Ty_ok (by decide) fun k' hk' => ?_
    simp [h0, h3, h4, dc24, GNode.cells, intC, sliceC]
    refine hk' _ _ _ ?_
    exact Runs.ret1 (v := v18) Tryd.func29 Tryd.results29 (by simp [h0, h3, h4, dc24, GNode.cells, intC, sliceC]) (hQ _ _ _ _ (Sep.sub (ids' := []) sp (by simp)) ⟨l17, h, rfl⟩)

theorem toNodeS_ok (a : List GNode) (hp : toNodeS_pre a) : OwnS Tryd.prog 29 [.list false (a.map (GNode.cells false))] (.s [.c, .c, .s [.c]]) (fun r => r = .list true ((toNodeS a).map (GNode.cells true))) := (toNodeS_walk a _ (toNodeS_vc a hp)).mono (by rintro _ ⟨_, rfl, rfl⟩; rfl)

theorem e8 : Ent Tryd.prog 8 := Ent.of Tryd.func8 (by kernel_rfl) rfl
theorem toBigraph_walk (a : Big) (Z : Big → Prop) (h : toBigraph_wp a Z) : OwnS Tryd.prog 8 [.agg [int a.roots, .list false (a.nodes.map (GNode.cells false)), .list false (a.sites.map intC), int a.edges, .list false (a.outer.map strC), .list false (a.inner.map Wire.cells)]] (.a [.c, .s [.c, .c, .s [.c]], .s [.c], .c, .s [.c], .s [.c, .c]]) (fun r => ∃ y : Big, Z y ∧ r = .agg [int y.roots, .list true (y.nodes.map (GNode.cells true)), .list true (y.sites.map intC), int y.edges, .list true (y.outer.map strC), .list true (y.inner.map Wire.cells)]) := by
  unfold toBigraph_wp at h
  have sp : Sep noHeap 0 [] [] := Sep.nil (by simp)
  refine OwnS.of Tryd.func8 rfl Tryd.ntmps8 (by simp) fun Q hQ => ?_
  refine Runs.cut (fun ρ H n => ρ 0 = .agg [int a.roots, .list false (a.nodes.map (GNode.cells false)), .list false (a.sites.map intC), int a.edges, .list false (a.outer.map strC), .list false (a.inner.map Wire.cells)] ∧ Sep H n [] []) (by refine ⟨?_, sp⟩ <;> simp [GNode.cells, Wire.cells, intC, sliceC, strC]) ?_
  rintro ρ H n1 ⟨h0, sp⟩
  refine Runs.seqE Ty_ok (by decide) fun k' hk' => ?_
  simp [h0, GNode.cells, Wire.cells, intC, sliceC, strC]
  refine hk' _ _ _ ?_
  refine Runs.cut (fun ρ H n => ρ 1 = .ptr (n1, 1) 1 0 0 ∧ ρ 2 = .ptr (n1 + 1, 2) 1 0 0 ∧ H (n1, 1) = some ⟨6, [[int a.roots, .list false (a.nodes.map (GNode.cells false)), .list false (a.sites.map intC), int a.edges, .list false (a.outer.map strC), .list false (a.inner.map Wire.cells)]]⟩ ∧ H (n1 + 1, 2) = some ⟨6, [[int 0, .v (.slice none 0 0), .v (.slice none 0 0), int 0, .v (.slice none 0 0), .v (.slice none 0 0)]]⟩ ∧ Sep H n [] [(n1 + 1, 2), (n1, 1)]) (by refine ⟨?_, ?_, ?_, ?_, (Sep.var (Sep.var sp))⟩ <;> simp [h0, GNode.cells, Wire.cells, intC, sliceC, strC]) ?_
  clear h0
  rintro ρ H n4 ⟨h1, h2, m1_1, m2_2, sp⟩
  refine Runs.seqE Ty_ok (by decide) fun k' hk' => ?_
  simp [h1, h2, m1_1, m2_2, GNode.cells, Wire.cells, intC, sliceC, strC]
  refine hk' _ _ _ ?_
  refine Runs.cut (fun ρ H n => ρ 1 = .ptr (n1, 1) 1 0 0 ∧ ρ 2 = .ptr (n1 + 1, 2) 1 0 0 ∧ ρ 3 = .ptr (n4, 3) 1 0 0 ∧ H (n1, 1) = some ⟨6, [[int a.roots, .list false (a.nodes.map (GNode.cells false)), .list false (a.sites.map intC), int a.edges, .list false (a.outer.map strC), .list false (a.inner.map Wire.cells)]]⟩ ∧ H (n1 + 1, 2) = some ⟨6, [[int 0, .v (.slice none 0 0), .v (.slice none 0 0), int 0, .v (.slice none 0 0), .v (.slice none 0 0)]]⟩ ∧ H (n4, 3) = some ⟨6, [[int 0, .v (.slice none 0 0), .v (.slice none 0 0), int 0, .v (.slice none 0 0), .v (.slice none 0 0)]]⟩ ∧ Sep H n [] [(n4, 3), (n1 + 1, 2), (n1, 1)]) (by refine ⟨?_, ?_, ?_, ?_, ?_, ?_, (Sep.var sp)⟩ <;> simp [h1, h2, m1_1, m2_2, GNode.cells, Wire.cells, intC, sliceC, strC]) ?_
  clear h1 h2 m1_1 m2_2
  rintro ρ H n6 ⟨h1, h2, h3, m1_1, m2_2, m3_4, sp⟩
  refine Runs.seqE Ty_ok (by decide) fun k' hk' => ?_
  simp [h1, h2, h3, m1_1, m2_2, m3_4, GNode.cells, Wire.cells, intC, sliceC, strC]
  refine hk' _ _ _ ?_
  refine Runs.cut (fun ρ H n => ρ 1 = .ptr (n1, 1) 1 0 0 ∧ ρ 2 = .ptr (n1 + 1, 2) 1 0 0 ∧ ρ 3 = .ptr (n4, 3) 1 0 0 ∧ H (n1, 1) = some ⟨6, [[int a.roots, .list false (a.nodes.map (GNode.cells false)), .list false (a.sites.map intC), int a.edges, .list false (a.outer.map strC), .list false (a.inner.map Wire.cells)]]⟩ ∧ H (n1 + 1, 2) = some ⟨6, [[int 0, .v (.slice none 0 0), .v (.slice none 0 0), int 0, .v (.slice none 0 0), .v (.slice none 0 0)]]⟩ ∧ H (n4, 3) = some ⟨6, [[int a.roots, .v (.slice none 0 0), .v (.slice none 0 0), int 0, .v (.slice none 0 0), .v (.slice none 0 0)]]⟩ ∧ Sep H n [] [(n4, 3), (n1 + 1, 2), (n1, 1)]) (by refine ⟨?_, ?_, ?_, ?_, ?_, ?_, (Sep.setVar (w := (n4, 3)) sp (by simp))⟩ <;> simp [h1, h2, h3, m1_1, m2_2, m3_4, GNode.cells, Wire.cells, intC, sliceC, strC]) ?_
  clear h1 h2 h3 m1_1 m2_2 m3_4
  rintro ρ H n7 ⟨h1, h2, h3, m1_1, m2_2, m3_4, sp⟩
  refine Runs.seqE Ty_ok (by decide) fun k' hk' => ?_
  obtain ⟨hb8, h⟩ := h
  obtain ⟨r9, er9⟩ : ∃ v : List GNode, v = toNodeS a.nodes := ⟨_, rfl⟩
  replace h := h r9 er9
  simp [h1, h2, h3, m1_1, m2_2, m3_4, GNode.cells, Wire.cells, intC, sliceC, strC]
  refine RunK.callW Ty_ok (toNodeS_ok a.nodes hb8) e29 (.cons (ArgOk.nest_Node false a.nodes) .nil) sp (by decide) (by decide) rfl (by simp [h1, h2, h3, m1_1, m2_2, m3_4, GNode.cells, Wire.cells, intC, sliceC, strC]) ?_
  rintro v10 H11 n12 _ sp rfl hle14 hfr13
  rw [← er9] at sp
  have m1_1 : H11 (n1, 1) = some ⟨6, [[int a.roots, .list false (a.nodes.map (GNode.cells false)), .list false (a.sites.map intC), int a.edges, .list false (a.outer.map strC), .list false (a.inner.map Wire.cells)]]⟩ := (hfr13 _ (by simp)).trans (by simp [h1, h2, h3, m1_1, m2_2, m3_4, Heap.get_set])
  have m2_2 : H11 (n1 + 1, 2) = some ⟨6, [[int 0, .v (.slice none 0 0), .v (.slice none 0 0), int 0, .v (.slice none 0 0), .v (.slice none 0 0)]]⟩ := (hfr13 _ (by simp)).trans (by simp [h1, h2, h3, m1_1, m2_2, m3_4, Heap.get_set])
  have m3_4 : H11 (n4, 3) = some ⟨6, [[int a.roots, .v (.slice none 0 0), .v (.slice none 0 0), int 0, .v (.slice none 0 0), .v (.slice none 0 0)]]⟩ := (hfr13 _ (by simp)).trans (by simp [h1, h2, h3, m1_1, m2_2, m3_4, Heap.get_set])
  have f17 := cell_own (Sep.cells sp)
  have f18 := cell_own (Sep.one1 sp)
  simp [h1, h2, h3, m1_1, m2_2, m3_4, f17, f18, GNode.cells, Wire.cells, intC, sliceC, strC, -cellsA, -one1, cA_int, cA_bool, cA_str, cA_nil, cA_agg, cA_list, cA_arr, cA_ptr, o1_int, o1_bool, o1_str, o1_nil, o1_list, o1_arr, o1_ptr]
  refine hk' _ _ _ ?_
  refine Runs.cut (fun ρ H n => ∃ (v19 : AVal), ρ 1 = .ptr (n1, 1) 1 0 0 ∧ ρ 2 = .ptr (n1 + 1, 2) 1 0 0 ∧ ρ 3 = .ptr (n4, 3) 1 0 0 ∧ H (n1, 1) = some ⟨6, [[int a.roots, .list false (a.nodes.map (GNode.cells false)), .list false (a.sites.map intC), int a.edges, .list false (a.outer.map strC), .list false (a.inner.map Wire.cells)]]⟩ ∧ H (n1 + 1, 2) = some ⟨6, [[int 0, .v (.slice none 0 0), .v (.slice none 0 0), int 0, .v (.slice none 0 0), .v (.slice none 0 0)]]⟩ ∧ H (n4, 3) = some ⟨6, [[int a.roots, v19, .v (.slice none 0 0), int 0, .v (.slice none 0 0), .v (.slice none 0 0)]]⟩ ∧ Sep H n [(.s [.c, .c, .s [.c]], v19, .list true (r9.map (GNode.cells true)))] [(n4, 3), (n1 + 1, 2), (n1, 1)]) (by refine ⟨v10, ?_, ?_, ?_, ?_, ?_, ?_, (Sep.setVar (w := (n4, 3)) sp (by simp))⟩ <;> simp [h1, h2, h3, m1_1, m2_2, m3_4, f17, f18, GNode.cells, Wire.cells, intC, sliceC, strC, -cellsA, -one1, cA_int, cA_bool, cA_str, cA_nil, cA_agg, cA_list, cA_arr, cA_ptr, o1_int, o1_bool, o1_str, o1_nil, o1_list, o1_arr, o1_ptr]) ?_
  clear h1 h2 h3 m1_1 m2_2 m3_4
  rintro ρ H n20 ⟨v19, h1, h2, h3, m1_1, m2_2, m3_4, sp⟩
  refine Runs.seqE Ty_ok (by decide) fun k' hk' => ?_
  obtain ⟨hb21, h⟩ := h
  obtain ⟨r22, er22⟩ : ∃ v : List Int, v = toIntS a.sites := ⟨_, rfl⟩
  replace h := h r22 er22
  simp [h1, h2, h3, m1_1, m2_2, m3_4, GNode.cells, Wire.cells, intC, sliceC, strC]
  refine RunK.callW Ty_ok (toIntS_ok a.sites hb21) e30 (.cons (ArgOk.listF (fr := false) (els := a.sites.map intC) (by simp [intC])) .nil) sp (by decide) (by decide) rfl (by simp [h1, h2, h3, m1_1, m2_2, m3_4, GNode.cells, Wire.cells, intC, sliceC, strC]) ?_
  rintro v23 H24 n25 _ sp rfl hle27 hfr26
  rw [← er22] at sp
  have m1_1 : H24 (n1, 1) = some ⟨6, [[int a.roots, .list false (a.nodes.map (GNode.cells false)), .list false (a.sites.map intC), int a.edges, .list false (a.outer.map strC), .list false (a.inner.map Wire.cells)]]⟩ := (hfr26 _ (by simp)).trans (by simp [h1, h2, h3, m1_1, m2_2, m3_4, Heap.get_set])
  have m2_2 : H24 (n1 + 1, 2) = some ⟨6, [[int 0, .v (.slice none 0 0), .v (.slice none 0 0), int 0, .v (.slice none 0 0), .v (.slice none 0 0)]]⟩ := (hfr26 _ (by simp)).trans (by simp [h1, h2, h3, m1_1, m2_2, m3_4, Heap.get_set])
  have m3_4 : H24 (n4, 3) = some ⟨6, [[int a.roots, v19, .v (.slice none 0 0), int 0, .v (.slice none 0 0), .v (.slice none 0 0)]]⟩ := (hfr26 _ (by simp)).trans (by simp [h1, h2, h3, m1_1, m2_2, m3_4, Heap.get_set])
  have f30 := cell_own (Sep.cells sp)
  have f31 := cell_own (Sep.one1 sp)
  simp [h1, h2, h3, m1_1, m2_2, m3_4, f30, f31, GNode.cells, Wire.cells, intC, sliceC, strC, -cellsA, -one1, cA_int, cA_bool, cA_str, cA_nil, cA_agg, cA_list, cA_arr, cA_ptr, o1_int, o1_bool, o1_str, o1_nil, o1_list, o1_arr, o1_ptr]
  refine hk' _ _ _ ?_
  refine Runs.cut (fun ρ H n => ∃ (v32 : AVal) (v33 : AVal), ρ 1 = .ptr (n1, 1) 1 0 0 ∧ ρ 2 = .ptr (n1 + 1, 2) 1 0 0 ∧ ρ 3 = .ptr (n4, 3) 1 0 0 ∧ H (n1, 1) = some ⟨6, [[int a.roots, .list false (a.nodes.map (GNode.cells false)), .list false (a.sites.map intC), int a.edges, .list false (a.outer.map strC), .list false (a.inner.map Wire.cells)]]⟩ ∧ H (n1 + 1, 2) = some ⟨6, [[int 0, .v (.slice none 0 0), .v (.slice none 0 0), int 0, .v (.slice none 0 0), .v (.slice none 0 0)]]⟩ ∧ H (n4, 3) = some ⟨6, [[int a.roots, v33, v32, int 0, .v (.slice none 0 0), .v (.slice none 0 0)]]⟩ ∧ Sep H n [(.s [.c], v32, .list true (r22.map intC)), (.s [.c, .c, .s [.c]], v33, .list true (r9.map (GNode.cells true)))] [(n4, 3), (n1 + 1, 2), (n1, 1)]) (by refine ⟨v23, v19, ?_, ?_, ?_, ?_, ?_, ?_, (Sep.front (K1 := [(.s [.c, .c, .s [.c]], v19, .list true (r9.map (GNode.cells true)))]) (K2 := []) (Sep.front (K1 := [(.s [.c], v23, .list true (r22.map intC))]) (K2 := []) (Sep.setVar (w := (n4, 3)) sp (by simp))))⟩ <;> simp [h1, h2, h3, m1_1, m2_2, m3_4, f30, f31, GNode.cells, Wire.cells, intC, sliceC, strC, -cellsA, -one1, cA_int, cA_bool, cA_str, cA_nil, cA_agg, cA_list, cA_arr, cA_ptr, o1_int, o1_bool, o1_str, o1_nil, o1_list, o1_arr, o1_ptr]) ?_
  clear h1 h2 h3 m1_1 m2_2 m3_4
  rintro ρ H n34 ⟨v32, v33, h1, h2, h3, m1_1, m2_2, m3_4, sp⟩
  refine Runs.seqE Ty_ok (by decide) fun k' hk' => ?_
  simp [h1, h2, h3, m1_1, m2_2, m3_4, GNode.cells, Wire.cells, intC, sliceC, strC]
  refine hk' _ _ _ ?_
  refine Runs.cut (fun ρ H n => ∃ (v35 : AVal) (v36 : AVal), ρ 1 = .ptr (n1, 1) 1 0 0 ∧ ρ 2 = .ptr (n1 + 1, 2) 1 0 0 ∧ ρ 3 = .ptr (n4, 3) 1 0 0 ∧ H (n1, 1) = some ⟨6, [[int a.roots, .list false (a.nodes.map (GNode.cells false)), .list false (a.sites.map intC), int a.edges, .list false (a.outer.map strC), .list false (a.inner.map Wire.cells)]]⟩ ∧ H (n1 + 1, 2) = some ⟨6, [[int 0, .v (.slice none 0 0), .v (.slice none 0 0), int 0, .v (.slice none 0 0), .v (.slice none 0 0)]]⟩ ∧ H (n4, 3) = some ⟨6, [[int a.roots, v36, v35, int a.edges, .v (.slice none 0 0), .v (.slice none 0 0)]]⟩ ∧ Sep H n [(.s [.c], v35, .list true (r22.map intC)), (.s [.c, .c, .s [.c]], v36, .list true (r9.map (GNode.cells true)))] [(n4, 3), (n1 + 1, 2), (n1, 1)]) (by refine ⟨v32, v33, ?_, ?_, ?_, ?_, ?_, ?_, (Sep.front (K1 := [(.s [.c, .c, .s [.c]], v33, .list true (r9.map (GNode.cells true)))]) (K2 := []) (Sep.front (K1 := [(.s [.c], v32, .list true (r22.map intC))]) (K2 := []) (Sep.setVar (w := (n4, 3)) sp (by simp))))⟩ <;> simp [h1, h2, h3, m1_1, m2_2, m3_4, GNode.cells, Wire.cells, intC, sliceC, strC]) ?_
  clear h1 h2 h3 m1_1 m2_2 m3_4
  rintro ρ H n37 ⟨v35, v36, h1, h2, h3, m1_1, m2_2, m3_4, sp⟩
  refine Runs.seqE Ty_ok (by decide) fun k' hk' => ?_
  obtain ⟨hb38, h⟩ := h
  obtain ⟨r39, er39⟩ : ∃ v : List Str, v = toStringS a.outer := ⟨_, rfl⟩
  replace h := h r39 er39
  simp [h1, h2, h3, m1_1, m2_2, m3_4, GNode.cells, Wire.cells, intC, sliceC, strC]
  refine RunK.callW Ty_ok (toStringS_ok a.outer hb38) e31 (.cons (ArgOk.listF (fr := false) (els := a.outer.map strC) (by simp [strC])) .nil) sp (by decide) (by decide) rfl (by simp [h1, h2, h3, m1_1, m2_2, m3_4, GNode.cells, Wire.cells, intC, sliceC, strC]) ?_
  rintro v40 H41 n42 _ sp rfl hle44 hfr43
  rw [← er39] at sp
  have m1_1 : H41 (n1, 1) = some ⟨6, [[int a.roots, .list false (a.nodes.map (GNode.cells false)), .list false (a.sites.map intC), int a.edges, .list false (a.outer.map strC), .list false (a.inner.map Wire.cells)]]⟩ := (hfr43 _ (by simp)).trans (by simp [h1, h2, h3, m1_1, m2_2, m3_4, Heap.get_set])
  have m2_2 : H41 (n1 + 1, 2) = some ⟨6, [[int 0, .v (.slice none 0 0), .v (.slice none 0 0), int 0, .v (.slice none 0 0), .v (.slice none 0 0)]]⟩ := (hfr43 _ (by simp)).trans (by simp [h1, h2, h3, m1_1, m2_2, m3_4, Heap.get_set])
  have m3_4 : H41 (n4, 3) = some ⟨6, [[int a.roots, v36, v35, int a.edges, .v (.slice none 0 0), .v (.slice none 0 0)]]⟩ := (hfr43 _ (by simp)).trans (by simp [h1, h2, h3, m1_1, m2_2, m3_4, Heap.get_set])
  have f47 := cell_own (Sep.cells sp)
  have f48 := cell_own (Sep.one1 sp)
  simp [h1, h2, h3, m1_1, m2_2, m3_4, f47, f48, GNode.cells, Wire.cells, intC, sliceC, strC, -cellsA, -one1, cA_int, cA_bool, cA_str, cA_nil, cA_agg, cA_list, cA_arr, cA_ptr, o1_int, o1_bool, o1_str, o1_nil, o1_list, o1_arr, o1_ptr]
  refine hk' _ _ _ ?_
  refine Runs.cut (fun ρ H n => ∃ (v49 : AVal) (v50 : AVal) (v51 : AVal), ρ 1 = .ptr (n1, 1) 1 0 0 ∧ ρ 2 = .ptr (n1 + 1, 2) 1 0 0 ∧ ρ 3 = .ptr (n4, 3) 1 0 0 ∧ H (n1, 1) = some ⟨6, [[int a.roots, .list false (a.nodes.map (GNode.cells false)), .list false (a.sites.map intC), int a.edges, .list false (a.outer.map strC), .list false (a.inner.map Wire.cells)]]⟩ ∧ H (n1 + 1, 2) = some ⟨6, [[int 0, .v (.slice none 0 0), .v (.slice none 0 0), int 0, .v (.slice none 0 0), .v (.slice none 0 0)]]⟩ ∧ H (n4, 3) = some ⟨6, [[int a.roots, v51, v50, int a.edges, v49, .v (.slice none 0 0)]]⟩ ∧ Sep H n [(.s [.c], v49, .list true (r39.map strC)), (.s [.c], v50, .list true (r22.map intC)), (.s [.c, .c, .s [.c]], v51, .list true (r9.map (GNode.cells true)))] [(n4, 3), (n1 + 1, 2), (n1, 1)]) (by refine ⟨v40, v35, v36, ?_, ?_, ?_, ?_, ?_, ?_, (Sep.front (K1 := [(.s [.c], v35, .list true (r22.map intC)), (.s [.c, .c, .s [.c]], v36, .list true (r9.map (GNode.cells true)))]) (K2 := []) (Sep.front (K1 := [(.s [.c, .c, .s [.c]], v36, .list true (r9.map (GNode.cells true))), (.s [.c], v40, .list true (r39.map strC))]) (K2 := []) (Sep.front (K1 := [(.s [.c], v40, .list true (r39.map strC)), (.s [.c], v35, .list true (r22.map intC))]) (K2 := []) (Sep.setVar (w := (n4, 3)) sp (by simp)))))⟩ <;> simp [h1, h2, h3, m1_1, m2_2, m3_4, f47, f48, GNode.cells, Wire.cells, intC, sliceC, strC, -cellsA, -one1, cA_int, cA_bool, cA_str, cA_nil, cA_agg, cA_list, cA_arr, cA_ptr, o1_int, o1_bool, o1_str, o1_nil, o1_list, o1_arr, o1_ptr]) ?_
  clear h1 h2 h3 m1_1 m2_2 m3_4
  rintro ρ H n52 ⟨v49, v50, v51, h1, h2, h3, m1_1, m2_2, m3_4, sp⟩
  refine Runs.seqE Ty_ok (by decide) fun k' hk' => ?_
  obtain ⟨hb53, h⟩ := h
  obtain ⟨r54, er54⟩ : ∃ v : List Wire, v = toWireS a.inner := ⟨_, rfl⟩
  replace h := h r54 er54
  simp [h1, h2, h3, m1_1, m2_2, m3_4, GNode.cells, Wire.cells, intC, sliceC, strC]
  refine RunK.callW Ty_ok (toWireS_ok a.inner hb53) e32 (.cons (ArgOk.listF (fr := false) (els := a.inner.map Wire.cells) (by simp [Wire.cells, strC, intC])) .nil) sp (by decide) (by decide) rfl (by simp [h1, h2, h3, m1_1, m2_2, m3_4, GNode.cells, Wire.cells, intC, sliceC, strC]) ?_
  rintro v55 H56 n57 _ sp rfl hle59 hfr58
  rw [← er54] at sp
  have m1_1 : H56 (n1, 1) = some ⟨6, [[int a.roots, .list false (a.nodes.map (GNode.cells false)), .list false (a.sites.map intC), int a.edges, .list false (a.outer.map strC), .list false (a.inner.map Wire.cells)]]⟩ := (hfr58 _ (by simp)).trans (by simp [h1, h2, h3, m1_1, m2_2, m3_4, Heap.get_set])
  have m2_2 : H56 (n1 + 1, 2) = some ⟨6, [[int 0, .v (.slice none 0 0), .v (.slice none 0 0), int 0, .v (.slice none 0 0), .v (.slice none 0 0)]]⟩ := (hfr58 _ (by simp)).trans (by simp [h1, h2, h3, m1_1, m2_2, m3_4, Heap.get_set])
  have m3_4 : H56 (n4, 3) = some ⟨6, [[int a.roots, v51, v50, int a.edges, v49, .v (.slice none 0 0)]]⟩ := (hfr58 _ (by simp)).trans (by simp [h1, h2, h3, m1_1, m2_2, m3_4, Heap.get_set])
  have f62 := cell_own (Sep.cells sp)
  have f63 := cell_own (Sep.one1 sp)
  simp [h1, h2, h3, m1_1, m2_2, m3_4, f62, f63, GNode.cells, Wire.cells, intC, sliceC, strC, -cellsA, -one1, cA_int, cA_bool, cA_str, cA_nil, cA_agg, cA_list, cA_arr, cA_ptr, o1_int, o1_bool, o1_str, o1_nil, o1_list, o1_arr, o1_ptr]
  refine hk' _ _ _ ?_
  refine Runs.cut (fun ρ H n => ∃ (v64 : AVal) (v65 : AVal) (v66 : AVal) (v67 : AVal), ρ 2 = .ptr (n1 + 1, 2) 1 0 0 ∧ ρ 3 = .ptr (n4, 3) 1 0 0 ∧ H (n1 + 1, 2) = some ⟨6, [[int 0, .v (.slice none 0 0), .v (.slice none 0 0), int 0, .v (.slice none 0 0), .v (.slice none 0 0)]]⟩ ∧ H (n4, 3) = some ⟨6, [[int a.roots, v67, v66, int a.edges, v65, v64]]⟩ ∧ Sep H n [(.s [.c, .c], v64, .list true (r54.map Wire.cells)), (.s [.c], v65, .list true (r39.map strC)), (.s [.c], v66, .list true (r22.map intC)), (.s [.c, .c, .s [.c]], v67, .list true (r9.map (GNode.cells true)))] [(n4, 3), (n1 + 1, 2)]) (by refine ⟨v55, v49, v50, v51, ?_, ?_, ?_, ?_, (Sep.sub (Sep.front (K1 := [(.s [.c], v49, .list true (r39.map strC)), (.s [.c], v50, .list true (r22.map intC)), (.s [.c, .c, .s [.c]], v51, .list true (r9.map (GNode.cells true)))]) (K2 := []) (Sep.front (K1 := [(.s [.c], v50, .list true (r22.map intC)), (.s [.c, .c, .s [.c]], v51, .list true (r9.map (GNode.cells true))), (.s [.c, .c], v55, .list true (r54.map Wire.cells))]) (K2 := []) (Sep.front (K1 := [(.s [.c, .c, .s [.c]], v51, .list true (r9.map (GNode.cells true))), (.s [.c, .c], v55, .list true (r54.map Wire.cells)), (.s [.c], v49, .list true (r39.map strC))]) (K2 := []) (Sep.front (K1 := [(.s [.c, .c], v55, .list true (r54.map Wire.cells)), (.s [.c], v49, .list true (r39.map strC)), (.s [.c], v50, .list true (r22.map intC))]) (K2 := []) (Sep.setVar (w := (n4, 3)) sp (by simp)))))) (by simp +contextual))⟩ <;> simp [h1, h2, h3, m1_1, m2_2, m3_4, f62, f63, GNode.cells, Wire.cells, intC, sliceC, strC, -cellsA, -one1, cA_int, cA_bool, cA_str, cA_nil, cA_agg, cA_list, cA_arr, cA_ptr, o1_int, o1_bool, o1_str, o1_nil, o1_list, o1_arr, o1_ptr]) ?_
  clear h1 h2 h3 m1_1 m2_2 m3_4
  rintro ρ H n68 ⟨v64, v65, v66, v67, h2, h3, m2_2, m3_4, sp⟩
  refine Runs.seqE Ty_ok (by decide) fun k' hk' => ?_
  have f69 := cell_own (Sep.cells (Sep.front (K1 := [(.s [.c, .c], v64, .list true (r54.map Wire.cells)), (.s [.c], v65, .list true (r39.map strC)), (.s [.c], v66, .list true (r22.map intC))]) (K2 := []) sp))
  have f70 := cell_own (Sep.one1 (Sep.front (K1 := [(.s [.c, .c], v64, .list true (r54.map Wire.cells)), (.s [.c], v65, .list true (r39.map strC)), (.s [.c], v66, .list true (r22.map intC))]) (K2 := []) sp))
  have f71 := cell_own (Sep.cells (Sep.front (K1 := [(.s [.c, .c], v64, .list true (r54.map Wire.cells)), (.s [.c], v65, .list true (r39.map strC))]) (K2 := [(.s [.c, .c, .s [.c]], v67, .list true (r9.map (GNode.cells true)))]) sp))
  have f72 := cell_own (Sep.one1 (Sep.front (K1 := [(.s [.c, .c], v64, .list true (r54.map Wire.cells)), (.s [.c], v65, .list true (r39.map strC))]) (K2 := [(.s [.c, .c, .s [.c]], v67, .list true (r9.map (GNode.cells true)))]) sp))
  have f73 := cell_own (Sep.cells (Sep.front (K1 := [(.s [.c, .c], v64, .list true (r54.map Wire.cells))]) (K2 := [(.s [.c], v66, .list true (r22.map intC)), (.s [.c, .c, .s [.c]], v67, .list true (r9.map (GNode.cells true)))]) sp))
  have f74 := cell_own (Sep.one1 (Sep.front (K1 := [(.s [.c, .c], v64, .list true (r54.map Wire.cells))]) (K2 := [(.s [.c], v66, .list true (r22.map intC)), (.s [.c, .c, .s [.c]], v67, .list true (r9.map (GNode.cells true)))]) sp))
  have f75 := cell_own (Sep.cells sp)
  have f76 := cell_own (Sep.one1 sp)
  simp [h2, h3, m2_2, m3_4, f69, f70, f71, f72, f73, f74, f75, f76, GNode.cells, Wire.cells, intC, sliceC, strC, -cellsA, -one1, cA_int, cA_bool, cA_str, cA_nil, cA_agg, cA_list, cA_arr, cA_ptr, o1_int, o1_bool, o1_str, o1_nil, o1_list, o1_arr, o1_ptr]
  refine hk' _ _ _ ?_
  refine Runs.cut (fun ρ H n => ∃ (v77 : AVal) (v78 : AVal) (v79 : AVal) (v80 : AVal), ρ 2 = .ptr (n1 + 1, 2) 1 0 0 ∧ H (n1 + 1, 2) = some ⟨6, [[int a.roots, v80, v79, int a.edges, v78, v77]]⟩ ∧ Sep H n [(.s [.c, .c], v77, .list true (r54.map Wire.cells)), (.s [.c], v78, .list true (r39.map strC)), (.s [.c], v79, .list true (r22.map intC)), (.s [.c, .c, .s [.c]], v80, .list true (r9.map (GNode.cells true)))] [(n1 + 1, 2)]) (by refine ⟨v64, v65, v66, v67, ?_, ?_, (Sep.sub (Sep.front (K1 := [(.s [.c], v65, .list true (r39.map strC)), (.s [.c], v66, .list true (r22.map intC)), (.s [.c, .c, .s [.c]], v67, .list true (r9.map (GNode.cells true)))]) (K2 := []) (Sep.front (K1 := [(.s [.c], v66, .list true (r22.map intC)), (.s [.c, .c, .s [.c]], v67, .list true (r9.map (GNode.cells true))), (.s [.c, .c], v64, .list true (r54.map Wire.cells))]) (K2 := []) (Sep.front (K1 := [(.s [.c, .c, .s [.c]], v67, .list true (r9.map (GNode.cells true))), (.s [.c, .c], v64, .list true (r54.map Wire.cells)), (.s [.c], v65, .list true (r39.map strC))]) (K2 := []) (Sep.front (K1 := [(.s [.c, .c], v64, .list true (r54.map Wire.cells)), (.s [.c], v65, .list true (r39.map strC)), (.s [.c], v66, .list true (r22.map intC))]) (K2 := []) (Sep.setVar (w := (n1 + 1, 2)) sp (by simp)))))) (by simp +contextual))⟩ <;> simp [h2, h3, m2_2, m3_4, f69, f70, f71, f72, f73, f74, f75, f76, GNode.cells, Wire.cells, intC, sliceC, strC, -cellsA, -one1, cA_int, cA_bool, cA_str, cA_nil, cA_agg, cA_list, cA_arr, cA_ptr, o1_int, o1_bool, o1_str, o1_nil, o1_list, o1_arr, o1_ptr]) ?_
  clear h2 h3 m2_2 m3_4
  rintro ρ H n81 ⟨v77, v78, v79, v80, h2, m2_2, sp⟩
  exact Runs.res1 Ty_ok (v := .agg [int a.roots, v80, v79, int a.edges, v78, v77]) Tryd.func8 Tryd.results8 (by simp [h2, m2_2, resA, GNode.cells, Wire.cells, intC, sliceC, strC]) (hQ _ _ _ _ (Sep.sub (ids' := []) (Sep.pack (K := []) (Fill.v _ (Fill.own (Fill.own (Fill.v _ (Fill.own (Fill.own Fill.nil)))))) (Sep.front (K1 := [(.s [.c], v79, .list true (r22.map intC)), (.s [.c], v78, .list true (r39.map strC)), (.s [.c, .c], v77, .list true (r54.map Wire.cells))]) (K2 := []) (Sep.front (K1 := [(.s [.c], v78, .list true (r39.map strC)), (.s [.c, .c], v77, .list true (r54.map Wire.cells))]) (K2 := [(.s [.c, .c, .s [.c]], v80, .list true (r9.map (GNode.cells true)))]) (Sep.front (K1 := [(.s [.c, .c], v77, .list true (r54.map Wire.cells))]) (K2 := [(.s [.c], v79, .list true (r22.map intC)), (.s [.c, .c, .s [.c]], v80, .list true (r9.map (GNode.cells true)))]) sp)))) (by simp)) ⟨(Big.mk a.roots r9 r22 a.edges r39 r54), h, rfl⟩)

theorem toBigraph_ok (a : Big) (hp : toBigraph_pre a) : OwnS Tryd.prog 8 [.agg [int a.roots, .list false (a.nodes.map (GNode.cells false)), .list false (a.sites.map intC), int a.edges, .list false (a.outer.map strC), .list false (a.inner.map Wire.cells)]] (.a [.c, .s [.c, .c, .s [.c]], .s [.c], .c, .s [.c], .s [.c, .c]]) (fun r => r = .agg [int ((toBigraph a).roots), .list true (((toBigraph a).nodes).map (GNode.cells true)), .list true (((toBigraph a).sites).map intC), int ((toBigraph a).edges), .list true (((toBigraph a).outer).map strC), .list true (((toBigraph a).inner).map Wire.cells)]) := (toBigraph_walk a _ (toBigraph_vc a hp)).mono (by rintro _ ⟨_, rfl, rfl⟩; rfl)

theorem e41 : Ent Tryd.prog 41 := Ent.of Tryd.func41 (by kernel_rfl) rfl
theorem markIntS_walk (a : List Int) (k_ : Int) (Z : ((List Int) × Int) → Prop) (h : markIntS_wp a k_ Z) : MutS Tryd.prog 41 (fun v => [v, int k_]) (.s [.c]) (.list true (a.map intC)) (fun e' r => ∃ y : (List Int) × Int, Z y ∧ e' = .list true (y.1.map intC) ∧ r = int y.2) := by
  unfold markIntS_wp at h
  refine MutS.of Tryd.func41 rfl Tryd.ntmps41 (fun _ => by simp) fun H0 n0 v0 K0 ids0 sp Q hQ => ?_
  have h00 := sp.1
  have hid : ∀ i ∈ ids0, H0 i = H0 i := fun _ _ => rfl
  have hnn : n0 ≤ n0 := Nat.le_refl _
  refine Runs.cut (fun ρ H n => ρ 0 = v0 ∧ ρ 1 = int k_ ∧ n0 ≤ n ∧ (∀ i ∈ ids0, H i = H0 i) ∧ Sep H n ((.s [.c], v0, .list true (a.map intC)) :: K0) (ids0)) (by refine ⟨?_, ?_, (by omega), hid, sp⟩ <;> simp [intC]) ?_
  rintro ρ H n2 ⟨h0, h1, hnn, hid, sp⟩
  have hq_n2 := hnn
  refine Runs.seqE Ty_ok (by decide) fun k' hk' => ?_
  simp [h0, h1, intC]
  refine hk' _ _ _ ?_
  refine Runs.seq ?_
  refine Runs.seqE Ty_ok (by decide) fun k' hk' => ?_
  simp [h0, h1, intC]
  refine hk' _ _ _ ?_
  refine Runs.block ?_
  refine Runs.loopW h (fun (s : Int × Int × (List Int)) ρ H n => match s with | (k10, i11, l12) => ρ 0 = v0 ∧ ρ 1 = int k10 ∧ ρ 5 = int i11 ∧ n0 ≤ n ∧ (∀ i ∈ ids0, H i = H0 i) ∧ Sep H n ((.s [.c], v0, .list true (l12.map intC)) :: K0) (ids0)) (by refine ⟨?_, ?_, ?_, (by omega), hid, sp⟩ <;> simp [h0, h1, intC]) ?_
  clear h0 h1
  rintro ⟨k10, i11, l12⟩ ρ H n13 K h ⟨h0, h1, h5, hnn, hid, sp⟩ IH14
  have hq_n13 := hnn
  refine Runs.seq ?_
  refine Runs.seqE Ty_ok (by decide) fun k' hk' => ?_
  obtain ⟨len16, elen16⟩ : ∃ v : Int, v = (l12.length : Int) := ⟨_, rfl⟩
  replace h := h len16 elen16
  have f17 := len_own (Sep.len (m := len16) sp kd_23 (by rw [elen16, List.length_map]))
  obtain ⟨c18, ec18⟩ : ∃ v : Bool, v = decide (i11 < len16) := ⟨_, rfl⟩
  replace h := h c18 ec18
  have f19 := ib_lss (k := .i64) ec18
  simp [h0, h1, h5, f17, f19, intC, -intBin, -lenF]
  refine hk' _ _ _ ?_
  refine Runs.ite (b := c18) (by simp [h0, h1, h5, intC]) (fun dc18 => ?_) (fun dc18 => ?_)
  · replace h := h.1 dc18
    refine Runs.skip ?_
    refine Runs.seq ?_
    refine Runs.block ?_
    refine Runs.seqE Ty_ok (by decide) fun k' hk' => ?_
    obtain ⟨hb20, h⟩ := h
    obtain ⟨id21, hv, mo22, ln23, ni24⟩ := Sep.openF sp (by simp) hb20
    subst hv
    obtain ⟨x25, ex25⟩ : ∃ v : Int, v = at' l12 i11 := ⟨_, rfl⟩
    replace h := h x25 ex25
    have f26 := fun H (hm : H id21 = some ⟨1, l12.map intC⟩) => ix_arr (H := H) (k := .i64) (off := 0) (len := l12.length) (g := l12.length) kd_23 hm (by simp) rfl hb20
    have f27 := at_some (q := i11.toNat) hb20 ex25 rfl
    obtain ⟨l28, el28⟩ : ∃ v : List Int, v = l12.set i11.toNat k10 := ⟨_, rfl⟩
    replace h := h l28 el28
    simp [h0, h1, h5, mo22, f26, f27, dc18, intC, -indexAddrF, -storeF]
    refine bind_store (q := i11.toNat) (news := intC k10) [] (K0) sp (by simp) (by simp; omega) (by simp) (by simp [-one1, o1_int, o1_bool, o1_str, o1_nil, o1_list, o1_arr, o1_ptr]) (Fill.v _ Fill.nil) ?_
    rintro H29 sp hfr30
    replace sp : Sep H29 n13 ((.s [.c], .arr id21 l12.length 0 l12.length, .list true (l28.map intC)) :: K0) (ids0) := by rw [el28, List.map_set]; exact sp
    have hid : ∀ i ∈ ids0, H29 i = H0 i := fun i hi => (hfr30 i (by simp [hi])).trans (hid i hi)
    simp [h0, h1, h5, f26, f27, dc18, intC, -indexAddrF]
    refine hk' _ _ _ ?_
    refine Runs.cut (fun ρ H n => ρ 0 = .arr id21 l12.length 0 l12.length ∧ ρ 1 = int k10 ∧ ρ 5 = int i11 ∧ n0 ≤ n ∧ (∀ i ∈ ids0, H i = H0 i) ∧ Sep H n ((.s [.c], .arr id21 l12.length 0 l12.length, .list true (l28.map intC)) :: K0) (ids0)) (by refine ⟨?_, ?_, ?_, (by omega), hid, sp⟩ <;> simp [h0, h1, h5, f26, f27, dc18, intC, -indexAddrF]) ?_
    clear h0 h1 h5
    rintro ρ H n32 ⟨h0, h1, h5, hnn, hid, sp⟩
    have hq_n32 := hnn
    refine Runs.evalE Ty_ok (by decide) fun k' hk' => ?_
    obtain ⟨hb33, h⟩ := h
    obtain ⟨v34, ev34⟩ : ∃ v : Int, v = k10 + 1 := ⟨_, rfl⟩
    replace h := h v34 ev34
    have f35 := ib_add hb33 ev34
    simp [h0, h1, h5, f35, dc18, intC, -intBin]
    refine hk' _ _ _ ?_
    refine Runs.inBlock ?_
    refine Runs.evalE Ty_ok (by decide) fun k' hk' => ?_
    obtain ⟨hb36, h⟩ := h
    obtain ⟨v37, ev37⟩ : ∃ v : Int, v = i11 + 1 := ⟨_, rfl⟩
    replace h := h v37 ev37
    have f38 := ib_add hb36 ev37
    simp [h0, h1, h5, f38, dc18, intC, -intBin]
    refine hk' _ _ _ ?_
    refine IH14 (v34, v37, l28) _ _ _ h (by refine ⟨?_, ?_, ?_, (by omega), hid, sp⟩ <;> simp [h0, h1, h5, dc18, intC])
  · replace h := h.2 dc18
    refine Runs.exit rfl ?_
    refine Runs.seqE Ty_ok (by decide) fun k' hk' => ?_
    simp [h0, h1, h5, dc18, intC]
    refine hk' _ _ _ ?_
    exact Runs.ret1 (v := int k10) Tryd.func41 Tryd.results41 (by simp [h0, h1, h5, dc18, intC]) (hQ _ _ _ _ (Sep.sub sp (by simp +contextual)) hid (by omega) ⟨(l12, k10), h, rfl, rfl⟩)

theorem markIntS_ok (a : List Int) (k_ : Int) (hp : markIntS_pre a k_) : MutS Tryd.prog 41 (fun v => [v, int k_]) (.s [.c]) (.list true (a.map intC)) (fun e' r => e' = .list true (((markIntS a k_).1).map intC) ∧ r = int ((markIntS a k_).2)) := (markIntS_walk a k_ _ (markIntS_vc a k_ hp)).mono (by rintro _ _ ⟨_, rfl, rfl, rfl⟩; exact ⟨rfl, rfl⟩)

theorem e42 : Ent Tryd.prog 42 := Ent.of Tryd.func42 (by kernel_rfl) rfl
theorem markStringS_walk (a : List Str) (k_ : Int) (Z : ((List Str) × Int) → Prop) (h : markStringS_wp a k_ Z) : MutS Tryd.prog 42 (fun v => [v, int k_]) (.s [.c]) (.list true (a.map strC)) (fun e' r => ∃ y : (List Str) × Int, Z y ∧ e' = .list true (y.1.map strC) ∧ r = int y.2) := by
  unfold markStringS_wp at h
  refine MutS.of Tryd.func42 rfl Tryd.ntmps42 (fun _ => by simp) fun H0 n0 v0 K0 ids0 sp Q hQ => ?_
  have h00 := sp.1
  have hid : ∀ i ∈ ids0, H0 i = H0 i := fun _ _ => rfl
  have hnn : n0 ≤ n0 := Nat.le_refl _
  refine Runs.cut (fun ρ H n => ρ 0 = v0 ∧ ρ 1 = int k_ ∧ n0 ≤ n ∧ (∀ i ∈ ids0, H i = H0 i) ∧ Sep H n ((.s [.c], v0, .list true (a.map strC)) :: K0) (ids0)) (by refine ⟨?_, ?_, (by omega), hid, sp⟩ <;> simp [strC]) ?_
  rintro ρ H n2 ⟨h0, h1, hnn, hid, sp⟩
  have hq_n2 := hnn
  refine Runs.seqE Ty_ok (by decide) fun k' hk' => ?_
  simp [h0, h1, strC]
  refine hk' _ _ _ ?_
  refine Runs.seq ?_
  refine Runs.seqE Ty_ok (by decide) fun k' hk' => ?_
  simp [h0, h1, strC]
  refine hk' _ _ _ ?_
  refine Runs.block ?_
  refine Runs.loopW h (fun (s : Int × Int × (List Str)) ρ H n => match s with | (k10, i11, l12) => ρ 0 = v0 ∧ ρ 1 = int k10 ∧ ρ 5 = int i11 ∧ n0 ≤ n ∧ (∀ i ∈ ids0, H i = H0 i) ∧ Sep H n ((.s [.c], v0, .list true (l12.map strC)) :: K0) (ids0)) (by refine ⟨?_, ?_, ?_, (by omega), hid, sp⟩ <;> simp [h0, h1, strC]) ?_
  clear h0 h1
  rintro ⟨k10, i11, l12⟩ ρ H n13 K h ⟨h0, h1, h5, hnn, hid, sp⟩ IH14
  have hq_n13 := hnn
  refine Runs.seq ?_
  refine Runs.seqE Ty_ok (by decide) fun k' hk' => ?_
  obtain ⟨len16, elen16⟩ : ∃ v : Int, v = (l12.length : Int) := ⟨_, rfl⟩
  replace h := h len16 elen16
  have f17 := len_own (Sep.len (m := len16) sp kd_24 (by rw [elen16, List.length_map]))
  obtain ⟨c18, ec18⟩ : ∃ v : Bool, v = decide (i11 < len16) := ⟨_, rfl⟩
  replace h := h c18 ec18
  have f19 := ib_lss (k := .i64) ec18
  simp [h0, h1, h5, f17, f19, strC, -intBin, -lenF]
  refine hk' _ _ _ ?_
  refine Runs.ite (b := c18) (by simp [h0, h1, h5, strC]) (fun dc18 => ?_) (fun dc18 => ?_)
  · replace h := h.1 dc18
    refine Runs.skip ?_
    refine Runs.seq ?_
    refine Runs.block ?_
    refine Runs.seqE Ty_ok (by decide) fun k' hk' => ?_
    obtain ⟨hb20, h⟩ := h
    obtain ⟨r21, er21⟩ : ∃ v : Str, v = markTxt k10 := ⟨_, rfl⟩
    replace h := h r21 er21
    simp [h0, h1, h5, dc18, strC]
    refine RunK.callA Ty_ok (markTxt_ok k10 hb20) e68 (.cons (.v _ _ _) .nil) (by decide) (by decide) rfl (by simp [h0, h1, h5, dc18, strC]) ?_
    rintro _ rfl
    rw [← er21]
    obtain ⟨hb22, h⟩ := h
    obtain ⟨id23, hv, mo24, ln25, ni26⟩ := Sep.openF sp (by simp) hb22
    subst hv
    obtain ⟨x27, ex27⟩ : ∃ v : Str, v = at' l12 i11 := ⟨_, rfl⟩
    replace h := h x27 ex27
    have f28 := fun H (hm : H id23 = some ⟨1, l12.map strC⟩) => ix_arr (H := H) (k := .i64) (off := 0) (len := l12.length) (g := l12.length) kd_24 hm (by simp) rfl hb22
    have f29 := at_some (q := i11.toNat) hb22 ex27 rfl
    obtain ⟨l30, el30⟩ : ∃ v : List Str, v = l12.set i11.toNat r21 := ⟨_, rfl⟩
    replace h := h l30 el30
    simp [h0, h1, h5, mo24, f28, f29, dc18, strC, -indexAddrF, -storeF]
    refine bind_store (q := i11.toNat) (news := strC r21) [] (K0) sp (by simp) (by simp; omega) (by simp) (by simp [-one1, o1_int, o1_bool, o1_str, o1_nil, o1_list, o1_arr, o1_ptr]) (Fill.v _ Fill.nil) ?_
    rintro H31 sp hfr32
    replace sp : Sep H31 n13 ((.s [.c], .arr id23 l12.length 0 l12.length, .list true (l30.map strC)) :: K0) (ids0) := by rw [el30, List.map_set]; exact sp
    have hid : ∀ i ∈ ids0, H31 i = H0 i := fun i hi => (hfr32 i (by simp [hi])).trans (hid i hi)
    simp [h0, h1, h5, f28, f29, dc18, strC, -indexAddrF]
    refine hk' _ _ _ ?_
    refine Runs.cut (fun ρ H n => ρ 0 = .arr id23 l12.length 0 l12.length ∧ ρ 1 = int k10 ∧ ρ 5 = int i11 ∧ n0 ≤ n ∧ (∀ i ∈ ids0, H i = H0 i) ∧ Sep H n ((.s [.c], .arr id23 l12.length 0 l12.length, .list true (l30.map strC)) :: K0) (ids0)) (by refine ⟨?_, ?_, ?_, (by omega), hid, sp⟩ <;> simp [h0, h1, h5, f28, f29, dc18, strC, -indexAddrF]) ?_
    clear h0 h1 h5
    rintro ρ H n34 ⟨h0, h1, h5, hnn, hid, sp⟩
    have hq_n34 := hnn
    refine Runs.evalE Ty_ok (by decide) fun k' hk' => ?_
    obtain ⟨hb35, h⟩ := h
    obtain ⟨v36, ev36⟩ : ∃ v : Int, v = k10 + 1 := ⟨_, rfl⟩
    replace h := h v36 ev36
    have f37 := ib_add hb35 ev36
    simp [h0, h1, h5, f37, dc18, strC, -intBin]
    refine hk' _ _ _ ?_
    refine Runs.inBlock ?_
    refine Runs.evalE Ty_ok (by decide) fun k' hk' => ?_
    obtain ⟨hb38, h⟩ := h
    obtain ⟨v39, ev39⟩ : ∃ v : Int, v = i11 + 1 := ⟨_, rfl⟩
    replace h := h v39 ev39
    have f40 := ib_add hb38 ev39
    simp [h0, h1, h5, f40, dc18, strC, -intBin]
    refine hk' _ _ _ ?_
    refine IH14 (v36, v39, l30) _ _ _ h (by refine ⟨?_, ?_, ?_, (by omega), hid, sp⟩ <;> simp [h0, h1, h5, dc18, strC])
  · replace h := h.2 dc18
    refine Runs.exit rfl ?_
    refine Runs.seqE Ty_ok (by decide) fun k' hk' => ?_
    simp [h0, h1, h5, dc18, strC]
    refine hk' _ _ _ ?_
    exact Runs.ret1 (v := int k10) Tryd.func42 Tryd.results42 (by simp [h0, h1, h5, dc18, strC]) (hQ _ _ _ _ (Sep.sub sp (by simp +contextual)) hid (by omega) ⟨(l12, k10), h, rfl, rfl⟩)

theorem markStringS_ok (a : List Str) (k_ : Int) (hp : markStringS_pre a k_) : MutS Tryd.prog 42 (fun v => [v, int k_]) (.s [.c]) (.list true (a.map strC)) (fun e' r => e' = .list true (((markStringS a k_).1).map strC) ∧ r = int ((markStringS a k_).2)) := (markStringS_walk a k_ _ (markStringS_vc a k_ hp)).mono (by rintro _ _ ⟨_, rfl, rfl, rfl⟩; exact ⟨rfl, rfl⟩)

theorem e43 : Ent Tryd.prog 43 := Ent.of Tryd.func43 (by kernel_rfl) rfl
theorem markWireS_walk (a : List Wire) (k_ : Int) (Z : ((List Wire) × Int) → Prop) (h : markWireS_wp a k_ Z) : MutS Tryd.prog 43 (fun v => [v, int k_]) (.s [.c, .c]) (.list true (a.map Wire.cells)) (fun e' r => ∃ y : (List Wire) × Int, Z y ∧ e' = .list true (y.1.map Wire.cells) ∧ r = int y.2) := by
  unfold markWireS_wp at h
  refine MutS.of Tryd.func43 rfl Tryd.ntmps43 (fun _ => by simp) fun H0 n0 v0 K0 ids0 sp Q hQ => ?_
  have h00 := sp.1
  have hid : ∀ i ∈ ids0, H0 i = H0 i := fun _ _ => rfl
  have hnn : n0 ≤ n0 := Nat.le_refl _
  refine Runs.cut (fun ρ H n => ρ 0 = v0 ∧ ρ 1 = int k_ ∧ n0 ≤ n ∧ (∀ i ∈ ids0, H i = H0 i) ∧ Sep H n ((.s [.c, .c], v0, .list true (a.map Wire.cells)) :: K0) (ids0)) (by refine ⟨?_, ?_, (by omega), hid, sp⟩ <;> simp [Wire.cells, intC, strC]) ?_
  rintro ρ H n2 ⟨h0, h1, hnn, hid, sp⟩
  have hq_n2 := hnn
  refine Runs.seqE Ty_ok (by decide) fun k' hk' => ?_
  simp [h0, h1, Wire.cells, intC, strC]
  refine hk' _ _ _ ?_
  refine Runs.seq ?_
  refine Runs.seqE Ty_ok (by decide) fun k' hk' => ?_
  simp [h0, h1, Wire.cells, intC, strC]
  refine hk' _ _ _ ?_
  refine Runs.block ?_
  refine Runs.loopW h (fun (s : Int × Int × (List Wire)) ρ H n => match s with | (k10, i11, l12) => ρ 0 = v0 ∧ ρ 1 = int k10 ∧ ρ 5 = int i11 ∧ n0 ≤ n ∧ (∀ i ∈ ids0, H i = H0 i) ∧ Sep H n ((.s [.c, .c], v0, .list true (l12.map Wire.cells)) :: K0) (ids0)) (by refine ⟨?_, ?_, ?_, (by omega), hid, sp⟩ <;> simp [h0, h1, Wire.cells, intC, strC]) ?_
  clear h0 h1
  rintro ⟨k10, i11, l12⟩ ρ H n13 K h ⟨h0, h1, h5, hnn, hid, sp⟩ IH14
  have hq_n13 := hnn
  refine Runs.seq ?_
  refine Runs.seqE Ty_ok (by decide) fun k' hk' => ?_
  obtain ⟨len16, elen16⟩ : ∃ v : Int, v = (l12.length : Int) := ⟨_, rfl⟩
  replace h := h len16 elen16
  have f17 := len_own (Sep.len (m := len16) sp kd_35 (by rw [elen16, List.length_map]))
  obtain ⟨c18, ec18⟩ : ∃ v : Bool, v = decide (i11 < len16) := ⟨_, rfl⟩
  replace h := h c18 ec18
  have f19 := ib_lss (k := .i64) ec18
  simp [h0, h1, h5, f17, f19, Wire.cells, intC, strC, -intBin, -lenF]
  refine hk' _ _ _ ?_
  refine Runs.ite (b := c18) (by simp [h0, h1, h5, Wire.cells, intC, strC]) (fun dc18 => ?_) (fun dc18 => ?_)
  · replace h := h.1 dc18
    refine Runs.skip ?_
    refine Runs.seq ?_
    refine Runs.block ?_
    refine Runs.seqE Ty_ok (by decide) fun k' hk' => ?_
    obtain ⟨hb20, h⟩ := h
    obtain ⟨r21, er21⟩ : ∃ v : Str, v = markTxt k10 := ⟨_, rfl⟩
    replace h := h r21 er21
    simp [h0, h1, h5, dc18, Wire.cells, intC, strC]
    refine RunK.callA Ty_ok (markTxt_ok k10 hb20) e68 (.cons (.v _ _ _) .nil) (by decide) (by decide) rfl (by simp [h0, h1, h5, dc18, Wire.cells, intC, strC]) ?_
    rintro _ rfl
    rw [← er21]
    obtain ⟨hb22, h⟩ := h
    obtain ⟨id23, hv, mo24, ln25, ni26⟩ := Sep.openF sp (by simp) hb22
    subst hv
    obtain ⟨x27, ex27⟩ : ∃ v : Wire, v = at' l12 i11 := ⟨_, rfl⟩
    replace h := h x27 ex27
    have f28 := fun H (hm : H id23 = some ⟨2, l12.map Wire.cells⟩) => ix_arr (H := H) (k := .i64) (off := 0) (len := l12.length) (g := l12.length) kd_35 hm (by simp) rfl hb22
    have f29 := at_some (q := i11.toNat) hb22 ex27 rfl
    obtain ⟨l30, el30⟩ : ∃ v : List Wire, v = l12.set i11.toNat (Wire.mk r21 x27.link) := ⟨_, rfl⟩
    replace h := h l30 el30
    simp [h0, h1, h5, mo24, f28, f29, dc18, Wire.cells, intC, strC, -indexAddrF, -storeF]
    refine bind_field (i := ty9) (q := i11.toNat) (off := 0) (new := [str r21]) (ix := i11) (x := x27) (y := (Wire.mk r21 x27.link)) (f := Wire.cells) sp (by simp) (by simp) hb22 ex27 rfl rfl (fun _ => rfl) (by simp [Wire.cells, intC, strC]) (by simp) (by simp [splice, Wire.cells, intC, strC]) (by simp) ?_
    rintro H31 sp hfr32
    replace sp : Sep H31 n13 ((.s [.c, .c], .arr id23 l12.length 0 l12.length, .list true (l30.map Wire.cells)) :: K0) (ids0) := by rw [el30]; exact sp
    have hid : ∀ i ∈ ids0, H31 i = H0 i := fun i hi => (hfr32 i (by simp [hi])).trans (hid i hi)
    simp [h0, h1, h5, f28, f29, dc18, Wire.cells, intC, strC, -indexAddrF]
    refine hk' _ _ _ ?_
    refine Runs.cut (fun ρ H n => ρ 0 = .arr id23 l12.length 0 l12.length ∧ ρ 1 = int k10 ∧ ρ 5 = int i11 ∧ n0 ≤ n ∧ (∀ i ∈ ids0, H i = H0 i) ∧ Sep H n ((.s [.c, .c], .arr id23 l12.length 0 l12.length, .list true (l30.map Wire.cells)) :: K0) (ids0)) (by refine ⟨?_, ?_, ?_, (by omega), hid, sp⟩ <;> simp [h0, h1, h5, f28, f29, dc18, Wire.cells, intC, strC, -indexAddrF]) ?_
    clear h0 h1 h5
    rintro ρ H n34 ⟨h0, h1, h5, hnn, hid, sp⟩
    have hq_n34 := hnn
    refine Runs.seqE Ty_ok (by decide) fun k' hk' => ?_
    obtain ⟨hb35, h⟩ := h
    obtain ⟨v36, ev36⟩ : ∃ v : Int, v = k10 + 1 := ⟨_, rfl⟩
    replace h := h v36 ev36
    have f37 := ib_add hb35 ev36
    simp [h0, h1, h5, f37, dc18, Wire.cells, intC, strC, -intBin]
    refine hk' _ _ _ ?_
    refine Runs.seqE Ty_ok (by decide) fun k' hk' => ?_
    obtain ⟨hb38, h⟩ := h
    obtain ⟨id39, hv, mo40, ln41, ni42⟩ := Sep.openF sp (by simp) hb38
    simp only [AVal.arr.injEq] at hv
    obtain ⟨hv, hln43, -⟩ := hv
    subst hv
    have hlshln43 := hln43.symm
    obtain ⟨x44, ex44⟩ : ∃ v : Wire, v = at' l30 i11 := ⟨_, rfl⟩
    replace h := h x44 ex44
    have f45 := fun H (hm : H id23 = some ⟨2, l30.map Wire.cells⟩) => ix_arr (H := H) (k := .i64) (off := 0) (len := l12.length) (g := l12.length) kd_35 hm (by simp [hln43]) rfl (by rw [hln43]; exact hb38)
    have f46 := at_some (q := i11.toNat) hb38 ex44 rfl
    obtain ⟨l47, el47⟩ : ∃ v : List Wire, v = l30.set i11.toNat (Wire.mk x44.name v36) := ⟨_, rfl⟩
    replace h := h l47 el47
    simp [h0, h1, h5, hlshln43, mo40, f45, f46, dc18, Wire.cells, intC, strC, -indexAddrF, -storeF]
    refine bind_field (i := ty3) (q := i11.toNat) (off := 1) (new := [int v36]) (ix := i11) (x := x44) (y := (Wire.mk x44.name v36)) (f := Wire.cells) sp (by simp) (by simp) hb38 ex44 rfl hln43 (fun _ => rfl) (by simp [Wire.cells, intC, strC]) (by simp) (by simp [splice, Wire.cells, intC, strC]) (by simp) ?_
    rintro H48 sp hfr49
    replace sp : Sep H48 n34 ((.s [.c, .c], .arr id23 l12.length 0 l12.length, .list true (l47.map Wire.cells)) :: K0) (ids0) := by rw [el47]; exact sp
    have hid : ∀ i ∈ ids0, H48 i = H0 i := fun i hi => (hfr49 i (by simp [hi])).trans (hid i hi)
    simp [h0, h1, h5, hlshln43, f45, f46, dc18, Wire.cells, intC, strC, -indexAddrF]
    refine hk' _ _ _ ?_
    refine Runs.cut (fun ρ H n => ρ 0 = .arr id23 l12.length 0 l12.length ∧ ρ 1 = int v36 ∧ ρ 5 = int i11 ∧ n0 ≤ n ∧ (∀ i ∈ ids0, H i = H0 i) ∧ Sep H n ((.s [.c, .c], .arr id23 l12.length 0 l12.length, .list true (l47.map Wire.cells)) :: K0) (ids0)) (by refine ⟨?_, ?_, ?_, (by omega), hid, sp⟩ <;> simp [h0, h1, h5, hlshln43, f45, f46, dc18, Wire.cells, intC, strC, -indexAddrF]) ?_
    clear h0 h1 h5 hlshln43
    rintro ρ H n51 ⟨h0, h1, h5, hnn, hid, sp⟩
    have hq_n51 := hnn
    refine Runs.evalE Ty_ok (by decide) fun k' hk' => ?_
    obtain ⟨hb52, h⟩ := h
    obtain ⟨v53, ev53⟩ : ∃ v : Int, v = v36 + 1 := ⟨_, rfl⟩
    replace h := h v53 ev53
    have f54 := ib_add hb52 ev53
    simp [h0, h1, h5, f54, dc18, Wire.cells, intC, strC, -intBin]
    refine hk' _ _ _ ?_
    refine Runs.inBlock ?_
    refine Runs.evalE Ty_ok (by decide) fun k' hk' => ?_
    obtain ⟨hb55, h⟩ := h
    obtain ⟨v56, ev56⟩ : ∃ v : Int, v = i11 + 1 := ⟨_, rfl⟩
    replace h := h v56 ev56
    have f57 := ib_add hb55 ev56
    simp [h0, h1, h5, f57, dc18, Wire.cells, intC, strC, -intBin]
    refine hk' _ _ _ ?_
    refine IH14 (v53, v56, l47) _ _ _ h (by refine ⟨?_, ?_, ?_, (by omega), hid, sp⟩ <;> simp [h0, h1, h5, dc18, Wire.cells, intC, strC])
  · replace h := h.2 dc18
    refine Runs.exit rfl ?_
    refine Runs.seqE Ty_ok (by decide) fun k' hk' => ?_
    simp [h0, h1, h5, dc18, Wire.cells, intC, strC]
    refine hk' _ _ _ ?_
    exact Runs.ret1 (v := int k10) Tryd.func43 Tryd.results43 (by simp [h0, h1, h5, dc18, Wire.cells, intC, strC]) (hQ _ _ _ _ (Sep.sub sp (by simp +contextual)) hid (by omega) ⟨(l12, k10), h, rfl, rfl⟩)

theorem markWireS_ok (a : List Wire) (k_ : Int) (hp : markWireS_pre a k_) : MutS Tryd.prog 43 (fun v => [v, int k_]) (.s [.c, .c]) (.list true (a.map Wire.cells)) (fun e' r => e' = .list true (((markWireS a k_).1).map Wire.cells) ∧ r = int ((markWireS a k_).2)) := (markWireS_walk a k_ _ (markWireS_vc a k_ hp)).mono (by rintro _ _ ⟨_, rfl, rfl, rfl⟩; exact ⟨rfl, rfl⟩)

theorem e55 : Ent Tryd.prog 55 := Ent.of Tryd.func55 (by kernel_rfl) rfl
theorem heldIntS_walk (a : List Int) (k_ : Int) (Z : Int → Prop) (h : heldIntS_wp a k_ Z) : PureC Tryd.prog 55 [.list false (a.map intC), int k_] (fun r => ∃ y : Int, Z y ∧ r = int y) := by
  unfold heldIntS_wp at h
  refine PureC.of Tryd.func55 rfl Tryd.ntmps55 (by simp) fun Q hQ => ?_
  refine Runs.cut (fun ρ H n => ρ 0 = .list false (a.map intC) ∧ ρ 1 = int k_) (by refine ⟨?_, ?_⟩ <;> simp [intC]) ?_
  rintro ρ H n1 ⟨h0, h1⟩
  refine Runs.seqE Ty_ok (by decide) fun k' hk' => ?_
  simp [h0, h1, intC]
  refine hk' _ _ _ ?_
  refine Runs.seq ?_
  refine Runs.seqE Ty_ok (by decide) fun k' hk' => ?_
  simp [h0, h1, intC]
  refine hk' _ _ _ ?_
  refine Runs.block ?_
  refine Runs.loopW h (fun (s : Int × Int) ρ H n => match s with | (k5, i6) => ρ 0 = .list false (a.map intC) ∧ ρ 1 = int k5 ∧ ρ 5 = int i6) (by refine ⟨?_, ?_, ?_⟩ <;> simp [h0, h1, intC]) ?_
  clear h0 h1
  rintro ⟨k5, i6⟩ ρ H n7 K h ⟨h0, h1, h5⟩ IH8
  refine Runs.seq ?_
  refine Runs.seqE Ty_ok (by decide) fun k' hk' => ?_
  obtain ⟨len10, elen10⟩ : ∃ v : Int, v = (a.length : Int) := ⟨_, rfl⟩
  replace h := h len10 elen10
  have f11 := fun H => len_list (H := H) (fr := false) (f := intC) kd_23 elen10
  obtain ⟨c12, ec12⟩ : ∃ v : Bool, v = decide (i6 < len10) := ⟨_, rfl⟩
  replace h := h c12 ec12
  have f13 := ib_lss (k := .i64) ec12
  simp [h0, h1, h5, f11, f13, intC, -intBin, -lenF]
  refine hk' _ _ _ ?_
  refine Runs.ite (b := c12) (by simp [h0, h1, h5, intC]) (fun dc12 => ?_) (fun dc12 => ?_)
  · replace h := h.1 dc12
    refine Runs.skip ?_
    refine Runs.seq ?_
    refine Runs.block ?_
    refine Runs.seq ?_
    refine Runs.seqE Ty_ok (by decide) fun k' hk' => ?_
    obtain ⟨hb14, h⟩ := h
    obtain ⟨x15, ex15⟩ : ∃ v : Int, v = at' a i6 := ⟨_, rfl⟩
    replace h := h x15 ex15
    have f16 := fun H => ix_list (H := H) (fr := false) (f := intC) (k := .i64) kd_23 (fun _ => rfl) hb14 ex15
    obtain ⟨c17, ec17⟩ : ∃ v : Bool, v = decide (x15 ≠ k5) := ⟨_, rfl⟩
    replace h := h c17 ec17
    have f18 := ib_neq (k := .i64) ec17
    simp [h0, h1, h5, f16, f18, dc12, intC, -indexAddrF, -intBin]
    refine hk' _ _ _ ?_
    refine Runs.ite (b := c17) (by simp [h0, h1, h5, dc12, intC]) (fun dc17 => ?_) (fun dc17 => ?_)
    · replace h := h.1 dc17
      refine Runs.seqE Ty_ok (by decide) fun k' hk' => ?_
      simp [h0, h1, h5, dc12, dc17, intC]
      refine hk' _ _ _ ?_
      exact Runs.ret1 (v := int (-1)) Tryd.func55 Tryd.results55 (by simp [h0, h1, h5, dc12, dc17, intC]) (hQ _ _ _ _ (.of (.v _)) ⟨(-1), h, rfl⟩)
    · replace h := h.2 dc17
      refine Runs.skip ?_
      refine Runs.evalE Ty_ok (by decide) fun k' hk' => ?_
      obtain ⟨hb19, h⟩ := h
      obtain ⟨v20, ev20⟩ : ∃ v : Int, v = k5 + 1 := ⟨_, rfl⟩
      replace h := h v20 ev20
      have f21 := ib_add hb19 ev20
      simp [h0, h1, h5, f21, dc12, dc17, intC, -intBin]
      refine hk' _ _ _ ?_
      refine Runs.inBlock ?_
      refine Runs.evalE Ty_ok (by decide) fun k' hk' => ?_
      obtain ⟨hb22, h⟩ := h
      obtain ⟨v23, ev23⟩ : ∃ v : Int, v = i6 + 1 := ⟨_, rfl⟩
      replace h := h v23 ev23
      have f24 := ib_add hb22 ev23
      simp [h0, h1, h5, f24, dc12, dc17, intC, -intBin]
      refine hk' _ _ _ ?_
      refine Runs.cut (fun ρ H n => ρ 0 = .list false (a.map intC) ∧ ρ 1 = int v20 ∧ ρ 5 = int v23) (by refine ⟨?_, ?_, ?_⟩ <;> simp [h0, h1, h5, f24, dc12, dc17, intC, -intBin]) ?_
      clear h0 h1 h5
      rintro ρ H n25 ⟨h0, h1, h5⟩
      refine IH8 (v20, v23) _ _ _ h (by refine ⟨?_, ?_, ?_⟩ <;> simp [h0, h1, h5, dc12, dc17, intC])
  · replace h := h.2 dc12
    refine Runs.exit rfl ?_
    refine Runs.seqE Ty_ok (by decide) fun k' hk' => ?_
    simp [h0, h1, h5, dc12, intC]
    refine hk' _ _ _ ?_
    exact Runs.ret1 (v := int k5) Tryd.func55 Tryd.results55 (by simp [h0, h1, h5, dc12, intC]) (hQ _ _ _ _ (.of (.v _)) ⟨k5, h, rfl⟩)

theorem heldIntS_ok (a : List Int) (k_ : Int) (hp : heldIntS_pre a k_) : PureC Tryd.prog 55 [.list false (a.map intC), int k_] (fun r => r = int (heldIntS a k_)) := (heldIntS_walk a k_ _ (heldIntS_vc a k_ hp)).mono (by rintro _ ⟨_, rfl, rfl⟩; rfl)
end Go.Ab.Vg

/- Walks by program for YthoblfcjmhppiaaDoorAbMp. -/
namespace Go.Ab.Vg
open Go.Proofs
set_option linter.unusedSimpArgs false
set_option linter.unusedVariables false
theorem e44 : Ent Tryd.prog 44 := Ent.of Tryd.func44 (by kernel_rfl) rfl
theorem markAmbS_walk (a : List AmbNode) (k_ : Int) (Z : ((List AmbNode) × Int) → Prop) (h : markAmbS_wp a k_ Z) : MutS Tryd.prog 44 (fun v => [v, int k_]) (.s [.c, .c, .c]) (.list true (a.map AmbNode.cells)) (fun e' r => ∃ y : (List AmbNode) × Int, Z y ∧ e' = .list true (y.1.map AmbNode.cells) ∧ r = int y.2) := by
  unfold markAmbS_wp at h
  refine MutS.of Tryd.func44 rfl Tryd.ntmps44 (fun _ => by simp) fun H0 n0 v0 K0 ids0 sp Q hQ => ?_
  have h00 := sp.1
  have hid : ∀ i ∈ ids0, H0 i = H0 i := fun _ _ => rfl
  have hnn : n0 ≤ n0 := Nat.le_refl _
  refine Runs.cut (fun ρ H n => ρ 0 = v0 ∧ ρ 1 = int k_ ∧ n0 ≤ n ∧ (∀ i ∈ ids0, H i = H0 i) ∧ Sep H n ((.s [.c, .c, .c], v0, .list true (a.map AmbNode.cells)) :: K0) (ids0)) (by refine ⟨?_, ?_, (by omega), hid, sp⟩ <;> simp [AmbNode.cells, intC, strC]) ?_
  rintro ρ H n2 ⟨h0, h1, hnn, hid, sp⟩
  have hq_n2 := hnn
  refine Runs.seqE Ty_ok (by decide) fun k' hk' => ?_
  simp [h0, h1, AmbNode.cells, intC, strC]
  refine hk' _ _ _ ?_
  refine Runs.seq ?_
  refine Runs.seqE Ty_ok (by decide) fun k' hk' => ?_
  simp [h0, h1, AmbNode.cells, intC, strC]
  refine hk' _ _ _ ?_
  refine Runs.block ?_
  refine Runs.loopW h (fun (s : Int × Int × (List AmbNode)) ρ H n => match s with | (k10, i11, l12) => ρ 0 = v0 ∧ ρ 1 = int k10 ∧ ρ 5 = int i11 ∧ n0 ≤ n ∧ (∀ i ∈ ids0, H i = H0 i) ∧ Sep H n ((.s [.c, .c, .c], v0, .list true (l12.map AmbNode.cells)) :: K0) (ids0)) (by refine ⟨?_, ?_, ?_, (by omega), hid, sp⟩ <;> simp [h0, h1, AmbNode.cells, intC, strC]) ?_
  clear h0 h1
  rintro ⟨k10, i11, l12⟩ ρ H n13 K h ⟨h0, h1, h5, hnn, hid, sp⟩ IH14
  have hq_n13 := hnn
  refine Runs.seq ?_
  refine Runs.seqE Ty_ok (by decide) fun k' hk' => ?_
  obtain ⟨len16, elen16⟩ : ∃ v : Int, v = (l12.length : Int) := ⟨_, rfl⟩
  replace h := h len16 elen16
  have f17 := len_own (Sep.len (m := len16) sp kd_29 (by rw [elen16, List.length_map]))
  obtain ⟨c18, ec18⟩ : ∃ v : Bool, v = decide (i11 < len16) := ⟨_, rfl⟩
  replace h := h c18 ec18
  have f19 := ib_lss (k := .i64) ec18
  simp [h0, h1, h5, f17, f19, AmbNode.cells, intC, strC, -intBin, -lenF]
  refine hk' _ _ _ ?_
  refine Runs.ite (b := c18) (by simp [h0, h1, h5, AmbNode.cells, intC, strC]) (fun dc18 => ?_) (fun dc18 => ?_)
  · replace h := h.1 dc18
    refine Runs.skip ?_
    refine Runs.seq ?_
    refine Runs.block ?_
    refine Runs.seqE Ty_ok (by decide) fun k' hk' => ?_
    obtain ⟨hb20, h⟩ := h
    obtain ⟨id21, hv, mo22, ln23, ni24⟩ := Sep.openF sp (by simp) hb20
    subst hv
    obtain ⟨x25, ex25⟩ : ∃ v : AmbNode, v = at' l12 i11 := ⟨_, rfl⟩
    replace h := h x25 ex25
    have f26 := fun H (hm : H id21 = some ⟨3, l12.map AmbNode.cells⟩) => ix_arr (H := H) (k := .i64) (off := 0) (len := l12.length) (g := l12.length) kd_29 hm (by simp) rfl hb20
    have f27 := at_some (q := i11.toNat) hb20 ex25 rfl
    obtain ⟨l28, el28⟩ : ∃ v : List AmbNode, v = l12.set i11.toNat (AmbNode.mk k10 x25.name x25.parent) := ⟨_, rfl⟩
    replace h := h l28 el28
    simp [h0, h1, h5, mo22, f26, f27, dc18, AmbNode.cells, intC, strC, -indexAddrF, -storeF]
    refine bind_field (i := ty3) (q := i11.toNat) (off := 0) (new := [int k10]) (ix := i11) (x := x25) (y := (AmbNode.mk k10 x25.name x25.parent)) (f := AmbNode.cells) sp (by simp) (by simp) hb20 ex25 rfl rfl (fun _ => rfl) (by simp [AmbNode.cells, intC, strC]) (by simp) (by simp [splice, AmbNode.cells, intC, strC]) (by simp) ?_
    rintro H29 sp hfr30
    replace sp : Sep H29 n13 ((.s [.c, .c, .c], .arr id21 l12.length 0 l12.length, .list true (l28.map AmbNode.cells)) :: K0) (ids0) := by rw [el28]; exact sp
    have hid : ∀ i ∈ ids0, H29 i = H0 i := fun i hi => (hfr30 i (by simp [hi])).trans (hid i hi)
    simp [h0, h1, h5, f26, f27, dc18, AmbNode.cells, intC, strC, -indexAddrF]
    refine hk' _ _ _ ?_
    refine Runs.cut (fun ρ H n => ρ 0 = .arr id21 l12.length 0 l12.length ∧ ρ 1 = int k10 ∧ ρ 5 = int i11 ∧ n0 ≤ n ∧ (∀ i ∈ ids0, H i = H0 i) ∧ Sep H n ((.s [.c, .c, .c], .arr id21 l12.length 0 l12.length, .list true (l28.map AmbNode.cells)) :: K0) (ids0)) (by refine ⟨?_, ?_, ?_, (by omega), hid, sp⟩ <;> simp [h0, h1, h5, f26, f27, dc18, AmbNode.cells, intC, strC, -indexAddrF]) ?_
    clear h0 h1 h5
    rintro ρ H n32 ⟨h0, h1, h5, hnn, hid, sp⟩
    have hq_n32 := hnn
    refine Runs.seqE Ty_ok (by decide) fun k' hk' => ?_
    obtain ⟨hb33, h⟩ := h
    obtain ⟨v34, ev34⟩ : ∃ v : Int, v = k10 + 1 := ⟨_, rfl⟩
    replace h := h v34 ev34
    have f35 := ib_add hb33 ev34
    simp [h0, h1, h5, f35, dc18, AmbNode.cells, intC, strC, -intBin]
    refine hk' _ _ _ ?_
    refine Runs.seqE Ty_ok (by decide) fun k' hk' => ?_
    obtain ⟨hb36, h⟩ := h
    obtain ⟨r37, er37⟩ : ∃ v : Str, v = markTxt v34 := ⟨_, rfl⟩
    replace h := h r37 er37
    simp [h0, h1, h5, dc18, AmbNode.cells, intC, strC]
    refine RunK.callA Ty_ok (markTxt_ok v34 hb36) e68 (.cons (.v _ _ _) .nil) (by decide) (by decide) rfl (by simp [h0, h1, h5, dc18, AmbNode.cells, intC, strC]) ?_
    rintro _ rfl
    rw [← er37]
    obtain ⟨hb38, h⟩ := h
    obtain ⟨id39, hv, mo40, ln41, ni42⟩ := Sep.openF sp (by simp) hb38
    simp only [AVal.arr.injEq] at hv
    obtain ⟨hv, hln43, -⟩ := hv
    subst hv
    have hlshln43 := hln43.symm
    obtain ⟨x44, ex44⟩ : ∃ v : AmbNode, v = at' l28 i11 := ⟨_, rfl⟩
    replace h := h x44 ex44
    have f45 := fun H (hm : H id21 = some ⟨3, l28.map AmbNode.cells⟩) => ix_arr (H := H) (k := .i64) (off := 0) (len := l12.length) (g := l12.length) kd_29 hm (by simp [hln43]) rfl (by rw [hln43]; exact hb38)
    have f46 := at_some (q := i11.toNat) hb38 ex44 rfl
    obtain ⟨l47, el47⟩ : ∃ v : List AmbNode, v = l28.set i11.toNat (AmbNode.mk x44.kind r37 x44.parent) := ⟨_, rfl⟩
    replace h := h l47 el47
    simp [h0, h1, h5, hlshln43, mo40, f45, f46, dc18, AmbNode.cells, intC, strC, -indexAddrF, -storeF]
    refine bind_field (i := ty9) (q := i11.toNat) (off := 1) (new := [str r37]) (ix := i11) (x := x44) (y := (AmbNode.mk x44.kind r37 x44.parent)) (f := AmbNode.cells) sp (by simp) (by simp) hb38 ex44 rfl hln43 (fun _ => rfl) (by simp [AmbNode.cells, intC, strC]) (by simp) (by simp [splice, AmbNode.cells, intC, strC]) (by simp) ?_
    rintro H48 sp hfr49
    replace sp : Sep H48 n32 ((.s [.c, .c, .c], .arr id21 l12.length 0 l12.length, .list true (l47.map AmbNode.cells)) :: K0) (ids0) := by rw [el47]; exact sp
    have hid : ∀ i ∈ ids0, H48 i = H0 i := fun i hi => (hfr49 i (by simp [hi])).trans (hid i hi)
    simp [h0, h1, h5, hlshln43, f45, f46, dc18, AmbNode.cells, intC, strC, -indexAddrF]
    refine hk' _ _ _ ?_
    refine Runs.cut (fun ρ H n => ρ 0 = .arr id21 l12.length 0 l12.length ∧ ρ 1 = int v34 ∧ ρ 5 = int i11 ∧ n0 ≤ n ∧ (∀ i ∈ ids0, H i = H0 i) ∧ Sep H n ((.s [.c, .c, .c], .arr id21 l12.length 0 l12.length, .list true (l47.map AmbNode.cells)) :: K0) (ids0)) (by refine ⟨?_, ?_, ?_, (by omega), hid, sp⟩ <;> simp [h0, h1, h5, hlshln43, f45, f46, dc18, AmbNode.cells, intC, strC, -indexAddrF]) ?_
    clear h0 h1 h5 hlshln43
    rintro ρ H n51 ⟨h0, h1, h5, hnn, hid, sp⟩
    have hq_n51 := hnn
    refine Runs.seqE Ty_ok (by decide) fun k' hk' => ?_
    obtain ⟨hb52, h⟩ := h
    obtain ⟨v53, ev53⟩ : ∃ v : Int, v = v34 + 1 := ⟨_, rfl⟩
    replace h := h v53 ev53
    have f54 := ib_add hb52 ev53
    simp [h0, h1, h5, f54, dc18, AmbNode.cells, intC, strC, -intBin]
    refine hk' _ _ _ ?_
    refine Runs.seqE Ty_ok (by decide) fun k' hk' => ?_
    obtain ⟨hb55, h⟩ := h
    obtain ⟨id56, hv, mo57, ln58, ni59⟩ := Sep.openF sp (by simp) hb55
    simp only [AVal.arr.injEq] at hv
    obtain ⟨hv, hln60, -⟩ := hv
    subst hv
    have hlshln60 := hln60.symm
    obtain ⟨x61, ex61⟩ : ∃ v : AmbNode, v = at' l47 i11 := ⟨_, rfl⟩
    replace h := h x61 ex61
    have f62 := fun H (hm : H id21 = some ⟨3, l47.map AmbNode.cells⟩) => ix_arr (H := H) (k := .i64) (off := 0) (len := l12.length) (g := l12.length) kd_29 hm (by simp [hln60]) rfl (by rw [hln60]; exact hb55)
    have f63 := at_some (q := i11.toNat) hb55 ex61 rfl
    obtain ⟨l64, el64⟩ : ∃ v : List AmbNode, v = l47.set i11.toNat (AmbNode.mk x61.kind x61.name v53) := ⟨_, rfl⟩
    replace h := h l64 el64
    simp [h0, h1, h5, hlshln60, mo57, f62, f63, dc18, AmbNode.cells, intC, strC, -indexAddrF, -storeF]
    refine bind_field (i := ty3) (q := i11.toNat) (off := 2) (new := [int v53]) (ix := i11) (x := x61) (y := (AmbNode.mk x61.kind x61.name v53)) (f := AmbNode.cells) sp (by simp) (by simp) hb55 ex61 rfl hln60 (fun _ => rfl) (by simp [AmbNode.cells, intC, strC]) (by simp) (by simp [splice, AmbNode.cells, intC, strC]) (by simp) ?_
    rintro H65 sp hfr66
    replace sp : Sep H65 n51 ((.s [.c, .c, .c], .arr id21 l12.length 0 l12.length, .list true (l64.map AmbNode.cells)) :: K0) (ids0) := by rw [el64]; exact sp
    have hid : ∀ i ∈ ids0, H65 i = H0 i := fun i hi => (hfr66 i (by simp [hi])).trans (hid i hi)
    simp [h0, h1, h5, hlshln60, f62, f63, dc18, AmbNode.cells, intC, strC, -indexAddrF]
    refine hk' _ _ _ ?_
    refine Runs.cut (fun ρ H n => ρ 0 = .arr id21 l12.length 0 l12.length ∧ ρ 1 = int v53 ∧ ρ 5 = int i11 ∧ n0 ≤ n ∧ (∀ i ∈ ids0, H i = H0 i) ∧ Sep H n ((.s [.c, .c, .c], .arr id21 l12.length 0 l12.length, .list true (l64.map AmbNode.cells)) :: K0) (ids0)) (by refine ⟨?_, ?_, ?_, (by omega), hid, sp⟩ <;> simp [h0, h1, h5, hlshln60, f62, f63, dc18, AmbNode.cells, intC, strC, -indexAddrF]) ?_
    clear h0 h1 h5 hlshln60
    rintro ρ H n68 ⟨h0, h1, h5, hnn, hid, sp⟩
    have hq_n68 := hnn
    refine Runs.evalE Ty_ok (by decide) fun k' hk' => ?_
    obtain ⟨hb69, h⟩ := h
    obtain ⟨v70, ev70⟩ : ∃ v : Int, v = v53 + 1 := ⟨_, rfl⟩
    replace h := h v70 ev70
    have f71 := ib_add hb69 ev70
    simp [h0, h1, h5, f71, dc18, AmbNode.cells, intC, strC, -intBin]
    refine hk' _ _ _ ?_
    refine Runs.inBlock ?_
    refine Runs.evalE Ty_ok (by decide) fun k' hk' => ?_
    obtain ⟨hb72, h⟩ := h
    obtain ⟨v73, ev73⟩ : ∃ v : Int, v = i11 + 1 := ⟨_, rfl⟩
    replace h := h v73 ev73
    have f74 := ib_add hb72 ev73
    simp [h0, h1, h5, f74, dc18, AmbNode.cells, intC, strC, -intBin]
    refine hk' _ _ _ ?_
    refine IH14 (v70, v73, l64) _ _ _ h (by refine ⟨?_, ?_, ?_, (by omega), hid, sp⟩ <;> simp [h0, h1, h5, dc18, AmbNode.cells, intC, strC])
  · replace h := h.2 dc18
    refine Runs.exit rfl ?_
    refine Runs.seqE Ty_ok (by decide) fun k' hk' => ?_
    simp [h0, h1, h5, dc18, AmbNode.cells, intC, strC]
    refine hk' _ _ _ ?_
    exact Runs.ret1 (v := int k10) Tryd.func44 Tryd.results44 (by simp [h0, h1, h5, dc18, AmbNode.cells, intC, strC]) (hQ _ _ _ _ (Sep.sub sp (by simp +contextual)) hid (by omega) ⟨(l12, k10), h, rfl, rfl⟩)

theorem markAmbS_ok (a : List AmbNode) (k_ : Int) (hp : markAmbS_pre a k_) : MutS Tryd.prog 44 (fun v => [v, int k_]) (.s [.c, .c, .c]) (.list true (a.map AmbNode.cells)) (fun e' r => e' = .list true (((markAmbS a k_).1).map AmbNode.cells) ∧ r = int ((markAmbS a k_).2)) := (markAmbS_walk a k_ _ (markAmbS_vc a k_ hp)).mono (by rintro _ _ ⟨_, rfl, rfl, rfl⟩; exact ⟨rfl, rfl⟩)

theorem e13 : Ent Tryd.prog 13 := Ent.of Tryd.func13 (by kernel_rfl) rfl
theorem markProcess_walk (a : Proc) (k_ : Int) (Z : (Proc × Int) → Prop) (h : markProcess_wp a k_ Z) : MutS Tryd.prog 13 (fun v => [v, int k_]) (.a [.s [.c, .c, .c]]) (.agg [.list true (a.map AmbNode.cells)]) (fun e' r => ∃ y : Proc × Int, Z y ∧ e' = .agg [.list true (y.1.map AmbNode.cells)] ∧ r = int y.2) := by
  unfold markProcess_wp at h
  refine MutS.of Tryd.func13 rfl Tryd.ntmps13 (fun _ => by simp) fun H0 n0 v0 K0 ids0 sp Q hQ => ?_
  have h00 := sp.1
  have hid : ∀ i ∈ ids0, H0 i = H0 i := fun _ _ => rfl
  have hnn : n0 ≤ n0 := Nat.le_refl _
  replace sp := Sep.unpack sp
  obtain ⟨L0, hv, hl0, sp⟩ := sp
  subst hv
  obtain ⟨a0_, hv⟩ := len1 (by simpa using hl0)
  subst hv
  simp only [zip3, List.cons_append, List.nil_append] at sp
  replace sp := Sep.rot sp
  try simp only [List.cons_append, List.nil_append, List.append_assoc] at sp
  replace sp := Sep.swap (K1 := K0) sp
  simp only [List.cons_append, List.nil_append] at sp
  refine Runs.cut (fun ρ H n => ρ 0 = .agg [a0_] ∧ ρ 1 = int k_ ∧ n0 ≤ n ∧ (∀ i ∈ ids0, H i = H0 i) ∧ Sep H n ((.s [.c, .c, .c], a0_, .list true (a.map AmbNode.cells)) :: K0) (ids0)) (by refine ⟨?_, ?_, (by omega), hid, sp⟩ <;> simp [AmbNode.cells, intC, strC]) ?_
  rintro ρ H n2 ⟨h0, h1, hnn, hid, sp⟩
  have hq_n2 := hnn
  refine Runs.seqE Ty_ok (by decide) fun k' hk' => ?_
  have f3 := cell_own (Sep.cells sp)
  have f4 := cell_own (Sep.one1 sp)
  simp [h0, h1, f3, f4, AmbNode.cells, intC, strC, -cellsA, -one1, cA_int, cA_bool, cA_str, cA_nil, cA_agg, cA_list, cA_arr, cA_ptr, o1_int, o1_bool, o1_str, o1_nil, o1_list, o1_arr, o1_ptr]
  refine hk' _ _ _ ?_
  refine Runs.cut (fun ρ H n => ρ 1 = int k_ ∧ ρ 2 = .ptr (n2, 2) 1 0 0 ∧ H (n2, 2) = some ⟨1, [[a0_]]⟩ ∧ n0 ≤ n ∧ (∀ i ∈ ids0, H i = H0 i) ∧ Sep H n ((.s [.c, .c, .c], a0_, .list true (a.map AmbNode.cells)) :: K0) ((n2, 2) :: ids0)) (by refine ⟨?_, ?_, ?_, (by omega), (by intro i hi; have hlt := h00 i hi; repeat (first | exact hid i hi | rw [Heap.get_set_ne _ _ (by rintro rfl; simp at hlt; omega)])), (Sep.var sp)⟩ <;> simp [h0, h1, f3, f4, AmbNode.cells, intC, strC, -cellsA, -one1, cA_int, cA_bool, cA_str, cA_nil, cA_agg, cA_list, cA_arr, cA_ptr, o1_int, o1_bool, o1_str, o1_nil, o1_list, o1_arr, o1_ptr]) ?_
  clear h0 h1
  rintro ρ H n6 ⟨h1, h2, m2_4, hnn, hid, sp⟩
  have hq_n6 := hnn
  refine Runs.seqE Ty_ok (by decide) fun k' hk' => ?_
  obtain ⟨hb7, h⟩ := h
  obtain ⟨r8, er8⟩ : ∃ v : (List AmbNode) × Int, v = markAmbS a k_ := ⟨_, rfl⟩
  replace h := h r8 er8
  have f9 := cell_own (Sep.cells sp)
  have f10 := cell_own (Sep.one1 sp)
  simp [h1, h2, m2_4, f9, f10, AmbNode.cells, intC, strC, -cellsA, -one1, cA_int, cA_bool, cA_str, cA_nil, cA_agg, cA_list, cA_arr, cA_ptr, o1_int, o1_bool, o1_str, o1_nil, o1_list, o1_arr, o1_ptr]
  refine RunK.callM (v := a0_) Ty_ok (markAmbS_ok a k_ hb7) e44 sp (by decide) (by decide) rfl (by simp [h1, h2, m2_4, f9, f10, AmbNode.cells, intC, strC, -cellsA, -one1, cA_int, cA_bool, cA_str, cA_nil, cA_agg, cA_list, cA_arr, cA_ptr, o1_int, o1_bool, o1_str, o1_nil, o1_list, o1_arr, o1_ptr]) ?_
  rintro _ H11 n12 _ ⟨rfl, rfl⟩ sp hle14 hfr13
  rw [← er8] at sp
  rw [← er8]
  replace sp : Sep H11 n12 ((.s [.c, .c, .c], a0_, .list true (r8.1.map AmbNode.cells)) :: K0) ((n2, 2) :: ids0) := sp
  have hid : ∀ i ∈ ids0, H11 i = H0 i := fun i hi => (hfr13 i (by simp [hi])).trans (hid i hi)
  have hnn : n0 ≤ n12 := by omega
  have hq_n12 := hnn
  have m2_4 : H11 (n2, 2) = some ⟨1, [[a0_]]⟩ := (hfr13 _ (by simp)).trans (by simp [h1, h2, m2_4, Heap.get_set])
  simp [h1, h2, m2_4, f9, f10, AmbNode.cells, intC, strC, -cellsA, -one1, cA_int, cA_bool, cA_str, cA_nil, cA_agg, cA_list, cA_arr, cA_ptr, o1_int, o1_bool, o1_str, o1_nil, o1_list, o1_arr, o1_ptr]
  refine hk' _ _ _ ?_
  refine Runs.cut (fun ρ H n => ρ 1 = int r8.2 ∧ n0 ≤ n ∧ (∀ i ∈ ids0, H i = H0 i) ∧ Sep H n ((.s [.c, .c, .c], a0_, .list true (r8.1.map AmbNode.cells)) :: K0) (ids0)) (by refine ⟨?_, (by omega), hid, (Sep.sub sp (by simp +contextual))⟩ <;> simp [h1, h2, m2_4, f9, f10, AmbNode.cells, intC, strC, -cellsA, -one1, cA_int, cA_bool, cA_str, cA_nil, cA_agg, cA_list, cA_arr, cA_ptr, o1_int, o1_bool, o1_str, o1_nil, o1_list, o1_arr, o1_ptr]) ?_
  clear h1 h2 m2_4
  rintro ρ H n16 ⟨h1, hnn, hid, sp⟩
  have hq_n16 := hnn
  refine Runs.seqE Ty_ok (by decide) fun k' hk' => ?_
  simp [h1, AmbNode.cells, intC, strC]
  refine hk' _ _ _ ?_
  exact Runs.ret1 (v := int r8.2) Tryd.func13 Tryd.results13 (by simp [h1, AmbNode.cells, intC, strC]) (hQ _ _ _ _ (Sep.sub (Sep.pack (K := K0) (Fill.own Fill.nil) sp) (by simp +contextual)) hid (by omega) ⟨(r8.1, r8.2), h, rfl, rfl⟩)

theorem markProcess_ok (a : Proc) (k_ : Int) (hp : markProcess_pre a k_) : MutS Tryd.prog 13 (fun v => [v, int k_]) (.a [.s [.c, .c, .c]]) (.agg [.list true (a.map AmbNode.cells)]) (fun e' r => e' = .agg [.list true (((markProcess a k_).1).map AmbNode.cells)] ∧ r = int ((markProcess a k_).2)) := (markProcess_walk a k_ _ (markProcess_vc a k_ hp)).mono (by rintro _ _ ⟨_, rfl, rfl, rfl⟩; exact ⟨rfl, rfl⟩)

theorem e45 : Ent Tryd.prog 45 := Ent.of Tryd.func45 (by kernel_rfl) rfl
theorem heldAmbS_walk (a : List AmbNode) (k_ : Int) (Z : Int → Prop) (h : heldAmbS_wp a k_ Z) : PureC Tryd.prog 45 [.list false (a.map AmbNode.cells), int k_] (fun r => ∃ y : Int, Z y ∧ r = int y) := by
  unfold heldAmbS_wp at h
  refine PureC.of Tryd.func45 rfl Tryd.ntmps45 (by simp) fun Q hQ => ?_
  refine Runs.cut (fun ρ H n => ρ 0 = .list false (a.map AmbNode.cells) ∧ ρ 1 = int k_) (by refine ⟨?_, ?_⟩ <;> simp [AmbNode.cells, intC, strC]) ?_
  rintro ρ H n1 ⟨h0, h1⟩
  refine Runs.seqE Ty_ok (by decide) fun k' hk' => ?_
  simp [h0, h1, AmbNode.cells, intC, strC]
  refine hk' _ _ _ ?_
  refine Runs.seq ?_
  refine Runs.seqE Ty_ok (by decide) fun k' hk' => ?_
  simp [h0, h1, AmbNode.cells, intC, strC]
  refine hk' _ _ _ ?_
  refine Runs.block ?_
  refine Runs.loopW h (fun (s : Int × Int) ρ H n => match s with | (k5, i6) => ρ 0 = .list false (a.map AmbNode.cells) ∧ ρ 1 = int k5 ∧ ρ 5 = int i6) (by refine ⟨?_, ?_, ?_⟩ <;> simp [h0, h1, AmbNode.cells, intC, strC]) ?_
  clear h0 h1
  rintro ⟨k5, i6⟩ ρ H n7 K h ⟨h0, h1, h5⟩ IH8
  refine Runs.seq ?_
  refine Runs.seqE Ty_ok (by decide) fun k' hk' => ?_
  obtain ⟨len10, elen10⟩ : ∃ v : Int, v = (a.length : Int) := ⟨_, rfl⟩
  replace h := h len10 elen10
  have f11 := fun H => len_list (H := H) (fr := false) (f := AmbNode.cells) kd_29 elen10
  obtain ⟨c12, ec12⟩ : ∃ v : Bool, v = decide (i6 < len10) := ⟨_, rfl⟩
  replace h := h c12 ec12
  have f13 := ib_lss (k := .i64) ec12
  simp [h0, h1, h5, f11, f13, AmbNode.cells, intC, strC, -intBin, -lenF]
  refine hk' _ _ _ ?_
  refine Runs.ite (b := c12) (by simp [h0, h1, h5, AmbNode.cells, intC, strC]) (fun dc12 => ?_) (fun dc12 => ?_)
  · replace h := h.1 dc12
    refine Runs.skip ?_
    refine Runs.seq ?_
    refine Runs.block ?_
    refine Runs.seq ?_
    refine Runs.seqE Ty_ok (by decide) fun k' hk' => ?_
    obtain ⟨hb14, h⟩ := h
    obtain ⟨x15, ex15⟩ : ∃ v : AmbNode, v = at' a i6 := ⟨_, rfl⟩
    replace h := h x15 ex15
    have f16 := fun H => ix_list (H := H) (fr := false) (f := AmbNode.cells) (k := .i64) kd_29 (fun _ => rfl) hb14 ex15
    obtain ⟨c17, ec17⟩ : ∃ v : Bool, v = decide (x15.kind ≠ k5) := ⟨_, rfl⟩
    replace h := h c17 ec17
    have f18 := ib_neq (k := .i64) ec17
    simp [h0, h1, h5, f16, f18, dc12, AmbNode.cells, intC, strC, -indexAddrF, -intBin]
    refine hk' _ _ _ ?_
    refine Runs.ite (b := c17) (by simp [h0, h1, h5, dc12, AmbNode.cells, intC, strC]) (fun dc17 => ?_) (fun dc17 => ?_)
    · replace h := h.1 dc17
      refine Runs.seqE Ty_ok (by decide) fun k' hk' => ?_
      simp [h0, h1, h5, dc12, dc17, AmbNode.cells, intC, strC]
      refine hk' _ _ _ ?_
      exact Runs.ret1 (v := int (-1)) Tryd.func45 Tryd.results45 (by simp [h0, h1, h5, dc12, dc17, AmbNode.cells, intC, strC]) (hQ _ _ _ _ (.of (.v _)) ⟨(-1), h, rfl⟩)
    · replace h := h.2 dc17
      refine Runs.skip ?_
      refine Runs.seqE Ty_ok (by decide) fun k' hk' => ?_
      obtain ⟨hb19, h⟩ := h
      obtain ⟨v20, ev20⟩ : ∃ v : Int, v = k5 + 1 := ⟨_, rfl⟩
      replace h := h v20 ev20
      have f21 := ib_add hb19 ev20
      simp [h0, h1, h5, f21, dc12, dc17, AmbNode.cells, intC, strC, -intBin]
      refine hk' _ _ _ ?_
      refine Runs.seq ?_
      refine Runs.seqD Ty_ok kindOp_ok draws (by decide) (by kernel_rfl) fun k' hk' => ?_
      obtain ⟨hb22, h⟩ := h
      obtain ⟨x23, ex23⟩ : ∃ v : AmbNode, v = at' a i6 := ⟨_, rfl⟩
      replace h := h x23 ex23
      have hq24 := ex15.trans ex23.symm
      subst hq24
      have f25 := fun H => ix_list (H := H) (fr := false) (f := AmbNode.cells) (k := .i64) kd_29 (fun _ => rfl) hb22 ex15
      obtain ⟨hb26, h⟩ := h
      obtain ⟨r27, er27⟩ : ∃ v : Str, v = markTxt v20 := ⟨_, rfl⟩
      replace h := h r27 er27
      simp [h0, h1, h5, f25, dc12, dc17, AmbNode.cells, intC, strC, -indexAddrF]
      refine RunDK.callA Ty_ok kindOp_ok (markTxt_ok v20 hb26) e68 (.cons (.v _ _ _) .nil) (by decide) rfl (by simp [h0, h1, h5, f25, dc12, dc17, AmbNode.cells, intC, strC, -indexAddrF]) ?_
      rw [← er27]
      obtain ⟨c28, ec28⟩ : ∃ v : Bool, v = decide (x15.name ≠ r27) := ⟨_, rfl⟩
      replace h := h c28 ec28
      have f29 := sb_neq ec28
      simp [h0, h1, h5, f25, f29, dc12, dc17, AmbNode.cells, intC, strC, -indexAddrF, -strBin]
      refine hk' _ _ _ ?_
      refine Runs.cut (fun ρ H n => ρ 0 = .list false (a.map AmbNode.cells) ∧ ρ 1 = int v20 ∧ ρ 5 = int i6 ∧ ρ 28 = bool c28) (by refine ⟨?_, ?_, ?_, ?_⟩ <;> simp [h0, h1, h5, f25, f29, dc12, dc17, AmbNode.cells, intC, strC, -indexAddrF, -strBin]) ?_
      clear h0 h1 h5
      rintro ρ H n30 ⟨h0, h1, h5, h28⟩
      refine Runs.ite (b := c28) (by simp [h0, h1, h5, h28, dc12, dc17, AmbNode.cells, intC, strC]) (fun dc28 => ?_) (fun dc28 => ?_)
      · replace h := h.1 dc28
        refine Runs.seqE Ty_ok (by decide) fun k' hk' => ?_
        simp [h0, h1, h5, h28, dc12, dc17, dc28, AmbNode.cells, intC, strC]
        refine hk' _ _ _ ?_
        exact Runs.ret1 (v := int (-1)) Tryd.func45 Tryd.results45 (by simp [h0, h1, h5, h28, dc12, dc17, dc28, AmbNode.cells, intC, strC]) (hQ _ _ _ _ (.of (.v _)) ⟨(-1), h, rfl⟩)
      · replace h := h.2 dc28
        refine Runs.skip ?_
        refine Runs.seqE Ty_ok (by decide) fun k' hk' => ?_
        obtain ⟨hb31, h⟩ := h
        obtain ⟨v32, ev32⟩ : ∃ v : Int, v = v20 + 1 := ⟨_, rfl⟩
        replace h := h v32 ev32
        have f33 := ib_add hb31 ev32
        simp [h0, h1, h5, h28, f33, dc12, dc17, dc28, AmbNode.cells, intC, strC, -intBin]
        refine hk' _ _ _ ?_
        refine Runs.seq ?_
        refine Runs.seqE Ty_ok (by decide) fun k' hk' => ?_
        obtain ⟨hb34, h⟩ := h
        obtain ⟨x35, ex35⟩ : ∃ v : AmbNode, v = at' a i6 := ⟨_, rfl⟩
        replace h := h x35 ex35
        have f36 := fun H => ix_list (H := H) (fr := false) (f := AmbNode.cells) (k := .i64) kd_29 (fun _ => rfl) hb34 ex35
        obtain ⟨c37, ec37⟩ : ∃ v : Bool, v = decide (x35.parent ≠ v32) := ⟨_, rfl⟩
        replace h := h c37 ec37
        have f38 := ib_neq (k := .i64) ec37
        simp [h0, h1, h5, h28, f36, f38, dc12, dc17, dc28, AmbNode.cells, intC, strC, -indexAddrF, -intBin]
        refine hk' _ _ _ ?_
        refine Runs.ite (b := c37) (by simp [h0, h1, h5, h28, dc12, dc17, dc28, AmbNode.cells, intC, strC]) (fun dc37 => ?_) (fun dc37 => ?_)
        · replace h := h.1 dc37
          refine Runs.seqE Ty_ok (by decide) fun k' hk' => ?_
          simp [h0, h1, h5, h28, dc12, dc17, dc28, dc37, AmbNode.cells, intC, strC]
          refine hk' _ _ _ ?_
          exact Runs.ret1 (v := int (-1)) Tryd.func45 Tryd.results45 (by simp [h0, h1, h5, h28, dc12, dc17, dc28, dc37, AmbNode.cells, intC, strC]) (hQ _ _ _ _ (.of (.v _)) ⟨(-1), h, rfl⟩)
        · replace h := h.2 dc37
          refine Runs.skip ?_
          refine Runs.evalE Ty_ok (by decide) fun k' hk' => ?_
          obtain ⟨hb39, h⟩ := h
          obtain ⟨v40, ev40⟩ : ∃ v : Int, v = v32 + 1 := ⟨_, rfl⟩
          replace h := h v40 ev40
          have f41 := ib_add hb39 ev40
          simp [h0, h1, h5, h28, f41, dc12, dc17, dc28, dc37, AmbNode.cells, intC, strC, -intBin]
          refine hk' _ _ _ ?_
          refine Runs.inBlock ?_
          refine Runs.evalE Ty_ok (by decide) fun k' hk' => ?_
          obtain ⟨hb42, h⟩ := h
          obtain ⟨v43, ev43⟩ : ∃ v : Int, v = i6 + 1 := ⟨_, rfl⟩
          replace h := h v43 ev43
          have f44 := ib_add hb42 ev43
          simp [h0, h1, h5, h28, f44, dc12, dc17, dc28, dc37, AmbNode.cells, intC, strC, -intBin]
          refine hk' _ _ _ ?_
          refine Runs.cut (fun ρ H n => ρ 0 = .list false (a.map AmbNode.cells) ∧ ρ 1 = int v40 ∧ ρ 5 = int v43) (by refine ⟨?_, ?_, ?_⟩ <;> simp [h0, h1, h5, h28, f44, dc12, dc17, dc28, dc37, AmbNode.cells, intC, strC, -intBin]) ?_
          clear h0 h1 h5 h28
          rintro ρ H n45 ⟨h0, h1, h5⟩
          refine IH8 (v40, v43) _ _ _ h (by refine ⟨?_, ?_, ?_⟩ <;> simp [h0, h1, h5, dc12, dc17, dc28, dc37, AmbNode.cells, intC, strC])
  · replace h := h.2 dc12
    refine Runs.exit rfl ?_
    refine Runs.seqE Ty_ok (by decide) fun k' hk' => ?_
    simp [h0, h1, h5, dc12, AmbNode.cells, intC, strC]
    refine hk' _ _ _ ?_
    exact Runs.ret1 (v := int k5) Tryd.func45 Tryd.results45 (by simp [h0, h1, h5, dc12, AmbNode.cells, intC, strC]) (hQ _ _ _ _ (.of (.v _)) ⟨k5, h, rfl⟩)

theorem heldAmbS_ok (a : List AmbNode) (k_ : Int) (hp : heldAmbS_pre a k_) : PureC Tryd.prog 45 [.list false (a.map AmbNode.cells), int k_] (fun r => r = int (heldAmbS a k_)) := (heldAmbS_walk a k_ _ (heldAmbS_vc a k_ hp)).mono (by rintro _ ⟨_, rfl, rfl⟩; rfl)

theorem e14 : Ent Tryd.prog 14 := Ent.of Tryd.func14 (by kernel_rfl) rfl
theorem heldProcess_walk (a : Proc) (k_ : Int) (Z : Int → Prop) (h : heldProcess_wp a k_ Z) : PureC Tryd.prog 14 [.agg [.list false (a.map AmbNode.cells)], int k_] (fun r => ∃ y : Int, Z y ∧ r = int y) := by
  unfold heldProcess_wp at h
  refine PureC.of Tryd.func14 rfl Tryd.ntmps14 (by simp) fun Q hQ => ?_
  refine Runs.cut (fun ρ H n => ρ 0 = .agg [.list false (a.map AmbNode.cells)] ∧ ρ 1 = int k_) (by refine ⟨?_, ?_⟩ <;> simp [AmbNode.cells, intC, strC]) ?_
  rintro ρ H n1 ⟨h0, h1⟩
  refine Runs.seqE Ty_ok (by decide) fun k' hk' => ?_
  simp [h0, h1, AmbNode.cells, intC, strC]
  refine hk' _ _ _ ?_
  refine Runs.cut (fun ρ H n => ρ 1 = int k_ ∧ ρ 2 = .ptr (n1, 2) 1 0 0 ∧ H (n1, 2) = some ⟨1, [[.list false (a.map AmbNode.cells)]]⟩) (by refine ⟨?_, ?_, ?_⟩ <;> simp [h0, h1, AmbNode.cells, intC, strC]) ?_
  clear h0 h1
  rintro ρ H n3 ⟨h1, h2, m2_1⟩
  refine Runs.seqE Ty_ok (by decide) fun k' hk' => ?_
  obtain ⟨hb4, h⟩ := h
  obtain ⟨r5, er5⟩ : ∃ v : Int, v = heldAmbS a k_ := ⟨_, rfl⟩
  replace h := h r5 er5
  simp [h1, h2, m2_1, AmbNode.cells, intC, strC]
  refine RunK.callA Ty_ok (heldAmbS_ok a k_ hb4) e45 (.cons (ArgOk.listF (fr := false) (els := a.map AmbNode.cells) (by simp [AmbNode.cells, intC, strC, intC])) (.cons (.v _ _ _) .nil)) (by decide) (by decide) rfl (by simp [h1, h2, m2_1, AmbNode.cells, intC, strC]) ?_
  rintro _ rfl
  rw [← er5]
  simp [h1, h2, m2_1, AmbNode.cells, intC, strC]
  refine hk' _ _ _ ?_
  refine Runs.seq ?_
  refine Runs.seqE Ty_ok (by decide) fun k' hk' => ?_
  obtain ⟨c6, ec6⟩ : ∃ v : Bool, v = decide (r5 < 0) := ⟨_, rfl⟩
  replace h := h c6 ec6
  have f7 := ib_lss (k := .i64) ec6
  simp [h1, h2, m2_1, f7, AmbNode.cells, intC, strC, -intBin]
  refine hk' _ _ _ ?_
  refine Runs.ite (b := c6) (by simp [h1, h2, m2_1, AmbNode.cells, intC, strC]) (fun dc6 => ?_) (fun dc6 => ?_)
  · replace h := h.1 dc6
    refine Runs.seqE Ty_ok (by decide) fun k' hk' => ?_
    simp [h1, h2, m2_1, dc6, AmbNode.cells, intC, strC]
    refine hk' _ _ _ ?_
    exact Runs.ret1 (v := int (-1)) Tryd.func14 Tryd.results14 (by simp [h1, h2, m2_1, dc6, AmbNode.cells, intC, strC]) (hQ _ _ _ _ (.of (.v _)) ⟨(-1), h, rfl⟩)
  · replace h := h.2 dc6
    refine Runs.skip ?_
    refine Runs.seqE Ty_ok (by decide) fun k' hk' => ?_
    simp [h1, h2, m2_1, dc6, AmbNode.cells, intC, strC]
    refine hk' _ _ _ ?_
    exact Runs.ret1 (v := int r5) Tryd.func14 Tryd.results14 (by simp [h1, h2, m2_1, dc6, AmbNode.cells, intC, strC]) (hQ _ _ _ _ (.of (.v _)) ⟨r5, h, rfl⟩)

theorem heldProcess_ok (a : Proc) (k_ : Int) (hp : heldProcess_pre a k_) : PureC Tryd.prog 14 [.agg [.list false (a.map AmbNode.cells)], int k_] (fun r => r = int (heldProcess a k_)) := (heldProcess_walk a k_ _ (heldProcess_vc a k_ hp)).mono (by rintro _ ⟨_, rfl, rfl⟩; rfl)
end Go.Ab.Vg
