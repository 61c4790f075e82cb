/- Merged texts (12 of 13) of the proof that ends in Lfy: Lmw Nmw Mdw Mqw Lfz. -/
import Derived.Test.YtpakecdmnomalaaGreatDoorAbQlf11
/- Walks by program for YtpakecdmnomalaaGreatDoorAbLm. -/
namespace Go.Ab.Vg
open Go.Proofs
set_option maxRecDepth 100000
set_option linter.unusedSimpArgs false
set_option linter.unusedVariables false
attribute [local simp] Control.cells GNode.cells Wire.cells intC sliceC strC bC pA
theorem e40 : Ent Tryz.prog 40 := Ent.of Tryz.func40 (by kernel_rfl) rfl
theorem toIntS_walk (a : List Int) (Z : (List Int) → Prop) (h : toIntS_wp a Z) : OwnS Tryz.prog 40 [.list false (a.map intC)] (.s [.c]) (fun r => ∃ y : List Int, Z y ∧ r = .list true (y.map intC)) := by
 unfold toIntS_wp at h
 have sp : Sep noHeap 0 [] [] := Sep.nil (by simp)
 refine OwnS.of Tryz.func40 rfl Tryz.ntmps40 (by simp) fun Q hQ => ?_
 refine Runs.cut (fun ρ H n => ρ 0 = .list false (a.map intC) ∧ Sep H n [] []) (by refine ⟨?_, sp⟩ <;> simp ) ?_
 rintro ρ H n1 ⟨hh, sp⟩
 refine zE fun k' hk' => ?_
 simp [hh]
 apply hk'
 refine zE fun k' hk' => ?_
 obtain ⟨len2, elen2, h⟩ := atm h
 have f3 := fun H => len_list (H := H) (fr := false) (f := intC) kd_24 elen2
 obtain ⟨hb4, h⟩ := h
 obtain ⟨l5, el5, h⟩ := atm h
 simp [hh, f3, hb4, el5, -lenF]
 apply hk'
 refine Runs.cut (fun ρ H n => ∃ (v7 : AVal), (ρ 0 = .list false (a.map intC) ∧ ρ 3 = v7) ∧ Sep H n [oI v7 l5] []) (by refine ⟨.arr (n1, 7) len2.toNat 0 len2.toNat, ?_, (by rw [el5]; exact Sep.addRep (z := [int 0]) (f := intC) (k := len2.toNat) sp (fun H => by show Row H [.c] [int 0] [int 0] []; simp [Row, Tr]))⟩ <;> simp [hh, f3, hb4, el5, -lenF]) ?_
 clear hh
 rintro ρ H n8 ⟨v7, hh, sp⟩
 refine Runs.seq ?_
 refine zE fun k' hk' => ?_
 simp [hh]
 apply hk'
 refine Runs.block ?_
 refine Runs.loopW h (fun (sJ : Int × (List Int)) ρ H n => match sJ with | (i16, l17) => ∃ (v18 : AVal), (ρ 0 = .list false (a.map intC) ∧ ρ 3 = v18 ∧ ρ 4 = int i16) ∧ Sep H n [oI v18 l17] []) (by refine ⟨v7, ?_, sp⟩ <;> simp [hh]) ?_
 clear hh
 rintro ⟨i16, l17⟩ ρ H n19 K h ⟨v18, hh, sp⟩ IH20
 refine Runs.seq ?_
 refine zE fun k' hk' => ?_
 obtain ⟨len22, elen22, h⟩ := atm h
 have f23 := fun H => len_list (H := H) (fr := false) (f := intC) kd_24 elen22
 obtain ⟨c24, ec24, h⟩ := atm h
 have f25 := ib_lss (k := .i64) ec24
 simp [hh, f23, f25, -intBin, -lenF]
 apply hk'
 refine Runs.ite (b := c24) (by simp [hh]) (fun dc24 => ?_) (fun dc24 => ?_)
 ·replace h := h.1 dc24
  refine Runs.skip ?_
  refine Runs.seq ?_
  refine Runs.block ?_
  refine zF fun k' hk' => ?_
  obtain ⟨hb26, h⟩ := h
  obtain ⟨x27, ex27, h⟩ := atm h
  have f28 := fun H => ix_list (H := H) (fr := false) (f := intC) (k := .i64) kd_24 (fun _ => rfl) hb26 ex27
  obtain ⟨hb29, h⟩ := h
  obtain ⟨id30, hv, mo31, ln32, ni33⟩ := Sep.openF sp (by simp) hb29
  subst hv
  obtain ⟨x34, ex34, h⟩ := atm h
  have f35 := fun H (hm : H id30 = some ⟨1, l17.map intC⟩) => ix_arr (H := H) (k := .i64) (off := 0) (len := l17.length) (g := l17.length) kd_24 hm (by simp) rfl hb29
  have f36 := at_some (q := i16.toNat) hb29 ex34 rfl
  obtain ⟨l37, el37, h⟩ := atm h
  simp [hh, mo31, f28, f35, f36, dc24, -indexAddrF, -storeF]
  refine bind_store (q := i16.toNat) (news := intC x27) [] [] sp (by simp) (by simp; omega) (by simp) (by simp [-one1, o1x]) (Fill.v _ Fill.nil) ?_
  rintro H38 sp hfr39
  replace sp : Sep H38 n19 [oI (.arr id30 l17.length 0 l17.length) l37] [] := Sep.st el37 sp
  simp [hh, f28, f35, f36, dc24, -indexAddrF]
  apply hk'
  refine Runs.cut (fun ρ H n => ∃ (v41 : AVal), (ρ 0 = .list false (a.map intC) ∧ ρ 3 = v41 ∧ ρ 4 = int i16) ∧ Sep H n [oI v41 l37] []) (by refine ⟨.arr id30 l17.length 0 l17.length, ?_, sp⟩ <;> simp [hh, f28, f35, f36, dc24, -indexAddrF]) ?_
  clear hh
  rintro ρ H n42 ⟨v41, hh, sp⟩
  refine Runs.inBlock ?_
  refine zF fun k' hk' => ?_
  obtain ⟨hb43, h⟩ := h
  obtain ⟨v44, ev44, h⟩ := atm h
  have f45 := ib_add hb43 ev44
  simp [hh, f45, -intBin]
  apply hk'
  refine IH20 (v44, l37) _ _ _ h (by refine ⟨v41, ?_, sp⟩ <;> simp [hh])
 replace h := h.2 dc24
 refine Runs.exit rfl ?_
 refine zE fun k' hk' => ?_
 simp [hh, dc24]
 apply hk'
 exact Runs.ret1 (v := v18) Tryz.func40 Tryz.results40 (by simp [hh, dc24]) (hQ _ _ _ _ (Sep.sub (ids' := []) sp (by simp)) ⟨l17, h, rfl⟩)
theorem toIntS_ok (a : List Int) (hp : toIntS_pre a) : OwnS Tryz.prog 40 [.list false (a.map intC)] (.s [.c]) (fun r => r = .list true ((toIntS a).map intC)) := (toIntS_walk a _ (toIntS_vc a hp)).mono (by rintro _ ⟨_, rfl, rfl⟩; rfl)
theorem e41 : Ent Tryz.prog 41 := Ent.of Tryz.func41 (by kernel_rfl) rfl
theorem toStringS_walk (a : List Str) (Z : (List Str) → Prop) (h : toStringS_wp a Z) : OwnS Tryz.prog 41 [.list false (a.map strC)] (.s [.c]) (fun r => ∃ y : List Str, Z y ∧ r = .list true (y.map strC)) := by
 unfold toStringS_wp at h
 have sp : Sep noHeap 0 [] [] := Sep.nil (by simp)
 refine OwnS.of Tryz.func41 rfl Tryz.ntmps41 (by simp) fun Q hQ => ?_
 refine Runs.cut (fun ρ H n => ρ 0 = .list false (a.map strC) ∧ Sep H n [] []) (by refine ⟨?_, sp⟩ <;> simp ) ?_
 rintro ρ H n1 ⟨hh, sp⟩
 refine zE fun k' hk' => ?_
 simp [hh]
 apply hk'
 refine zE fun k' hk' => ?_
 obtain ⟨len2, elen2, h⟩ := atm h
 have f3 := fun H => len_list (H := H) (fr := false) (f := strC) kd_25 elen2
 obtain ⟨hb4, h⟩ := h
 obtain ⟨l5, el5, h⟩ := atm h
 simp [hh, f3, hb4, el5, -lenF]
 apply hk'
 refine Runs.cut (fun ρ H n => ∃ (v7 : AVal), (ρ 0 = .list false (a.map strC) ∧ ρ 3 = v7) ∧ Sep H n [oS v7 l5] []) (by refine ⟨.arr (n1, 7) len2.toNat 0 len2.toNat, ?_, (by rw [el5]; exact Sep.addRep (z := [str []]) (f := strC) (k := len2.toNat) sp (fun H => by show Row H [.c] [str []] [str []] []; simp [Row, Tr]))⟩ <;> simp [hh, f3, hb4, el5, -lenF]) ?_
 clear hh
 rintro ρ H n8 ⟨v7, hh, sp⟩
 refine Runs.seq ?_
 refine zE fun k' hk' => ?_
 simp [hh]
 apply hk'
 refine Runs.block ?_
 refine Runs.loopW h (fun (sJ : Int × (List Str)) ρ H n => match sJ with | (i16, l17) => ∃ (v18 : AVal), (ρ 0 = .list false (a.map strC) ∧ ρ 3 = v18 ∧ ρ 4 = int i16) ∧ Sep H n [oS v18 l17] []) (by refine ⟨v7, ?_, sp⟩ <;> simp [hh]) ?_
 clear hh
 rintro ⟨i16, l17⟩ ρ H n19 K h ⟨v18, hh, sp⟩ IH20
 refine Runs.seq ?_
 refine zE fun k' hk' => ?_
 obtain ⟨len22, elen22, h⟩ := atm h
 have f23 := fun H => len_list (H := H) (fr := false) (f := strC) kd_25 elen22
 obtain ⟨c24, ec24, h⟩ := atm h
 have f25 := ib_lss (k := .i64) ec24
 simp [hh, f23, f25, -intBin, -lenF]
 apply hk'
 refine Runs.ite (b := c24) (by simp [hh]) (fun dc24 => ?_) (fun dc24 => ?_)
 ·replace h := h.1 dc24
  refine Runs.skip ?_
  refine Runs.seq ?_
  refine Runs.block ?_
  refine zF fun k' hk' => ?_
  obtain ⟨hb26, h⟩ := h
  obtain ⟨x27, ex27, h⟩ := atm h
  have f28 := fun H => ix_list (H := H) (fr := false) (f := strC) (k := .i64) kd_25 (fun _ => rfl) hb26 ex27
  obtain ⟨hb29, h⟩ := h
  obtain ⟨id30, hv, mo31, ln32, ni33⟩ := Sep.openF sp (by simp) hb29
  subst hv
  obtain ⟨x34, ex34, h⟩ := atm h
  have f35 := fun H (hm : H id30 = some ⟨1, l17.map strC⟩) => ix_arr (H := H) (k := .i64) (off := 0) (len := l17.length) (g := l17.length) kd_25 hm (by simp) rfl hb29
  have f36 := at_some (q := i16.toNat) hb29 ex34 rfl
  obtain ⟨l37, el37, h⟩ := atm h
  simp [hh, mo31, f28, f35, f36, dc24, -indexAddrF, -storeF]
  refine bind_store (q := i16.toNat) (news := strC x27) [] [] sp (by simp) (by simp; omega) (by simp) (by simp [-one1, o1x]) (Fill.v _ Fill.nil) ?_
  rintro H38 sp hfr39
  replace sp : Sep H38 n19 [oS (.arr id30 l17.length 0 l17.length) l37] [] := Sep.st el37 sp
  simp [hh, f28, f35, f36, dc24, -indexAddrF]
  apply hk'
  refine Runs.cut (fun ρ H n => ∃ (v41 : AVal), (ρ 0 = .list false (a.map strC) ∧ ρ 3 = v41 ∧ ρ 4 = int i16) ∧ Sep H n [oS v41 l37] []) (by refine ⟨.arr id30 l17.length 0 l17.length, ?_, sp⟩ <;> simp [hh, f28, f35, f36, dc24, -indexAddrF]) ?_
  clear hh
  rintro ρ H n42 ⟨v41, hh, sp⟩
  refine Runs.inBlock ?_
  refine zF fun k' hk' => ?_
  obtain ⟨hb43, h⟩ := h
  obtain ⟨v44, ev44, h⟩ := atm h
  have f45 := ib_add hb43 ev44
  simp [hh, f45, -intBin]
  apply hk'
  refine IH20 (v44, l37) _ _ _ h (by refine ⟨v41, ?_, sp⟩ <;> simp [hh])
 replace h := h.2 dc24
 refine Runs.exit rfl ?_
 refine zE fun k' hk' => ?_
 simp [hh, dc24]
 apply hk'
 exact Runs.ret1 (v := v18) Tryz.func41 Tryz.results41 (by simp [hh, dc24]) (hQ _ _ _ _ (Sep.sub (ids' := []) sp (by simp)) ⟨l17, h, rfl⟩)
theorem toStringS_ok (a : List Str) (hp : toStringS_pre a) : OwnS Tryz.prog 41 [.list false (a.map strC)] (.s [.c]) (fun r => r = .list true ((toStringS a).map strC)) := (toStringS_walk a _ (toStringS_vc a hp)).mono (by rintro _ ⟨_, rfl, rfl⟩; rfl)
theorem e38 : Ent Tryz.prog 38 := Ent.of Tryz.func38 (by kernel_rfl) rfl
theorem toControl_walk (a : Control) (Z : Control → Prop) (h : toControl_wp a Z) : PureC Tryz.prog 38 [.agg [str a.name, int a.ports, int a.kind]] (fun r => ∃ y : Control, Z y ∧ r = .agg [str y.name, int y.ports, int y.kind]) := by
 unfold toControl_wp at h
 refine PureC.of Tryz.func38 rfl Tryz.ntmps38 (by simp) fun Q hQ => ?_
 refine Runs.cut (fun ρ H n => ρ 0 = .agg [str a.name, int a.ports, int a.kind]) (by simp []) ?_
 rintro ρ H n1 hh
 refine zE fun k' hk' => ?_
 simp [hh]
 apply hk'
 refine Runs.cut (fun ρ H n => (ρ 1 = pA n1 1 ∧ ρ 2 = pA (n1 + 1) 2) ∧ H (n1, 1) = some ⟨3, [[str a.name, int a.ports, int a.kind]]⟩ ∧ H (n1 + 1, 2) = some ⟨3, [[str [], int 0, int 0]]⟩) (by refine ⟨?_, ?_, ?_⟩ <;> simp [hh]) ?_
 clear hh
 rintro ρ H n4 ⟨hh, m1_1, m2_2⟩
 refine zE fun k' hk' => ?_
 simp [hh, m1_1, m2_2]
 apply hk'
 refine Runs.cut (fun ρ H n => (ρ 1 = pA n1 1 ∧ ρ 2 = pA (n1 + 1) 2 ∧ ρ 3 = pA n4 3) ∧ H (n1, 1) = some ⟨3, [[str a.name, int a.ports, int a.kind]]⟩ ∧ H (n1 + 1, 2) = some ⟨3, [[str [], int 0, int 0]]⟩ ∧ H (n4, 3) = some ⟨3, [[str [], int 0, int 0]]⟩) (by refine ⟨?_, ?_, ?_, ?_⟩ <;> simp [hh, m1_1, m2_2]) ?_
 clear hh m1_1 m2_2
 rintro ρ H n6 ⟨hh, m1_1, m2_2, m3_4⟩
 refine zE fun k' hk' => ?_
 simp [hh, m1_1, m2_2, m3_4]
 apply hk'
 refine Runs.cut (fun ρ H n => (ρ 1 = pA n1 1 ∧ ρ 2 = pA (n1 + 1) 2 ∧ ρ 3 = pA n4 3) ∧ H (n1, 1) = some ⟨3, [[str a.name, int a.ports, int a.kind]]⟩ ∧ H (n1 + 1, 2) = some ⟨3, [[str [], int 0, int 0]]⟩ ∧ H (n4, 3) = some ⟨3, [[str a.name, int 0, int 0]]⟩) (by refine ⟨?_, ?_, ?_, ?_⟩ <;> simp [hh, m1_1, m2_2, m3_4]) ?_
 clear hh m1_1 m2_2 m3_4
 rintro ρ H n7 ⟨hh, m1_1, m2_2, m3_4⟩
 refine zE fun k' hk' => ?_
 simp [hh, m1_1, m2_2, m3_4]
 apply hk'
 refine Runs.cut (fun ρ H n => (ρ 1 = pA n1 1 ∧ ρ 2 = pA (n1 + 1) 2 ∧ ρ 3 = pA n4 3) ∧ H (n1, 1) = some ⟨3, [[str a.name, int a.ports, int a.kind]]⟩ ∧ H (n1 + 1, 2) = some ⟨3, [[str [], int 0, int 0]]⟩ ∧ H (n4, 3) = some ⟨3, [[str a.name, int a.ports, int 0]]⟩) (by refine ⟨?_, ?_, ?_, ?_⟩ <;> simp [hh, m1_1, m2_2, m3_4]) ?_
 clear hh m1_1 m2_2 m3_4
 rintro ρ H n8 ⟨hh, m1_1, m2_2, m3_4⟩
 refine zE fun k' hk' => ?_
 simp [hh, m1_1, m2_2, m3_4]
 apply hk'
 refine Runs.cut (fun ρ H n => (ρ 2 = pA (n1 + 1) 2 ∧ ρ 3 = pA n4 3) ∧ H (n1 + 1, 2) = some ⟨3, [[str [], int 0, int 0]]⟩ ∧ H (n4, 3) = some ⟨3, [[str a.name, int a.ports, int a.kind]]⟩) (by refine ⟨?_, ?_, ?_⟩ <;> simp [hh, m1_1, m2_2, m3_4]) ?_
 clear hh m1_1 m2_2 m3_4
 rintro ρ H n9 ⟨hh, m2_2, m3_4⟩
 refine zE fun k' hk' => ?_
 simp [hh, m2_2, m3_4]
 apply hk'
 refine Runs.cut (fun ρ H n => ρ 2 = pA (n1 + 1) 2 ∧ H (n1 + 1, 2) = some ⟨3, [[str a.name, int a.ports, int a.kind]]⟩) (by refine ⟨?_, ?_⟩ <;> simp [hh, m2_2, m3_4]) ?_
 clear hh m2_2 m3_4
 rintro ρ H n10 ⟨hh, m2_2⟩
 exact Runs.res1 Ty_ok (v := .agg [str a.name, int a.ports, int a.kind]) Tryz.func38 Tryz.results38 (by simp [hh, m2_2, resA]) (hQ _ _ _ _ (.of (.aggL (.cons (.v _) (.cons (.v _) (.cons (.v _) .nil))))) ⟨a, h, rfl⟩)
theorem toControl_ok (a : Control)  : PureC Tryz.prog 38 [.agg [str a.name, int a.ports, int a.kind]] (fun r => r = .agg [str ((toControl a).name), int ((toControl a).ports), int ((toControl a).kind)]) := (toControl_walk a _ (toControl_vc a )).mono (by rintro _ ⟨_, rfl, rfl⟩; rfl)
theorem e10 : Ent Tryz.prog 10 := Ent.of Tryz.func10 (by kernel_rfl) rfl
theorem toControlS_walk (a : List Control) (Z : (List Control) → Prop) (h : toControlS_wp a Z) : OwnS Tryz.prog 10 [.list false (a.map Control.cells)] (.s [.c, .c, .c]) (fun r => ∃ y : List Control, Z y ∧ r = .list true (y.map Control.cells)) := by
 unfold toControlS_wp at h
 have sp : Sep noHeap 0 [] [] := Sep.nil (by simp)
 refine OwnS.of Tryz.func10 rfl Tryz.ntmps10 (by simp) fun Q hQ => ?_
 refine Runs.cut (fun ρ H n => ρ 0 = .list false (a.map Control.cells) ∧ Sep H n [] []) (by refine ⟨?_, sp⟩ <;> simp ) ?_
 rintro ρ H n1 ⟨hh, sp⟩
 refine zE fun k' hk' => ?_
 simp [hh]
 apply hk'
 refine zE fun k' hk' => ?_
 obtain ⟨len2, elen2, h⟩ := atm h
 have f3 := fun H => len_list (H := H) (fr := false) (f := Control.cells) kd_22 elen2
 obtain ⟨hb4, h⟩ := h
 obtain ⟨l5, el5, h⟩ := atm h
 simp [hh, f3, hb4, el5, -lenF]
 apply hk'
 refine Runs.cut (fun ρ H n => ∃ (v7 : AVal), (ρ 0 = .list false (a.map Control.cells) ∧ ρ 3 = v7) ∧ Sep H n [oE [.c, .c, .c] Control.cells v7 l5] []) (by refine ⟨.arr (n1, 7) len2.toNat 0 len2.toNat, ?_, (by rw [el5]; exact Sep.addRep (z := [str [], int 0, int 0]) (f := Control.cells) (k := len2.toNat) sp (fun H => by show Row H [.c, .c, .c] [str [], int 0, int 0] [str [], int 0, int 0] []; simp [Row, Tr]))⟩ <;> simp [hh, f3, hb4, el5, -lenF]) ?_
 clear hh
 rintro ρ H n8 ⟨v7, hh, sp⟩
 refine Runs.seq ?_
 refine zE fun k' hk' => ?_
 simp [hh]
 apply hk'
 refine Runs.block ?_
 refine Runs.loopW h (fun (sJ : Int × (List Control)) ρ H n => match sJ with | (i16, l17) => ∃ (v18 : AVal), (ρ 0 = .list false (a.map Control.cells) ∧ ρ 3 = v18 ∧ ρ 4 = int i16) ∧ Sep H n [oE [.c, .c, .c] Control.cells v18 l17] []) (by refine ⟨v7, ?_, sp⟩ <;> simp [hh]) ?_
 clear hh
 rintro ⟨i16, l17⟩ ρ H n19 K h ⟨v18, hh, sp⟩ IH20
 refine Runs.seq ?_
 refine zE fun k' hk' => ?_
 obtain ⟨len22, elen22, h⟩ := atm h
 have f23 := fun H => len_list (H := H) (fr := false) (f := Control.cells) kd_22 elen22
 obtain ⟨c24, ec24, h⟩ := atm h
 have f25 := ib_lss (k := .i64) ec24
 simp [hh, f23, f25, -intBin, -lenF]
 apply hk'
 refine Runs.ite (b := c24) (by simp [hh]) (fun dc24 => ?_) (fun dc24 => ?_)
 ·replace h := h.1 dc24
  refine Runs.skip ?_
  refine Runs.seq ?_
  refine Runs.block ?_
  refine zF fun k' hk' => ?_
  obtain ⟨hb26, h⟩ := h
  obtain ⟨x27, ex27, h⟩ := atm h
  have f28 := fun H => ix_list (H := H) (fr := false) (f := Control.cells) (k := .i64) kd_22 (fun _ => rfl) hb26 ex27
  obtain ⟨r29, er29, h⟩ := atm h
  simp [hh, f28, dc24, -indexAddrF]
  refine RunK.callA Ty_ok (toControl_ok x27 ) e38 (.cons (ArgOk.agg (.cons (.v _ _ _) (.cons (.v _ _ _) (.cons (.v _ _ _) .nil)))) .nil) (by decide) (by decide) rfl (by simp [hh, f28, dc24, -indexAddrF]) ?_
  rintro _ rfl
  rw [← er29]
  obtain ⟨hb30, h⟩ := h
  obtain ⟨id31, hv, mo32, ln33, ni34⟩ := Sep.openF sp (by simp) hb30
  subst hv
  obtain ⟨x35, ex35, h⟩ := atm h
  have f36 := fun H (hm : H id31 = some ⟨3, l17.map Control.cells⟩) => ix_arr (H := H) (k := .i64) (off := 0) (len := l17.length) (g := l17.length) kd_33 hm (by simp) rfl hb30
  have f37 := at_some (q := i16.toNat) hb30 ex35 rfl
  obtain ⟨l38, el38, h⟩ := atm h
  simp [hh, mo32, f28, f36, f37, dc24, -indexAddrF, -storeF]
  refine bind_store (q := i16.toNat) (news := Control.cells r29) [] [] sp (by simp) (by simp; omega) (by simp) (by simp [-one1, o1x]) (Fill.v _ (Fill.v _ (Fill.v _ Fill.nil))) ?_
  rintro H39 sp hfr40
  replace sp : Sep H39 n19 [oE [.c, .c, .c] Control.cells (.arr id31 l17.length 0 l17.length) l38] [] := Sep.st el38 sp
  simp [hh, f28, f36, f37, dc24, -indexAddrF]
  apply hk'
  refine Runs.cut (fun ρ H n => ∃ (v42 : AVal), (ρ 0 = .list false (a.map Control.cells) ∧ ρ 3 = v42 ∧ ρ 4 = int i16) ∧ Sep H n [oE [.c, .c, .c] Control.cells v42 l38] []) (by refine ⟨.arr id31 l17.length 0 l17.length, ?_, sp⟩ <;> simp [hh, f28, f36, f37, dc24, -indexAddrF]) ?_
  clear hh
  rintro ρ H n43 ⟨v42, hh, sp⟩
  refine Runs.inBlock ?_
  refine zF fun k' hk' => ?_
  obtain ⟨hb44, h⟩ := h
  obtain ⟨v45, ev45, h⟩ := atm h
  have f46 := ib_add hb44 ev45
  simp [hh, f46, -intBin]
  apply hk'
  refine IH20 (v45, l38) _ _ _ h (by refine ⟨v42, ?_, sp⟩ <;> simp [hh])
 replace h := h.2 dc24
 refine Runs.exit rfl ?_
 refine zE fun k' hk' => ?_
 simp [hh, dc24]
 apply hk'
 exact Runs.ret1 (v := v18) Tryz.func10 Tryz.results10 (by simp [hh, dc24]) (hQ _ _ _ _ (Sep.sub (ids' := []) sp (by simp)) ⟨l17, h, rfl⟩)
theorem toControlS_ok (a : List Control) (hp : toControlS_pre a) : OwnS Tryz.prog 10 [.list false (a.map Control.cells)] (.s [.c, .c, .c]) (fun r => r = .list true ((toControlS a).map Control.cells)) := (toControlS_walk a _ (toControlS_vc a hp)).mono (by rintro _ ⟨_, rfl, rfl⟩; rfl)
theorem e77 : Ent Tryz.prog 77 := Ent.of Tryz.func77 (by kernel_rfl) rfl
theorem toWire_walk (a : Wire) (Z : Wire → Prop) (h : toWire_wp a Z) : PureC Tryz.prog 77 [.agg [str a.name, int a.link]] (fun r => ∃ y : Wire, Z y ∧ r = .agg [str y.name, int y.link]) := by
 unfold toWire_wp at h
 refine PureC.of Tryz.func77 rfl Tryz.ntmps77 (by simp) fun Q hQ => ?_
 refine Runs.cut (fun ρ H n => ρ 0 = .agg [str a.name, int a.link]) (by simp []) ?_
 rintro ρ H n1 hh
 refine zE fun k' hk' => ?_
 simp [hh]
 apply hk'
 refine Runs.cut (fun ρ H n => (ρ 1 = pA n1 1 ∧ ρ 2 = pA (n1 + 1) 2) ∧ H (n1, 1) = some ⟨2, [[str a.name, int a.link]]⟩ ∧ H (n1 + 1, 2) = some ⟨2, [[str [], int 0]]⟩) (by refine ⟨?_, ?_, ?_⟩ <;> simp [hh]) ?_
 clear hh
 rintro ρ H n4 ⟨hh, m1_1, m2_2⟩
 refine zE fun k' hk' => ?_
 simp [hh, m1_1, m2_2]
 apply hk'
 refine Runs.cut (fun ρ H n => (ρ 1 = pA n1 1 ∧ ρ 2 = pA (n1 + 1) 2 ∧ ρ 3 = pA n4 3) ∧ H (n1, 1) = some ⟨2, [[str a.name, int a.link]]⟩ ∧ H (n1 + 1, 2) = some ⟨2, [[str [], int 0]]⟩ ∧ H (n4, 3) = some ⟨2, [[str [], int 0]]⟩) (by refine ⟨?_, ?_, ?_, ?_⟩ <;> simp [hh, m1_1, m2_2]) ?_
 clear hh m1_1 m2_2
 rintro ρ H n6 ⟨hh, m1_1, m2_2, m3_4⟩
 refine zE fun k' hk' => ?_
 simp [hh, m1_1, m2_2, m3_4]
 apply hk'
 refine Runs.cut (fun ρ H n => (ρ 1 = pA n1 1 ∧ ρ 2 = pA (n1 + 1) 2 ∧ ρ 3 = pA n4 3) ∧ H (n1, 1) = some ⟨2, [[str a.name, int a.link]]⟩ ∧ H (n1 + 1, 2) = some ⟨2, [[str [], int 0]]⟩ ∧ H (n4, 3) = some ⟨2, [[str a.name, int 0]]⟩) (by refine ⟨?_, ?_, ?_, ?_⟩ <;> simp [hh, m1_1, m2_2, m3_4]) ?_
 clear hh m1_1 m2_2 m3_4
 rintro ρ H n7 ⟨hh, m1_1, m2_2, m3_4⟩
 refine zE fun k' hk' => ?_
 simp [hh, m1_1, m2_2, m3_4]
 apply hk'
 refine Runs.cut (fun ρ H n => (ρ 2 = pA (n1 + 1) 2 ∧ ρ 3 = pA n4 3) ∧ H (n1 + 1, 2) = some ⟨2, [[str [], int 0]]⟩ ∧ H (n4, 3) = some ⟨2, [[str a.name, int a.link]]⟩) (by refine ⟨?_, ?_, ?_⟩ <;> simp [hh, m1_1, m2_2, m3_4]) ?_
 clear hh m1_1 m2_2 m3_4
 rintro ρ H n8 ⟨hh, m2_2, m3_4⟩
 refine zE fun k' hk' => ?_
 simp [hh, m2_2, m3_4]
 apply hk'
 refine Runs.cut (fun ρ H n => ρ 2 = pA (n1 + 1) 2 ∧ H (n1 + 1, 2) = some ⟨2, [[str a.name, int a.link]]⟩) (by refine ⟨?_, ?_⟩ <;> simp [hh, m2_2, m3_4]) ?_
 clear hh m2_2 m3_4
 rintro ρ H n9 ⟨hh, m2_2⟩
 exact Runs.res1 Ty_ok (v := .agg [str a.name, int a.link]) Tryz.func77 Tryz.results77 (by simp [hh, m2_2, resA]) (hQ _ _ _ _ (.of (.aggL (.cons (.v _) (.cons (.v _) .nil)))) ⟨a, h, rfl⟩)
theorem toWire_ok (a : Wire)  : PureC Tryz.prog 77 [.agg [str a.name, int a.link]] (fun r => r = .agg [str ((toWire a).name), int ((toWire a).link)]) := (toWire_walk a _ (toWire_vc a )).mono (by rintro _ ⟨_, rfl, rfl⟩; rfl)
theorem e42 : Ent Tryz.prog 42 := Ent.of Tryz.func42 (by kernel_rfl) rfl
theorem toWireS_walk (a : List Wire) (Z : (List Wire) → Prop) (h : toWireS_wp a Z) : OwnS Tryz.prog 42 [.list false (a.map Wire.cells)] (.s [.c, .c]) (fun r => ∃ y : List Wire, Z y ∧ r = .list true (y.map Wire.cells)) := by
 unfold toWireS_wp at h
 have sp : Sep noHeap 0 [] [] := Sep.nil (by simp)
 refine OwnS.of Tryz.func42 rfl Tryz.ntmps42 (by simp) fun Q hQ => ?_
 refine Runs.cut (fun ρ H n => ρ 0 = .list false (a.map Wire.cells) ∧ Sep H n [] []) (by refine ⟨?_, sp⟩ <;> simp ) ?_
 rintro ρ H n1 ⟨hh, sp⟩
 refine zE fun k' hk' => ?_
 simp [hh]
 apply hk'
 refine zE fun k' hk' => ?_
 obtain ⟨len2, elen2, h⟩ := atm h
 have f3 := fun H => len_list (H := H) (fr := false) (f := Wire.cells) kd_26 elen2
 obtain ⟨hb4, h⟩ := h
 obtain ⟨l5, el5, h⟩ := atm h
 simp [hh, f3, hb4, el5, -lenF]
 apply hk'
 refine Runs.cut (fun ρ H n => ∃ (v7 : AVal), (ρ 0 = .list false (a.map Wire.cells) ∧ ρ 3 = v7) ∧ Sep H n [oW v7 l5] []) (by refine ⟨.arr (n1, 7) len2.toNat 0 len2.toNat, ?_, (by rw [el5]; exact Sep.addRep (z := [str [], int 0]) (f := Wire.cells) (k := len2.toNat) sp (fun H => by show Row H [.c, .c] [str [], int 0] [str [], int 0] []; simp [Row, Tr]))⟩ <;> simp [hh, f3, hb4, el5, -lenF]) ?_
 clear hh
 rintro ρ H n8 ⟨v7, hh, sp⟩
 refine Runs.seq ?_
 refine zE fun k' hk' => ?_
 simp [hh]
 apply hk'
 refine Runs.block ?_
 refine Runs.loopW h (fun (sJ : Int × (List Wire)) ρ H n => match sJ with | (i16, l17) => ∃ (v18 : AVal), (ρ 0 = .list false (a.map Wire.cells) ∧ ρ 3 = v18 ∧ ρ 4 = int i16) ∧ Sep H n [oW v18 l17] []) (by refine ⟨v7, ?_, sp⟩ <;> simp [hh]) ?_
 clear hh
 rintro ⟨i16, l17⟩ ρ H n19 K h ⟨v18, hh, sp⟩ IH20
 refine Runs.seq ?_
 refine zE fun k' hk' => ?_
 obtain ⟨len22, elen22, h⟩ := atm h
 have f23 := fun H => len_list (H := H) (fr := false) (f := Wire.cells) kd_26 elen22
 obtain ⟨c24, ec24, h⟩ := atm h
 have f25 := ib_lss (k := .i64) ec24
 simp [hh, f23, f25, -intBin, -lenF]
 apply hk'
 refine Runs.ite (b := c24) (by simp [hh]) (fun dc24 => ?_) (fun dc24 => ?_)
 ·replace h := h.1 dc24
  refine Runs.skip ?_
  refine Runs.seq ?_
  refine Runs.block ?_
  refine zF fun k' hk' => ?_
  obtain ⟨hb26, h⟩ := h
  obtain ⟨x27, ex27, h⟩ := atm h
  have f28 := fun H => ix_list (H := H) (fr := false) (f := Wire.cells) (k := .i64) kd_26 (fun _ => rfl) hb26 ex27
  obtain ⟨r29, er29, h⟩ := atm h
  simp [hh, f28, dc24, -indexAddrF]
  refine RunK.callA Ty_ok (toWire_ok x27 ) e77 (.cons (ArgOk.agg (.cons (.v _ _ _) (.cons (.v _ _ _) .nil))) .nil) (by decide) (by decide) rfl (by simp [hh, f28, dc24, -indexAddrF]) ?_
  rintro _ rfl
  rw [← er29]
  obtain ⟨hb30, h⟩ := h
  obtain ⟨id31, hv, mo32, ln33, ni34⟩ := Sep.openF sp (by simp) hb30
  subst hv
  obtain ⟨x35, ex35, h⟩ := atm h
  have f36 := fun H (hm : H id31 = some ⟨2, l17.map Wire.cells⟩) => ix_arr (H := H) (k := .i64) (off := 0) (len := l17.length) (g := l17.length) kd_36 hm (by simp) rfl hb30
  have f37 := at_some (q := i16.toNat) hb30 ex35 rfl
  obtain ⟨l38, el38, h⟩ := atm h
  simp [hh, mo32, f28, f36, f37, dc24, -indexAddrF, -storeF]
  refine bind_store (q := i16.toNat) (news := Wire.cells r29) [] [] sp (by simp) (by simp; omega) (by simp) (by simp [-one1, o1x]) (Fill.v _ (Fill.v _ Fill.nil)) ?_
  rintro H39 sp hfr40
  replace sp : Sep H39 n19 [oW (.arr id31 l17.length 0 l17.length) l38] [] := Sep.st el38 sp
  simp [hh, f28, f36, f37, dc24, -indexAddrF]
  apply hk'
  refine Runs.cut (fun ρ H n => ∃ (v42 : AVal), (ρ 0 = .list false (a.map Wire.cells) ∧ ρ 3 = v42 ∧ ρ 4 = int i16) ∧ Sep H n [oW v42 l38] []) (by refine ⟨.arr id31 l17.length 0 l17.length, ?_, sp⟩ <;> simp [hh, f28, f36, f37, dc24, -indexAddrF]) ?_
  clear hh
  rintro ρ H n43 ⟨v42, hh, sp⟩
  refine Runs.inBlock ?_
  refine zF fun k' hk' => ?_
  obtain ⟨hb44, h⟩ := h
  obtain ⟨v45, ev45, h⟩ := atm h
  have f46 := ib_add hb44 ev45
  simp [hh, f46, -intBin]
  apply hk'
  refine IH20 (v45, l38) _ _ _ h (by refine ⟨v42, ?_, sp⟩ <;> simp [hh])
 replace h := h.2 dc24
 refine Runs.exit rfl ?_
 refine zE fun k' hk' => ?_
 simp [hh, dc24]
 apply hk'
 exact Runs.ret1 (v := v18) Tryz.func42 Tryz.results42 (by simp [hh, dc24]) (hQ _ _ _ _ (Sep.sub (ids' := []) sp (by simp)) ⟨l17, h, rfl⟩)
theorem toWireS_ok (a : List Wire) (hp : toWireS_pre a) : OwnS Tryz.prog 42 [.list false (a.map Wire.cells)] (.s [.c, .c]) (fun r => r = .list true ((toWireS a).map Wire.cells)) := (toWireS_walk a _ (toWireS_vc a hp)).mono (by rintro _ ⟨_, rfl, rfl⟩; rfl)
theorem e76 : Ent Tryz.prog 76 := Ent.of Tryz.func76 (by kernel_rfl) rfl
theorem toNode_walk (a : GNode) (Z : GNode → Prop) (h : toNode_wp a Z) : OwnS Tryz.prog 76 [.agg [int a.control, int a.parent, .list false (a.links.map intC)]] (.a [.c, .c, .s [.c]]) (fun r => ∃ y : GNode, Z y ∧ r = .agg [int y.control, int y.parent, .list true (y.links.map intC)]) := by
 unfold toNode_wp at h
 have sp : Sep noHeap 0 [] [] := Sep.nil (by simp)
 refine OwnS.of Tryz.func76 rfl Tryz.ntmps76 (by simp) fun Q hQ => ?_
 refine Runs.cut (fun ρ H n => ρ 0 = .agg [int a.control, int a.parent, .list false (a.links.map intC)] ∧ Sep H n [] []) (by refine ⟨?_, sp⟩ <;> simp ) ?_
 rintro ρ H n1 ⟨hh, sp⟩
 refine zE fun k' hk' => ?_
 simp [hh]
 apply hk'
 refine Runs.cut (fun ρ H n => (ρ 1 = pA n1 1 ∧ ρ 2 = pA (n1 + 1) 2) ∧ H (n1, 1) = some ⟨3, [[int a.control, int a.parent, .list false (a.links.map intC)]]⟩ ∧ H (n1 + 1, 2) = some ⟨3, [[int 0, int 0, .v (.slice none 0 0)]]⟩ ∧ Sep H n [] [(n1 + 1, 2), (n1, 1)]) (by refine ⟨?_, ?_, ?_, sp.var.var⟩ <;> simp [hh]) ?_
 clear hh
 rintro ρ H n4 ⟨hh, m1_1, m2_2, sp⟩
 refine zE fun k' hk' => ?_
 simp [hh, m1_1, m2_2]
 apply hk'
 refine Runs.cut (fun ρ H n => (ρ 1 = pA n1 1 ∧ ρ 2 = pA (n1 + 1) 2 ∧ ρ 3 = pA n4 3) ∧ H (n1, 1) = some ⟨3, [[int a.control, int a.parent, .list false (a.links.map intC)]]⟩ ∧ H (n1 + 1, 2) = some ⟨3, [[int 0, int 0, .v (.slice none 0 0)]]⟩ ∧ H (n4, 3) = some ⟨3, [[int 0, int 0, .v (.slice none 0 0)]]⟩ ∧ Sep H n [] [(n4, 3), (n1 + 1, 2), (n1, 1)]) (by refine ⟨?_, ?_, ?_, ?_, sp.var⟩ <;> simp [hh, m1_1, m2_2]) ?_
 clear hh m1_1 m2_2
 rintro ρ H n6 ⟨hh, m1_1, m2_2, m3_4, sp⟩
 refine zE fun k' hk' => ?_
 simp [hh, m1_1, m2_2, m3_4]
 apply hk'
 refine Runs.cut (fun ρ H n => (ρ 1 = pA n1 1 ∧ ρ 2 = pA (n1 + 1) 2 ∧ ρ 3 = pA n4 3) ∧ H (n1, 1) = some ⟨3, [[int a.control, int a.parent, .list false (a.links.map intC)]]⟩ ∧ H (n1 + 1, 2) = some ⟨3, [[int 0, int 0, .v (.slice none 0 0)]]⟩ ∧ H (n4, 3) = some ⟨3, [[int a.control, int 0, .v (.slice none 0 0)]]⟩ ∧ Sep H n [] [(n4, 3), (n1 + 1, 2), (n1, 1)]) (by refine ⟨?_, ?_, ?_, ?_, (Sep.setVar (w := (n4, 3)) sp (by simp))⟩ <;> simp [hh, m1_1, m2_2, m3_4]) ?_
 clear hh m1_1 m2_2 m3_4
 rintro ρ H n7 ⟨hh, m1_1, m2_2, m3_4, sp⟩
 refine zE fun k' hk' => ?_
 simp [hh, m1_1, m2_2, m3_4]
 apply hk'
 refine Runs.cut (fun ρ H n => (ρ 1 = pA n1 1 ∧ ρ 2 = pA (n1 + 1) 2 ∧ ρ 3 = pA n4 3) ∧ H (n1, 1) = some ⟨3, [[int a.control, int a.parent, .list false (a.links.map intC)]]⟩ ∧ H (n1 + 1, 2) = some ⟨3, [[int 0, int 0, .v (.slice none 0 0)]]⟩ ∧ H (n4, 3) = some ⟨3, [[int a.control, int a.parent, .v (.slice none 0 0)]]⟩ ∧ Sep H n [] [(n4, 3), (n1 + 1, 2), (n1, 1)]) (by refine ⟨?_, ?_, ?_, ?_, (Sep.setVar (w := (n4, 3)) sp (by simp))⟩ <;> simp [hh, m1_1, m2_2, m3_4]) ?_
 clear hh m1_1 m2_2 m3_4
 rintro ρ H n8 ⟨hh, m1_1, m2_2, m3_4, sp⟩
 refine zE fun k' hk' => ?_
 obtain ⟨hb9, h⟩ := h
 obtain ⟨r10, er10, h⟩ := atm h
 simp [hh, m1_1, m2_2, m3_4]
 refine RunK.callW Ty_ok (toIntS_ok a.links hb9) e40 (.cons (argI false a.links) .nil) sp (by decide) (by decide) rfl (by simp [hh, m1_1, m2_2, m3_4]) ?_
 rintro v11 H12 n13 _ sp rfl hle15 hfr14
 rw [← er10] at sp
 have m1_1 : H12 (n1, 1) = some ⟨3, [[int a.control, int a.parent, .list false (a.links.map intC)]]⟩ := (hfr14 _ (by simp)).trans (by simp [hh, m1_1, m2_2, m3_4, Heap.get_set])
 have m2_2 : H12 (n1 + 1, 2) = some ⟨3, [[int 0, int 0, .v (.slice none 0 0)]]⟩ := (hfr14 _ (by simp)).trans (by simp [hh, m1_1, m2_2, m3_4, Heap.get_set])
 have m3_4 : H12 (n4, 3) = some ⟨3, [[int a.control, int a.parent, .v (.slice none 0 0)]]⟩ := (hfr14 _ (by simp)).trans (by simp [hh, m1_1, m2_2, m3_4, Heap.get_set])
 have f18 := Sep.oc sp
 simp [hh, m1_1, m2_2, m3_4, f18, -cellsA, -one1, cAx, o1x]
 apply hk'
 refine Runs.cut (fun ρ H n => ∃ (v19 : AVal), (ρ 2 = pA (n1 + 1) 2 ∧ ρ 3 = pA n4 3) ∧ H (n1 + 1, 2) = some ⟨3, [[int 0, int 0, .v (.slice none 0 0)]]⟩ ∧ H (n4, 3) = some ⟨3, [[int a.control, int a.parent, v19]]⟩ ∧ Sep H n [oI v19 r10] [(n4, 3), (n1 + 1, 2)]) (by refine ⟨v11, ?_, ?_, ?_, (Sep.sub (Sep.setVar (w := (n4, 3)) sp (by simp)) (by simp +contextual))⟩ <;> simp [hh, m1_1, m2_2, m3_4, f18, -cellsA, -one1, cAx, o1x]) ?_
 clear hh m1_1 m2_2 m3_4
 rintro ρ H n20 ⟨v19, hh, m2_2, m3_4, sp⟩
 refine zE fun k' hk' => ?_
 have f21 := Sep.oc sp
 simp [hh, m2_2, m3_4, f21, -cellsA, -one1, cAx, o1x]
 apply hk'
 refine Runs.cut (fun ρ H n => ∃ (v22 : AVal), ρ 2 = pA (n1 + 1) 2 ∧ H (n1 + 1, 2) = some ⟨3, [[int a.control, int a.parent, v22]]⟩ ∧ Sep H n [oI v22 r10] [(n1 + 1, 2)]) (by refine ⟨v19, ?_, ?_, (Sep.sub (Sep.setVar (w := (n1 + 1, 2)) sp (by simp)) (by simp +contextual))⟩ <;> simp [hh, m2_2, m3_4, f21, -cellsA, -one1, cAx, o1x]) ?_
 clear hh m2_2 m3_4
 rintro ρ H n23 ⟨v22, hh, m2_2, sp⟩
 exact Runs.res1 Ty_ok (v := .agg [int a.control, int a.parent, v22]) Tryz.func76 Tryz.results76 (by simp [hh, m2_2, resA]) (hQ _ _ _ _ (Sep.sub (ids' := []) (Sep.pack (Fill.v _ (Fill.v _ (Fill.own Fill.nil))) sp) (by simp)) ⟨(GNode.mk a.control a.parent r10), h, rfl⟩)
theorem toNode_ok (a : GNode) (hp : toNode_pre a) : OwnS Tryz.prog 76 [.agg [int a.control, int a.parent, .list false (a.links.map intC)]] (.a [.c, .c, .s [.c]]) (fun r => r = .agg [int ((toNode a).control), int ((toNode a).parent), .list true (((toNode a).links).map intC)]) := (toNode_walk a _ (toNode_vc a hp)).mono (by rintro _ ⟨_, rfl, rfl⟩; rfl)
theorem e39 : Ent Tryz.prog 39 := Ent.of Tryz.func39 (by kernel_rfl) rfl
theorem toNodeS_walk (a : List GNode) (Z : (List GNode) → Prop) (h : toNodeS_wp a Z) : OwnS Tryz.prog 39 [.list false (a.map (GNode.cells false))] (.s [.c, .c, .s [.c]]) (fun r => ∃ y : List GNode, Z y ∧ r = .list true (y.map (GNode.cells true))) := by
 unfold toNodeS_wp at h
 have sp : Sep noHeap 0 [] [] := Sep.nil (by simp)
 refine OwnS.of Tryz.func39 rfl Tryz.ntmps39 (by simp) fun Q hQ => ?_
 refine Runs.cut (fun ρ H n => ρ 0 = .list false (a.map (GNode.cells false)) ∧ Sep H n [] []) (by refine ⟨?_, sp⟩ <;> simp ) ?_
 rintro ρ H n1 ⟨hh, sp⟩
 refine zE fun k' hk' => ?_
 simp [hh]
 apply hk'
 refine zE fun k' hk' => ?_
 obtain ⟨len2, elen2, h⟩ := atm h
 have f3 := fun H => len_list (H := H) (fr := false) (f := (GNode.cells false)) kd_23 elen2
 obtain ⟨hb4, h⟩ := h
 obtain ⟨l5, el5, h⟩ := atm h
 simp [hh, f3, hb4, el5, -lenF]
 apply hk'
 refine Runs.cut (fun ρ H n => ∃ (v7 : AVal), (ρ 0 = .list false (a.map (GNode.cells false)) ∧ ρ 3 = v7) ∧ Sep H n [oN v7 l5] []) (by refine ⟨.arr (n1, 7) len2.toNat 0 len2.toNat, ?_, (by rw [el5]; exact Sep.addRep (z := [int 0, int 0, .v (.slice none 0 0)]) (f := (GNode.cells true)) (k := len2.toNat) sp (fun H => by show Row H [.c, .c, .s [.c]] [int 0, int 0, .v (.slice none 0 0)] [int 0, int 0, .list true []] []; simp [Row, Tr]))⟩ <;> simp [hh, f3, hb4, el5, -lenF]) ?_
 clear hh
 rintro ρ H n8 ⟨v7, hh, sp⟩
 refine Runs.seq ?_
 refine zE fun k' hk' => ?_
 simp [hh]
 apply hk'
 refine Runs.block ?_
 refine Runs.loopW h (fun (sJ : Int × (List GNode)) ρ H n => match sJ with | (i16, l17) => ∃ (v18 : AVal), (ρ 0 = .list false (a.map (GNode.cells false)) ∧ ρ 3 = v18 ∧ ρ 4 = int i16) ∧ Sep H n [oN v18 l17] []) (by refine ⟨v7, ?_, sp⟩ <;> simp [hh]) ?_
 clear hh
 rintro ⟨i16, l17⟩ ρ H n19 K h ⟨v18, hh, sp⟩ IH20
 refine Runs.seq ?_
 refine zE fun k' hk' => ?_
 obtain ⟨len22, elen22, h⟩ := atm h
 have f23 := fun H => len_list (H := H) (fr := false) (f := (GNode.cells false)) kd_23 elen22
 obtain ⟨c24, ec24, h⟩ := atm h
 have f25 := ib_lss (k := .i64) ec24
 simp [hh, f23, f25, -intBin, -lenF]
 apply hk'
 refine Runs.ite (b := c24) (by simp [hh]) (fun dc24 => ?_) (fun dc24 => ?_)
 ·replace h := h.1 dc24
  refine Runs.skip ?_
  refine Runs.seq ?_
  refine Runs.block ?_
  refine zF fun k' hk' => ?_
  obtain ⟨hb26, h⟩ := h
  obtain ⟨x27, ex27, h⟩ := atm h
  have f28 := fun H => ix_list (H := H) (fr := false) (f := (GNode.cells false)) (k := .i64) kd_23 (fun _ => rfl) hb26 ex27
  obtain ⟨hb29, h⟩ := h
  obtain ⟨r30, er30, h⟩ := atm h
  simp [hh, f28, dc24, -indexAddrF]
  refine RunK.callW Ty_ok (toNode_ok x27 hb29) e76 (.cons (ArgOk.agg (.cons (.v _ _ _) (.cons (.v _ _ _) (.cons (argI false x27.links) .nil)))) .nil) sp (by decide) (by decide) rfl (by simp [hh, f28, dc24, -indexAddrF]) ?_
  rintro v31 H32 n33 _ sp rfl hle35 hfr34
  rw [← er30] at sp
  replace sp := Sep.unpack sp
  obtain ⟨L40, hv, hl41, sp⟩ := sp
  subst hv
  obtain ⟨v37, v38, v39, hv⟩ := len3 (by simpa using hl41)
  subst hv
  simp only [zip3, List.cons_append, List.nil_append] at sp
  replace sp := Sep.scalar sp
  obtain ⟨hv, sp⟩ := sp
  subst hv
  replace sp := Sep.scalar sp
  obtain ⟨hv, sp⟩ := sp
  subst hv
  replace sp := Sep.rot sp
  try simp only [List.cons_append, List.nil_append, List.append_assoc] at sp
  replace sp : Sep H32 n33 [oN v18 l17, oI v39 r30.links] [] := sp
  obtain ⟨hb43, h⟩ := h
  obtain ⟨x44, ex44, h⟩ := atm h
  obtain ⟨id45, els46, row47, W48, hq49, mo50, moL51, moR52, hrl53, hW54, hsub55, hni56, spr57, hcl58⟩ := Sep.rowF (q := i16.toNat) (f := (GNode.cells true)) sp hb43 ex44 rfl
  subst hq49
  obtain ⟨c59, c60, c61, hq49⟩ := len3 (by simpa using hrl53)
  subst hq49
  replace spr57 : Sep _ _ [(.c, c59, int x44.control), (.c, c60, int x44.parent), (.s [.c], c61, .list true (x44.links.map intC))] W48 := spr57
  obtain rfl := Sep.cAt (K1 := []) (K2 := [(.c, c60, int x44.parent), (.s [.c], c61, .list true (x44.links.map intC))]) spr57
  obtain rfl := Sep.cAt (K1 := [(.c, int x44.control, int x44.control)]) (K2 := [(.s [.c], c61, .list true (x44.links.map intC))]) spr57
  have f62 := ix_arr (k := .i64) (off := 0) (len := l17.length) kd_35 mo50 moL51 rfl hb43
  obtain ⟨l63, el63, h⟩ := atm h
  simp [hh, mo50, moL51, moR52, f28, f62, dc24, -indexAddrF, -storeF]
  refine bind_store (q := i16.toNat) (news := (GNode.cells true) r30) [oI v39 r30.links] [] sp (by simp) (by simp; omega) (by simp) (by simp [-one1, o1x, Sep.one1 sp.dr]) (Fill.v _ (Fill.v _ (Fill.own Fill.nil))) ?_
  rintro H64 sp hfr65
  replace sp : Sep H64 n33 [oN (.arr id45 l17.length 0 l17.length) l63] [] := Sep.st el63 sp
  simp [hh, f28, f62, dc24, -indexAddrF]
  apply hk'
  refine Runs.cut (fun ρ H n => ∃ (v67 : AVal), (ρ 0 = .list false (a.map (GNode.cells false)) ∧ ρ 3 = v67 ∧ ρ 4 = int i16) ∧ Sep H n [oN v67 l63] []) (by refine ⟨.arr id45 l17.length 0 l17.length, ?_, sp⟩ <;> simp [hh, f28, f62, dc24, -indexAddrF]) ?_
  clear hh
  rintro ρ H n68 ⟨v67, hh, sp⟩
  refine Runs.inBlock ?_
  refine zF fun k' hk' => ?_
  obtain ⟨hb69, h⟩ := h
  obtain ⟨v70, ev70, h⟩ := atm h
  have f71 := ib_add hb69 ev70
  simp [hh, f71, -intBin]
  apply hk'
  refine IH20 (v70, l63) _ _ _ h (by refine ⟨v67, ?_, sp⟩ <;> simp [hh])
 replace h := h.2 dc24
 refine Runs.exit rfl ?_
 refine zE fun k' hk' => ?_
 simp [hh, dc24]
 apply hk'
 exact Runs.ret1 (v := v18) Tryz.func39 Tryz.results39 (by simp [hh, dc24]) (hQ _ _ _ _ (Sep.sub (ids' := []) sp (by simp)) ⟨l17, h, rfl⟩)
theorem toNodeS_ok (a : List GNode) (hp : toNodeS_pre a) : OwnS Tryz.prog 39 [.list false (a.map (GNode.cells false))] (.s [.c, .c, .s [.c]]) (fun r => r = .list true ((toNodeS a).map (GNode.cells true))) := (toNodeS_walk a _ (toNodeS_vc a hp)).mono (by rintro _ ⟨_, rfl, rfl⟩; rfl)
theorem e11 : Ent Tryz.prog 11 := Ent.of Tryz.func11 (by kernel_rfl) rfl
theorem toBigraph_walk (a : Big) (Z : Big → Prop) (h : toBigraph_wp a Z) : OwnS Tryz.prog 11 [.agg (bC false a)] (.a [.c, .s [.c, .c, .s [.c]], .s [.c], .c, .s [.c], .s [.c, .c]]) (fun r => ∃ y : Big, Z y ∧ r = .agg (bC true y)) := by
 unfold toBigraph_wp at h
 have sp : Sep noHeap 0 [] [] := Sep.nil (by simp)
 refine OwnS.of Tryz.func11 rfl Tryz.ntmps11 (by simp) fun Q hQ => ?_
 refine Runs.cut (fun ρ H n => ρ 0 = .agg (bC false a) ∧ Sep H n [] []) (by refine ⟨?_, sp⟩ <;> simp ) ?_
 rintro ρ H n1 ⟨hh, sp⟩
 refine zE fun k' hk' => ?_
 simp [hh]
 apply hk'
 refine Runs.cut (fun ρ H n => (ρ 1 = pA n1 1 ∧ ρ 2 = pA (n1 + 1) 2) ∧ H (n1, 1) = some ⟨6, [bC false a]⟩ ∧ H (n1 + 1, 2) = some ⟨6, [[int 0, .v (.slice none 0 0), .v (.slice none 0 0), int 0, .v (.slice none 0 0), .v (.slice none 0 0)]]⟩ ∧ Sep H n [] [(n1 + 1, 2), (n1, 1)]) (by refine ⟨?_, ?_, ?_, sp.var.var⟩ <;> simp [hh]) ?_
 clear hh
 rintro ρ H n4 ⟨hh, m1_1, m2_2, sp⟩
 refine zE fun k' hk' => ?_
 simp [hh, m1_1, m2_2]
 apply hk'
 refine Runs.cut (fun ρ H n => (ρ 1 = pA n1 1 ∧ ρ 2 = pA (n1 + 1) 2 ∧ ρ 3 = pA n4 3) ∧ H (n1, 1) = some ⟨6, [bC false a]⟩ ∧ H (n1 + 1, 2) = some ⟨6, [[int 0, .v (.slice none 0 0), .v (.slice none 0 0), int 0, .v (.slice none 0 0), .v (.slice none 0 0)]]⟩ ∧ H (n4, 3) = some ⟨6, [[int 0, .v (.slice none 0 0), .v (.slice none 0 0), int 0, .v (.slice none 0 0), .v (.slice none 0 0)]]⟩ ∧ Sep H n [] [(n4, 3), (n1 + 1, 2), (n1, 1)]) (by refine ⟨?_, ?_, ?_, ?_, sp.var⟩ <;> simp [hh, m1_1, m2_2]) ?_
 clear hh m1_1 m2_2
 rintro ρ H n6 ⟨hh, m1_1, m2_2, m3_4, sp⟩
 refine zE fun k' hk' => ?_
 simp [hh, m1_1, m2_2, m3_4]
 apply hk'
 refine Runs.cut (fun ρ H n => (ρ 1 = pA n1 1 ∧ ρ 2 = pA (n1 + 1) 2 ∧ ρ 3 = pA n4 3) ∧ H (n1, 1) = some ⟨6, [bC false a]⟩ ∧ H (n1 + 1, 2) = some ⟨6, [[int 0, .v (.slice none 0 0), .v (.slice none 0 0), int 0, .v (.slice none 0 0), .v (.slice none 0 0)]]⟩ ∧ H (n4, 3) = some ⟨6, [[int a.roots, .v (.slice none 0 0), .v (.slice none 0 0), int 0, .v (.slice none 0 0), .v (.slice none 0 0)]]⟩ ∧ Sep H n [] [(n4, 3), (n1 + 1, 2), (n1, 1)]) (by refine ⟨?_, ?_, ?_, ?_, (Sep.setVar (w := (n4, 3)) sp (by simp))⟩ <;> simp [hh, m1_1, m2_2, m3_4]) ?_
 clear hh m1_1 m2_2 m3_4
 rintro ρ H n7 ⟨hh, m1_1, m2_2, m3_4, sp⟩
 refine zE fun k' hk' => ?_
 obtain ⟨hb8, h⟩ := h
 obtain ⟨r9, er9, h⟩ := atm h
 simp [hh, m1_1, m2_2, m3_4]
 refine RunK.callW Ty_ok (toNodeS_ok a.nodes hb8) e39 (.cons (ArgOk.nest_Node false a.nodes) .nil) sp (by decide) (by decide) rfl (by simp [hh, m1_1, m2_2, m3_4]) ?_
 rintro v10 H11 n12 _ sp rfl hle14 hfr13
 rw [← er9] at sp
 have m1_1 : H11 (n1, 1) = some ⟨6, [bC false a]⟩ := (hfr13 _ (by simp)).trans (by simp [hh, m1_1, m2_2, m3_4, Heap.get_set])
 have m2_2 : H11 (n1 + 1, 2) = some ⟨6, [[int 0, .v (.slice none 0 0), .v (.slice none 0 0), int 0, .v (.slice none 0 0), .v (.slice none 0 0)]]⟩ := (hfr13 _ (by simp)).trans (by simp [hh, m1_1, m2_2, m3_4, Heap.get_set])
 have m3_4 : H11 (n4, 3) = some ⟨6, [[int a.roots, .v (.slice none 0 0), .v (.slice none 0 0), int 0, .v (.slice none 0 0), .v (.slice none 0 0)]]⟩ := (hfr13 _ (by simp)).trans (by simp [hh, m1_1, m2_2, m3_4, Heap.get_set])
 have f17 := Sep.oc sp
 simp [hh, m1_1, m2_2, m3_4, f17, -cellsA, -one1, cAx, o1x]
 apply hk'
 refine Runs.cut (fun ρ H n => ∃ (v18 : AVal), (ρ 1 = pA n1 1 ∧ ρ 2 = pA (n1 + 1) 2 ∧ ρ 3 = pA n4 3) ∧ H (n1, 1) = some ⟨6, [bC false a]⟩ ∧ H (n1 + 1, 2) = some ⟨6, [[int 0, .v (.slice none 0 0), .v (.slice none 0 0), int 0, .v (.slice none 0 0), .v (.slice none 0 0)]]⟩ ∧ H (n4, 3) = some ⟨6, [[int a.roots, v18, .v (.slice none 0 0), int 0, .v (.slice none 0 0), .v (.slice none 0 0)]]⟩ ∧ Sep H n [oN v18 r9] [(n4, 3), (n1 + 1, 2), (n1, 1)]) (by refine ⟨v10, ?_, ?_, ?_, ?_, (Sep.setVar (w := (n4, 3)) sp (by simp))⟩ <;> simp [hh, m1_1, m2_2, m3_4, f17, -cellsA, -one1, cAx, o1x]) ?_
 clear hh m1_1 m2_2 m3_4
 rintro ρ H n19 ⟨v18, hh, m1_1, m2_2, m3_4, sp⟩
 refine zE fun k' hk' => ?_
 obtain ⟨hb20, h⟩ := h
 obtain ⟨r21, er21, h⟩ := atm h
 simp [hh, m1_1, m2_2, m3_4]
 refine RunK.callW Ty_ok (toIntS_ok a.sites hb20) e40 (.cons (argI false a.sites) .nil) sp (by decide) (by decide) rfl (by simp [hh, m1_1, m2_2, m3_4]) ?_
 rintro v22 H23 n24 _ sp rfl hle26 hfr25
 rw [← er21] at sp
 have m1_1 : H23 (n1, 1) = some ⟨6, [bC false a]⟩ := (hfr25 _ (by simp)).trans (by simp [hh, m1_1, m2_2, m3_4, Heap.get_set])
 have m2_2 : H23 (n1 + 1, 2) = some ⟨6, [[int 0, .v (.slice none 0 0), .v (.slice none 0 0), int 0, .v (.slice none 0 0), .v (.slice none 0 0)]]⟩ := (hfr25 _ (by simp)).trans (by simp [hh, m1_1, m2_2, m3_4, Heap.get_set])
 have m3_4 : H23 (n4, 3) = some ⟨6, [[int a.roots, v18, .v (.slice none 0 0), int 0, .v (.slice none 0 0), .v (.slice none 0 0)]]⟩ := (hfr25 _ (by simp)).trans (by simp [hh, m1_1, m2_2, m3_4, Heap.get_set])
 have f29 := Sep.oc sp
 simp [hh, m1_1, m2_2, m3_4, f29, -cellsA, -one1, cAx, o1x]
 apply hk'
 refine Runs.cut (fun ρ H n => ∃ (v30 v31 : AVal), (ρ 1 = pA n1 1 ∧ ρ 2 = pA (n1 + 1) 2 ∧ ρ 3 = pA n4 3) ∧ H (n1, 1) = some ⟨6, [bC false a]⟩ ∧ H (n1 + 1, 2) = some ⟨6, [[int 0, .v (.slice none 0 0), .v (.slice none 0 0), int 0, .v (.slice none 0 0), .v (.slice none 0 0)]]⟩ ∧ H (n4, 3) = some ⟨6, [[int a.roots, v31, v30, int 0, .v (.slice none 0 0), .v (.slice none 0 0)]]⟩ ∧ Sep H n [oI v30 r21, oN v31 r9] [(n4, 3), (n1 + 1, 2), (n1, 1)]) (by refine ⟨v22, v18, ?_, ?_, ?_, ?_, (Sep.setVar (w := (n4, 3)) sp (by simp))⟩ <;> simp [hh, m1_1, m2_2, m3_4, f29, -cellsA, -one1, cAx, o1x]) ?_
 clear hh m1_1 m2_2 m3_4
 rintro ρ H n32 ⟨v30, v31, hh, m1_1, m2_2, m3_4, sp⟩
 refine zE fun k' hk' => ?_
 simp [hh, m1_1, m2_2, m3_4]
 apply hk'
 refine Runs.cut (fun ρ H n => ∃ (v33 v34 : AVal), (ρ 1 = pA n1 1 ∧ ρ 2 = pA (n1 + 1) 2 ∧ ρ 3 = pA n4 3) ∧ H (n1, 1) = some ⟨6, [bC false a]⟩ ∧ H (n1 + 1, 2) = some ⟨6, [[int 0, .v (.slice none 0 0), .v (.slice none 0 0), int 0, .v (.slice none 0 0), .v (.slice none 0 0)]]⟩ ∧ H (n4, 3) = some ⟨6, [[int a.roots, v34, v33, int a.edges, .v (.slice none 0 0), .v (.slice none 0 0)]]⟩ ∧ Sep H n [oI v33 r21, oN v34 r9] [(n4, 3), (n1 + 1, 2), (n1, 1)]) (by refine ⟨v30, v31, ?_, ?_, ?_, ?_, (Sep.setVar (w := (n4, 3)) sp (by simp))⟩ <;> simp [hh, m1_1, m2_2, m3_4]) ?_
 clear hh m1_1 m2_2 m3_4
 rintro ρ H n35 ⟨v33, v34, hh, m1_1, m2_2, m3_4, sp⟩
 refine zE fun k' hk' => ?_
 obtain ⟨hb36, h⟩ := h
 obtain ⟨r37, er37, h⟩ := atm h
 simp [hh, m1_1, m2_2, m3_4]
 refine RunK.callW Ty_ok (toStringS_ok a.outer hb36) e41 (.cons (argS false a.outer) .nil) sp (by decide) (by decide) rfl (by simp [hh, m1_1, m2_2, m3_4]) ?_
 rintro v38 H39 n40 _ sp rfl hle42 hfr41
 rw [← er37] at sp
 have m1_1 : H39 (n1, 1) = some ⟨6, [bC false a]⟩ := (hfr41 _ (by simp)).trans (by simp [hh, m1_1, m2_2, m3_4, Heap.get_set])
 have m2_2 : H39 (n1 + 1, 2) = some ⟨6, [[int 0, .v (.slice none 0 0), .v (.slice none 0 0), int 0, .v (.slice none 0 0), .v (.slice none 0 0)]]⟩ := (hfr41 _ (by simp)).trans (by simp [hh, m1_1, m2_2, m3_4, Heap.get_set])
 have m3_4 : H39 (n4, 3) = some ⟨6, [[int a.roots, v34, v33, int a.edges, .v (.slice none 0 0), .v (.slice none 0 0)]]⟩ := (hfr41 _ (by simp)).trans (by simp [hh, m1_1, m2_2, m3_4, Heap.get_set])
 have f45 := Sep.oc sp
 simp [hh, m1_1, m2_2, m3_4, f45, -cellsA, -one1, cAx, o1x]
 apply hk'
 refine Runs.cut (fun ρ H n => ∃ (v46 v47 v48 : AVal), (ρ 1 = pA n1 1 ∧ ρ 2 = pA (n1 + 1) 2 ∧ ρ 3 = pA n4 3) ∧ H (n1, 1) = some ⟨6, [bC false a]⟩ ∧ H (n1 + 1, 2) = some ⟨6, [[int 0, .v (.slice none 0 0), .v (.slice none 0 0), int 0, .v (.slice none 0 0), .v (.slice none 0 0)]]⟩ ∧ H (n4, 3) = some ⟨6, [[int a.roots, v48, v47, int a.edges, v46, .v (.slice none 0 0)]]⟩ ∧ Sep H n [oS v46 r37, oI v47 r21, oN v48 r9] [(n4, 3), (n1 + 1, 2), (n1, 1)]) (by refine ⟨v38, v33, v34, ?_, ?_, ?_, ?_, (Sep.setVar (w := (n4, 3)) sp (by simp))⟩ <;> simp [hh, m1_1, m2_2, m3_4, f45, -cellsA, -one1, cAx, o1x]) ?_
 clear hh m1_1 m2_2 m3_4
 rintro ρ H n49 ⟨v46, v47, v48, hh, m1_1, m2_2, m3_4, sp⟩
 refine zE fun k' hk' => ?_
 obtain ⟨hb50, h⟩ := h
 obtain ⟨r51, er51, h⟩ := atm h
 simp [hh, m1_1, m2_2, m3_4]
 refine RunK.callW Ty_ok (toWireS_ok a.inner hb50) e42 (.cons (argW false a.inner) .nil) sp (by decide) (by decide) rfl (by simp [hh, m1_1, m2_2, m3_4]) ?_
 rintro v52 H53 n54 _ sp rfl hle56 hfr55
 rw [← er51] at sp
 have m1_1 : H53 (n1, 1) = some ⟨6, [bC false a]⟩ := (hfr55 _ (by simp)).trans (by simp [hh, m1_1, m2_2, m3_4, Heap.get_set])
 have m2_2 : H53 (n1 + 1, 2) = some ⟨6, [[int 0, .v (.slice none 0 0), .v (.slice none 0 0), int 0, .v (.slice none 0 0), .v (.slice none 0 0)]]⟩ := (hfr55 _ (by simp)).trans (by simp [hh, m1_1, m2_2, m3_4, Heap.get_set])
 have m3_4 : H53 (n4, 3) = some ⟨6, [[int a.roots, v48, v47, int a.edges, v46, .v (.slice none 0 0)]]⟩ := (hfr55 _ (by simp)).trans (by simp [hh, m1_1, m2_2, m3_4, Heap.get_set])
 have f59 := Sep.oc sp
 simp [hh, m1_1, m2_2, m3_4, f59, -cellsA, -one1, cAx, o1x]
 apply hk'
 refine Runs.cut (fun ρ H n => ∃ (v60 v61 v62 v63 : AVal), (ρ 2 = pA (n1 + 1) 2 ∧ ρ 3 = pA n4 3) ∧ H (n1 + 1, 2) = some ⟨6, [[int 0, .v (.slice none 0 0), .v (.slice none 0 0), int 0, .v (.slice none 0 0), .v (.slice none 0 0)]]⟩ ∧ H (n4, 3) = some ⟨6, [[int a.roots, v63, v62, int a.edges, v61, v60]]⟩ ∧ Sep H n [oW v60 r51, oS v61 r37, oI v62 r21, oN v63 r9] [(n4, 3), (n1 + 1, 2)]) (by refine ⟨v52, v46, v47, v48, ?_, ?_, ?_, (Sep.sub (Sep.setVar (w := (n4, 3)) sp (by simp)) (by simp +contextual))⟩ <;> simp [hh, m1_1, m2_2, m3_4, f59, -cellsA, -one1, cAx, o1x]) ?_
 clear hh m1_1 m2_2 m3_4
 rintro ρ H n64 ⟨v60, v61, v62, v63, hh, m2_2, m3_4, sp⟩
 refine zE fun k' hk' => ?_
 have f65 := Sep.oc sp.f3
 have f66 := Sep.oc sp.f2
 have f67 := Sep.oc sp.f1
 have f68 := Sep.oc sp
 simp [hh, m2_2, m3_4, f65, f66, f67, f68, -cellsA, -one1, cAx, o1x]
 apply hk'
 refine Runs.cut (fun ρ H n => ∃ (v69 v70 v71 v72 : AVal), ρ 2 = pA (n1 + 1) 2 ∧ H (n1 + 1, 2) = some ⟨6, [[int a.roots, v72, v71, int a.edges, v70, v69]]⟩ ∧ Sep H n [oW v69 r51, oS v70 r37, oI v71 r21, oN v72 r9] [(n1 + 1, 2)]) (by refine ⟨v60, v61, v62, v63, ?_, ?_, (Sep.sub (Sep.setVar (w := (n1 + 1, 2)) sp (by simp)) (by simp +contextual))⟩ <;> simp [hh, m2_2, m3_4, f65, f66, f67, f68, -cellsA, -one1, cAx, o1x]) ?_
 clear hh m2_2 m3_4
 rintro ρ H n73 ⟨v69, v70, v71, v72, hh, m2_2, sp⟩
 exact Runs.res1 Ty_ok (v := .agg [int a.roots, v72, v71, int a.edges, v70, v69]) Tryz.func11 Tryz.results11 (by simp [hh, m2_2, resA]) (hQ _ _ _ _ (Sep.sub (ids' := []) (Sep.pack (Fill.v _ (Fill.own (Fill.own (Fill.v _ (Fill.own (Fill.own Fill.nil)))))) sp.f1.f2.f3) (by simp)) ⟨(Big.mk a.roots r9 r21 a.edges r37 r51), h, rfl⟩)
theorem toBigraph_ok (a : Big) (hp : toBigraph_pre a) : OwnS Tryz.prog 11 [.agg (bC false a)] (.a [.c, .s [.c, .c, .s [.c]], .s [.c], .c, .s [.c], .s [.c, .c]]) (fun r => r = .agg [int ((toBigraph a).roots), .list true (((toBigraph a).nodes).map (GNode.cells true)), .list true (((toBigraph a).sites).map intC), int ((toBigraph a).edges), .list true (((toBigraph a).outer).map strC), .list true (((toBigraph a).inner).map Wire.cells)]) := (toBigraph_walk a _ (toBigraph_vc a hp)).mono (by rintro _ ⟨_, rfl, rfl⟩; rfl)
theorem e56 : Ent Tryz.prog 56 := Ent.of Tryz.func56 (by kernel_rfl) rfl
theorem markIntS_walk (a : List Int) (k_ : Int) (Z : ((List Int) × Int) → Prop) (h : markIntS_wp a k_ Z) : MutS Tryz.prog 56 (fun v => [v, int k_]) (.s [.c]) (.list true (a.map intC)) (fun e' r => ∃ y : (List Int) × Int, Z y ∧ e' = .list true (y.1.map intC) ∧ r = int y.2) := by
 unfold markIntS_wp at h
 refine MutS.of Tryz.func56 rfl Tryz.ntmps56 (fun _ => by simp) fun H0 n0 v0 K0 ids0 sp Q hQ => ?_
 have h00 := sp.1
 have hid : ∀ i ∈ ids0, H0 i = H0 i := fun _ _ => rfl
 have hnn : n0 ≤ n0 := Nat.le_refl _
 refine Runs.cut (fun ρ H n => (ρ 0 = v0 ∧ ρ 1 = int k_) ∧ n0 ≤ n ∧ (∀ i ∈ ids0, H i = H0 i) ∧ Sep H n (oI v0 a :: K0) (ids0)) (by refine ⟨?_, (by omega), hid, sp⟩ <;> simp ) ?_
 rintro ρ H n2 ⟨hh, hnn, hid, sp⟩
 have hq_n2 := hnn
 refine zE fun k' hk' => ?_
 simp [hh]
 apply hk'
 refine Runs.seq ?_
 refine zE fun k' hk' => ?_
 simp [hh]
 apply hk'
 refine Runs.block ?_
 refine Runs.loopW h (fun (sJ : Int × Int × (List Int)) ρ H n => match sJ with | (k10, i11, l12) => (ρ 0 = v0 ∧ ρ 1 = int k10 ∧ ρ 5 = int i11) ∧ n0 ≤ n ∧ (∀ i ∈ ids0, H i = H0 i) ∧ Sep H n (oI v0 l12 :: K0) (ids0)) (by refine ⟨?_, (by omega), hid, sp⟩ <;> simp [hh]) ?_
 clear hh
 rintro ⟨k10, i11, l12⟩ ρ H n13 K h ⟨hh, hnn, hid, sp⟩ IH14
 have hq_n13 := hnn
 refine Runs.seq ?_
 refine zE fun k' hk' => ?_
 obtain ⟨len16, elen16, h⟩ := atm h
 have f17 := len_own (Sep.len (m := len16) sp kd_24 (by rw [elen16, List.length_map]))
 obtain ⟨c18, ec18, h⟩ := atm h
 have f19 := ib_lss (k := .i64) ec18
 simp [hh, f17, f19, -intBin, -lenF]
 apply hk'
 refine Runs.ite (b := c18) (by simp [hh]) (fun dc18 => ?_) (fun dc18 => ?_)
 ·replace h := h.1 dc18
  refine Runs.skip ?_
  refine Runs.seq ?_
  refine Runs.block ?_
  refine zE fun k' hk' => ?_
  obtain ⟨hb20, h⟩ := h
  obtain ⟨id21, hv, mo22, ln23, ni24⟩ := Sep.openF sp (by simp) hb20
  subst hv
  obtain ⟨x25, ex25, h⟩ := atm h
  have f26 := fun H (hm : H id21 = some ⟨1, l12.map intC⟩) => ix_arr (H := H) (k := .i64) (off := 0) (len := l12.length) (g := l12.length) kd_24 hm (by simp) rfl hb20
  have f27 := at_some (q := i11.toNat) hb20 ex25 rfl
  obtain ⟨l28, el28, h⟩ := atm h
  simp [hh, mo22, f26, f27, dc18, -indexAddrF, -storeF]
  refine bind_store (q := i11.toNat) (news := intC k10) [] (K0) sp (by simp) (by simp; omega) (by simp) (by simp [-one1, o1x]) (Fill.v _ Fill.nil) ?_
  rintro H29 sp hfr30
  replace sp : Sep H29 n13 (oI (.arr id21 l12.length 0 l12.length) l28 :: K0) (ids0) := Sep.st el28 sp
  have hid : ∀ i ∈ ids0, H29 i = H0 i := fun i hi => (hfr30 i (by simp [hi])).trans (hid i hi)
  simp [hh, f26, f27, dc18, -indexAddrF]
  apply hk'
  refine Runs.cut (fun ρ H n => (ρ 0 = .arr id21 l12.length 0 l12.length ∧ ρ 1 = int k10 ∧ ρ 5 = int i11) ∧ n0 ≤ n ∧ (∀ i ∈ ids0, H i = H0 i) ∧ Sep H n (oI (.arr id21 l12.length 0 l12.length) l28 :: K0) (ids0)) (by refine ⟨?_, (by omega), hid, sp⟩ <;> simp [hh, f26, f27, dc18, -indexAddrF]) ?_
  clear hh
  rintro ρ H n32 ⟨hh, hnn, hid, sp⟩
  have hq_n32 := hnn
  refine zF fun k' hk' => ?_
  obtain ⟨hb33, h⟩ := h
  obtain ⟨v34, ev34, h⟩ := atm h
  have f35 := ib_add hb33 ev34
  simp [hh, f35, -intBin]
  apply hk'
  refine Runs.inBlock ?_
  refine zF fun k' hk' => ?_
  obtain ⟨hb36, h⟩ := h
  obtain ⟨v37, ev37, h⟩ := atm h
  have f38 := ib_add hb36 ev37
  simp [hh, f38, -intBin]
  apply hk'
  refine IH14 (v34, v37, l28) _ _ _ h (by refine ⟨?_, (by omega), hid, sp⟩ <;> simp [hh])
 replace h := h.2 dc18
 refine Runs.exit rfl ?_
 refine zE fun k' hk' => ?_
 simp [hh, dc18]
 apply hk'
 exact Runs.ret1 (v := int k10) Tryz.func56 Tryz.results56 (by simp [hh, dc18]) (hQ _ _ _ _ (Sep.sub sp (by simp +contextual)) hid (by omega) ⟨(l12, k10), h, rfl, rfl⟩)
theorem markIntS_ok (a : List Int) (k_ : Int) (hp : markIntS_pre a k_) : MutS Tryz.prog 56 (fun v => [v, int k_]) (.s [.c]) (.list true (a.map intC)) (fun e' r => e' = .list true (((markIntS a k_).1).map intC) ∧ r = int ((markIntS a k_).2)) := (markIntS_walk a k_ _ (markIntS_vc a k_ hp)).mono (by rintro _ _ ⟨_, rfl, rfl, rfl⟩; exact ⟨rfl, rfl⟩)
theorem e57 : Ent Tryz.prog 57 := Ent.of Tryz.func57 (by kernel_rfl) rfl
theorem markStringS_walk (a : List Str) (k_ : Int) (Z : ((List Str) × Int) → Prop) (h : markStringS_wp a k_ Z) : MutS Tryz.prog 57 (fun v => [v, int k_]) (.s [.c]) (.list true (a.map strC)) (fun e' r => ∃ y : (List Str) × Int, Z y ∧ e' = .list true (y.1.map strC) ∧ r = int y.2) := by
 unfold markStringS_wp at h
 refine MutS.of Tryz.func57 rfl Tryz.ntmps57 (fun _ => by simp) fun H0 n0 v0 K0 ids0 sp Q hQ => ?_
 have h00 := sp.1
 have hid : ∀ i ∈ ids0, H0 i = H0 i := fun _ _ => rfl
 have hnn : n0 ≤ n0 := Nat.le_refl _
 refine Runs.cut (fun ρ H n => (ρ 0 = v0 ∧ ρ 1 = int k_) ∧ n0 ≤ n ∧ (∀ i ∈ ids0, H i = H0 i) ∧ Sep H n (oS v0 a :: K0) (ids0)) (by refine ⟨?_, (by omega), hid, sp⟩ <;> simp ) ?_
 rintro ρ H n2 ⟨hh, hnn, hid, sp⟩
 have hq_n2 := hnn
 refine zE fun k' hk' => ?_
 simp [hh]
 apply hk'
 refine Runs.seq ?_
 refine zE fun k' hk' => ?_
 simp [hh]
 apply hk'
 refine Runs.block ?_
 refine Runs.loopW h (fun (sJ : Int × Int × (List Str)) ρ H n => match sJ with | (k10, i11, l12) => (ρ 0 = v0 ∧ ρ 1 = int k10 ∧ ρ 5 = int i11) ∧ n0 ≤ n ∧ (∀ i ∈ ids0, H i = H0 i) ∧ Sep H n (oS v0 l12 :: K0) (ids0)) (by refine ⟨?_, (by omega), hid, sp⟩ <;> simp [hh]) ?_
 clear hh
 rintro ⟨k10, i11, l12⟩ ρ H n13 K h ⟨hh, hnn, hid, sp⟩ IH14
 have hq_n13 := hnn
 refine Runs.seq ?_
 refine zE fun k' hk' => ?_
 obtain ⟨len16, elen16, h⟩ := atm h
 have f17 := len_own (Sep.len (m := len16) sp kd_25 (by rw [elen16, List.length_map]))
 obtain ⟨c18, ec18, h⟩ := atm h
 have f19 := ib_lss (k := .i64) ec18
 simp [hh, f17, f19, -intBin, -lenF]
 apply hk'
 refine Runs.ite (b := c18) (by simp [hh]) (fun dc18 => ?_) (fun dc18 => ?_)
 ·replace h := h.1 dc18
  refine Runs.skip ?_
  refine Runs.seq ?_
  refine Runs.block ?_
  refine zE fun k' hk' => ?_
  obtain ⟨hb20, h⟩ := h
  obtain ⟨r21, er21, h⟩ := atm h
  simp [hh, dc18]
  refine RunK.callA Ty_ok (markTxt_ok k10 hb20) e54 (.cons (.v _ _ _) .nil) (by decide) (by decide) rfl (by simp [hh, dc18]) ?_
  rintro _ rfl
  rw [← er21]
  obtain ⟨hb22, h⟩ := h
  obtain ⟨id23, hv, mo24, ln25, ni26⟩ := Sep.openF sp (by simp) hb22
  subst hv
  obtain ⟨x27, ex27, h⟩ := atm h
  have f28 := fun H (hm : H id23 = some ⟨1, l12.map strC⟩) => ix_arr (H := H) (k := .i64) (off := 0) (len := l12.length) (g := l12.length) kd_25 hm (by simp) rfl hb22
  have f29 := at_some (q := i11.toNat) hb22 ex27 rfl
  obtain ⟨l30, el30, h⟩ := atm h
  simp [hh, mo24, f28, f29, dc18, -indexAddrF, -storeF]
  refine bind_store (q := i11.toNat) (news := strC r21) [] (K0) sp (by simp) (by simp; omega) (by simp) (by simp [-one1, o1x]) (Fill.v _ Fill.nil) ?_
  rintro H31 sp hfr32
  replace sp : Sep H31 n13 (oS (.arr id23 l12.length 0 l12.length) l30 :: K0) (ids0) := Sep.st el30 sp
  have hid : ∀ i ∈ ids0, H31 i = H0 i := fun i hi => (hfr32 i (by simp [hi])).trans (hid i hi)
  simp [hh, f28, f29, dc18, -indexAddrF]
  apply hk'
  refine Runs.cut (fun ρ H n => (ρ 0 = .arr id23 l12.length 0 l12.length ∧ ρ 1 = int k10 ∧ ρ 5 = int i11) ∧ n0 ≤ n ∧ (∀ i ∈ ids0, H i = H0 i) ∧ Sep H n (oS (.arr id23 l12.length 0 l12.length) l30 :: K0) (ids0)) (by refine ⟨?_, (by omega), hid, sp⟩ <;> simp [hh, f28, f29, dc18, -indexAddrF]) ?_
  clear hh
  rintro ρ H n34 ⟨hh, hnn, hid, sp⟩
  have hq_n34 := hnn
  refine zF fun k' hk' => ?_
  obtain ⟨hb35, h⟩ := h
  obtain ⟨v36, ev36, h⟩ := atm h
  have f37 := ib_add hb35 ev36
  simp [hh, f37, -intBin]
  apply hk'
  refine Runs.inBlock ?_
  refine zF fun k' hk' => ?_
  obtain ⟨hb38, h⟩ := h
  obtain ⟨v39, ev39, h⟩ := atm h
  have f40 := ib_add hb38 ev39
  simp [hh, f40, -intBin]
  apply hk'
  refine IH14 (v36, v39, l30) _ _ _ h (by refine ⟨?_, (by omega), hid, sp⟩ <;> simp [hh])
 replace h := h.2 dc18
 refine Runs.exit rfl ?_
 refine zE fun k' hk' => ?_
 simp [hh, dc18]
 apply hk'
 exact Runs.ret1 (v := int k10) Tryz.func57 Tryz.results57 (by simp [hh, dc18]) (hQ _ _ _ _ (Sep.sub sp (by simp +contextual)) hid (by omega) ⟨(l12, k10), h, rfl, rfl⟩)
theorem markStringS_ok (a : List Str) (k_ : Int) (hp : markStringS_pre a k_) : MutS Tryz.prog 57 (fun v => [v, int k_]) (.s [.c]) (.list true (a.map strC)) (fun e' r => e' = .list true (((markStringS a k_).1).map strC) ∧ r = int ((markStringS a k_).2)) := (markStringS_walk a k_ _ (markStringS_vc a k_ hp)).mono (by rintro _ _ ⟨_, rfl, rfl, rfl⟩; exact ⟨rfl, rfl⟩)
theorem e58 : Ent Tryz.prog 58 := Ent.of Tryz.func58 (by kernel_rfl) rfl
theorem markWireS_walk (a : List Wire) (k_ : Int) (Z : ((List Wire) × Int) → Prop) (h : markWireS_wp a k_ Z) : MutS Tryz.prog 58 (fun v => [v, int k_]) (.s [.c, .c]) (.list true (a.map Wire.cells)) (fun e' r => ∃ y : (List Wire) × Int, Z y ∧ e' = .list true (y.1.map Wire.cells) ∧ r = int y.2) := by
 unfold markWireS_wp at h
 refine MutS.of Tryz.func58 rfl Tryz.ntmps58 (fun _ => by simp) fun H0 n0 v0 K0 ids0 sp Q hQ => ?_
 have h00 := sp.1
 have hid : ∀ i ∈ ids0, H0 i = H0 i := fun _ _ => rfl
 have hnn : n0 ≤ n0 := Nat.le_refl _
 refine Runs.cut (fun ρ H n => (ρ 0 = v0 ∧ ρ 1 = int k_) ∧ n0 ≤ n ∧ (∀ i ∈ ids0, H i = H0 i) ∧ Sep H n (oW v0 a :: K0) (ids0)) (by refine ⟨?_, (by omega), hid, sp⟩ <;> simp ) ?_
 rintro ρ H n2 ⟨hh, hnn, hid, sp⟩
 have hq_n2 := hnn
 refine zE fun k' hk' => ?_
 simp [hh]
 apply hk'
 refine Runs.seq ?_
 refine zE fun k' hk' => ?_
 simp [hh]
 apply hk'
 refine Runs.block ?_
 refine Runs.loopW h (fun (sJ : Int × Int × (List Wire)) ρ H n => match sJ with | (k10, i11, l12) => (ρ 0 = v0 ∧ ρ 1 = int k10 ∧ ρ 5 = int i11) ∧ n0 ≤ n ∧ (∀ i ∈ ids0, H i = H0 i) ∧ Sep H n (oW v0 l12 :: K0) (ids0)) (by refine ⟨?_, (by omega), hid, sp⟩ <;> simp [hh]) ?_
 clear hh
 rintro ⟨k10, i11, l12⟩ ρ H n13 K h ⟨hh, hnn, hid, sp⟩ IH14
 have hq_n13 := hnn
 refine Runs.seq ?_
 refine zE fun k' hk' => ?_
 obtain ⟨len16, elen16, h⟩ := atm h
 have f17 := len_own (Sep.len (m := len16) sp kd_36 (by rw [elen16, List.length_map]))
 obtain ⟨c18, ec18, h⟩ := atm h
 have f19 := ib_lss (k := .i64) ec18
 simp [hh, f17, f19, -intBin, -lenF]
 apply hk'
 refine Runs.ite (b := c18) (by simp [hh]) (fun dc18 => ?_) (fun dc18 => ?_)
 ·replace h := h.1 dc18
  refine Runs.skip ?_
  refine Runs.seq ?_
  refine Runs.block ?_
  refine zE fun k' hk' => ?_
  obtain ⟨hb20, h⟩ := h
  obtain ⟨r21, er21, h⟩ := atm h
  simp [hh, dc18]
  refine RunK.callA Ty_ok (markTxt_ok k10 hb20) e54 (.cons (.v _ _ _) .nil) (by decide) (by decide) rfl (by simp [hh, dc18]) ?_
  rintro _ rfl
  rw [← er21]
  obtain ⟨hb22, h⟩ := h
  obtain ⟨id23, hv, mo24, ln25, ni26⟩ := Sep.openF sp (by simp) hb22
  subst hv
  obtain ⟨x27, ex27, h⟩ := atm h
  have f28 := fun H (hm : H id23 = some ⟨2, l12.map Wire.cells⟩) => ix_arr (H := H) (k := .i64) (off := 0) (len := l12.length) (g := l12.length) kd_36 hm (by simp) rfl hb22
  have f29 := at_some (q := i11.toNat) hb22 ex27 rfl
  obtain ⟨l30, el30, h⟩ := atm h
  simp [hh, mo24, f28, f29, dc18, -indexAddrF, -storeF]
  refine bind_field (i := ty9) (q := i11.toNat) (off := 0) (new := [str r21]) (ix := i11) (x := x27) (y := (Wire.mk r21 x27.link)) (f := Wire.cells) sp (by simp) (by simp) hb22 ex27 rfl rfl (fun _ => rfl) (by simp) (by simp) (by simp [splice]) (by simp) ?_
  rintro H31 sp hfr32
  replace sp : Sep H31 n13 (oW (.arr id23 l12.length 0 l12.length) l30 :: K0) (ids0) := by rw [el30]; exact sp
  have hid : ∀ i ∈ ids0, H31 i = H0 i := fun i hi => (hfr32 i (by simp [hi])).trans (hid i hi)
  simp [hh, f28, f29, dc18, -indexAddrF]
  apply hk'
  refine Runs.cut (fun ρ H n => (ρ 0 = .arr id23 l12.length 0 l12.length ∧ ρ 1 = int k10 ∧ ρ 5 = int i11) ∧ n0 ≤ n ∧ (∀ i ∈ ids0, H i = H0 i) ∧ Sep H n (oW (.arr id23 l12.length 0 l12.length) l30 :: K0) (ids0)) (by refine ⟨?_, (by omega), hid, sp⟩ <;> simp [hh, f28, f29, dc18, -indexAddrF]) ?_
  clear hh
  rintro ρ H n34 ⟨hh, hnn, hid, sp⟩
  have hq_n34 := hnn
  refine zE fun k' hk' => ?_
  obtain ⟨hb35, h⟩ := h
  obtain ⟨v36, ev36, h⟩ := atm h
  have f37 := ib_add hb35 ev36
  simp [hh, f37, -intBin]
  apply hk'
  refine zE fun k' hk' => ?_
  obtain ⟨hb38, h⟩ := h
  obtain ⟨id39, hv, mo40, ln41, ni42⟩ := Sep.openF sp (by simp) hb38
  simp only [AVal.arr.injEq] at hv
  obtain ⟨hv, hln43, -⟩ := hv
  subst hv
  have hlshln43 := hln43.symm
  obtain ⟨x44, ex44, h⟩ := atm h
  have f45 := fun H (hm : H id23 = some ⟨2, l30.map Wire.cells⟩) => ix_arr (H := H) (k := .i64) (off := 0) (len := l12.length) (g := l12.length) kd_36 hm (by simp [hln43]) rfl (by rw [hln43]; exact hb38)
  have f46 := at_some (q := i11.toNat) hb38 ex44 rfl
  obtain ⟨l47, el47, h⟩ := atm h
  simp [hh, hlshln43, mo40, f45, f46, -indexAddrF, -storeF]
  refine bind_field (i := ty3) (q := i11.toNat) (off := 1) (new := [int v36]) (ix := i11) (x := x44) (y := (Wire.mk x44.name v36)) (f := Wire.cells) sp (by simp) (by simp) hb38 ex44 rfl hln43 (fun _ => rfl) (by simp) (by simp) (by simp [splice]) (by simp) ?_
  rintro H48 sp hfr49
  replace sp : Sep H48 n34 (oW (.arr id23 l12.length 0 l12.length) l47 :: K0) (ids0) := by rw [el47]; exact sp
  have hid : ∀ i ∈ ids0, H48 i = H0 i := fun i hi => (hfr49 i (by simp [hi])).trans (hid i hi)
  simp [hh, hlshln43, f45, f46, -indexAddrF]
  apply hk'
  refine Runs.cut (fun ρ H n => (ρ 0 = .arr id23 l12.length 0 l12.length ∧ ρ 1 = int v36 ∧ ρ 5 = int i11) ∧ n0 ≤ n ∧ (∀ i ∈ ids0, H i = H0 i) ∧ Sep H n (oW (.arr id23 l12.length 0 l12.length) l47 :: K0) (ids0)) (by refine ⟨?_, (by omega), hid, sp⟩ <;> simp [hh, hlshln43, f45, f46, -indexAddrF]) ?_
  clear hh hlshln43
  rintro ρ H n51 ⟨hh, hnn, hid, sp⟩
  have hq_n51 := hnn
  refine zF fun k' hk' => ?_
  obtain ⟨hb52, h⟩ := h
  obtain ⟨v53, ev53, h⟩ := atm h
  have f54 := ib_add hb52 ev53
  simp [hh, f54, -intBin]
  apply hk'
  refine Runs.inBlock ?_
  refine zF fun k' hk' => ?_
  obtain ⟨hb55, h⟩ := h
  obtain ⟨v56, ev56, h⟩ := atm h
  have f57 := ib_add hb55 ev56
  simp [hh, f57, -intBin]
  apply hk'
  refine IH14 (v53, v56, l47) _ _ _ h (by refine ⟨?_, (by omega), hid, sp⟩ <;> simp [hh])
 replace h := h.2 dc18
 refine Runs.exit rfl ?_
 refine zE fun k' hk' => ?_
 simp [hh, dc18]
 apply hk'
 exact Runs.ret1 (v := int k10) Tryz.func58 Tryz.results58 (by simp [hh, dc18]) (hQ _ _ _ _ (Sep.sub sp (by simp +contextual)) hid (by omega) ⟨(l12, k10), h, rfl, rfl⟩)
theorem markWireS_ok (a : List Wire) (k_ : Int) (hp : markWireS_pre a k_) : MutS Tryz.prog 58 (fun v => [v, int k_]) (.s [.c, .c]) (.list true (a.map Wire.cells)) (fun e' r => e' = .list true (((markWireS a k_).1).map Wire.cells) ∧ r = int ((markWireS a k_).2)) := (markWireS_walk a k_ _ (markWireS_vc a k_ hp)).mono (by rintro _ _ ⟨_, rfl, rfl, rfl⟩; exact ⟨rfl, rfl⟩)
theorem e18 : Ent Tryz.prog 18 := Ent.of Tryz.func18 (by kernel_rfl) rfl
theorem markControlS_walk (a : List Control) (k_ : Int) (Z : ((List Control) × Int) → Prop) (h : markControlS_wp a k_ Z) : MutS Tryz.prog 18 (fun v => [v, int k_]) (.s [.c, .c, .c]) (.list true (a.map Control.cells)) (fun e' r => ∃ y : (List Control) × Int, Z y ∧ e' = .list true (y.1.map Control.cells) ∧ r = int y.2) := by
 unfold markControlS_wp at h
 refine MutS.of Tryz.func18 rfl Tryz.ntmps18 (fun _ => by simp) fun H0 n0 v0 K0 ids0 sp Q hQ => ?_
 have h00 := sp.1
 have hid : ∀ i ∈ ids0, H0 i = H0 i := fun _ _ => rfl
 have hnn : n0 ≤ n0 := Nat.le_refl _
 refine Runs.cut (fun ρ H n => (ρ 0 = v0 ∧ ρ 1 = int k_) ∧ n0 ≤ n ∧ (∀ i ∈ ids0, H i = H0 i) ∧ Sep H n (oE [.c, .c, .c] Control.cells v0 a :: K0) (ids0)) (by refine ⟨?_, (by omega), hid, sp⟩ <;> simp ) ?_
 rintro ρ H n2 ⟨hh, hnn, hid, sp⟩
 have hq_n2 := hnn
 refine zE fun k' hk' => ?_
 simp [hh]
 apply hk'
 refine Runs.seq ?_
 refine zE fun k' hk' => ?_
 simp [hh]
 apply hk'
 refine Runs.block ?_
 refine Runs.loopW h (fun (sJ : Int × Int × (List Control)) ρ H n => match sJ with | (k10, i11, l12) => (ρ 0 = v0 ∧ ρ 1 = int k10 ∧ ρ 5 = int i11) ∧ n0 ≤ n ∧ (∀ i ∈ ids0, H i = H0 i) ∧ Sep H n (oE [.c, .c, .c] Control.cells v0 l12 :: K0) (ids0)) (by refine ⟨?_, (by omega), hid, sp⟩ <;> simp [hh]) ?_
 clear hh
 rintro ⟨k10, i11, l12⟩ ρ H n13 K h ⟨hh, hnn, hid, sp⟩ IH14
 have hq_n13 := hnn
 refine Runs.seq ?_
 refine zE fun k' hk' => ?_
 obtain ⟨len16, elen16, h⟩ := atm h
 have f17 := len_own (Sep.len (m := len16) sp kd_33 (by rw [elen16, List.length_map]))
 obtain ⟨c18, ec18, h⟩ := atm h
 have f19 := ib_lss (k := .i64) ec18
 simp [hh, f17, f19, -intBin, -lenF]
 apply hk'
 refine Runs.ite (b := c18) (by simp [hh]) (fun dc18 => ?_) (fun dc18 => ?_)
 ·replace h := h.1 dc18
  refine Runs.skip ?_
  refine Runs.seq ?_
  refine Runs.block ?_
  refine zE fun k' hk' => ?_
  obtain ⟨hb20, h⟩ := h
  obtain ⟨r21, er21, h⟩ := atm h
  simp [hh, dc18]
  refine RunK.callA Ty_ok (markTxt_ok k10 hb20) e54 (.cons (.v _ _ _) .nil) (by decide) (by decide) rfl (by simp [hh, dc18]) ?_
  rintro _ rfl
  rw [← er21]
  obtain ⟨hb22, h⟩ := h
  obtain ⟨id23, hv, mo24, ln25, ni26⟩ := Sep.openF sp (by simp) hb22
  subst hv
  obtain ⟨x27, ex27, h⟩ := atm h
  have f28 := fun H (hm : H id23 = some ⟨3, l12.map Control.cells⟩) => ix_arr (H := H) (k := .i64) (off := 0) (len := l12.length) (g := l12.length) kd_33 hm (by simp) rfl hb22
  have f29 := at_some (q := i11.toNat) hb22 ex27 rfl
  obtain ⟨l30, el30, h⟩ := atm h
  simp [hh, mo24, f28, f29, dc18, -indexAddrF, -storeF]
  refine bind_field (i := ty9) (q := i11.toNat) (off := 0) (new := [str r21]) (ix := i11) (x := x27) (y := (Control.mk r21 x27.ports x27.kind)) (f := Control.cells) sp (by simp) (by simp) hb22 ex27 rfl rfl (fun _ => rfl) (by simp) (by simp) (by simp [splice]) (by simp) ?_
  rintro H31 sp hfr32
  replace sp : Sep H31 n13 (oE [.c, .c, .c] Control.cells (.arr id23 l12.length 0 l12.length) l30 :: K0) (ids0) := by rw [el30]; exact sp
  have hid : ∀ i ∈ ids0, H31 i = H0 i := fun i hi => (hfr32 i (by simp [hi])).trans (hid i hi)
  simp [hh, f28, f29, dc18, -indexAddrF]
  apply hk'
  refine Runs.cut (fun ρ H n => (ρ 0 = .arr id23 l12.length 0 l12.length ∧ ρ 1 = int k10 ∧ ρ 5 = int i11) ∧ n0 ≤ n ∧ (∀ i ∈ ids0, H i = H0 i) ∧ Sep H n (oE [.c, .c, .c] Control.cells (.arr id23 l12.length 0 l12.length) l30 :: K0) (ids0)) (by refine ⟨?_, (by omega), hid, sp⟩ <;> simp [hh, f28, f29, dc18, -indexAddrF]) ?_
  clear hh
  rintro ρ H n34 ⟨hh, hnn, hid, sp⟩
  have hq_n34 := hnn
  refine zE fun k' hk' => ?_
  obtain ⟨hb35, h⟩ := h
  obtain ⟨v36, ev36, h⟩ := atm h
  have f37 := ib_add hb35 ev36
  simp [hh, f37, -intBin]
  apply hk'
  refine zE fun k' hk' => ?_
  obtain ⟨hb38, h⟩ := h
  obtain ⟨id39, hv, mo40, ln41, ni42⟩ := Sep.openF sp (by simp) hb38
  simp only [AVal.arr.injEq] at hv
  obtain ⟨hv, hln43, -⟩ := hv
  subst hv
  have hlshln43 := hln43.symm
  obtain ⟨x44, ex44, h⟩ := atm h
  have f45 := fun H (hm : H id23 = some ⟨3, l30.map Control.cells⟩) => ix_arr (H := H) (k := .i64) (off := 0) (len := l12.length) (g := l12.length) kd_33 hm (by simp [hln43]) rfl (by rw [hln43]; exact hb38)
  have f46 := at_some (q := i11.toNat) hb38 ex44 rfl
  obtain ⟨l47, el47, h⟩ := atm h
  simp [hh, hlshln43, mo40, f45, f46, -indexAddrF, -storeF]
  refine bind_field (i := ty3) (q := i11.toNat) (off := 1) (new := [int v36]) (ix := i11) (x := x44) (y := (Control.mk x44.name v36 x44.kind)) (f := Control.cells) sp (by simp) (by simp) hb38 ex44 rfl hln43 (fun _ => rfl) (by simp) (by simp) (by simp [splice]) (by simp) ?_
  rintro H48 sp hfr49
  replace sp : Sep H48 n34 (oE [.c, .c, .c] Control.cells (.arr id23 l12.length 0 l12.length) l47 :: K0) (ids0) := by rw [el47]; exact sp
  have hid : ∀ i ∈ ids0, H48 i = H0 i := fun i hi => (hfr49 i (by simp [hi])).trans (hid i hi)
  simp [hh, hlshln43, f45, f46, -indexAddrF]
  apply hk'
  refine Runs.cut (fun ρ H n => (ρ 0 = .arr id23 l12.length 0 l12.length ∧ ρ 1 = int v36 ∧ ρ 5 = int i11) ∧ n0 ≤ n ∧ (∀ i ∈ ids0, H i = H0 i) ∧ Sep H n (oE [.c, .c, .c] Control.cells (.arr id23 l12.length 0 l12.length) l47 :: K0) (ids0)) (by refine ⟨?_, (by omega), hid, sp⟩ <;> simp [hh, hlshln43, f45, f46, -indexAddrF]) ?_
  clear hh hlshln43
  rintro ρ H n51 ⟨hh, hnn, hid, sp⟩
  have hq_n51 := hnn
  refine zE fun k' hk' => ?_
  obtain ⟨hb52, h⟩ := h
  obtain ⟨v53, ev53, h⟩ := atm h
  have f54 := ib_add hb52 ev53
  simp [hh, f54, -intBin]
  apply hk'
  refine zE fun k' hk' => ?_
  obtain ⟨hb55, h⟩ := h
  obtain ⟨id56, hv, mo57, ln58, ni59⟩ := Sep.openF sp (by simp) hb55
  simp only [AVal.arr.injEq] at hv
  obtain ⟨hv, hln60, -⟩ := hv
  subst hv
  have hlshln60 := hln60.symm
  obtain ⟨x61, ex61, h⟩ := atm h
  have f62 := fun H (hm : H id23 = some ⟨3, l47.map Control.cells⟩) => ix_arr (H := H) (k := .i64) (off := 0) (len := l12.length) (g := l12.length) kd_33 hm (by simp [hln60]) rfl (by rw [hln60]; exact hb55)
  have f63 := at_some (q := i11.toNat) hb55 ex61 rfl
  obtain ⟨l64, el64, h⟩ := atm h
  simp [hh, hlshln60, mo57, f62, f63, -indexAddrF, -storeF]
  refine bind_field (i := ty3) (q := i11.toNat) (off := 2) (new := [int v53]) (ix := i11) (x := x61) (y := (Control.mk x61.name x61.ports v53)) (f := Control.cells) sp (by simp) (by simp) hb55 ex61 rfl hln60 (fun _ => rfl) (by simp) (by simp) (by simp [splice]) (by simp) ?_
  rintro H65 sp hfr66
  replace sp : Sep H65 n51 (oE [.c, .c, .c] Control.cells (.arr id23 l12.length 0 l12.length) l64 :: K0) (ids0) := by rw [el64]; exact sp
  have hid : ∀ i ∈ ids0, H65 i = H0 i := fun i hi => (hfr66 i (by simp [hi])).trans (hid i hi)
  simp [hh, hlshln60, f62, f63, -indexAddrF]
  apply hk'
  refine Runs.cut (fun ρ H n => (ρ 0 = .arr id23 l12.length 0 l12.length ∧ ρ 1 = int v53 ∧ ρ 5 = int i11) ∧ n0 ≤ n ∧ (∀ i ∈ ids0, H i = H0 i) ∧ Sep H n (oE [.c, .c, .c] Control.cells (.arr id23 l12.length 0 l12.length) l64 :: K0) (ids0)) (by refine ⟨?_, (by omega), hid, sp⟩ <;> simp [hh, hlshln60, f62, f63, -indexAddrF]) ?_
  clear hh hlshln60
  rintro ρ H n68 ⟨hh, hnn, hid, sp⟩
  have hq_n68 := hnn
  refine zF fun k' hk' => ?_
  obtain ⟨hb69, h⟩ := h
  obtain ⟨v70, ev70, h⟩ := atm h
  have f71 := ib_add hb69 ev70
  simp [hh, f71, -intBin]
  apply hk'
  refine Runs.inBlock ?_
  refine zF fun k' hk' => ?_
  obtain ⟨hb72, h⟩ := h
  obtain ⟨v73, ev73, h⟩ := atm h
  have f74 := ib_add hb72 ev73
  simp [hh, f74, -intBin]
  apply hk'
  refine IH14 (v70, v73, l64) _ _ _ h (by refine ⟨?_, (by omega), hid, sp⟩ <;> simp [hh])
 replace h := h.2 dc18
 refine Runs.exit rfl ?_
 refine zE fun k' hk' => ?_
 simp [hh, dc18]
 apply hk'
 exact Runs.ret1 (v := int k10) Tryz.func18 Tryz.results18 (by simp [hh, dc18]) (hQ _ _ _ _ (Sep.sub sp (by simp +contextual)) hid (by omega) ⟨(l12, k10), h, rfl, rfl⟩)
theorem markControlS_ok (a : List Control) (k_ : Int) (hp : markControlS_pre a k_) : MutS Tryz.prog 18 (fun v => [v, int k_]) (.s [.c, .c, .c]) (.list true (a.map Control.cells)) (fun e' r => e' = .list true (((markControlS a k_).1).map Control.cells) ∧ r = int ((markControlS a k_).2)) := (markControlS_walk a k_ _ (markControlS_vc a k_ hp)).mono (by rintro _ _ ⟨_, rfl, rfl, rfl⟩; exact ⟨rfl, rfl⟩)
theorem e59 : Ent Tryz.prog 59 := Ent.of Tryz.func59 (by kernel_rfl) rfl
theorem heldIntS_walk (a : List Int) (k_ : Int) (Z : Int → Prop) (h : heldIntS_wp a k_ Z) : PureC Tryz.prog 59 [.list false (a.map intC), int k_] (fun r => ∃ y : Int, Z y ∧ r = int y) := by
 unfold heldIntS_wp at h
 refine PureC.of Tryz.func59 rfl Tryz.ntmps59 (by simp) fun Q hQ => ?_
 refine Runs.cut (fun ρ H n => (ρ 0 = .list false (a.map intC) ∧ ρ 1 = int k_)) (by simp) ?_
 rintro ρ H n1 hh
 refine zE fun k' hk' => ?_
 simp [hh]
 apply hk'
 refine Runs.seq ?_
 refine zE fun k' hk' => ?_
 simp [hh]
 apply hk'
 refine Runs.block ?_
 refine Runs.loopW h (fun (sJ : Int × Int) ρ H n => match sJ with | (k5, i6) => (ρ 0 = .list false (a.map intC) ∧ ρ 1 = int k5 ∧ ρ 5 = int i6)) (by simp [hh]) ?_
 clear hh
 rintro ⟨k5, i6⟩ ρ H n7 K h hh IH8
 refine Runs.seq ?_
 refine zE fun k' hk' => ?_
 obtain ⟨len10, elen10, h⟩ := atm h
 have f11 := fun H => len_list (H := H) (fr := false) (f := intC) kd_24 elen10
 obtain ⟨c12, ec12, h⟩ := atm h
 have f13 := ib_lss (k := .i64) ec12
 simp [hh, f11, f13, -intBin, -lenF]
 apply hk'
 refine Runs.ite (b := c12) (by simp [hh]) (fun dc12 => ?_) (fun dc12 => ?_)
 ·replace h := h.1 dc12
  refine Runs.skip ?_
  refine Runs.seq ?_
  refine Runs.block ?_
  refine Runs.seq ?_
  refine zE fun k' hk' => ?_
  obtain ⟨hb14, h⟩ := h
  obtain ⟨x15, ex15, h⟩ := atm h
  have f16 := fun H => ix_list (H := H) (fr := false) (f := intC) (k := .i64) kd_24 (fun _ => rfl) hb14 ex15
  obtain ⟨c17, ec17, h⟩ := atm h
  have f18 := ib_neq (k := .i64) ec17
  simp [hh, f16, f18, dc12, -indexAddrF, -intBin]
  apply hk'
  refine Runs.ite (b := c17) (by simp [hh, dc12]) (fun dc17 => ?_) (fun dc17 => ?_)
  ·replace h := h.1 dc17
   refine zE fun k' hk' => ?_
   simp [hh, dc12, dc17]
   apply hk'
   exact Runs.ret1 (v := int (-1)) Tryz.func59 Tryz.results59 (by simp [hh, dc12, dc17]) (hQ _ _ _ _ (.of (.v _)) ⟨(-1), h, rfl⟩)
  replace h := h.2 dc17
  refine Runs.skip ?_
  refine zF fun k' hk' => ?_
  obtain ⟨hb19, h⟩ := h
  obtain ⟨v20, ev20, h⟩ := atm h
  have f21 := ib_add hb19 ev20
  simp [hh, f21, dc12, dc17, -intBin]
  apply hk'
  refine Runs.inBlock ?_
  refine zF fun k' hk' => ?_
  obtain ⟨hb22, h⟩ := h
  obtain ⟨v23, ev23, h⟩ := atm h
  have f24 := ib_add hb22 ev23
  simp [hh, f24, dc12, dc17, -intBin]
  apply hk'
  refine Runs.cut (fun ρ H n => (ρ 0 = .list false (a.map intC) ∧ ρ 1 = int v20 ∧ ρ 5 = int v23)) (by simp [hh, f24, dc12, dc17, -intBin]) ?_
  clear hh
  rintro ρ H n25 hh
  refine IH8 (v20, v23) _ _ _ h (by simp [hh])
 replace h := h.2 dc12
 refine Runs.exit rfl ?_
 refine zE fun k' hk' => ?_
 simp [hh, dc12]
 apply hk'
 exact Runs.ret1 (v := int k5) Tryz.func59 Tryz.results59 (by simp [hh, dc12]) (hQ _ _ _ _ (.of (.v _)) ⟨k5, h, rfl⟩)
theorem heldIntS_ok (a : List Int) (k_ : Int) (hp : heldIntS_pre a k_) : PureC Tryz.prog 59 [.list false (a.map intC), int k_] (fun r => r = int (heldIntS a k_)) := (heldIntS_walk a k_ _ (heldIntS_vc a k_ hp)).mono (by rintro _ ⟨_, rfl, rfl⟩; rfl)
end Go.Ab.Vg
/- Walks by program for YtpakecdmnomalaaGreatDoorAbNm. -/
namespace Go.Ab.Vg
open Go.Proofs
set_option maxRecDepth 100000
set_option linter.unusedSimpArgs false
set_option linter.unusedVariables false
attribute [local simp] GNode.cells Wire.cells intC sliceC strC bC pA
theorem e55 : Ent Tryz.prog 55 := Ent.of Tryz.func55 (by kernel_rfl) rfl
theorem markNodeS_walk (a : List GNode) (k_ : Int) (Z : ((List GNode) × Int) → Prop) (h : markNodeS_wp a k_ Z) : MutS Tryz.prog 55 (fun v => [v, int k_]) (.s [.c, .c, .s [.c]]) (.list true (a.map (GNode.cells true))) (fun e' r => ∃ y : (List GNode) × Int, Z y ∧ e' = .list true (y.1.map (GNode.cells true)) ∧ r = int y.2) := by
 unfold markNodeS_wp at h
 refine MutS.of Tryz.func55 rfl Tryz.ntmps55 (fun _ => by simp) fun H0 n0 v0 K0 ids0 sp Q hQ => ?_
 have h00 := sp.1
 have hid : ∀ i ∈ ids0, H0 i = H0 i := fun _ _ => rfl
 have hnn : n0 ≤ n0 := Nat.le_refl _
 refine Runs.cut (fun ρ H n => (ρ 0 = v0 ∧ ρ 1 = int k_) ∧ n0 ≤ n ∧ (∀ i ∈ ids0, H i = H0 i) ∧ Sep H n (oN v0 a :: K0) (ids0)) (by refine ⟨?_, (by omega), hid, sp⟩ <;> simp ) ?_
 rintro ρ H n2 ⟨hh, hnn, hid, sp⟩
 have hq_n2 := hnn
 refine zE fun k' hk' => ?_
 simp [hh]
 apply hk'
 refine Runs.seq ?_
 refine zE fun k' hk' => ?_
 simp [hh]
 apply hk'
 refine Runs.block ?_
 refine Runs.loopW h (fun (sJ : Int × Int × (List GNode)) ρ H n => match sJ with | (k10, i11, l12) => (ρ 0 = v0 ∧ ρ 1 = int k10 ∧ ρ 5 = int i11) ∧ n0 ≤ n ∧ (∀ i ∈ ids0, H i = H0 i) ∧ Sep H n (oN v0 l12 :: K0) (ids0)) (by refine ⟨?_, (by omega), hid, sp⟩ <;> simp [hh]) ?_
 clear hh
 rintro ⟨k10, i11, l12⟩ ρ H n13 K h ⟨hh, hnn, hid, sp⟩ IH14
 have hq_n13 := hnn
 refine Runs.seq ?_
 refine zE fun k' hk' => ?_
 obtain ⟨len16, elen16, h⟩ := atm h
 have f17 := len_own (Sep.len (m := len16) sp kd_35 (by rw [elen16, List.length_map]))
 obtain ⟨c18, ec18, h⟩ := atm h
 have f19 := ib_lss (k := .i64) ec18
 simp [hh, f17, f19, -intBin, -lenF]
 apply hk'
 refine Runs.ite (b := c18) (by simp [hh]) (fun dc18 => ?_) (fun dc18 => ?_)
 ·replace h := h.1 dc18
  refine Runs.skip ?_
  refine Runs.seq ?_
  refine Runs.block ?_
  refine zE fun k' hk' => ?_
  obtain ⟨hb20, h⟩ := h
  obtain ⟨x21, ex21, h⟩ := atm h
  obtain ⟨id22, els23, row24, W25, hq26, mo27, moL28, moR29, hrl30, hW31, hsub32, hni33, spr34, hcl35⟩ := Sep.rowF (q := i11.toNat) (f := (GNode.cells true)) sp hb20 ex21 rfl
  subst hq26
  obtain ⟨c36, c37, c38, hq26⟩ := len3 (by simpa using hrl30)
  subst hq26
  replace spr34 : Sep _ _ [(.c, c36, int x21.control), (.c, c37, int x21.parent), (.s [.c], c38, .list true (x21.links.map intC))] W25 := spr34
  obtain rfl := Sep.cAt (K1 := []) (K2 := [(.c, c37, int x21.parent), (.s [.c], c38, .list true (x21.links.map intC))]) spr34
  obtain rfl := Sep.cAt (K1 := [(.c, int x21.control, int x21.control)]) (K2 := [(.s [.c], c38, .list true (x21.links.map intC))]) spr34
  have f39 := ix_arr (k := .i64) (off := 0) (len := l12.length) kd_35 mo27 moL28 rfl hb20
  obtain ⟨l40, el40, h⟩ := atm h
  simp [hh, mo27, moL28, moR29, f39, dc18, -indexAddrF, -storeF]
  refine bind_cell (i := ty3) (q := i11.toNat) (off := 0) (ix := i11) (x := x21) (y := (GNode.mk k10 x21.parent x21.links)) (f := (GNode.cells true)) [] [.c, .s [.c]] [] [int x21.parent, .list true (x21.links.map intC)] sp rfl rfl hb20 ex21 rfl rfl rfl rfl rfl rfl rfl ?_
  rintro H41 sp hfr42
  replace sp : Sep H41 n13 (oN (.arr id22 l12.length 0 l12.length) l40 :: K0) (ids0) := by rw [el40]; exact sp
  have hid : ∀ i ∈ ids0, H41 i = H0 i := fun i hi => (hfr42 i (by simp [hi])).trans (hid i hi)
  simp [hh, f39, dc18, -indexAddrF]
  apply hk'
  refine Runs.cut (fun ρ H n => (ρ 0 = .arr id22 l12.length 0 l12.length ∧ ρ 1 = int k10 ∧ ρ 5 = int i11) ∧ n0 ≤ n ∧ (∀ i ∈ ids0, H i = H0 i) ∧ Sep H n (oN (.arr id22 l12.length 0 l12.length) l40 :: K0) (ids0)) (by refine ⟨?_, (by omega), hid, sp⟩ <;> simp [hh, f39, dc18, -indexAddrF]) ?_
  clear hh
  rintro ρ H n44 ⟨hh, hnn, hid, sp⟩
  have hq_n44 := hnn
  refine zE fun k' hk' => ?_
  obtain ⟨hb45, h⟩ := h
  obtain ⟨v46, ev46, h⟩ := atm h
  have f47 := ib_add hb45 ev46
  simp [hh, f47, -intBin]
  apply hk'
  refine zE fun k' hk' => ?_
  obtain ⟨hb48, h⟩ := h
  obtain ⟨x49, ex49, h⟩ := atm h
  obtain ⟨id50, els51, row52, W53, hq54, mo55, moL56, moR57, hrl58, hW59, hsub60, hni61, spr62, hcl63⟩ := Sep.rowF (q := i11.toNat) (f := (GNode.cells true)) sp hb48 ex49 rfl
  simp only [AVal.arr.injEq] at hq54
  obtain ⟨hq54, hln64, -⟩ := hq54
  subst hq54
  replace moL56 := moL56.trans hln64.symm
  obtain ⟨c65, c66, c67, hq54⟩ := len3 (by simpa using hrl58)
  subst hq54
  replace spr62 : Sep _ _ [(.c, c65, int x49.control), (.c, c66, int x49.parent), (.s [.c], c67, .list true (x49.links.map intC))] W53 := spr62
  obtain rfl := Sep.cAt (K1 := []) (K2 := [(.c, c66, int x49.parent), (.s [.c], c67, .list true (x49.links.map intC))]) spr62
  obtain rfl := Sep.cAt (K1 := [(.c, int x49.control, int x49.control)]) (K2 := [(.s [.c], c67, .list true (x49.links.map intC))]) spr62
  have f68 := ix_arr (k := .i64) (off := 0) (len := l12.length) kd_35 mo55 moL56 rfl (by rw [hln64]; exact hb48)
  obtain ⟨l69, el69, h⟩ := atm h
  simp [hh, mo55, moL56, moR57, f68, -indexAddrF, -storeF]
  refine bind_cell (i := ty3) (q := i11.toNat) (off := 1) (ix := i11) (x := x49) (y := (GNode.mk x49.control v46 x49.links)) (f := (GNode.cells true)) [.c] [.s [.c]] [int x49.control] [.list true (x49.links.map intC)] sp rfl rfl hb48 ex49 rfl hln64 rfl rfl rfl rfl rfl ?_
  rintro H70 sp hfr71
  replace sp : Sep H70 n44 (oN (.arr id22 l12.length 0 l12.length) l69 :: K0) (ids0) := by rw [el69]; exact sp
  have hid : ∀ i ∈ ids0, H70 i = H0 i := fun i hi => (hfr71 i (by simp [hi])).trans (hid i hi)
  simp [hh, f68, -indexAddrF]
  apply hk'
  refine Runs.cut (fun ρ H n => (ρ 0 = .arr id22 l12.length 0 l12.length ∧ ρ 1 = int v46 ∧ ρ 5 = int i11) ∧ n0 ≤ n ∧ (∀ i ∈ ids0, H i = H0 i) ∧ Sep H n (oN (.arr id22 l12.length 0 l12.length) l69 :: K0) (ids0)) (by refine ⟨?_, (by omega), hid, sp⟩ <;> simp [hh, f68, -indexAddrF]) ?_
  clear hh
  rintro ρ H n73 ⟨hh, hnn, hid, sp⟩
  have hq_n73 := hnn
  refine zE fun k' hk' => ?_
  obtain ⟨hb74, h⟩ := h
  obtain ⟨v75, ev75, h⟩ := atm h
  have f76 := ib_add hb74 ev75
  simp [hh, f76, -intBin]
  apply hk'
  refine zF fun k' hk' => ?_
  obtain ⟨hb77, h⟩ := h
  obtain ⟨x78, ex78, h⟩ := atm h
  obtain ⟨id79, els80, row81, W82, hq83, mo84, moL85, moR86, hrl87, hW88, hsub89, hni90, spr91, hcl92⟩ := Sep.rowF (q := i11.toNat) (f := (GNode.cells true)) sp hb77 ex78 rfl
  simp only [AVal.arr.injEq] at hq83
  obtain ⟨hq83, hln93, -⟩ := hq83
  subst hq83
  replace moL85 := moL85.trans hln93.symm
  obtain ⟨c94, c95, c96, hq83⟩ := len3 (by simpa using hrl87)
  subst hq83
  replace spr91 : Sep _ _ [(.c, c94, int x78.control), (.c, c95, int x78.parent), (.s [.c], c96, .list true (x78.links.map intC))] W82 := spr91
  obtain rfl := Sep.cAt (K1 := []) (K2 := [(.c, c95, int x78.parent), (.s [.c], c96, .list true (x78.links.map intC))]) spr91
  obtain rfl := Sep.cAt (K1 := [(.c, int x78.control, int x78.control)]) (K2 := [(.s [.c], c96, .list true (x78.links.map intC))]) spr91
  have f97 := ix_arr (k := .i64) (off := 0) (len := l12.length) kd_35 mo84 moL85 rfl (by rw [hln93]; exact hb77)
  obtain ⟨hb98, h⟩ := h
  obtain ⟨r99, er99, h⟩ := atm h
  simp [hh, mo84, moL85, moR86, f97, -indexAddrF]
  refine RunK.callM (v := c96) Ty_ok (markIntS_ok x78.links v75 hb98) e56 (Sep.front (K1 := [(.c, int x78.control, int x78.control), (.c, int x78.parent, int x78.parent)]) (K2 := []) spr91) (by decide) (by decide) rfl (by simp [hh, mo84, moL85, moR86, f97, -indexAddrF]) ?_
  rintro _ H100 n101 _ ⟨rfl, rfl⟩ spx hle103 hfrW102
  rw [← er99] at spx
  rw [← er99]
  obtain ⟨l105, el105, h⟩ := atm h
  replace sp := hcl92 H100 n101 (GNode.mk x78.control x78.parent r99.1) (Sep.unfront (K1 := [(.c, int x78.control, int x78.control), (.c, int x78.parent, int x78.parent)]) (K2 := []) spx) rfl hfrW102 hle103
  have hfr104 := fun i hi => hfrW102 i (hsub89 i hi)
  replace sp : Sep H100 n101 (oN (.arr id22 l12.length 0 l12.length) l105 :: K0) (ids0) := by rw [el105]; exact sp
  have hid : ∀ i ∈ ids0, H100 i = H0 i := fun i hi => (hfr104 i (by simp [hi])).trans (hid i hi)
  have hnn : n0 ≤ n101 := by omega
  have hq_n101 := hnn
  simp [hh, f97, -indexAddrF]
  apply hk'
  refine Runs.cut (fun ρ H n => (ρ 0 = .arr id22 l12.length 0 l12.length ∧ ρ 1 = int r99.2 ∧ ρ 5 = int i11) ∧ n0 ≤ n ∧ (∀ i ∈ ids0, H i = H0 i) ∧ Sep H n (oN (.arr id22 l12.length 0 l12.length) l105 :: K0) (ids0)) (by refine ⟨?_, (by omega), hid, sp⟩ <;> simp [hh, f97, -indexAddrF]) ?_
  clear hh
  rintro ρ H n107 ⟨hh, hnn, hid, sp⟩
  have hq_n107 := hnn
  refine Runs.inBlock ?_
  refine zF fun k' hk' => ?_
  obtain ⟨hb108, h⟩ := h
  obtain ⟨v109, ev109, h⟩ := atm h
  have f110 := ib_add hb108 ev109
  simp [hh, f110, -intBin]
  apply hk'
  refine IH14 (r99.2, v109, l105) _ _ _ h (by refine ⟨?_, (by omega), hid, sp⟩ <;> simp [hh])
 replace h := h.2 dc18
 refine Runs.exit rfl ?_
 refine zE fun k' hk' => ?_
 simp [hh, dc18]
 apply hk'
 exact Runs.ret1 (v := int k10) Tryz.func55 Tryz.results55 (by simp [hh, dc18]) (hQ _ _ _ _ (Sep.sub sp (by simp +contextual)) hid (by omega) ⟨(l12, k10), h, rfl, rfl⟩)
theorem markNodeS_ok (a : List GNode) (k_ : Int) (hp : markNodeS_pre a k_) : MutS Tryz.prog 55 (fun v => [v, int k_]) (.s [.c, .c, .s [.c]]) (.list true (a.map (GNode.cells true))) (fun e' r => e' = .list true (((markNodeS a k_).1).map (GNode.cells true)) ∧ r = int ((markNodeS a k_).2)) := (markNodeS_walk a k_ _ (markNodeS_vc a k_ hp)).mono (by rintro _ _ ⟨_, rfl, rfl, rfl⟩; exact ⟨rfl, rfl⟩)
theorem e19 : Ent Tryz.prog 19 := Ent.of Tryz.func19 (by kernel_rfl) rfl
theorem markBig_walk (a : Big) (k_ : Int) (Z : (Big × Int) → Prop) (h : markBig_wp a k_ Z) : MutS Tryz.prog 19 (fun v => [v, int k_]) (.a [.c, .s [.c, .c, .s [.c]], .s [.c], .c, .s [.c], .s [.c, .c]]) (.agg (bC true a)) (fun e' r => ∃ y : Big × Int, Z y ∧ e' = .agg (bC true y.1) ∧ r = int y.2) := by
 unfold markBig_wp at h
 refine MutS.of Tryz.func19 rfl Tryz.ntmps19 (fun _ => by simp) fun H0 n0 v0 K0 ids0 sp Q hQ => ?_
 have h00 := sp.1
 have hid : ∀ i ∈ ids0, H0 i = H0 i := fun _ _ => rfl
 have hnn : n0 ≤ n0 := Nat.le_refl _
 replace sp := Sep.unpack sp
 obtain ⟨L0, hv, hl0, sp⟩ := sp
 subst hv
 obtain ⟨a0_, a1_, a2_, a3_, a4_, a5_, hv⟩ := len6 (by simpa using hl0)
 subst hv
 simp only [zip3, List.cons_append, List.nil_append] at sp
 replace sp := Sep.scalar sp
 obtain ⟨hv, sp⟩ := sp
 subst hv
 replace sp := Sep.rot sp
 try simp only [List.cons_append, List.nil_append, List.append_assoc] at sp
 replace sp := Sep.rot sp
 try simp only [List.cons_append, List.nil_append, List.append_assoc] at sp
 replace sp := Sep.scalar sp
 obtain ⟨hv, sp⟩ := sp
 subst hv
 replace sp := Sep.rot sp
 try simp only [List.cons_append, List.nil_append, List.append_assoc] at sp
 replace sp := Sep.rot sp
 try simp only [List.cons_append, List.nil_append, List.append_assoc] at sp
 replace sp := Sep.swap (K1 := K0) sp
 simp only [List.cons_append, List.nil_append] at sp
 refine Runs.cut (fun ρ H n => (ρ 0 = .agg [int a.roots, a1_, a2_, int a.edges, a4_, a5_] ∧ ρ 1 = int k_) ∧ n0 ≤ n ∧ (∀ i ∈ ids0, H i = H0 i) ∧ Sep H n (oN a1_ a.nodes :: oI a2_ a.sites :: oS a4_ a.outer :: oW a5_ a.inner :: K0) (ids0)) (by refine ⟨?_, (by omega), hid, sp⟩ <;> simp ) ?_
 rintro ρ H n5 ⟨hh, hnn, hid, sp⟩
 have hq_n5 := hnn
 refine zE fun k' hk' => ?_
 have f6 := Sep.oc sp
 have f7 := Sep.oc sp.f1
 have f8 := Sep.oc sp.f2
 have f9 := Sep.oc sp.f3
 simp [hh, f6, f7, f8, f9, -cellsA, -one1, cAx, o1x]
 apply hk'
 refine Runs.cut (fun ρ H n => (ρ 1 = int k_ ∧ ρ 2 = pA n5 2) ∧ H (n5, 2) = some ⟨6, [[int a.roots, a1_, a2_, int a.edges, a4_, a5_]]⟩ ∧ n0 ≤ n ∧ (∀ i ∈ ids0, H i = H0 i) ∧ Sep H n (oN a1_ a.nodes :: oI a2_ a.sites :: oS a4_ a.outer :: oW a5_ a.inner :: K0) ((n5, 2) :: ids0)) (by refine ⟨?_, ?_, (by omega), (by intro i hi; have hlt := h00 i (by simp [hi]); repeat (first | exact hid i hi | rw [Heap.get_set_ne _ _ (by rintro rfl; simp at hlt; omega)])), sp.var⟩ <;> simp [hh, f6, f7, f8, f9, -cellsA, -one1, cAx, o1x]) ?_
 clear hh
 rintro ρ H n11 ⟨hh, m2_9, hnn, hid, sp⟩
 have hq_n11 := hnn
 refine zE fun k' hk' => ?_
 obtain ⟨hb12, h⟩ := h
 obtain ⟨r13, er13, h⟩ := atm h
 have f14 := Sep.oc sp
 simp [hh, m2_9, f14, -cellsA, -one1, cAx, o1x]
 refine RunK.callM (v := a1_) Ty_ok (markNodeS_ok a.nodes k_ hb12) e55 sp (by decide) (by decide) rfl (by simp [hh, m2_9, f14, -cellsA, -one1, cAx, o1x]) ?_
 rintro _ H15 n16 _ ⟨rfl, rfl⟩ sp hle18 hfr17
 rw [← er13] at sp
 rw [← er13]
 replace sp : Sep H15 n16 (oN a1_ r13.1 :: oI a2_ a.sites :: oS a4_ a.outer :: oW a5_ a.inner :: K0) ((n5, 2) :: ids0) := sp
 have hid : ∀ i ∈ ids0, H15 i = H0 i := fun i hi => (hfr17 i (by simp [hi])).trans (hid i hi)
 have hnn : n0 ≤ n16 := by omega
 have hq_n16 := hnn
 have m2_9 : H15 (n5, 2) = some ⟨6, [[int a.roots, a1_, a2_, int a.edges, a4_, a5_]]⟩ := (hfr17 _ (by simp)).trans (by simp [hh, m2_9, Heap.get_set])
 simp [hh, m2_9, f14, -cellsA, -one1, cAx, o1x]
 apply hk'
 refine Runs.cut (fun ρ H n => (ρ 1 = int r13.2 ∧ ρ 2 = pA n5 2) ∧ H (n5, 2) = some ⟨6, [[int a.roots, a1_, a2_, int a.edges, a4_, a5_]]⟩ ∧ n0 ≤ n ∧ (∀ i ∈ ids0, H i = H0 i) ∧ Sep H n (oN a1_ r13.1 :: oI a2_ a.sites :: oS a4_ a.outer :: oW a5_ a.inner :: K0) ((n5, 2) :: ids0)) (by refine ⟨?_, ?_, (by omega), hid, sp⟩ <;> simp [hh, m2_9, f14, -cellsA, -one1, cAx, o1x]) ?_
 clear hh m2_9
 rintro ρ H n20 ⟨hh, m2_9, hnn, hid, sp⟩
 have hq_n20 := hnn
 refine zE fun k' hk' => ?_
 obtain ⟨hb21, h⟩ := h
 obtain ⟨r22, er22, h⟩ := atm h
 have f23 := Sep.oc sp.f1
 simp [hh, m2_9, f23, -cellsA, -one1, cAx, o1x]
 refine RunK.callM (v := a2_) Ty_ok (markIntS_ok a.sites r13.2 hb21) e56 sp.f1 (by decide) (by decide) rfl (by simp [hh, m2_9, f23, -cellsA, -one1, cAx, o1x]) ?_
 rintro _ H24 n25 _ ⟨rfl, rfl⟩ sp hle27 hfr26
 rw [← er22] at sp
 rw [← er22]
 replace sp : Sep H24 n25 (oI a2_ r22.1 :: oN a1_ r13.1 :: oS a4_ a.outer :: oW a5_ a.inner :: K0) ((n5, 2) :: ids0) := sp
 have hid : ∀ i ∈ ids0, H24 i = H0 i := fun i hi => (hfr26 i (by simp [hi])).trans (hid i hi)
 have hnn : n0 ≤ n25 := by omega
 have hq_n25 := hnn
 have m2_9 : H24 (n5, 2) = some ⟨6, [[int a.roots, a1_, a2_, int a.edges, a4_, a5_]]⟩ := (hfr26 _ (by simp)).trans (by simp [hh, m2_9, Heap.get_set])
 simp [hh, m2_9, f23, -cellsA, -one1, cAx, o1x]
 apply hk'
 refine Runs.cut (fun ρ H n => (ρ 1 = int r22.2 ∧ ρ 2 = pA n5 2) ∧ H (n5, 2) = some ⟨6, [[int a.roots, a1_, a2_, int a.edges, a4_, a5_]]⟩ ∧ n0 ≤ n ∧ (∀ i ∈ ids0, H i = H0 i) ∧ Sep H n (oI a2_ r22.1 :: oN a1_ r13.1 :: oS a4_ a.outer :: oW a5_ a.inner :: K0) ((n5, 2) :: ids0)) (by refine ⟨?_, ?_, (by omega), hid, sp⟩ <;> simp [hh, m2_9, f23, -cellsA, -one1, cAx, o1x]) ?_
 clear hh m2_9
 rintro ρ H n29 ⟨hh, m2_9, hnn, hid, sp⟩
 have hq_n29 := hnn
 refine zE fun k' hk' => ?_
 obtain ⟨hb30, h⟩ := h
 obtain ⟨r31, er31, h⟩ := atm h
 have f32 := Sep.oc sp.f2
 simp [hh, m2_9, f32, -cellsA, -one1, cAx, o1x]
 refine RunK.callM (v := a4_) Ty_ok (markStringS_ok a.outer r22.2 hb30) e57 sp.f2 (by decide) (by decide) rfl (by simp [hh, m2_9, f32, -cellsA, -one1, cAx, o1x]) ?_
 rintro _ H33 n34 _ ⟨rfl, rfl⟩ sp hle36 hfr35
 rw [← er31] at sp
 rw [← er31]
 replace sp : Sep H33 n34 (oS a4_ r31.1 :: oI a2_ r22.1 :: oN a1_ r13.1 :: oW a5_ a.inner :: K0) ((n5, 2) :: ids0) := sp
 have hid : ∀ i ∈ ids0, H33 i = H0 i := fun i hi => (hfr35 i (by simp [hi])).trans (hid i hi)
 have hnn : n0 ≤ n34 := by omega
 have hq_n34 := hnn
 have m2_9 : H33 (n5, 2) = some ⟨6, [[int a.roots, a1_, a2_, int a.edges, a4_, a5_]]⟩ := (hfr35 _ (by simp)).trans (by simp [hh, m2_9, Heap.get_set])
 simp [hh, m2_9, f32, -cellsA, -one1, cAx, o1x]
 apply hk'
 refine Runs.cut (fun ρ H n => (ρ 1 = int r31.2 ∧ ρ 2 = pA n5 2) ∧ H (n5, 2) = some ⟨6, [[int a.roots, a1_, a2_, int a.edges, a4_, a5_]]⟩ ∧ n0 ≤ n ∧ (∀ i ∈ ids0, H i = H0 i) ∧ Sep H n (oS a4_ r31.1 :: oI a2_ r22.1 :: oN a1_ r13.1 :: oW a5_ a.inner :: K0) ((n5, 2) :: ids0)) (by refine ⟨?_, ?_, (by omega), hid, sp⟩ <;> simp [hh, m2_9, f32, -cellsA, -one1, cAx, o1x]) ?_
 clear hh m2_9
 rintro ρ H n38 ⟨hh, m2_9, hnn, hid, sp⟩
 have hq_n38 := hnn
 refine zE fun k' hk' => ?_
 obtain ⟨hb39, h⟩ := h
 obtain ⟨r40, er40, h⟩ := atm h
 have f41 := Sep.oc sp.f3
 simp [hh, m2_9, f41, -cellsA, -one1, cAx, o1x]
 refine RunK.callM (v := a5_) Ty_ok (markWireS_ok a.inner r31.2 hb39) e58 sp.f3 (by decide) (by decide) rfl (by simp [hh, m2_9, f41, -cellsA, -one1, cAx, o1x]) ?_
 rintro _ H42 n43 _ ⟨rfl, rfl⟩ sp hle45 hfr44
 rw [← er40] at sp
 rw [← er40]
 replace sp : Sep H42 n43 (oW a5_ r40.1 :: oS a4_ r31.1 :: oI a2_ r22.1 :: oN a1_ r13.1 :: K0) ((n5, 2) :: ids0) := sp
 have hid : ∀ i ∈ ids0, H42 i = H0 i := fun i hi => (hfr44 i (by simp [hi])).trans (hid i hi)
 have hnn : n0 ≤ n43 := by omega
 have hq_n43 := hnn
 have m2_9 : H42 (n5, 2) = some ⟨6, [[int a.roots, a1_, a2_, int a.edges, a4_, a5_]]⟩ := (hfr44 _ (by simp)).trans (by simp [hh, m2_9, Heap.get_set])
 simp [hh, m2_9, f41, -cellsA, -one1, cAx, o1x]
 apply hk'
 refine Runs.cut (fun ρ H n => ρ 1 = int r40.2 ∧ n0 ≤ n ∧ (∀ i ∈ ids0, H i = H0 i) ∧ Sep H n (oW a5_ r40.1 :: oS a4_ r31.1 :: oI a2_ r22.1 :: oN a1_ r13.1 :: K0) (ids0)) (by refine ⟨?_, (by omega), hid, (Sep.sub sp (by simp +contextual))⟩ <;> simp [hh, m2_9, f41, -cellsA, -one1, cAx, o1x]) ?_
 clear hh m2_9
 rintro ρ H n47 ⟨hh, hnn, hid, sp⟩
 have hq_n47 := hnn
 refine zE fun k' hk' => ?_
 simp [hh]
 apply hk'
 exact Runs.ret1 (v := int r40.2) Tryz.func19 Tryz.results19 (by simp [hh]) (hQ _ _ _ _ (Sep.sub (Sep.pack (Fill.v _ (Fill.own (Fill.own (Fill.v _ (Fill.own (Fill.own Fill.nil)))))) sp.f1.f2.f3) (by simp +contextual)) hid (by omega) ⟨((Big.mk a.roots r13.1 r22.1 a.edges r31.1 r40.1), r40.2), h, rfl, rfl⟩)
theorem markBig_ok (a : Big) (k_ : Int) (hp : markBig_pre a k_) : MutS Tryz.prog 19 (fun v => [v, int k_]) (.a [.c, .s [.c, .c, .s [.c]], .s [.c], .c, .s [.c], .s [.c, .c]]) (.agg (bC true a)) (fun e' r => e' = .agg [int (((markBig a k_).1).roots), .list true ((((markBig a k_).1).nodes).map (GNode.cells true)), .list true ((((markBig a k_).1).sites).map intC), int (((markBig a k_).1).edges), .list true ((((markBig a k_).1).outer).map strC), .list true ((((markBig a k_).1).inner).map Wire.cells)] ∧ r = int ((markBig a k_).2)) := (markBig_walk a k_ _ (markBig_vc a k_ hp)).mono (by rintro _ _ ⟨_, rfl, rfl, rfl⟩; exact ⟨rfl, rfl⟩)
end Go.Ab.Vg
/- Walks by program for YtpakecdmnomalaaGreatDoorAbMd. -/
namespace Go.Ab.Vg
open Go.Proofs
set_option maxRecDepth 100000
set_option linter.unusedSimpArgs false
set_option linter.unusedVariables false
attribute [local simp] intC mC pA
theorem e17 : Ent Tryz.prog 17 := Ent.of Tryz.func17 (by kernel_rfl) rfl
theorem eqM_walk (a : Match) (b : Match) (Z : Bool → Prop) (h : eqM_wp a b Z) : PureC Tryz.prog 17 [.agg (mC false a), .agg (mC false b)] (fun r => ∃ y : Bool, Z y ∧ r = bool y) := by
 unfold eqM_wp at h
 refine PureC.of Tryz.func17 rfl Tryz.ntmps17 (by simp) fun Q hQ => ?_
 refine Runs.cut (fun ρ H n => (ρ 0 = .agg (mC false a) ∧ ρ 1 = .agg (mC false b))) (by simp) ?_
 rintro ρ H n1 hh
 refine zE fun k' hk' => ?_
 simp [hh]
 apply hk'
 refine Runs.cut (fun ρ H n => (ρ 2 = pA n1 2 ∧ ρ 3 = pA (n1 + 1) 3) ∧ H (n1, 2) = some ⟨2, [mC false a]⟩ ∧ H (n1 + 1, 3) = some ⟨2, [mC false b]⟩) (by refine ⟨?_, ?_, ?_⟩ <;> simp [hh]) ?_
 clear hh
 rintro ρ H n4 ⟨hh, m2_1, m3_2⟩
 refine Runs.seq ?_
 refine zE fun k' hk' => ?_
 obtain ⟨hb5, h⟩ := h
 obtain ⟨r6, er6, h⟩ := atm h
 simp [hh, m2_1, m3_2]
 refine RunK.callA Ty_ok (eqIntS_ok a.nodes b.nodes hb5) e46 (.cons (argI false a.nodes) (.cons (argI false b.nodes) .nil)) (by decide) (by decide) rfl (by simp [hh, m2_1, m3_2]) ?_
 rintro _ rfl
 rw [← er6]
 simp [hh, m2_1, m3_2]
 apply hk'
 refine Runs.ite (b := (!r6)) (by simp [hh, m2_1, m3_2]) (fun dr6 => ?_) (fun dr6 => ?_)
 ·have dr6 : r6 = false := by simpa using dr6
  replace h := h.2 dr6
  refine zE fun k' hk' => ?_
  simp [hh, m2_1, m3_2, dr6]
  apply hk'
  exact Runs.ret1 (v := bool false) Tryz.func17 Tryz.results17 (by simp [hh, m2_1, m3_2, dr6]) (hQ _ _ _ _ (.of (.v _)) ⟨false, h, rfl⟩)
 have dr6 : r6 = true := by simpa using dr6
 replace h := h.1 dr6
 refine Runs.skip ?_
 refine Runs.seq ?_
 refine zE fun k' hk' => ?_
 obtain ⟨hb7, h⟩ := h
 obtain ⟨r8, er8, h⟩ := atm h
 simp [hh, m2_1, m3_2, dr6]
 refine RunK.callA Ty_ok (eqIntS_ok a.roots b.roots hb7) e46 (.cons (argI false a.roots) (.cons (argI false b.roots) .nil)) (by decide) (by decide) rfl (by simp [hh, m2_1, m3_2, dr6]) ?_
 rintro _ rfl
 rw [← er8]
 simp [hh, m2_1, m3_2, dr6]
 apply hk'
 refine Runs.ite (b := (!r8)) (by simp [hh, m2_1, m3_2, dr6]) (fun dr8 => ?_) (fun dr8 => ?_)
 ·have dr8 : r8 = false := by simpa using dr8
  replace h := h.2 dr8
  refine zE fun k' hk' => ?_
  simp [hh, m2_1, m3_2, dr6, dr8]
  apply hk'
  exact Runs.ret1 (v := bool false) Tryz.func17 Tryz.results17 (by simp [hh, m2_1, m3_2, dr6, dr8]) (hQ _ _ _ _ (.of (.v _)) ⟨false, h, rfl⟩)
 have dr8 : r8 = true := by simpa using dr8
 replace h := h.1 dr8
 refine Runs.skip ?_
 refine zE fun k' hk' => ?_
 simp [hh, m2_1, m3_2, dr6, dr8]
 apply hk'
 exact Runs.ret1 (v := bool true) Tryz.func17 Tryz.results17 (by simp [hh, m2_1, m3_2, dr6, dr8]) (hQ _ _ _ _ (.of (.v _)) ⟨true, h, rfl⟩)
theorem eqM_ok (a : Match) (b : Match) (hp : eqM_pre a b) : PureC Tryz.prog 17 [.agg (mC false a), .agg (mC false b)] (fun r => r = bool (eqM a b)) := (eqM_walk a b _ (eqM_vc a b hp)).mono (by rintro _ ⟨_, rfl, rfl⟩; rfl)
theorem e20 : Ent Tryz.prog 20 := Ent.of Tryz.func20 (by kernel_rfl) rfl
theorem markMatch_walk (a : Match) (k_ : Int) (Z : (Match × Int) → Prop) (h : markMatch_wp a k_ Z) : MutS Tryz.prog 20 (fun v => [v, int k_]) (.a [.s [.c], .s [.c]]) (.agg (mC true a)) (fun e' r => ∃ y : Match × Int, Z y ∧ e' = .agg (mC true y.1) ∧ r = int y.2) := by
 unfold markMatch_wp at h
 refine MutS.of Tryz.func20 rfl Tryz.ntmps20 (fun _ => by simp) fun H0 n0 v0 K0 ids0 sp Q hQ => ?_
 have h00 := sp.1
 have hid : ∀ i ∈ ids0, H0 i = H0 i := fun _ _ => rfl
 have hnn : n0 ≤ n0 := Nat.le_refl _
 replace sp := Sep.unpack sp
 obtain ⟨L0, hv, hl0, sp⟩ := sp
 subst hv
 obtain ⟨a0_, a1_, hv⟩ := len2 (by simpa using hl0)
 subst hv
 simp only [zip3, List.cons_append, List.nil_append] at sp
 replace sp := Sep.rot sp
 try simp only [List.cons_append, List.nil_append, List.append_assoc] at sp
 replace sp := Sep.rot sp
 try simp only [List.cons_append, List.nil_append, List.append_assoc] at sp
 replace sp := Sep.swap (K1 := K0) sp
 simp only [List.cons_append, List.nil_append] at sp
 refine Runs.cut (fun ρ H n => (ρ 0 = .agg [a0_, a1_] ∧ ρ 1 = int k_) ∧ n0 ≤ n ∧ (∀ i ∈ ids0, H i = H0 i) ∧ Sep H n (oI a0_ a.nodes :: oI a1_ a.roots :: K0) (ids0)) (by refine ⟨?_, (by omega), hid, sp⟩ <;> simp ) ?_
 rintro ρ H n3 ⟨hh, hnn, hid, sp⟩
 have hq_n3 := hnn
 refine zE fun k' hk' => ?_
 have f4 := Sep.oc sp
 have f5 := Sep.oc sp.f1
 simp [hh, f4, f5, -cellsA, -one1, cAx, o1x]
 apply hk'
 refine Runs.cut (fun ρ H n => (ρ 1 = int k_ ∧ ρ 2 = pA n3 2) ∧ H (n3, 2) = some ⟨2, [[a0_, a1_]]⟩ ∧ n0 ≤ n ∧ (∀ i ∈ ids0, H i = H0 i) ∧ Sep H n (oI a0_ a.nodes :: oI a1_ a.roots :: K0) ((n3, 2) :: ids0)) (by refine ⟨?_, ?_, (by omega), (by intro i hi; have hlt := h00 i (by simp [hi]); repeat (first | exact hid i hi | rw [Heap.get_set_ne _ _ (by rintro rfl; simp at hlt; omega)])), sp.var⟩ <;> simp [hh, f4, f5, -cellsA, -one1, cAx, o1x]) ?_
 clear hh
 rintro ρ H n7 ⟨hh, m2_5, hnn, hid, sp⟩
 have hq_n7 := hnn
 refine zE fun k' hk' => ?_
 obtain ⟨hb8, h⟩ := h
 obtain ⟨r9, er9, h⟩ := atm h
 have f10 := Sep.oc sp
 simp [hh, m2_5, f10, -cellsA, -one1, cAx, o1x]
 refine RunK.callM (v := a0_) Ty_ok (markIntS_ok a.nodes k_ hb8) e56 sp (by decide) (by decide) rfl (by simp [hh, m2_5, f10, -cellsA, -one1, cAx, o1x]) ?_
 rintro _ H11 n12 _ ⟨rfl, rfl⟩ sp hle14 hfr13
 rw [← er9] at sp
 rw [← er9]
 replace sp : Sep H11 n12 (oI a0_ r9.1 :: oI a1_ a.roots :: K0) ((n3, 2) :: ids0) := sp
 have hid : ∀ i ∈ ids0, H11 i = H0 i := fun i hi => (hfr13 i (by simp [hi])).trans (hid i hi)
 have hnn : n0 ≤ n12 := by omega
 have hq_n12 := hnn
 have m2_5 : H11 (n3, 2) = some ⟨2, [[a0_, a1_]]⟩ := (hfr13 _ (by simp)).trans (by simp [hh, m2_5, Heap.get_set])
 simp [hh, m2_5, f10, -cellsA, -one1, cAx, o1x]
 apply hk'
 refine Runs.cut (fun ρ H n => (ρ 1 = int r9.2 ∧ ρ 2 = pA n3 2) ∧ H (n3, 2) = some ⟨2, [[a0_, a1_]]⟩ ∧ n0 ≤ n ∧ (∀ i ∈ ids0, H i = H0 i) ∧ Sep H n (oI a0_ r9.1 :: oI a1_ a.roots :: K0) ((n3, 2) :: ids0)) (by refine ⟨?_, ?_, (by omega), hid, sp⟩ <;> simp [hh, m2_5, f10, -cellsA, -one1, cAx, o1x]) ?_
 clear hh m2_5
 rintro ρ H n16 ⟨hh, m2_5, hnn, hid, sp⟩
 have hq_n16 := hnn
 refine zE fun k' hk' => ?_
 obtain ⟨hb17, h⟩ := h
 obtain ⟨r18, er18, h⟩ := atm h
 have f19 := Sep.oc sp.f1
 simp [hh, m2_5, f19, -cellsA, -one1, cAx, o1x]
 refine RunK.callM (v := a1_) Ty_ok (markIntS_ok a.roots r9.2 hb17) e56 sp.f1 (by decide) (by decide) rfl (by simp [hh, m2_5, f19, -cellsA, -one1, cAx, o1x]) ?_
 rintro _ H20 n21 _ ⟨rfl, rfl⟩ sp hle23 hfr22
 rw [← er18] at sp
 rw [← er18]
 replace sp : Sep H20 n21 (oI a1_ r18.1 :: oI a0_ r9.1 :: K0) ((n3, 2) :: ids0) := sp
 have hid : ∀ i ∈ ids0, H20 i = H0 i := fun i hi => (hfr22 i (by simp [hi])).trans (hid i hi)
 have hnn : n0 ≤ n21 := by omega
 have hq_n21 := hnn
 have m2_5 : H20 (n3, 2) = some ⟨2, [[a0_, a1_]]⟩ := (hfr22 _ (by simp)).trans (by simp [hh, m2_5, Heap.get_set])
 simp [hh, m2_5, f19, -cellsA, -one1, cAx, o1x]
 apply hk'
 refine Runs.cut (fun ρ H n => ρ 1 = int r18.2 ∧ n0 ≤ n ∧ (∀ i ∈ ids0, H i = H0 i) ∧ Sep H n (oI a1_ r18.1 :: oI a0_ r9.1 :: K0) (ids0)) (by refine ⟨?_, (by omega), hid, (Sep.sub sp (by simp +contextual))⟩ <;> simp [hh, m2_5, f19, -cellsA, -one1, cAx, o1x]) ?_
 clear hh m2_5
 rintro ρ H n25 ⟨hh, hnn, hid, sp⟩
 have hq_n25 := hnn
 refine zE fun k' hk' => ?_
 simp [hh]
 apply hk'
 exact Runs.ret1 (v := int r18.2) Tryz.func20 Tryz.results20 (by simp [hh]) (hQ _ _ _ _ (Sep.sub (Sep.pack (Fill.own (Fill.own Fill.nil)) sp.f1) (by simp +contextual)) hid (by omega) ⟨((Match.mk r9.1 r18.1), r18.2), h, rfl, rfl⟩)
theorem markMatch_ok (a : Match) (k_ : Int) (hp : markMatch_pre a k_) : MutS Tryz.prog 20 (fun v => [v, int k_]) (.a [.s [.c], .s [.c]]) (.agg (mC true a)) (fun e' r => e' = .agg [.list true ((((markMatch a k_).1).nodes).map intC), .list true ((((markMatch a k_).1).roots).map intC)] ∧ r = int ((markMatch a k_).2)) := (markMatch_walk a k_ _ (markMatch_vc a k_ hp)).mono (by rintro _ _ ⟨_, rfl, rfl, rfl⟩; exact ⟨rfl, rfl⟩)
end Go.Ab.Vg
/- Walks by program for YtpakecdmnomalaaGreatDoorAbMq. -/
namespace Go.Ab.Vg
open Go.Proofs
set_option maxRecDepth 100000
set_option linter.unusedSimpArgs false
set_option linter.unusedVariables false
attribute [local simp] Control.cells GNode.cells Wire.cells intC sliceC strC bC mC pA
theorem e21 : Ent Tryz.prog 21 := Ent.of Tryz.func21 (by kernel_rfl) rfl
theorem heldMatch_walk (a : Match) (k_ : Int) (Z : Int → Prop) (h : heldMatch_wp a k_ Z) : PureC Tryz.prog 21 [.agg (mC false a), int k_] (fun r => ∃ y : Int, Z y ∧ r = int y) := by
 unfold heldMatch_wp at h
 refine PureC.of Tryz.func21 rfl Tryz.ntmps21 (by simp) fun Q hQ => ?_
 refine Runs.cut (fun ρ H n => (ρ 0 = .agg (mC false a) ∧ ρ 1 = int k_)) (by simp) ?_
 rintro ρ H n1 hh
 refine zE fun k' hk' => ?_
 simp [hh]
 apply hk'
 refine Runs.cut (fun ρ H n => (ρ 1 = int k_ ∧ ρ 2 = pA n1 2) ∧ H (n1, 2) = some ⟨2, [mC false a]⟩) (by refine ⟨?_, ?_⟩ <;> simp [hh]) ?_
 clear hh
 rintro ρ H n3 ⟨hh, m2_1⟩
 refine zE fun k' hk' => ?_
 obtain ⟨hb4, h⟩ := h
 obtain ⟨r5, er5, h⟩ := atm h
 simp [hh, m2_1]
 refine RunK.callA Ty_ok (heldIntS_ok a.nodes k_ hb4) e59 (.cons (argI false a.nodes) (.cons (.v _ _ _) .nil)) (by decide) (by decide) rfl (by simp [hh, m2_1]) ?_
 rintro _ rfl
 rw [← er5]
 simp [hh, m2_1]
 apply hk'
 refine Runs.seq ?_
 refine zE fun k' hk' => ?_
 obtain ⟨c6, ec6, h⟩ := atm h
 have f7 := ib_lss (k := .i64) ec6
 simp [hh, m2_1, f7, -intBin]
 apply hk'
 refine Runs.ite (b := c6) (by simp [hh, m2_1]) (fun dc6 => ?_) (fun dc6 => ?_)
 ·replace h := h.1 dc6
  refine zE fun k' hk' => ?_
  simp [hh, m2_1, dc6]
  apply hk'
  exact Runs.ret1 (v := int (-1)) Tryz.func21 Tryz.results21 (by simp [hh, m2_1, dc6]) (hQ _ _ _ _ (.of (.v _)) ⟨(-1), h, rfl⟩)
 replace h := h.2 dc6
 refine Runs.skip ?_
 refine zE fun k' hk' => ?_
 obtain ⟨hb8, h⟩ := h
 obtain ⟨r9, er9, h⟩ := atm h
 simp [hh, m2_1, dc6]
 refine RunK.callA Ty_ok (heldIntS_ok a.roots r5 hb8) e59 (.cons (argI false a.roots) (.cons (.v _ _ _) .nil)) (by decide) (by decide) rfl (by simp [hh, m2_1, dc6]) ?_
 rintro _ rfl
 rw [← er9]
 simp [hh, m2_1, dc6]
 apply hk'
 refine Runs.seq ?_
 refine zE fun k' hk' => ?_
 obtain ⟨c10, ec10, h⟩ := atm h
 have f11 := ib_lss (k := .i64) ec10
 simp [hh, m2_1, f11, dc6, -intBin]
 apply hk'
 refine Runs.ite (b := c10) (by simp [hh, m2_1, dc6]) (fun dc10 => ?_) (fun dc10 => ?_)
 ·replace h := h.1 dc10
  refine zE fun k' hk' => ?_
  simp [hh, m2_1, dc6, dc10]
  apply hk'
  refine Runs.cut (fun ρ H n => ρ 4 = int (-1)) (by simp [hh, m2_1, dc6, dc10]) ?_
  clear hh m2_1
  rintro ρ H n12 hh
  exact Runs.ret1 (v := int (-1)) Tryz.func21 Tryz.results21 (by simp [hh]) (hQ _ _ _ _ (.of (.v _)) ⟨(-1), h, rfl⟩)
 replace h := h.2 dc10
 refine Runs.skip ?_
 refine zE fun k' hk' => ?_
 simp [hh, m2_1, dc6, dc10]
 apply hk'
 refine Runs.cut (fun ρ H n => ρ 4 = int r9) (by simp [hh, m2_1, dc6, dc10]) ?_
 clear hh m2_1
 rintro ρ H n13 hh
 exact Runs.ret1 (v := int r9) Tryz.func21 Tryz.results21 (by simp [hh]) (hQ _ _ _ _ (.of (.v _)) ⟨r9, h, rfl⟩)
theorem heldMatch_ok (a : Match) (k_ : Int) (hp : heldMatch_pre a k_) : PureC Tryz.prog 21 [.agg (mC false a), int k_] (fun r => r = int (heldMatch a k_)) := (heldMatch_walk a k_ _ (heldMatch_vc a k_ hp)).mono (by rintro _ ⟨_, rfl, rfl⟩; rfl)
theorem e4 : Ent Tryz.prog 4 := Ent.of Tryz.func4 (by kernel_rfl) rfl
set_option maxHeartbeats 4000000 in
theorem lawFirst_walk (aSig : List Control) (aRedex : Big) (aAgent : Big) (Z : Bool → Prop) (h : lawFirst_wp aSig aRedex aAgent Z) : PureC Tryz.prog 4 [.list false (aSig.map Control.cells), .agg (bC false aRedex), .agg (bC false aAgent)] (fun r => ∃ y : Bool, Z y ∧ r = bool y) := by
 unfold lawFirst_wp at h
 have sp : Sep noHeap 0 [] [] := Sep.nil (by simp)
 refine PureC.of Tryz.func4 rfl Tryz.ntmps4 (by simp) fun Q hQ => ?_
 refine Runs.cut (fun ρ H n => (ρ 0 = .list false (aSig.map Control.cells) ∧ ρ 1 = .agg (bC false aRedex) ∧ ρ 2 = .agg (bC false aAgent)) ∧ Sep H n [] []) (by refine ⟨?_, sp⟩ <;> simp ) ?_
 rintro ρ H n1 ⟨hh, sp⟩
 refine zE fun k' hk' => ?_
 simp [hh]
 apply hk'
 refine Runs.cut (fun ρ H n => (ρ 0 = .list false (aSig.map Control.cells) ∧ ρ 4 = pA n1 4 ∧ ρ 5 = pA (n1 + 1) 5) ∧ H (n1, 4) = some ⟨6, [bC false aRedex]⟩ ∧ H (n1 + 1, 5) = some ⟨6, [bC false aAgent]⟩ ∧ Sep H n [] [(n1 + 1, 5), (n1, 4)]) (by refine ⟨?_, ?_, ?_, sp.var.var⟩ <;> simp [hh]) ?_
 clear hh
 rintro ρ H n4 ⟨hh, m4_1, m5_2, sp⟩
 refine zE fun k' hk' => ?_
 simp [hh, m4_1, m5_2]
 apply hk'
 refine zE fun k' hk' => ?_
 obtain ⟨hb5, h⟩ := h
 obtain ⟨r6, er6, h⟩ := atm h
 simp [hh, m4_1, m5_2]
 refine RunK.callA Ty_ok (szControlS_ok aSig 1048576 hb5.1.1 hb5.1.2 hb5.2.len hb5.2.names) e7 (.cons (argC false aSig) (.cons (.v _ _ _) .nil)) (by decide) (by decide) rfl (by simp [hh, m4_1, m5_2]) ?_
 rintro _ rfl
 rw [← er6]
 simp [hh, m4_1, m5_2]
 apply hk'
 refine Runs.seq ?_
 refine zE fun k' hk' => ?_
 obtain ⟨c7, ec7, h⟩ := atm h
 have f8 := ib_lss (k := .i64) ec7
 simp [hh, m4_1, m5_2, f8, -intBin]
 apply hk'
 refine Runs.ite (b := c7) (by simp [hh, m4_1, m5_2]) (fun dc7 => ?_) (fun dc7 => ?_)
 ·replace h := h.1 dc7
  refine zE fun k' hk' => ?_
  simp [hh, m4_1, m5_2, dc7]
  apply hk'
  exact Runs.ret1 (v := bool true) Tryz.func4 Tryz.results4 (by simp [hh, m4_1, m5_2, dc7]) (hQ _ _ _ _ (.of (.v _)) ⟨true, h, rfl⟩)
 replace h := h.2 dc7
 refine Runs.skip ?_
 refine zE fun k' hk' => ?_
 obtain ⟨hb9, h⟩ := h
 obtain ⟨r10, er10, h⟩ := atm h
 simp [hh, m4_1, m5_2, dc7]
 refine RunK.callA Ty_ok (szBigraph_ok aRedex r6 hb9.1.1 hb9.1.2 hb9.2) e8 (.cons (argB false aRedex) (.cons (.v _ _ _) .nil)) (by decide) (by decide) rfl (by simp [hh, m4_1, m5_2, dc7]) ?_
 rintro _ rfl
 rw [← er10]
 simp [hh, m4_1, m5_2, dc7]
 apply hk'
 refine Runs.seq ?_
 refine zE fun k' hk' => ?_
 obtain ⟨c11, ec11, h⟩ := atm h
 have f12 := ib_lss (k := .i64) ec11
 simp [hh, m4_1, m5_2, f12, dc7, -intBin]
 apply hk'
 refine Runs.ite (b := c11) (by simp [hh, m4_1, m5_2, dc7]) (fun dc11 => ?_) (fun dc11 => ?_)
 ·replace h := h.1 dc11
  refine zE fun k' hk' => ?_
  simp [hh, m4_1, m5_2, dc7, dc11]
  apply hk'
  exact Runs.ret1 (v := bool true) Tryz.func4 Tryz.results4 (by simp [hh, m4_1, m5_2, dc7, dc11]) (hQ _ _ _ _ (.of (.v _)) ⟨true, h, rfl⟩)
 replace h := h.2 dc11
 refine Runs.skip ?_
 refine zE fun k' hk' => ?_
 obtain ⟨hb13, h⟩ := h
 obtain ⟨r14, er14, h⟩ := atm h
 simp [hh, m4_1, m5_2, dc7, dc11]
 refine RunK.callA Ty_ok (szBigraph_ok aAgent r10 hb13.1.1 hb13.1.2 hb13.2) e8 (.cons (argB false aAgent) (.cons (.v _ _ _) .nil)) (by decide) (by decide) rfl (by simp [hh, m4_1, m5_2, dc7, dc11]) ?_
 rintro _ rfl
 rw [← er14]
 simp [hh, m4_1, m5_2, dc7, dc11]
 apply hk'
 refine Runs.cut (fun ρ H n => (ρ 0 = .list false (aSig.map Control.cells) ∧ ρ 4 = pA n1 4 ∧ ρ 5 = pA (n1 + 1) 5 ∧ ρ 7 = int r14) ∧ H (n1, 4) = some ⟨6, [bC false aRedex]⟩ ∧ H (n1 + 1, 5) = some ⟨6, [bC false aAgent]⟩ ∧ Sep H n [] [(n1 + 1, 5), (n1, 4)]) (by refine ⟨?_, ?_, ?_, sp⟩ <;> simp [hh, m4_1, m5_2, dc7, dc11]) ?_
 clear hh m4_1 m5_2
 rintro ρ H n15 ⟨hh, m4_1, m5_2, sp⟩
 refine Runs.seq ?_
 refine zE fun k' hk' => ?_
 obtain ⟨c16, ec16, h⟩ := atm h
 have f17 := ib_lss (k := .i64) ec16
 simp [hh, m4_1, m5_2, f17, -intBin]
 apply hk'
 refine Runs.ite (b := c16) (by simp [hh, m4_1, m5_2]) (fun dc16 => ?_) (fun dc16 => ?_)
 ·replace h := h.1 dc16
  refine zE fun k' hk' => ?_
  simp [hh, m4_1, m5_2, dc16]
  apply hk'
  exact Runs.ret1 (v := bool true) Tryz.func4 Tryz.results4 (by simp [hh, m4_1, m5_2, dc16]) (hQ _ _ _ _ (.of (.v _)) ⟨true, h, rfl⟩)
 replace h := h.2 dc16
 refine Runs.skip ?_
 refine Runs.cut (fun ρ H n => (ρ 0 = .list false (aSig.map Control.cells) ∧ ρ 4 = pA n1 4 ∧ ρ 5 = pA (n1 + 1) 5) ∧ H (n1, 4) = some ⟨6, [bC false aRedex]⟩ ∧ H (n1 + 1, 5) = some ⟨6, [bC false aAgent]⟩ ∧ Sep H n [] [(n1 + 1, 5), (n1, 4)]) (by refine ⟨?_, ?_, ?_, sp⟩ <;> simp [hh, m4_1, m5_2, dc16]) ?_
 clear hh m4_1 m5_2
 rintro ρ H n18 ⟨hh, m4_1, m5_2, sp⟩
 obtain ⟨hb19, h⟩ := h
 obtain ⟨r20, er20, h⟩ := atm h
 obtain ⟨hb21, h⟩ := h
 obtain ⟨r22, er22, h⟩ := atm h
 obtain ⟨hb23, h⟩ := h
 obtain ⟨r24, er24, h⟩ := atm h
 obtain ⟨hb25, h⟩ := h
 obtain ⟨r26, er26, h⟩ := atm h
 have hid28 := sp.1
 refine Runs.seq (Runs.drawI (Reg.Inv { m := 13, c := 6, a := 10, st := 11, d := 8, B := [(0, .list false (aSig.map Control.cells)), (4, pA n1 4), (5, pA (n1 + 1) 5)], F := fun GI AI => [(0, 36, .list false (aSig.map Control.cells)), (1, 37, .list true (r20.map Control.cells)), (2, 38, .agg (bC false aRedex)), (3, 39, .agg (bC true r22)), (4, 40, .agg (bC false aAgent)), (5, 41, .agg (bC true r24)), (6, 42, .tup [.agg (mC true r26.1), bool r26.2]), (7, 35, .tup [.agg (mC true r26.1), bool r26.2]), (8, 43, .agg (mC true r26.1)), (9, 44, bool r26.2), (10, 8, .ptr (AI, 8) 1 0 0), (12, 9, bool r26.2)], ent := fun GI => [], ob0 := ⟨2, [[.v (.slice none 0 0), .v (.slice none 0 0)]]⟩, ob1 := fun GI => ⟨2, [mC true r26.1]⟩, RG := fun GI => True, onC := [7, 8, 9, 11, 12], onA := [11, 12], H0 := H, n0 := n18, K := [], ids := [(n1 + 1, 5), (n1, 4)] }) draws (by decide) (Reg.init (Old.cons hh.1 (Old.cons hh.2.1 (Old.cons hh.2.2 Old.nil))) sp) ?_ ?_)
 ·rintro (_ | _ | _ | _ | _ | _ | _ | _ | _ | _ | _ | _ | _ | i)
  ·exact Reg.det (i := 0) rfl rfl rfl rfl (fun L' ρ' H' n' G' A' hO hT hd hG hcl hfr sp => ⟨.list false (aSig.map Control.cells), stepF_ok Ty_ok (by rw [stepF_loc]; have t0 := hO.at 0 rfl; simp [t0]), by simp⟩)
  ·exact Reg.det (i := 1) rfl rfl rfl rfl (fun L' ρ' H' n' G' A' hO hT hd hG hcl hfr sp => ⟨_, by have t36 := hT.at 0 rfl (hd ⟨0, .data⟩ (by simp) rfl); exact OpSem.callD2 (xs := [.list false (aSig.map Control.cells)]) ((toControlS_ok aSig hb19).pure) e10 (.cons (argC false aSig) .nil) (by simp [t36]) (by simp [t36]), by simp [er20]⟩)
  ·exact Reg.det (i := 2) rfl rfl rfl rfl (fun L' ρ' H' n' G' A' hO hT hd hG hcl hfr sp => ⟨.agg (bC false aRedex), stepF_ok Ty_ok (by rw [stepF_loc]; have t4 := hO.at 1 rfl; have mm4_1 := (hfr (n1, 4) (by simp)).trans m4_1; simp [t4, mm4_1]), by simp⟩)
  ·exact Reg.det (i := 3) rfl rfl rfl rfl (fun L' ρ' H' n' G' A' hO hT hd hG hcl hfr sp => ⟨_, by have t38 := hT.at 2 rfl (hd ⟨2, .data⟩ (by simp) rfl); exact OpSem.callD2 (xs := [.agg (bC false aRedex)]) ((toBigraph_ok aRedex hb21).pure) e11 (.cons (argB false aRedex) .nil) (by simp [t38]) (by simp [t38]), by simp [er22]⟩)
  ·exact Reg.det (i := 4) rfl rfl rfl rfl (fun L' ρ' H' n' G' A' hO hT hd hG hcl hfr sp => ⟨.agg (bC false aAgent), stepF_ok Ty_ok (by rw [stepF_loc]; have t5 := hO.at 2 rfl; have mm5_2 := (hfr (n1 + 1, 5) (by simp)).trans m5_2; simp [t5, mm5_2]), by simp⟩)
  ·exact Reg.det (i := 5) rfl rfl rfl rfl (fun L' ρ' H' n' G' A' hO hT hd hG hcl hfr sp => ⟨_, by have t40 := hT.at 4 rfl (hd ⟨4, .data⟩ (by simp) rfl); exact OpSem.callD2 (xs := [.agg (bC false aAgent)]) ((toBigraph_ok aAgent hb23).pure) e11 (.cons (argB false aAgent) .nil) (by simp [t40]) (by simp [t40]), by simp [er24]⟩)
  ·exact Reg.callP rfl rfl rfl (fun _ => rfl) (fun _ => trivial) (fun L' ρ' H' n' G' A' hO hT hd hfr sp => ⟨_, by have t37 := hT.at 1 rfl (hd ⟨1, .data⟩ (by simp) rfl); have t39 := hT.at 3 rfl (hd ⟨3, .data⟩ (by simp) rfl); have t41 := hT.at 5 rfl (hd ⟨5, .data⟩ (by simp) rfl); exact OpSem.callD2 (xs := [.list true (r20.map Control.cells), .agg (bC true r22), .agg (bC true r24)]) (sFirstMatch_ok r20 r22 r24 hb25) e15 (.cons (argC true r20) (.cons (argB true r22) (.cons (argB true r24) .nil))) (by simp [t37, t39, t41]) (by simp [t37, t39, t41]), by simp [er26]⟩)
  ·exact Reg.det (i := 7) rfl rfl rfl rfl (fun L' ρ' H' n' G' A' hO hT hd hG hcl hfr sp => ⟨.tup [.agg (mC true r26.1), bool r26.2], stepF_ok Ty_ok (by rw [stepF_loc]; have t42 := hT.at 6 rfl (hd ⟨6, .data⟩ (by simp) rfl); simp [t42]), by simp⟩) (hc := fun _ => ⟨⟨6, .data⟩, by simp, rfl, by simp⟩)
  ·exact Reg.det (i := 8) rfl rfl rfl rfl (fun L' ρ' H' n' G' A' hO hT hd hG hcl hfr sp => ⟨.agg (mC true r26.1), stepF_ok Ty_ok (by rw [stepF_loc]; have t35 := hT.at 7 rfl (hd ⟨7, .data⟩ (by simp) rfl); simp [t35]), by simp⟩) (hc := fun _ => ⟨⟨7, .data⟩, by simp, rfl, by simp⟩)
  ·exact Reg.det (i := 9) rfl rfl rfl rfl (fun L' ρ' H' n' G' A' hO hT hd hG hcl hfr sp => ⟨bool r26.2, stepF_ok Ty_ok (by rw [stepF_loc]; have t35 := hT.at 7 rfl (hd ⟨7, .data⟩ (by simp) rfl); simp [t35]), by simp⟩) (hc := fun _ => ⟨⟨7, .data⟩, by simp, rfl, by simp⟩)
  ·exact Reg.alloc Ty_ok rfl Ty_44 rfl rfl rfl
  ·exact Reg.store Ty_ok rfl rfl rfl hid28 ⟨⟨8, .data⟩, by simp, rfl, by simp⟩ ⟨⟨10, .data⟩, by simp, rfl, by simp⟩ (fun L' ρ' H' G' A' hO hT hd hG hw => by have t8 := hT.at 10 rfl (hd ⟨10, .data⟩ (by simp) rfl); have t43 := hT.at 8 rfl (hd ⟨8, .data⟩ (by simp) rfl); simp [t8, t43, hw, Ty_44, -one1, o1_int, o1_bool, o1_str, o1_nil, o1_list, o1_arr, o1_ptr])
  ·exact Reg.det (i := 12) rfl rfl rfl rfl (fun L' ρ' H' n' G' A' hO hT hd hG hcl hfr sp => ⟨bool r26.2, stepF_ok Ty_ok (by rw [stepF_loc]; have t44 := hT.at 9 rfl (hd ⟨9, .data⟩ (by simp) rfl); simp [t44]), by simp⟩) (hc := fun _ => ⟨⟨9, .data⟩, by simp, rfl, by simp⟩) (ha := fun _ => ⟨⟨11, .chain⟩, by simp, rfl, by simp⟩)
  ·exact StepI.none (by simp)
 ·rintro L' ⟨ρ, H, n31⟩ hI hr
  obtain ⟨G29, A30, hO, hT, hG, sp, hfr32, hn0_, hA_, m8_26⟩ := Reg.fin (by kernel_rfl) rfl (show (6 : Nat) < 13 ∧ (10 : Nat) < 13 ∧ (11 : Nat) < 13 by decide) (by intro G' A'; simp) hI hr
  show Runs _ _ _ _ ρ H n31 _
  replace hO : Old ρ _ := hO
  replace hT : AllF ρ _ := hT
  clear hh
  have h0 := hO.at 0 rfl
  have h4 := hO.at 1 rfl
  have h5 := hO.at 2 rfl
  have h36 := hT.at 0 rfl
  have h37 := hT.at 1 rfl
  have h38 := hT.at 2 rfl
  have h39 := hT.at 3 rfl
  have h40 := hT.at 4 rfl
  have h41 := hT.at 5 rfl
  have h42 := hT.at 6 rfl
  have h35 := hT.at 7 rfl
  have h43 := hT.at 8 rfl
  have h44 := hT.at 9 rfl
  have h8 := hT.at 10 rfl
  have h9 := hT.at 11 rfl
  have m5_2 : H (n1 + 1, 5) = some ⟨6, [bC false aAgent]⟩ := (hfr32 (n1 + 1, 5) (by simp)).trans m5_2
  have m4_1 : H (n1, 4) = some ⟨6, [bC false aRedex]⟩ := (hfr32 (n1, 4) (by simp)).trans m4_1
  have m8_26 : H (A30, 8) = some ⟨2, [mC true r26.1]⟩ := m8_26
  replace sp : Sep H n31 [] [(A30, 8), (n1 + 1, 5), (n1, 4)] := sp
  refine Runs.cut (fun ρ H n => (ρ 0 = .list false (aSig.map Control.cells) ∧ ρ 4 = pA n1 4 ∧ ρ 5 = pA (n1 + 1) 5 ∧ ρ 8 = .ptr (A30, 8) 1 0 0 ∧ ρ 9 = bool r26.2) ∧ H (n1, 4) = some ⟨6, [bC false aRedex]⟩ ∧ H (n1 + 1, 5) = some ⟨6, [bC false aAgent]⟩ ∧ H (A30, 8) = some ⟨2, [mC true r26.1]⟩ ∧ Sep H n [] [(A30, 8), (n1 + 1, 5), (n1, 4)]) (by refine ⟨?_, ?_, ?_, ?_, sp⟩ <;> simp [m4_1, m5_2, m8_26, h0, h4, h5, h36, h37, h38, h39, h40, h41, h42, h35, h43, h44, h8, h9]) ?_
  clear m4_1 m5_2 m8_26 h0 h4 h5 h36 h37 h38 h39 h40 h41 h42 h35 h43 h44 h8 h9
  rintro ρ H n33 ⟨hh, m4_1, m5_2, m8_26, sp⟩
  refine zE fun k' hk' => ?_
  obtain ⟨hb34, h⟩ := h
  obtain ⟨r35, er35, h⟩ := atm h
  simp [hh, m4_1, m5_2, m8_26]
  refine RunK.callW Ty_ok (toControlS_ok aSig hb34) e10 (.cons (argC false aSig) .nil) sp (by decide) (by decide) rfl (by simp [hh, m4_1, m5_2, m8_26]) ?_
  rintro v36 H37 n38 _ sp rfl hle40 hfr39
  rw [← er35] at sp
  have m4_1 : H37 (n1, 4) = some ⟨6, [bC false aRedex]⟩ := (hfr39 _ (by simp)).trans (by simp [hh, m4_1, m5_2, m8_26, Heap.get_set])
  have m5_2 : H37 (n1 + 1, 5) = some ⟨6, [bC false aAgent]⟩ := (hfr39 _ (by simp)).trans (by simp [hh, m4_1, m5_2, m8_26, Heap.get_set])
  have m8_26 : H37 (A30, 8) = some ⟨2, [mC true r26.1]⟩ := (hfr39 _ (by simp)).trans (by simp [hh, m4_1, m5_2, m8_26, Heap.get_set])
  simp [hh, m4_1, m5_2, m8_26]
  apply hk'
  refine Runs.cut (fun ρ H n => ∃ (v43 : AVal), (ρ 0 = .list false (aSig.map Control.cells) ∧ ρ 4 = pA n1 4 ∧ ρ 5 = pA (n1 + 1) 5 ∧ ρ 8 = .ptr (A30, 8) 1 0 0 ∧ ρ 9 = bool r26.2 ∧ ρ 10 = v43) ∧ H (n1, 4) = some ⟨6, [bC false aRedex]⟩ ∧ H (n1 + 1, 5) = some ⟨6, [bC false aAgent]⟩ ∧ H (A30, 8) = some ⟨2, [mC true r26.1]⟩ ∧ Sep H n [oE [.c, .c, .c] Control.cells v43 r35] [(A30, 8), (n1 + 1, 5), (n1, 4)]) (by refine ⟨v36, ?_, ?_, ?_, ?_, sp⟩ <;> simp [hh, m4_1, m5_2, m8_26]) ?_
  clear hh m4_1 m5_2 m8_26
  rintro ρ H n44 ⟨v43, hh, m4_1, m5_2, m8_26, sp⟩
  refine zE fun k' hk' => ?_
  obtain ⟨hb45, h⟩ := h
  obtain ⟨r46, er46, h⟩ := atm h
  simp [hh, m4_1, m5_2, m8_26]
  refine RunK.callW Ty_ok (toBigraph_ok aRedex hb45) e11 (.cons (argB false aRedex) .nil) sp (by decide) (by decide) rfl (by simp [hh, m4_1, m5_2, m8_26]) ?_
  rintro v47 H48 n49 _ sp rfl hle51 hfr50
  rw [← er46] at sp
  have m4_1 : H48 (n1, 4) = some ⟨6, [bC false aRedex]⟩ := (hfr50 _ (by simp)).trans (by simp [hh, m4_1, m5_2, m8_26, Heap.get_set])
  have m5_2 : H48 (n1 + 1, 5) = some ⟨6, [bC false aAgent]⟩ := (hfr50 _ (by simp)).trans (by simp [hh, m4_1, m5_2, m8_26, Heap.get_set])
  have m8_26 : H48 (A30, 8) = some ⟨2, [mC true r26.1]⟩ := (hfr50 _ (by simp)).trans (by simp [hh, m4_1, m5_2, m8_26, Heap.get_set])
  replace sp := Sep.unpack sp
  obtain ⟨L59, hv, hl60, sp⟩ := sp
  subst hv
  obtain ⟨v53, v54, v55, v56, v57, v58, hv⟩ := len6 (by simpa using hl60)
  subst hv
  simp only [zip3, List.cons_append, List.nil_append] at sp
  replace sp := Sep.scalar sp
  obtain ⟨hv, sp⟩ := sp
  subst hv
  replace sp := Sep.rot sp
  try simp only [List.cons_append, List.nil_append, List.append_assoc] at sp
  replace sp := Sep.rot sp
  try simp only [List.cons_append, List.nil_append, List.append_assoc] at sp
  replace sp := Sep.scalar sp
  obtain ⟨hv, sp⟩ := sp
  subst hv
  replace sp := Sep.rot sp
  try simp only [List.cons_append, List.nil_append, List.append_assoc] at sp
  replace sp := Sep.rot sp
  try simp only [List.cons_append, List.nil_append, List.append_assoc] at sp
  replace sp : Sep H48 n49 [oE [.c, .c, .c] Control.cells v43 r35, oN v54 r46.nodes, oI v55 r46.sites, oS v57 r46.outer, oW v58 r46.inner] [(A30, 8), (n1 + 1, 5), (n1, 4)] := sp
  have f66 := Sep.oc sp.f1
  have f67 := Sep.oc sp.f2
  have f68 := Sep.oc sp.f3
  have f69 := Sep.oc sp.f4
  simp [hh, m4_1, m5_2, m8_26, f66, f67, f68, f69, -cellsA, -one1, cAx, o1x]
  apply hk'
  refine Runs.cut (fun ρ H n => ∃ (v70 v71 v72 v73 v74 : AVal), (ρ 0 = .list false (aSig.map Control.cells) ∧ ρ 4 = pA n1 4 ∧ ρ 5 = pA (n1 + 1) 5 ∧ ρ 8 = .ptr (A30, 8) 1 0 0 ∧ ρ 9 = bool r26.2 ∧ ρ 10 = v70 ∧ ρ 11 = pA n49 11) ∧ H (n1, 4) = some ⟨6, [bC false aRedex]⟩ ∧ H (n1 + 1, 5) = some ⟨6, [bC false aAgent]⟩ ∧ H (A30, 8) = some ⟨2, [mC true r26.1]⟩ ∧ H (n49, 11) = some ⟨6, [[int r46.roots, v71, v72, int r46.edges, v73, v74]]⟩ ∧ Sep H n [oE [.c, .c, .c] Control.cells v70 r35, oN v71 r46.nodes, oI v72 r46.sites, oS v73 r46.outer, oW v74 r46.inner] [(n49, 11), (A30, 8), (n1 + 1, 5), (n1, 4)]) (by refine ⟨v43, v54, v55, v57, v58, ?_, ?_, ?_, ?_, ?_, sp.var⟩ <;> simp [hh, m4_1, m5_2, m8_26, f66, f67, f68, f69, -cellsA, -one1, cAx, o1x]) ?_
  clear hh m4_1 m5_2 m8_26
  rintro ρ H n75 ⟨v70, v71, v72, v73, v74, hh, m4_1, m5_2, m8_26, m11_64, sp⟩
  refine zE fun k' hk' => ?_
  obtain ⟨hb76, h⟩ := h
  obtain ⟨r77, er77, h⟩ := atm h
  simp [hh, m4_1, m5_2, m8_26, m11_64]
  refine RunK.callW Ty_ok (toBigraph_ok aAgent hb76) e11 (.cons (argB false aAgent) .nil) sp (by decide) (by decide) rfl (by simp [hh, m4_1, m5_2, m8_26, m11_64]) ?_
  rintro v78 H79 n80 _ sp rfl hle82 hfr81
  rw [← er77] at sp
  have m4_1 : H79 (n1, 4) = some ⟨6, [bC false aRedex]⟩ := (hfr81 _ (by simp)).trans (by simp [hh, m4_1, m5_2, m8_26, m11_64, Heap.get_set])
  have m5_2 : H79 (n1 + 1, 5) = some ⟨6, [bC false aAgent]⟩ := (hfr81 _ (by simp)).trans (by simp [hh, m4_1, m5_2, m8_26, m11_64, Heap.get_set])
  have m8_26 : H79 (A30, 8) = some ⟨2, [mC true r26.1]⟩ := (hfr81 _ (by simp)).trans (by simp [hh, m4_1, m5_2, m8_26, m11_64, Heap.get_set])
  have m11_64 : H79 (n49, 11) = some ⟨6, [[int r46.roots, v71, v72, int r46.edges, v73, v74]]⟩ := (hfr81 _ (by simp)).trans (by simp [hh, m4_1, m5_2, m8_26, m11_64, Heap.get_set])
  replace sp := Sep.unpack sp
  obtain ⟨L90, hv, hl91, sp⟩ := sp
  subst hv
  obtain ⟨v84, v85, v86, v87, v88, v89, hv⟩ := len6 (by simpa using hl91)
  subst hv
  simp only [zip3, List.cons_append, List.nil_append] at sp
  replace sp := Sep.scalar sp
  obtain ⟨hv, sp⟩ := sp
  subst hv
  replace sp := Sep.rot sp
  try simp only [List.cons_append, List.nil_append, List.append_assoc] at sp
  replace sp := Sep.rot sp
  try simp only [List.cons_append, List.nil_append, List.append_assoc] at sp
  replace sp := Sep.scalar sp
  obtain ⟨hv, sp⟩ := sp
  subst hv
  replace sp := Sep.rot sp
  try simp only [List.cons_append, List.nil_append, List.append_assoc] at sp
  replace sp := Sep.rot sp
  try simp only [List.cons_append, List.nil_append, List.append_assoc] at sp
  replace sp : Sep H79 n80 [oE [.c, .c, .c] Control.cells v70 r35, oN v71 r46.nodes, oI v72 r46.sites, oS v73 r46.outer, oW v74 r46.inner, oN v85 r77.nodes, oI v86 r77.sites, oS v88 r77.outer, oW v89 r77.inner] [(n49, 11), (A30, 8), (n1 + 1, 5), (n1, 4)] := sp
  have f97 := Sep.oc sp.f5
  have f98 := Sep.oc sp.f6
  have f99 := Sep.oc sp.f7
  have f100 := Sep.oc sp.f8
  simp [hh, m4_1, m5_2, m8_26, m11_64, f97, f98, f99, f100, -cellsA, -one1, cAx, o1x]
  apply hk'
  refine Runs.cut (fun ρ H n => ∃ (v101 v102 v103 v104 v105 v106 v107 v108 v109 : AVal), (ρ 0 = .list false (aSig.map Control.cells) ∧ ρ 4 = pA n1 4 ∧ ρ 5 = pA (n1 + 1) 5 ∧ ρ 8 = .ptr (A30, 8) 1 0 0 ∧ ρ 9 = bool r26.2 ∧ ρ 10 = v101 ∧ ρ 11 = pA n49 11 ∧ ρ 12 = pA n80 12) ∧ H (n1, 4) = some ⟨6, [bC false aRedex]⟩ ∧ H (n1 + 1, 5) = some ⟨6, [bC false aAgent]⟩ ∧ H (A30, 8) = some ⟨2, [mC true r26.1]⟩ ∧ H (n49, 11) = some ⟨6, [[int r46.roots, v102, v103, int r46.edges, v104, v105]]⟩ ∧ H (n80, 12) = some ⟨6, [[int r77.roots, v106, v107, int r77.edges, v108, v109]]⟩ ∧ Sep H n [oE [.c, .c, .c] Control.cells v101 r35, oN v102 r46.nodes, oI v103 r46.sites, oS v104 r46.outer, oW v105 r46.inner, oN v106 r77.nodes, oI v107 r77.sites, oS v108 r77.outer, oW v109 r77.inner] [(n80, 12), (n49, 11), (A30, 8), (n1 + 1, 5), (n1, 4)]) (by refine ⟨v70, v71, v72, v73, v74, v85, v86, v88, v89, ?_, ?_, ?_, ?_, ?_, ?_, sp.var⟩ <;> simp [hh, m4_1, m5_2, m8_26, m11_64, f97, f98, f99, f100, -cellsA, -one1, cAx, o1x]) ?_
  clear hh m4_1 m5_2 m8_26 m11_64
  rintro ρ H n110 ⟨v101, v102, v103, v104, v105, v106, v107, v108, v109, hh, m4_1, m5_2, m8_26, m11_64, m12_95, sp⟩
  refine zE fun k' hk' => ?_
  obtain ⟨hb111, h⟩ := h
  obtain ⟨r112, er112, h⟩ := atm h
  simp [hh, m4_1, m5_2, m8_26, m11_64, m12_95]
  refine RunK.callW Ty_ok (FirstMatch_ok r35 r46 r77 hb111) e16 (.cons (Sep.argOk' sp (old_listF (by simp))) (.cons (ArgOk.agg (.cons (.v _ _ _) (.cons (Sep.argOk' sp.f1 (old_nest_Node true r46.nodes)) (.cons (Sep.argOk' sp.f2 (old_listF (by simp))) (.cons (.v _ _ _) (.cons (Sep.argOk' sp.f3 (old_listF (by simp))) (.cons (Sep.argOk' sp.f4 (old_listF (by simp))) .nil))))))) (.cons (ArgOk.agg (.cons (.v _ _ _) (.cons (Sep.argOk' sp.f5 (old_nest_Node true r77.nodes)) (.cons (Sep.argOk' sp.f6 (old_listF (by simp))) (.cons (.v _ _ _) (.cons (Sep.argOk' sp.f7 (old_listF (by simp))) (.cons (Sep.argOk' sp.f8 (old_listF (by simp))) .nil))))))) .nil))) sp (by decide) (by decide) rfl (by simp [hh, m4_1, m5_2, m8_26, m11_64, m12_95]) ?_
  rintro v113 H114 n115 _ sp rfl hle117 hfr116
  rw [← er112] at sp
  have m4_1 : H114 (n1, 4) = some ⟨6, [bC false aRedex]⟩ := (hfr116 _ (by simp)).trans (by simp [hh, m4_1, m5_2, m8_26, m11_64, m12_95, Heap.get_set])
  have m5_2 : H114 (n1 + 1, 5) = some ⟨6, [bC false aAgent]⟩ := (hfr116 _ (by simp)).trans (by simp [hh, m4_1, m5_2, m8_26, m11_64, m12_95, Heap.get_set])
  have m8_26 : H114 (A30, 8) = some ⟨2, [mC true r26.1]⟩ := (hfr116 _ (by simp)).trans (by simp [hh, m4_1, m5_2, m8_26, m11_64, m12_95, Heap.get_set])
  have m11_64 : H114 (n49, 11) = some ⟨6, [[int r46.roots, v102, v103, int r46.edges, v104, v105]]⟩ := (hfr116 _ (by simp)).trans (by simp [hh, m4_1, m5_2, m8_26, m11_64, m12_95, Heap.get_set])
  have m12_95 : H114 (n80, 12) = some ⟨6, [[int r77.roots, v106, v107, int r77.edges, v108, v109]]⟩ := (hfr116 _ (by simp)).trans (by simp [hh, m4_1, m5_2, m8_26, m11_64, m12_95, Heap.get_set])
  replace sp := Sep.unpackT sp
  obtain ⟨L121, hv, hl122, sp⟩ := sp
  subst hv
  obtain ⟨v119, v120, hv⟩ := len2 (by simpa using hl122)
  subst hv
  simp only [zip3, List.cons_append, List.nil_append] at sp
  replace sp := Sep.unpack sp
  obtain ⟨L125, hv, hl126, sp⟩ := sp
  subst hv
  obtain ⟨v123, v124, hv⟩ := len2 (by simpa using hl126)
  subst hv
  simp only [zip3, List.cons_append, List.nil_append] at sp
  replace sp := Sep.rot sp
  try simp only [List.cons_append, List.nil_append, List.append_assoc] at sp
  replace sp := Sep.rot sp
  try simp only [List.cons_append, List.nil_append, List.append_assoc] at sp
  replace sp := Sep.scalar sp
  obtain ⟨hv, sp⟩ := sp
  subst hv
  replace sp : Sep H114 n115 [oE [.c, .c, .c] Control.cells v101 r35, oN v102 r46.nodes, oI v103 r46.sites, oS v104 r46.outer, oW v105 r46.inner, oN v106 r77.nodes, oI v107 r77.sites, oS v108 r77.outer, oW v109 r77.inner, oI v123 r112.1.nodes, oI v124 r112.1.roots] [(n80, 12), (n49, 11), (A30, 8), (n1 + 1, 5), (n1, 4)] := sp
  have f130 := Sep.oc sp.f9
  have f131 := Sep.oc sp.f10
  simp [hh, m4_1, m5_2, m8_26, m11_64, m12_95, f130, f131, -cellsA, -one1, cAx, o1x]
  apply hk'
  refine Runs.cut (fun ρ H n => ∃ (v132 v133 v134 v135 v136 v137 v138 v139 v140 v141 v142 : AVal), (ρ 0 = .list false (aSig.map Control.cells) ∧ ρ 4 = pA n1 4 ∧ ρ 5 = pA (n1 + 1) 5 ∧ ρ 8 = .ptr (A30, 8) 1 0 0 ∧ ρ 9 = bool r26.2 ∧ ρ 10 = v132 ∧ ρ 11 = pA n49 11 ∧ ρ 12 = pA n80 12 ∧ ρ 13 = pA n115 13 ∧ ρ 14 = bool r112.2) ∧ H (n1, 4) = some ⟨6, [bC false aRedex]⟩ ∧ H (n1 + 1, 5) = some ⟨6, [bC false aAgent]⟩ ∧ H (A30, 8) = some ⟨2, [mC true r26.1]⟩ ∧ H (n49, 11) = some ⟨6, [[int r46.roots, v133, v134, int r46.edges, v135, v136]]⟩ ∧ H (n80, 12) = some ⟨6, [[int r77.roots, v137, v138, int r77.edges, v139, v140]]⟩ ∧ H (n115, 13) = some ⟨2, [[v141, v142]]⟩ ∧ Sep H n [oE [.c, .c, .c] Control.cells v132 r35, oN v133 r46.nodes, oI v134 r46.sites, oS v135 r46.outer, oW v136 r46.inner, oN v137 r77.nodes, oI v138 r77.sites, oS v139 r77.outer, oW v140 r77.inner, oI v141 r112.1.nodes, oI v142 r112.1.roots] [(n115, 13), (n80, 12), (n49, 11), (A30, 8), (n1 + 1, 5), (n1, 4)]) (by refine ⟨v101, v102, v103, v104, v105, v106, v107, v108, v109, v123, v124, ?_, ?_, ?_, ?_, ?_, ?_, ?_, sp.var⟩ <;> simp [hh, m4_1, m5_2, m8_26, m11_64, m12_95, f130, f131, -cellsA, -one1, cAx, o1x]) ?_
  clear hh m4_1 m5_2 m8_26 m11_64 m12_95
  rintro ρ H n143 ⟨v132, v133, v134, v135, v136, v137, v138, v139, v140, v141, v142, hh, m4_1, m5_2, m8_26, m11_64, m12_95, m13_128, sp⟩
  refine Runs.seq ?_
  refine zE fun k' hk' => ?_
  obtain ⟨J144, hJ145, hr146⟩ := h
  have fin159 : ∀ (sJ : Bool) (ρ : Env) (H : Heap) (n : Nat), J144 sJ → (match sJ with | b147 => ∃ (v148 v149 v150 v151 v152 v153 v154 v155 v156 v157 v158 : AVal), (ρ 0 = .list false (aSig.map Control.cells) ∧ ρ 4 = pA n1 4 ∧ ρ 5 = pA (n1 + 1) 5 ∧ ρ 8 = .ptr (A30, 8) 1 0 0 ∧ ρ 9 = bool r26.2 ∧ ρ 10 = v148 ∧ ρ 11 = pA n49 11 ∧ ρ 12 = pA n80 12 ∧ ρ 13 = pA n115 13 ∧ ρ 14 = bool r112.2 ∧ ρ 66 = bool b147) ∧ H (n1, 4) = some ⟨6, [bC false aRedex]⟩ ∧ H (n1 + 1, 5) = some ⟨6, [bC false aAgent]⟩ ∧ H (A30, 8) = some ⟨2, [mC true r26.1]⟩ ∧ H (n49, 11) = some ⟨6, [[int r46.roots, v149, v150, int r46.edges, v151, v152]]⟩ ∧ H (n80, 12) = some ⟨6, [[int r77.roots, v153, v154, int r77.edges, v155, v156]]⟩ ∧ H (n115, 13) = some ⟨2, [[v157, v158]]⟩ ∧ Sep H n [oE [.c, .c, .c] Control.cells v148 r35, oN v149 r46.nodes, oI v150 r46.sites, oS v151 r46.outer, oW v152 r46.inner, oN v153 r77.nodes, oI v154 r77.sites, oS v155 r77.outer, oW v156 r77.inner, oI v157 r112.1.nodes, oI v158 r112.1.roots] [(n115, 13), (n80, 12), (n49, 11), (A30, 8), (n1 + 1, 5), (n1, 4)]) → Runs Tryz.prog 4 142 k' ρ H n Q := by
   rintro b147 ρ H n160 h ⟨v148, v149, v150, v151, v152, v153, v154, v155, v156, v157, v158, hh, m4_1, m5_2, m8_26, m11_64, m12_95, m13_128, sp⟩
   replace h := hr146 _ h
   apply hk'
   refine Runs.ite (b := b147) (by simp [hh, m4_1, m5_2, m8_26, m11_64, m12_95, m13_128]) (fun db147 => ?_) (fun db147 => ?_)
   ·replace h := h.1 db147
    refine zE fun k' hk' => ?_
    simp [hh, m4_1, m5_2, m8_26, m11_64, m12_95, m13_128, db147]
    apply hk'
    exact Runs.ret1 (v := bool false) Tryz.func4 Tryz.results4 (by simp [hh, m4_1, m5_2, m8_26, m11_64, m12_95, m13_128, db147]) (hQ _ _ _ _ (.of (.v _)) ⟨false, h, rfl⟩)
   replace h := h.2 db147
   refine Runs.skip ?_
   refine Runs.seq ?_
   refine zE fun k' hk' => ?_
   obtain ⟨hb161, h⟩ := h
   obtain ⟨r162, er162, h⟩ := atm h
   simp [hh, m4_1, m5_2, m8_26, m11_64, m12_95, m13_128, db147]
   refine RunK.callW Ty_ok (toControlS_ok aSig hb161) e10 (.cons (argC false aSig) .nil) sp (by decide) (by decide) rfl (by simp [hh, m4_1, m5_2, m8_26, m11_64, m12_95, m13_128, db147]) ?_
   rintro v163 H164 n165 _ sp rfl hle167 hfr166
   rw [← er162] at sp
   have m4_1 : H164 (n1, 4) = some ⟨6, [bC false aRedex]⟩ := (hfr166 _ (by simp)).trans (by simp [hh, m4_1, m5_2, m8_26, m11_64, m12_95, m13_128, Heap.get_set])
   have m5_2 : H164 (n1 + 1, 5) = some ⟨6, [bC false aAgent]⟩ := (hfr166 _ (by simp)).trans (by simp [hh, m4_1, m5_2, m8_26, m11_64, m12_95, m13_128, Heap.get_set])
   have m8_26 : H164 (A30, 8) = some ⟨2, [mC true r26.1]⟩ := (hfr166 _ (by simp)).trans (by simp [hh, m4_1, m5_2, m8_26, m11_64, m12_95, m13_128, Heap.get_set])
   have m11_64 : H164 (n49, 11) = some ⟨6, [[int r46.roots, v149, v150, int r46.edges, v151, v152]]⟩ := (hfr166 _ (by simp)).trans (by simp [hh, m4_1, m5_2, m8_26, m11_64, m12_95, m13_128, Heap.get_set])
   have m12_95 : H164 (n80, 12) = some ⟨6, [[int r77.roots, v153, v154, int r77.edges, v155, v156]]⟩ := (hfr166 _ (by simp)).trans (by simp [hh, m4_1, m5_2, m8_26, m11_64, m12_95, m13_128, Heap.get_set])
   have m13_128 : H164 (n115, 13) = some ⟨2, [[v157, v158]]⟩ := (hfr166 _ (by simp)).trans (by simp [hh, m4_1, m5_2, m8_26, m11_64, m12_95, m13_128, Heap.get_set])
   obtain ⟨hb170, h⟩ := h
   obtain ⟨r171, er171, h⟩ := atm h
   simp [hh, m4_1, m5_2, m8_26, m11_64, m12_95, m13_128, db147]
   refine RunK.callA Ty_ok (eqControlS_ok r35 r162 hb170) e13 (.cons (Sep.argOk' sp.f1 (old_listF (by simp))) (.cons (Sep.argOk' sp (old_listF (by simp))) .nil)) (by decide) (by decide) rfl (by simp [hh, m4_1, m5_2, m8_26, m11_64, m12_95, m13_128, db147]) ?_
   rintro _ rfl
   rw [← er171]
   simp [hh, m4_1, m5_2, m8_26, m11_64, m12_95, m13_128, db147]
   apply hk'
   refine Runs.cut (fun ρ H n => ∃ (v172 v173 v174 v175 v176 v177 v178 v179 v180 v181 v182 : AVal), (ρ 0 = .list false (aSig.map Control.cells) ∧ ρ 4 = pA n1 4 ∧ ρ 5 = pA (n1 + 1) 5 ∧ ρ 8 = .ptr (A30, 8) 1 0 0 ∧ ρ 9 = bool r26.2 ∧ ρ 10 = v172 ∧ ρ 11 = pA n49 11 ∧ ρ 12 = pA n80 12 ∧ ρ 13 = pA n115 13 ∧ ρ 14 = bool r112.2 ∧ ρ 71 = bool (!r171)) ∧ H (n1, 4) = some ⟨6, [bC false aRedex]⟩ ∧ H (n1 + 1, 5) = some ⟨6, [bC false aAgent]⟩ ∧ H (A30, 8) = some ⟨2, [mC true r26.1]⟩ ∧ H (n49, 11) = some ⟨6, [[int r46.roots, v173, v174, int r46.edges, v175, v176]]⟩ ∧ H (n80, 12) = some ⟨6, [[int r77.roots, v177, v178, int r77.edges, v179, v180]]⟩ ∧ H (n115, 13) = some ⟨2, [[v181, v182]]⟩ ∧ Sep H n [oE [.c, .c, .c] Control.cells v172 r35, oN v173 r46.nodes, oI v174 r46.sites, oS v175 r46.outer, oW v176 r46.inner, oN v177 r77.nodes, oI v178 r77.sites, oS v179 r77.outer, oW v180 r77.inner, oI v181 r112.1.nodes, oI v182 r112.1.roots] [(n115, 13), (n80, 12), (n49, 11), (A30, 8), (n1 + 1, 5), (n1, 4)]) (by refine ⟨v148, v149, v150, v151, v152, v153, v154, v155, v156, v157, v158, ?_, ?_, ?_, ?_, ?_, ?_, ?_, sp.dr⟩ <;> simp [hh, m4_1, m5_2, m8_26, m11_64, m12_95, m13_128, db147]) ?_
   clear hh m4_1 m5_2 m8_26 m11_64 m12_95 m13_128
   rintro ρ H n183 ⟨v172, v173, v174, v175, v176, v177, v178, v179, v180, v181, v182, hh, m4_1, m5_2, m8_26, m11_64, m12_95, m13_128, sp⟩
   refine Runs.ite (b := (!r171)) (by simp [hh, m4_1, m5_2, m8_26, m11_64, m12_95, m13_128]) (fun dr171 => ?_) (fun dr171 => ?_)
   ·have dr171 : r171 = false := by simpa using dr171
    replace h := h.2 dr171
    refine zE fun k' hk' => ?_
    simp [hh, m4_1, m5_2, m8_26, m11_64, m12_95, m13_128, dr171]
    apply hk'
    exact Runs.ret1 (v := bool false) Tryz.func4 Tryz.results4 (by simp [hh, m4_1, m5_2, m8_26, m11_64, m12_95, m13_128, dr171]) (hQ _ _ _ _ (.of (.v _)) ⟨false, h, rfl⟩)
   have dr171 : r171 = true := by simpa using dr171
   replace h := h.1 dr171
   refine Runs.skip ?_
   refine Runs.seq ?_
   refine Runs.seqD Ty_ok kindOp_ok draws (by decide) (by kernel_rfl) fun k' hk' => ?_
   obtain ⟨hb184, h⟩ := h
   obtain ⟨r185, er185, h⟩ := atm h
   simp [hh, m4_1, m5_2, m8_26, m11_64, m12_95, m13_128, dr171]
   refine RunDK.callA Ty_ok kindOp_ok ((toBigraph_ok aRedex hb184).pure) e11 (.cons (argB false aRedex) .nil) (by decide) rfl (by simp [hh, m4_1, m5_2, m8_26, m11_64, m12_95, m13_128, dr171]) ?_
   rw [← er185]
   obtain ⟨hb186, h⟩ := h
   obtain ⟨r187, er187, h⟩ := atm h
   simp [hh, m4_1, m5_2, m8_26, m11_64, m12_95, m13_128, dr171]
   refine RunDK.callA Ty_ok kindOp_ok (eqBigraph_ok r46 r185 hb186) e14 (.cons (ArgOk.agg (.cons (.v _ _ _) (.cons (Sep.argOk' sp.f1 (old_nest_Node true r46.nodes)) (.cons (Sep.argOk' sp.f2 (old_listF (by simp))) (.cons (.v _ _ _) (.cons (Sep.argOk' sp.f3 (old_listF (by simp))) (.cons (Sep.argOk' sp.f4 (old_listF (by simp))) .nil))))))) (.cons (argB true r185) .nil)) (by decide) rfl (by simp [hh, m4_1, m5_2, m8_26, m11_64, m12_95, m13_128, dr171]) ?_
   rw [← er187]
   simp [hh, m4_1, m5_2, m8_26, m11_64, m12_95, m13_128, dr171]
   apply hk'
   refine Runs.ite (b := (!r187)) (by simp [hh, m4_1, m5_2, m8_26, m11_64, m12_95, m13_128, dr171]) (fun dr187 => ?_) (fun dr187 => ?_)
   ·have dr187 : r187 = false := by simpa using dr187
    replace h := h.2 dr187
    refine zE fun k' hk' => ?_
    simp [hh, m4_1, m5_2, m8_26, m11_64, m12_95, m13_128, dr171, dr187]
    apply hk'
    exact Runs.ret1 (v := bool false) Tryz.func4 Tryz.results4 (by simp [hh, m4_1, m5_2, m8_26, m11_64, m12_95, m13_128, dr171, dr187]) (hQ _ _ _ _ (.of (.v _)) ⟨false, h, rfl⟩)
   have dr187 : r187 = true := by simpa using dr187
   replace h := h.1 dr187
   refine Runs.skip ?_
   refine Runs.seq ?_
   refine Runs.seqD Ty_ok kindOp_ok draws (by decide) (by kernel_rfl) fun k' hk' => ?_
   obtain ⟨hb188, h⟩ := h
   obtain ⟨r189, er189, h⟩ := atm h
   simp [hh, m4_1, m5_2, m8_26, m11_64, m12_95, m13_128, dr171, dr187]
   refine RunDK.callA Ty_ok kindOp_ok ((toBigraph_ok aAgent hb188).pure) e11 (.cons (argB false aAgent) .nil) (by decide) rfl (by simp [hh, m4_1, m5_2, m8_26, m11_64, m12_95, m13_128, dr171, dr187]) ?_
   rw [← er189]
   obtain ⟨hb190, h⟩ := h
   obtain ⟨r191, er191, h⟩ := atm h
   simp [hh, m4_1, m5_2, m8_26, m11_64, m12_95, m13_128, dr171, dr187]
   refine RunDK.callA Ty_ok kindOp_ok (eqBigraph_ok r77 r189 hb190) e14 (.cons (ArgOk.agg (.cons (.v _ _ _) (.cons (Sep.argOk' sp.f5 (old_nest_Node true r77.nodes)) (.cons (Sep.argOk' sp.f6 (old_listF (by simp))) (.cons (.v _ _ _) (.cons (Sep.argOk' sp.f7 (old_listF (by simp))) (.cons (Sep.argOk' sp.f8 (old_listF (by simp))) .nil))))))) (.cons (argB true r189) .nil)) (by decide) rfl (by simp [hh, m4_1, m5_2, m8_26, m11_64, m12_95, m13_128, dr171, dr187]) ?_
   rw [← er191]
   simp [hh, m4_1, m5_2, m8_26, m11_64, m12_95, m13_128, dr171, dr187]
   apply hk'
   refine Runs.ite (b := (!r191)) (by simp [hh, m4_1, m5_2, m8_26, m11_64, m12_95, m13_128, dr171, dr187]) (fun dr191 => ?_) (fun dr191 => ?_)
   ·have dr191 : r191 = false := by simpa using dr191
    replace h := h.2 dr191
    refine zE fun k' hk' => ?_
    simp [hh, m4_1, m5_2, m8_26, m11_64, m12_95, m13_128, dr171, dr187, dr191]
    apply hk'
    exact Runs.ret1 (v := bool false) Tryz.func4 Tryz.results4 (by simp [hh, m4_1, m5_2, m8_26, m11_64, m12_95, m13_128, dr171, dr187, dr191]) (hQ _ _ _ _ (.of (.v _)) ⟨false, h, rfl⟩)
   have dr191 : r191 = true := by simpa using dr191
   replace h := h.1 dr191
   refine Runs.skip ?_
   refine zE fun k' hk' => ?_
   simp [hh, m4_1, m5_2, m8_26, m11_64, m12_95, m13_128, dr171, dr187, dr191]
   apply hk'
   refine zE fun k' hk' => ?_
   obtain ⟨hb192, h⟩ := h
   obtain ⟨r193, er193, h⟩ := atm h
   have f194 := Sep.oc sp
   simp [hh, m4_1, m5_2, m8_26, m11_64, m12_95, m13_128, f194, dr171, dr187, dr191, -cellsA, -one1, cAx, o1x]
   refine RunK.callM (v := v172) Ty_ok (markControlS_ok r35 1 hb192) e18 sp (by decide) (by decide) rfl (by simp [hh, m4_1, m5_2, m8_26, m11_64, m12_95, m13_128, f194, dr171, dr187, dr191, -cellsA, -one1, cAx, o1x]) ?_
   rintro _ H195 n196 _ ⟨rfl, rfl⟩ sp hle198 hfr197
   rw [← er193] at sp
   rw [← er193]
   replace sp : Sep H195 n196 [oE [.c, .c, .c] Control.cells v172 r193.1, oN v173 r46.nodes, oI v174 r46.sites, oS v175 r46.outer, oW v176 r46.inner, oN v177 r77.nodes, oI v178 r77.sites, oS v179 r77.outer, oW v180 r77.inner, oI v181 r112.1.nodes, oI v182 r112.1.roots] [(n115, 13), (n80, 12), (n49, 11), (A30, 8), (n1 + 1, 5), (n1, 4)] := sp
   have m4_1 : H195 (n1, 4) = some ⟨6, [bC false aRedex]⟩ := (hfr197 _ (by simp)).trans (by simp [hh, m4_1, m5_2, m8_26, m11_64, m12_95, m13_128, Heap.get_set])
   have m5_2 : H195 (n1 + 1, 5) = some ⟨6, [bC false aAgent]⟩ := (hfr197 _ (by simp)).trans (by simp [hh, m4_1, m5_2, m8_26, m11_64, m12_95, m13_128, Heap.get_set])
   have m8_26 : H195 (A30, 8) = some ⟨2, [mC true r26.1]⟩ := (hfr197 _ (by simp)).trans (by simp [hh, m4_1, m5_2, m8_26, m11_64, m12_95, m13_128, Heap.get_set])
   have m11_64 : H195 (n49, 11) = some ⟨6, [[int r46.roots, v173, v174, int r46.edges, v175, v176]]⟩ := (hfr197 _ (by simp)).trans (by simp [hh, m4_1, m5_2, m8_26, m11_64, m12_95, m13_128, Heap.get_set])
   have m12_95 : H195 (n80, 12) = some ⟨6, [[int r77.roots, v177, v178, int r77.edges, v179, v180]]⟩ := (hfr197 _ (by simp)).trans (by simp [hh, m4_1, m5_2, m8_26, m11_64, m12_95, m13_128, Heap.get_set])
   have m13_128 : H195 (n115, 13) = some ⟨2, [[v181, v182]]⟩ := (hfr197 _ (by simp)).trans (by simp [hh, m4_1, m5_2, m8_26, m11_64, m12_95, m13_128, Heap.get_set])
   simp [hh, m4_1, m5_2, m8_26, m11_64, m12_95, m13_128, f194, dr171, dr187, dr191, -cellsA, -one1, cAx, o1x]
   apply hk'
   refine Runs.cut (fun ρ H n => ∃ (v200 v201 v202 v203 v204 v205 v206 v207 v208 v209 : AVal), (ρ 0 = .list false (aSig.map Control.cells) ∧ ρ 4 = pA n1 4 ∧ ρ 5 = pA (n1 + 1) 5 ∧ ρ 8 = .ptr (A30, 8) 1 0 0 ∧ ρ 9 = bool r26.2 ∧ ρ 11 = pA n49 11 ∧ ρ 12 = pA n80 12 ∧ ρ 13 = pA n115 13 ∧ ρ 14 = bool r112.2 ∧ ρ 15 = int r193.2) ∧ H (n1, 4) = some ⟨6, [bC false aRedex]⟩ ∧ H (n1 + 1, 5) = some ⟨6, [bC false aAgent]⟩ ∧ H (A30, 8) = some ⟨2, [mC true r26.1]⟩ ∧ H (n49, 11) = some ⟨6, [[int r46.roots, v200, v201, int r46.edges, v202, v203]]⟩ ∧ H (n80, 12) = some ⟨6, [[int r77.roots, v204, v205, int r77.edges, v206, v207]]⟩ ∧ H (n115, 13) = some ⟨2, [[v208, v209]]⟩ ∧ Sep H n [oN v200 r46.nodes, oI v201 r46.sites, oS v202 r46.outer, oW v203 r46.inner, oN v204 r77.nodes, oI v205 r77.sites, oS v206 r77.outer, oW v207 r77.inner, oI v208 r112.1.nodes, oI v209 r112.1.roots] [(n115, 13), (n80, 12), (n49, 11), (A30, 8), (n1 + 1, 5), (n1, 4)]) (by refine ⟨v173, v174, v175, v176, v177, v178, v179, v180, v181, v182, ?_, ?_, ?_, ?_, ?_, ?_, ?_, sp.dr⟩ <;> simp [hh, m4_1, m5_2, m8_26, m11_64, m12_95, m13_128, f194, dr171, dr187, dr191, -cellsA, -one1, cAx, o1x]) ?_
   clear hh m4_1 m5_2 m8_26 m11_64 m12_95 m13_128
   rintro ρ H n210 ⟨v200, v201, v202, v203, v204, v205, v206, v207, v208, v209, hh, m4_1, m5_2, m8_26, m11_64, m12_95, m13_128, sp⟩
   refine zE fun k' hk' => ?_
   obtain ⟨hb211, h⟩ := h
   obtain ⟨r212, er212, h⟩ := atm h
   have f213 := Sep.oc sp
   have f214 := Sep.oc sp.f1
   have f215 := Sep.oc sp.f2
   have f216 := Sep.oc sp.f3
   simp [hh, m4_1, m5_2, m8_26, m11_64, m12_95, m13_128, f213, f214, f215, f216, -cellsA, -one1, cAx, o1x]
   refine RunK.callM (v := .agg [int r46.roots, v200, v201, int r46.edges, v202, v203]) Ty_ok (markBig_ok r46 r193.2 hb211) e19 (Sep.pack (Fill.v _ (Fill.own (Fill.own (Fill.v _ (Fill.own (Fill.own Fill.nil)))))) sp) (by decide) (by decide) rfl (by simp [hh, m4_1, m5_2, m8_26, m11_64, m12_95, m13_128, f213, f214, f215, f216, -cellsA, -one1, cAx, o1x]) ?_
   rintro _ H217 n218 _ ⟨rfl, rfl⟩ sp hle220 hfr219
   rw [← er212] at sp
   rw [← er212]
   replace sp := Sep.unpack sp
   obtain ⟨L221, hv, hl222, sp⟩ := sp
   cases hv
   simp only [zip3, List.cons_append, List.nil_append] at sp
   replace sp := (Sep.scalar sp).2
   replace sp := Sep.rot sp
   try simp only [List.cons_append, List.nil_append, List.append_assoc] at sp
   replace sp := Sep.rot sp
   try simp only [List.cons_append, List.nil_append, List.append_assoc] at sp
   replace sp := (Sep.scalar sp).2
   replace sp := Sep.rot sp
   try simp only [List.cons_append, List.nil_append, List.append_assoc] at sp
   replace sp := Sep.rot sp
   try simp only [List.cons_append, List.nil_append, List.append_assoc] at sp
   replace sp : Sep H217 n218 [oN v204 r77.nodes, oI v205 r77.sites, oS v206 r77.outer, oW v207 r77.inner, oI v208 r112.1.nodes, oI v209 r112.1.roots, oN v200 r212.1.nodes, oI v201 r212.1.sites, oS v202 r212.1.outer, oW v203 r212.1.inner] [(n115, 13), (n80, 12), (n49, 11), (A30, 8), (n1 + 1, 5), (n1, 4)] := sp
   have m4_1 : H217 (n1, 4) = some ⟨6, [bC false aRedex]⟩ := (hfr219 _ (by simp)).trans (by simp [hh, m4_1, m5_2, m8_26, m11_64, m12_95, m13_128, Heap.get_set])
   have m5_2 : H217 (n1 + 1, 5) = some ⟨6, [bC false aAgent]⟩ := (hfr219 _ (by simp)).trans (by simp [hh, m4_1, m5_2, m8_26, m11_64, m12_95, m13_128, Heap.get_set])
   have m8_26 : H217 (A30, 8) = some ⟨2, [mC true r26.1]⟩ := (hfr219 _ (by simp)).trans (by simp [hh, m4_1, m5_2, m8_26, m11_64, m12_95, m13_128, Heap.get_set])
   have m11_64 : H217 (n49, 11) = some ⟨6, [[int r46.roots, v200, v201, int r46.edges, v202, v203]]⟩ := (hfr219 _ (by simp)).trans (by simp [hh, m4_1, m5_2, m8_26, m11_64, m12_95, m13_128, Heap.get_set])
   have m12_95 : H217 (n80, 12) = some ⟨6, [[int r77.roots, v204, v205, int r77.edges, v206, v207]]⟩ := (hfr219 _ (by simp)).trans (by simp [hh, m4_1, m5_2, m8_26, m11_64, m12_95, m13_128, Heap.get_set])
   have m13_128 : H217 (n115, 13) = some ⟨2, [[v208, v209]]⟩ := (hfr219 _ (by simp)).trans (by simp [hh, m4_1, m5_2, m8_26, m11_64, m12_95, m13_128, Heap.get_set])
   simp [hh, m4_1, m5_2, m8_26, m11_64, m12_95, m13_128, f213, f214, f215, f216, -cellsA, -one1, cAx, o1x]
   apply hk'
   refine Runs.cut (fun ρ H n => ∃ (v224 v225 v226 v227 v228 v229 : AVal), (ρ 0 = .list false (aSig.map Control.cells) ∧ ρ 4 = pA n1 4 ∧ ρ 5 = pA (n1 + 1) 5 ∧ ρ 8 = .ptr (A30, 8) 1 0 0 ∧ ρ 9 = bool r26.2 ∧ ρ 12 = pA n80 12 ∧ ρ 13 = pA n115 13 ∧ ρ 14 = bool r112.2 ∧ ρ 15 = int r212.2) ∧ H (n1, 4) = some ⟨6, [bC false aRedex]⟩ ∧ H (n1 + 1, 5) = some ⟨6, [bC false aAgent]⟩ ∧ H (A30, 8) = some ⟨2, [mC true r26.1]⟩ ∧ H (n80, 12) = some ⟨6, [[int r77.roots, v224, v225, int r77.edges, v226, v227]]⟩ ∧ H (n115, 13) = some ⟨2, [[v228, v229]]⟩ ∧ Sep H n [oN v224 r77.nodes, oI v225 r77.sites, oS v226 r77.outer, oW v227 r77.inner, oI v228 r112.1.nodes, oI v229 r112.1.roots] [(n115, 13), (n80, 12), (A30, 8), (n1 + 1, 5), (n1, 4)]) (by refine ⟨v204, v205, v206, v207, v208, v209, ?_, ?_, ?_, ?_, ?_, ?_, (Sep.sub sp.f6.dr.f6.dr.f6.dr.f6.dr (by simp +contextual))⟩ <;> simp [hh, m4_1, m5_2, m8_26, m11_64, m12_95, m13_128, f213, f214, f215, f216, -cellsA, -one1, cAx, o1x]) ?_
   clear hh m4_1 m5_2 m8_26 m11_64 m12_95 m13_128
   rintro ρ H n230 ⟨v224, v225, v226, v227, v228, v229, hh, m4_1, m5_2, m8_26, m12_95, m13_128, sp⟩
   refine zE fun k' hk' => ?_
   obtain ⟨hb231, h⟩ := h
   obtain ⟨r232, er232, h⟩ := atm h
   have f233 := Sep.oc sp
   have f234 := Sep.oc sp.f1
   have f235 := Sep.oc sp.f2
   have f236 := Sep.oc sp.f3
   simp [hh, m4_1, m5_2, m8_26, m12_95, m13_128, f233, f234, f235, f236, -cellsA, -one1, cAx, o1x]
   refine RunK.callM (v := .agg [int r77.roots, v224, v225, int r77.edges, v226, v227]) Ty_ok (markBig_ok r77 r212.2 hb231) e19 (Sep.pack (Fill.v _ (Fill.own (Fill.own (Fill.v _ (Fill.own (Fill.own Fill.nil)))))) sp) (by decide) (by decide) rfl (by simp [hh, m4_1, m5_2, m8_26, m12_95, m13_128, f233, f234, f235, f236, -cellsA, -one1, cAx, o1x]) ?_
   rintro _ H237 n238 _ ⟨rfl, rfl⟩ sp hle240 hfr239
   rw [← er232] at sp
   rw [← er232]
   replace sp := Sep.unpack sp
   obtain ⟨L241, hv, hl242, sp⟩ := sp
   cases hv
   simp only [zip3, List.cons_append, List.nil_append] at sp
   replace sp := (Sep.scalar sp).2
   replace sp := Sep.rot sp
   try simp only [List.cons_append, List.nil_append, List.append_assoc] at sp
   replace sp := Sep.rot sp
   try simp only [List.cons_append, List.nil_append, List.append_assoc] at sp
   replace sp := (Sep.scalar sp).2
   replace sp := Sep.rot sp
   try simp only [List.cons_append, List.nil_append, List.append_assoc] at sp
   replace sp := Sep.rot sp
   try simp only [List.cons_append, List.nil_append, List.append_assoc] at sp
   replace sp : Sep H237 n238 [oI v228 r112.1.nodes, oI v229 r112.1.roots, oN v224 r232.1.nodes, oI v225 r232.1.sites, oS v226 r232.1.outer, oW v227 r232.1.inner] [(n115, 13), (n80, 12), (A30, 8), (n1 + 1, 5), (n1, 4)] := sp
   have m4_1 : H237 (n1, 4) = some ⟨6, [bC false aRedex]⟩ := (hfr239 _ (by simp)).trans (by simp [hh, m4_1, m5_2, m8_26, m12_95, m13_128, Heap.get_set])
   have m5_2 : H237 (n1 + 1, 5) = some ⟨6, [bC false aAgent]⟩ := (hfr239 _ (by simp)).trans (by simp [hh, m4_1, m5_2, m8_26, m12_95, m13_128, Heap.get_set])
   have m8_26 : H237 (A30, 8) = some ⟨2, [mC true r26.1]⟩ := (hfr239 _ (by simp)).trans (by simp [hh, m4_1, m5_2, m8_26, m12_95, m13_128, Heap.get_set])
   have m12_95 : H237 (n80, 12) = some ⟨6, [[int r77.roots, v224, v225, int r77.edges, v226, v227]]⟩ := (hfr239 _ (by simp)).trans (by simp [hh, m4_1, m5_2, m8_26, m12_95, m13_128, Heap.get_set])
   have m13_128 : H237 (n115, 13) = some ⟨2, [[v228, v229]]⟩ := (hfr239 _ (by simp)).trans (by simp [hh, m4_1, m5_2, m8_26, m12_95, m13_128, Heap.get_set])
   simp [hh, m4_1, m5_2, m8_26, m12_95, m13_128, f233, f234, f235, f236, -cellsA, -one1, cAx, o1x]
   apply hk'
   refine Runs.cut (fun ρ H n => ∃ (v244 v245 : AVal), (ρ 0 = .list false (aSig.map Control.cells) ∧ ρ 4 = pA n1 4 ∧ ρ 5 = pA (n1 + 1) 5 ∧ ρ 8 = .ptr (A30, 8) 1 0 0 ∧ ρ 9 = bool r26.2 ∧ ρ 13 = pA n115 13 ∧ ρ 14 = bool r112.2 ∧ ρ 15 = int r232.2) ∧ H (n1, 4) = some ⟨6, [bC false aRedex]⟩ ∧ H (n1 + 1, 5) = some ⟨6, [bC false aAgent]⟩ ∧ H (A30, 8) = some ⟨2, [mC true r26.1]⟩ ∧ H (n115, 13) = some ⟨2, [[v244, v245]]⟩ ∧ Sep H n [oI v244 r112.1.nodes, oI v245 r112.1.roots] [(n115, 13), (A30, 8), (n1 + 1, 5), (n1, 4)]) (by refine ⟨v228, v229, ?_, ?_, ?_, ?_, ?_, (Sep.sub sp.f2.dr.f2.dr.f2.dr.f2.dr (by simp +contextual))⟩ <;> simp [hh, m4_1, m5_2, m8_26, m12_95, m13_128, f233, f234, f235, f236, -cellsA, -one1, cAx, o1x]) ?_
   clear hh m4_1 m5_2 m8_26 m12_95 m13_128
   rintro ρ H n246 ⟨v244, v245, hh, m4_1, m5_2, m8_26, m13_128, sp⟩
   refine Runs.seq ?_
   refine zE fun k' hk' => ?_
   obtain ⟨J247, hJ248, hr249⟩ := h
   have fin253 : ∀ (sJ : Bool) (ρ : Env) (H : Heap) (n : Nat), J247 sJ → (match sJ with | b250 => ∃ (v251 v252 : AVal), (ρ 0 = .list false (aSig.map Control.cells) ∧ ρ 4 = pA n1 4 ∧ ρ 5 = pA (n1 + 1) 5 ∧ ρ 8 = .ptr (A30, 8) 1 0 0 ∧ ρ 9 = bool r26.2 ∧ ρ 13 = pA n115 13 ∧ ρ 103 = bool b250) ∧ H (n1, 4) = some ⟨6, [bC false aRedex]⟩ ∧ H (n1 + 1, 5) = some ⟨6, [bC false aAgent]⟩ ∧ H (A30, 8) = some ⟨2, [mC true r26.1]⟩ ∧ H (n115, 13) = some ⟨2, [[v251, v252]]⟩ ∧ Sep H n [oI v251 r112.1.nodes, oI v252 r112.1.roots] [(n115, 13), (A30, 8), (n1 + 1, 5), (n1, 4)]) → Runs Tryz.prog 4 142 k' ρ H n Q := by
    rintro b250 ρ H n254 h ⟨v251, v252, hh, m4_1, m5_2, m8_26, m13_128, sp⟩
    replace h := hr249 _ h
    apply hk'
    refine Runs.ite (b := b250) (by simp [hh, m4_1, m5_2, m8_26, m13_128]) (fun db250 => ?_) (fun db250 => ?_)
    ·replace h := h.1 db250
     refine zE fun k' hk' => ?_
     simp [hh, m4_1, m5_2, m8_26, m13_128, db250]
     apply hk'
     exact Runs.ret1 (v := bool false) Tryz.func4 Tryz.results4 (by simp [hh, m4_1, m5_2, m8_26, m13_128, db250]) (hQ _ _ _ _ (.of (.v _)) ⟨false, h, rfl⟩)
    replace h := h.2 db250
    refine Runs.skip ?_
    refine zE fun k' hk' => ?_
    simp [hh, m4_1, m5_2, m8_26, m13_128, db250]
    apply hk'
    refine zE fun k' hk' => ?_
    obtain ⟨hb255, h⟩ := h
    obtain ⟨r256, er256, h⟩ := atm h
    have f257 := Sep.oc sp
    have f258 := Sep.oc sp.f1
    simp [hh, m4_1, m5_2, m8_26, m13_128, f257, f258, db250, -cellsA, -one1, cAx, o1x]
    refine RunK.callM (v := .agg [v251, v252]) Ty_ok (markMatch_ok r112.1 1 hb255) e20 (Sep.pack (Fill.own (Fill.own Fill.nil)) sp) (by decide) (by decide) rfl (by simp [hh, m4_1, m5_2, m8_26, m13_128, f257, f258, db250, -cellsA, -one1, cAx, o1x]) ?_
    rintro _ H259 n260 _ ⟨rfl, rfl⟩ sp hle262 hfr261
    rw [← er256] at sp
    rw [← er256]
    replace sp := Sep.unpack sp
    obtain ⟨L263, hv, hl264, sp⟩ := sp
    cases hv
    simp only [zip3, List.cons_append, List.nil_append] at sp
    replace sp := Sep.rot sp
    try simp only [List.cons_append, List.nil_append, List.append_assoc] at sp
    replace sp := Sep.rot sp
    try simp only [List.cons_append, List.nil_append, List.append_assoc] at sp
    replace sp : Sep H259 n260 [oI v251 r256.1.nodes, oI v252 r256.1.roots] [(n115, 13), (A30, 8), (n1 + 1, 5), (n1, 4)] := sp
    have m4_1 : H259 (n1, 4) = some ⟨6, [bC false aRedex]⟩ := (hfr261 _ (by simp)).trans (by simp [hh, m4_1, m5_2, m8_26, m13_128, Heap.get_set])
    have m5_2 : H259 (n1 + 1, 5) = some ⟨6, [bC false aAgent]⟩ := (hfr261 _ (by simp)).trans (by simp [hh, m4_1, m5_2, m8_26, m13_128, Heap.get_set])
    have m8_26 : H259 (A30, 8) = some ⟨2, [mC true r26.1]⟩ := (hfr261 _ (by simp)).trans (by simp [hh, m4_1, m5_2, m8_26, m13_128, Heap.get_set])
    have m13_128 : H259 (n115, 13) = some ⟨2, [[v251, v252]]⟩ := (hfr261 _ (by simp)).trans (by simp [hh, m4_1, m5_2, m8_26, m13_128, Heap.get_set])
    simp [hh, m4_1, m5_2, m8_26, m13_128, f257, f258, db250, -cellsA, -one1, cAx, o1x]
    apply hk'
    refine Runs.cut (fun ρ H n => ∃ (v266 v267 : AVal), (ρ 0 = .list false (aSig.map Control.cells) ∧ ρ 4 = pA n1 4 ∧ ρ 5 = pA (n1 + 1) 5 ∧ ρ 8 = .ptr (A30, 8) 1 0 0 ∧ ρ 9 = bool r26.2 ∧ ρ 13 = pA n115 13 ∧ ρ 16 = int r256.2) ∧ H (n1, 4) = some ⟨6, [bC false aRedex]⟩ ∧ H (n1 + 1, 5) = some ⟨6, [bC false aAgent]⟩ ∧ H (A30, 8) = some ⟨2, [mC true r26.1]⟩ ∧ H (n115, 13) = some ⟨2, [[v266, v267]]⟩ ∧ Sep H n [oI v266 r256.1.nodes, oI v267 r256.1.roots] [(n115, 13), (A30, 8), (n1 + 1, 5), (n1, 4)]) (by refine ⟨v251, v252, ?_, ?_, ?_, ?_, ?_, sp⟩ <;> simp [hh, m4_1, m5_2, m8_26, m13_128, f257, f258, db250, -cellsA, -one1, cAx, o1x]) ?_
    clear hh m4_1 m5_2 m8_26 m13_128
    rintro ρ H n268 ⟨v266, v267, hh, m4_1, m5_2, m8_26, m13_128, sp⟩
    refine zE fun k' hk' => ?_
    simp [hh, m4_1, m5_2, m8_26, m13_128]
    apply hk'
    refine zE fun k' hk' => ?_
    obtain ⟨hb269, h⟩ := h
    obtain ⟨r270, er270, h⟩ := atm h
    simp [hh, m4_1, m5_2, m8_26, m13_128]
    refine RunK.callA Ty_ok (heldMatch_ok r256.1 1 hb269) e21 (.cons (ArgOk.agg (.cons (Sep.argOk' sp (old_listF (by simp))) (.cons (Sep.argOk' sp.f1 (old_listF (by simp))) .nil))) (.cons (.v _ _ _) .nil)) (by decide) (by decide) rfl (by simp [hh, m4_1, m5_2, m8_26, m13_128]) ?_
    rintro _ rfl
    rw [← er270]
    simp [hh, m4_1, m5_2, m8_26, m13_128]
    apply hk'
    refine Runs.seq ?_
    refine zE fun k' hk' => ?_
    obtain ⟨c271, ec271, h⟩ := atm h
    have f272 := ib_lss (k := .i64) ec271
    simp [hh, m4_1, m5_2, m8_26, m13_128, f272, -intBin]
    apply hk'
    refine Runs.ite (b := c271) (by simp [hh, m4_1, m5_2, m8_26, m13_128]) (fun dc271 => ?_) (fun dc271 => ?_)
    ·replace h := h.1 dc271
     refine zE fun k' hk' => ?_
     simp [hh, m4_1, m5_2, m8_26, m13_128, dc271]
     apply hk'
     exact Runs.ret1 (v := bool false) Tryz.func4 Tryz.results4 (by simp [hh, m4_1, m5_2, m8_26, m13_128, dc271]) (hQ _ _ _ _ (.of (.v _)) ⟨false, h, rfl⟩)
    replace h := h.2 dc271
    refine Runs.skip ?_
    refine Runs.seq ?_
    refine zE fun k' hk' => ?_
    obtain ⟨c273, ec273, h⟩ := atm h
    have f274 := ib_neq (k := .i64) ec273
    simp [hh, m4_1, m5_2, m8_26, m13_128, f274, dc271, -intBin]
    apply hk'
    refine Runs.ite (b := c273) (by simp [hh, m4_1, m5_2, m8_26, m13_128, dc271]) (fun dc273 => ?_) (fun dc273 => ?_)
    ·replace h := h.1 dc273
     refine zE fun k' hk' => ?_
     simp [hh, m4_1, m5_2, m8_26, m13_128, dc271, dc273]
     apply hk'
     exact Runs.ret1 (v := bool false) Tryz.func4 Tryz.results4 (by simp [hh, m4_1, m5_2, m8_26, m13_128, dc271, dc273]) (hQ _ _ _ _ (.of (.v _)) ⟨false, h, rfl⟩)
    replace h := h.2 dc273
    refine Runs.skip ?_
    refine Runs.cut (fun ρ H n => ∃ (v275 v276 : AVal), (ρ 0 = .list false (aSig.map Control.cells) ∧ ρ 4 = pA n1 4 ∧ ρ 5 = pA (n1 + 1) 5 ∧ ρ 8 = .ptr (A30, 8) 1 0 0 ∧ ρ 9 = bool r26.2 ∧ ρ 13 = pA n115 13 ∧ ρ 16 = int r256.2) ∧ H (n1, 4) = some ⟨6, [bC false aRedex]⟩ ∧ H (n1 + 1, 5) = some ⟨6, [bC false aAgent]⟩ ∧ H (A30, 8) = some ⟨2, [mC true r26.1]⟩ ∧ H (n115, 13) = some ⟨2, [[v275, v276]]⟩ ∧ Sep H n [oI v275 r256.1.nodes, oI v276 r256.1.roots] [(n115, 13), (A30, 8), (n1 + 1, 5), (n1, 4)]) (by refine ⟨v266, v267, ?_, ?_, ?_, ?_, ?_, sp⟩ <;> simp [hh, m4_1, m5_2, m8_26, m13_128, dc271, dc273]) ?_
    clear hh m4_1 m5_2 m8_26 m13_128
    rintro ρ H n277 ⟨v275, v276, hh, m4_1, m5_2, m8_26, m13_128, sp⟩
    obtain ⟨hb278, h⟩ := h
    obtain ⟨r279, er279, h⟩ := atm h
    obtain ⟨hb280, h⟩ := h
    obtain ⟨r281, er281, h⟩ := atm h
    obtain ⟨hb282, h⟩ := h
    obtain ⟨r283, er283, h⟩ := atm h
    obtain ⟨hb284, h⟩ := h
    obtain ⟨r285, er285, h⟩ := atm h
    have hid289 := sp.1
    refine Runs.seq (Runs.drawI (Reg.Inv { m := 13, c := 6, a := 10, st := 11, d := 18, B := [(0, .list false (aSig.map Control.cells)), (4, pA n1 4), (5, pA (n1 + 1) 5), (8, .ptr (A30, 8) 1 0 0), (9, bool r26.2), (13, pA n115 13), (16, int r256.2)], F := fun GI AI => [(0, 116, .list false (aSig.map Control.cells)), (1, 117, .list true (r279.map Control.cells)), (2, 118, .agg (bC false aRedex)), (3, 119, .agg (bC true r281)), (4, 120, .agg (bC false aAgent)), (5, 121, .agg (bC true r283)), (6, 122, .tup [.agg [(gv GI 0), (gv GI 1)], bool r285.2]), (7, 115, .tup [.agg [(gv GI 0), (gv GI 1)], bool r285.2]), (8, 123, .agg [(gv GI 0), (gv GI 1)]), (9, 124, bool r285.2), (10, 18, .ptr (AI, 18) 1 0 0), (12, 19, bool r285.2)], ent := fun GI => [(.s [.c], (gv GI 0), .list true (r285.1.nodes.map intC)), (.s [.c], (gv GI 1), .list true (r285.1.roots.map intC))], ob0 := ⟨2, [[.v (.slice none 0 0), .v (.slice none 0 0)]]⟩, ob1 := fun GI => ⟨2, [[(gv GI 0), (gv GI 1)]]⟩, RG := fun GI => Ab.one1 (gv GI 0) = true ∧ Ab.one1 (gv GI 1) = true, onC := [7, 8, 9, 11, 12], onA := [11, 12], H0 := H, n0 := n277, K := [oI v275 r256.1.nodes, oI v276 r256.1.roots], ids := [(n115, 13), (A30, 8), (n1 + 1, 5), (n1, 4)] }) draws (by decide) (Reg.init (Old.cons hh.1 (Old.cons hh.2.1 (Old.cons hh.2.2.1 (Old.cons hh.2.2.2.1 (Old.cons hh.2.2.2.2.1 (Old.cons hh.2.2.2.2.2.1 (Old.cons hh.2.2.2.2.2.2 Old.nil))))))) sp) ?_ ?_)
    ·rintro (_ | _ | _ | _ | _ | _ | _ | _ | _ | _ | _ | _ | _ | i)
     ·exact Reg.det (i := 0) rfl rfl rfl rfl (fun L' ρ' H' n' G' A' hO hT hd hG hcl hfr sp => ⟨.list false (aSig.map Control.cells), stepF_ok Ty_ok (by rw [stepF_loc]; have t0 := hO.at 0 rfl; simp [t0]), by simp⟩)
     ·exact Reg.det (i := 1) rfl rfl rfl rfl (fun L' ρ' H' n' G' A' hO hT hd hG hcl hfr sp => ⟨_, by have t116 := hT.at 0 rfl (hd ⟨0, .data⟩ (by simp) rfl); exact OpSem.callD2 (xs := [.list false (aSig.map Control.cells)]) ((toControlS_ok aSig hb278).pure) e10 (.cons (argC false aSig) .nil) (by simp [t116]) (by simp [t116]), by simp [er279]⟩)
     ·exact Reg.det (i := 2) rfl rfl rfl rfl (fun L' ρ' H' n' G' A' hO hT hd hG hcl hfr sp => ⟨.agg (bC false aRedex), stepF_ok Ty_ok (by rw [stepF_loc]; have t4 := hO.at 1 rfl; have mm4_1 := (hfr (n1, 4) (by simp)).trans m4_1; simp [t4, mm4_1]), by simp⟩)
     ·exact Reg.det (i := 3) rfl rfl rfl rfl (fun L' ρ' H' n' G' A' hO hT hd hG hcl hfr sp => ⟨_, by have t118 := hT.at 2 rfl (hd ⟨2, .data⟩ (by simp) rfl); exact OpSem.callD2 (xs := [.agg (bC false aRedex)]) ((toBigraph_ok aRedex hb280).pure) e11 (.cons (argB false aRedex) .nil) (by simp [t118]) (by simp [t118]), by simp [er281]⟩)
     ·exact Reg.det (i := 4) rfl rfl rfl rfl (fun L' ρ' H' n' G' A' hO hT hd hG hcl hfr sp => ⟨.agg (bC false aAgent), stepF_ok Ty_ok (by rw [stepF_loc]; have t5 := hO.at 2 rfl; have mm5_2 := (hfr (n1 + 1, 5) (by simp)).trans m5_2; simp [t5, mm5_2]), by simp⟩)
     ·exact Reg.det (i := 5) rfl rfl rfl rfl (fun L' ρ' H' n' G' A' hO hT hd hG hcl hfr sp => ⟨_, by have t120 := hT.at 4 rfl (hd ⟨4, .data⟩ (by simp) rfl); exact OpSem.callD2 (xs := [.agg (bC false aAgent)]) ((toBigraph_ok aAgent hb282).pure) e11 (.cons (argB false aAgent) .nil) (by simp [t120]) (by simp [t120]), by simp [er283]⟩)
     ·refine Reg.call rfl rfl rfl ⟨_, FirstMatch_ok r279 r281 r283 hb284, fun L' ρ' H' n' G' A' hO hT hd hfr sp => by have t117 := hT.at 1 rfl (hd ⟨1, .data⟩ (by simp) rfl); have t119 := hT.at 3 rfl (hd ⟨3, .data⟩ (by simp) rfl); have t121 := hT.at 5 rfl (hd ⟨5, .data⟩ (by simp) rfl); exact ⟨by simp [t117, t119, t121], ArgsOk.of_eq (xs := [.list true (r279.map Control.cells), .agg (bC true r281), .agg (bC true r283)]) (by simp [t117, t119, t121]) (.cons (argC true r279) (.cons (argB true r281) (.cons (argB true r283) .nil)))⟩⟩ e16 ?_
      rintro H' n' v r ids sp rfl
      rw [← er285] at sp
      replace sp := Sep.unpackT sp
      obtain ⟨L292, hv, hl293, sp⟩ := sp
      subst hv
      obtain ⟨v290, v291, hv⟩ := len2 (by simpa using hl293)
      subst hv
      simp only [zip3, List.cons_append, List.nil_append] at sp
      replace sp := Sep.unpack sp
      obtain ⟨L296, hv, hl297, sp⟩ := sp
      subst hv
      obtain ⟨v294, v295, hv⟩ := len2 (by simpa using hl297)
      subst hv
      simp only [zip3, List.cons_append, List.nil_append] at sp
      have hov294 := Sep.one1 sp
      replace sp := Sep.rot sp
      try simp only [List.cons_append, List.nil_append, List.append_assoc] at sp
      have hov295 := Sep.one1 sp
      replace sp := Sep.rot sp
      try simp only [List.cons_append, List.nil_append, List.append_assoc] at sp
      replace sp := Sep.scalar sp
      obtain ⟨hv, sp⟩ := sp
      subst hv
      replace sp := Sep.swap (K1 := ([oI v275 r256.1.nodes, oI v276 r256.1.roots])) (K2 := [(.s [.c], v294, .list true (r285.1.nodes.map intC)), (.s [.c], v295, .list true (r285.1.roots.map intC))]) sp
      exact ⟨[v294, v295], ⟨hov294, hov295⟩, sp, fun A' => by simp⟩
     ·exact Reg.det (i := 7) rfl rfl rfl rfl (fun L' ρ' H' n' G' A' hO hT hd hG hcl hfr sp => ⟨.tup [.agg [(gv G' 0), (gv G' 1)], bool r285.2], stepF_ok Ty_ok (by rw [stepF_loc]; have t122 := hT.at 6 rfl (hd ⟨6, .data⟩ (by simp) rfl); simp [t122]), by simp⟩) (hc := fun _ => ⟨⟨6, .data⟩, by simp, rfl, by simp⟩)
     ·exact Reg.det (i := 8) rfl rfl rfl rfl (fun L' ρ' H' n' G' A' hO hT hd hG hcl hfr sp => ⟨.agg [(gv G' 0), (gv G' 1)], stepF_ok Ty_ok (by rw [stepF_loc]; have t115 := hT.at 7 rfl (hd ⟨7, .data⟩ (by simp) rfl); simp [t115]), by simp⟩) (hc := fun _ => ⟨⟨7, .data⟩, by simp, rfl, by simp⟩)
     ·exact Reg.det (i := 9) rfl rfl rfl rfl (fun L' ρ' H' n' G' A' hO hT hd hG hcl hfr sp => ⟨bool r285.2, stepF_ok Ty_ok (by rw [stepF_loc]; have t115 := hT.at 7 rfl (hd ⟨7, .data⟩ (by simp) rfl); simp [t115]), by simp⟩) (hc := fun _ => ⟨⟨7, .data⟩, by simp, rfl, by simp⟩)
     ·exact Reg.alloc Ty_ok rfl Ty_44 rfl rfl rfl
     ·exact Reg.store Ty_ok rfl rfl rfl hid289 ⟨⟨8, .data⟩, by simp, rfl, by simp⟩ ⟨⟨10, .data⟩, by simp, rfl, by simp⟩ (fun L' ρ' H' G' A' hO hT hd hG hw => by have t18 := hT.at 10 rfl (hd ⟨10, .data⟩ (by simp) rfl); have t123 := hT.at 8 rfl (hd ⟨8, .data⟩ (by simp) rfl); have hG2 : Ab.one1 (gv G' 0) = true ∧ Ab.one1 (gv G' 1) = true := hG; simp [t18, t123, hG2, hw, Ty_44, -one1, o1_int, o1_bool, o1_str, o1_nil, o1_list, o1_arr, o1_ptr])
     ·exact Reg.det (i := 12) rfl rfl rfl rfl (fun L' ρ' H' n' G' A' hO hT hd hG hcl hfr sp => ⟨bool r285.2, stepF_ok Ty_ok (by rw [stepF_loc]; have t124 := hT.at 9 rfl (hd ⟨9, .data⟩ (by simp) rfl); simp [t124]), by simp⟩) (hc := fun _ => ⟨⟨9, .data⟩, by simp, rfl, by simp⟩) (ha := fun _ => ⟨⟨11, .chain⟩, by simp, rfl, by simp⟩)
     ·exact StepI.none (by simp)
    ·rintro L' ⟨ρ, H, n300⟩ hI hr
     obtain ⟨G298, A299, hO, hT, hG, sp, hfr301, hn0_, hA_, m18_287⟩ := Reg.fin (by kernel_rfl) rfl (show (6 : Nat) < 13 ∧ (10 : Nat) < 13 ∧ (11 : Nat) < 13 by decide) (by intro G' A'; simp) hI hr
     show Runs _ _ _ _ ρ H n300 _
     replace hO : Old ρ _ := hO
     replace hT : AllF ρ _ := hT
     clear hh
     have h0 := hO.at 0 rfl
     have h4 := hO.at 1 rfl
     have h5 := hO.at 2 rfl
     have h8 := hO.at 3 rfl
     have h9 := hO.at 4 rfl
     have h13 := hO.at 5 rfl
     have h16 := hO.at 6 rfl
     have h116 := hT.at 0 rfl
     have h117 := hT.at 1 rfl
     have h118 := hT.at 2 rfl
     have h119 := hT.at 3 rfl
     have h120 := hT.at 4 rfl
     have h121 := hT.at 5 rfl
     have h122 := hT.at 6 rfl
     have h115 := hT.at 7 rfl
     have h123 := hT.at 8 rfl
     have h124 := hT.at 9 rfl
     have h18 := hT.at 10 rfl
     have h19 := hT.at 11 rfl
     have m13_128 : H (n115, 13) = some ⟨2, [[v275, v276]]⟩ := (hfr301 (n115, 13) (by simp)).trans m13_128
     have m8_26 : H (A30, 8) = some ⟨2, [mC true r26.1]⟩ := (hfr301 (A30, 8) (by simp)).trans m8_26
     have m5_2 : H (n1 + 1, 5) = some ⟨6, [bC false aAgent]⟩ := (hfr301 (n1 + 1, 5) (by simp)).trans m5_2
     have m4_1 : H (n1, 4) = some ⟨6, [bC false aRedex]⟩ := (hfr301 (n1, 4) (by simp)).trans m4_1
     have m18_287 : H (A299, 18) = some ⟨2, [[(gv G298 0), (gv G298 1)]]⟩ := m18_287
     replace sp : Sep H n300 [oI (gv G298 0) r285.1.nodes, oI (gv G298 1) r285.1.roots, oI v275 r256.1.nodes, oI v276 r256.1.roots] [(A299, 18), (n115, 13), (A30, 8), (n1 + 1, 5), (n1, 4)] := sp
     refine Runs.cut (fun ρ H n => ∃ (v302 v303 v304 v305 : AVal), (ρ 8 = .ptr (A30, 8) 1 0 0 ∧ ρ 9 = bool r26.2 ∧ ρ 13 = pA n115 13 ∧ ρ 16 = int r256.2 ∧ ρ 18 = .ptr (A299, 18) 1 0 0 ∧ ρ 19 = bool r285.2) ∧ H (A30, 8) = some ⟨2, [mC true r26.1]⟩ ∧ H (n115, 13) = some ⟨2, [[v304, v305]]⟩ ∧ H (A299, 18) = some ⟨2, [[v302, v303]]⟩ ∧ Sep H n [oI v302 r285.1.nodes, oI v303 r285.1.roots, oI v304 r256.1.nodes, oI v305 r256.1.roots] [(A299, 18), (n115, 13), (A30, 8)]) (by refine ⟨(gv G298 0), (gv G298 1), v275, v276, ?_, ?_, ?_, ?_, (Sep.sub sp (by simp +contextual))⟩ <;> simp [m4_1, m5_2, m8_26, m13_128, m18_287, h0, h4, h5, h8, h9, h13, h16, h116, h117, h118, h119, h120, h121, h122, h115, h123, h124, h18, h19]) ?_
     clear m4_1 m5_2 m8_26 m13_128 m18_287 h0 h4 h5 h8 h9 h13 h16 h116 h117 h118 h119 h120 h121 h122 h115 h123 h124 h18 h19
     rintro ρ H n306 ⟨v302, v303, v304, v305, hh, m8_26, m13_128, m18_287, sp⟩
     refine Runs.seq ?_
     refine zE fun k' hk' => ?_
     obtain ⟨J307, hJ308, hr309⟩ := h
     have fin313 : ∀ (sJ : Bool) (ρ : Env) (H : Heap) (n : Nat), J307 sJ → (match sJ with | b310 => ∃ (v311 v312 : AVal), (ρ 13 = pA n115 13 ∧ ρ 16 = int r256.2 ∧ ρ 133 = bool b310) ∧ H (n115, 13) = some ⟨2, [[v311, v312]]⟩ ∧ Sep H n [oI v311 r256.1.nodes, oI v312 r256.1.roots] [(n115, 13)]) → Runs Tryz.prog 4 142 k' ρ H n Q := by
      rintro b310 ρ H n314 h ⟨v311, v312, hh, m13_128, sp⟩
      replace h := hr309 _ h
      apply hk'
      refine Runs.ite (b := b310) (by simp [hh, m13_128]) (fun db310 => ?_) (fun db310 => ?_)
      ·replace h := h.1 db310
       refine zE fun k' hk' => ?_
       simp [hh, m13_128, db310]
       apply hk'
       exact Runs.ret1 (v := bool false) Tryz.func4 Tryz.results4 (by simp [hh, m13_128, db310]) (hQ _ _ _ _ (.of (.v _)) ⟨false, h, rfl⟩)
      replace h := h.2 db310
      refine Runs.skip ?_
      refine zE fun k' hk' => ?_
      simp [hh, m13_128, db310]
      apply hk'
      refine zE fun k' hk' => ?_
      obtain ⟨hb315, h⟩ := h
      obtain ⟨r316, er316, h⟩ := atm h
      simp [hh, m13_128, db310]
      refine RunK.callA Ty_ok (heldMatch_ok r256.1 1 hb315) e21 (.cons (ArgOk.agg (.cons (Sep.argOk' sp (old_listF (by simp))) (.cons (Sep.argOk' sp.f1 (old_listF (by simp))) .nil))) (.cons (.v _ _ _) .nil)) (by decide) (by decide) rfl (by simp [hh, m13_128, db310]) ?_
      rintro _ rfl
      rw [← er316]
      simp [hh, m13_128, db310]
      apply hk'
      refine Runs.seq ?_
      refine zE fun k' hk' => ?_
      obtain ⟨c317, ec317, h⟩ := atm h
      have f318 := ib_lss (k := .i64) ec317
      simp [hh, m13_128, f318, db310, -intBin]
      apply hk'
      refine Runs.ite (b := c317) (by simp [hh, m13_128, db310]) (fun dc317 => ?_) (fun dc317 => ?_)
      ·replace h := h.1 dc317
       refine zE fun k' hk' => ?_
       simp [hh, m13_128, db310, dc317]
       apply hk'
       exact Runs.ret1 (v := bool false) Tryz.func4 Tryz.results4 (by simp [hh, m13_128, db310, dc317]) (hQ _ _ _ _ (.of (.v _)) ⟨false, h, rfl⟩)
      replace h := h.2 dc317
      refine Runs.skip ?_
      refine Runs.seq ?_
      refine zE fun k' hk' => ?_
      obtain ⟨c319, ec319, h⟩ := atm h
      have f320 := ib_neq (k := .i64) ec319
      simp [hh, m13_128, f320, db310, dc317, -intBin]
      apply hk'
      refine Runs.ite (b := c319) (by simp [hh, m13_128, db310, dc317]) (fun dc319 => ?_) (fun dc319 => ?_)
      ·replace h := h.1 dc319
       refine zE fun k' hk' => ?_
       simp [hh, m13_128, db310, dc317, dc319]
       apply hk'
       exact Runs.ret1 (v := bool false) Tryz.func4 Tryz.results4 (by simp [hh, m13_128, db310, dc317, dc319]) (hQ _ _ _ _ (.of (.v _)) ⟨false, h, rfl⟩)
      replace h := h.2 dc319
      refine Runs.skip ?_
      refine zE fun k' hk' => ?_
      simp [hh, m13_128, db310, dc317, dc319]
      apply hk'
      exact Runs.ret1 (v := bool true) Tryz.func4 Tryz.results4 (by simp [hh, m13_128, db310, dc317, dc319]) (hQ _ _ _ _ (.of (.v _)) ⟨true, h, rfl⟩)
     replace h := hJ308
     obtain ⟨hb321, h⟩ := h
     obtain ⟨r322, er322, h⟩ := atm h
     simp [hh, m8_26, m13_128, m18_287]
     refine RunK.callA Ty_ok (eqM_ok r285.1 r26.1 hb321) e17 (.cons (ArgOk.agg (.cons (Sep.argOk' sp (old_listF (by simp))) (.cons (Sep.argOk' sp.f1 (old_listF (by simp))) .nil))) (.cons (argM true r26.1) .nil)) (by decide) (by decide) rfl (by simp [hh, m8_26, m13_128, m18_287]) ?_
     rintro _ rfl
     rw [← er322]
     rcases Bool.eq_false_or_eq_true r322 with dr322 | dr322
     ·replace h := h.1 dr322
      obtain ⟨c323, ec323, h⟩ := atm h
      have f324 := bb_neq ec323
      simp [hh, m8_26, m13_128, m18_287, f324, dr322, -boolBin]
      exact fin313 (c323) _ _ _ h (by refine ⟨v304, v305, ?_, ?_, (Sep.sub sp.dr.dr (by simp +contextual))⟩ <;> simp [hh, m8_26, m13_128, m18_287, f324, dr322, -boolBin])
     replace h := h.2 dr322
     simp [hh, m8_26, m13_128, m18_287, dr322]
     exact fin313 (true) _ _ _ h (by refine ⟨v304, v305, ?_, ?_, (Sep.sub sp.dr.dr (by simp +contextual))⟩ <;> simp [hh, m8_26, m13_128, m18_287, dr322])
   replace h := hJ248
   obtain ⟨c325, ec325, h⟩ := atm h
   have f326 := ib_lss (k := .i64) ec325
   rcases Bool.eq_false_or_eq_true c325 with dc325 | dc325
   ·replace h := h.1 dc325
    simp [hh, m4_1, m5_2, m8_26, m13_128, f326, dc325, -intBin]
    exact fin253 (true) _ _ _ h (by refine ⟨v244, v245, ?_, ?_, ?_, ?_, ?_, sp⟩ <;> simp [hh, m4_1, m5_2, m8_26, m13_128, f326, dc325, -intBin])
   replace h := h.2 dc325
   obtain ⟨hb327, h⟩ := h
   obtain ⟨r328, er328, h⟩ := atm h
   simp [hh, m4_1, m5_2, m8_26, m13_128, f326, dc325, -intBin]
   refine RunK.callA Ty_ok (eqM_ok r112.1 r26.1 hb327) e17 (.cons (ArgOk.agg (.cons (Sep.argOk' sp (old_listF (by simp))) (.cons (Sep.argOk' sp.f1 (old_listF (by simp))) .nil))) (.cons (argM true r26.1) .nil)) (by decide) (by decide) rfl (by simp [hh, m4_1, m5_2, m8_26, m13_128, f326, dc325, -intBin]) ?_
   rintro _ rfl
   rw [← er328]
   rcases Bool.eq_false_or_eq_true r328 with dr328 | dr328
   ·replace h := h.1 dr328
    obtain ⟨c329, ec329, h⟩ := atm h
    have f330 := bb_neq ec329
    simp [hh, m4_1, m5_2, m8_26, m13_128, f326, f330, dc325, dr328, -boolBin, -intBin]
    exact fin253 (c329) _ _ _ h (by refine ⟨v244, v245, ?_, ?_, ?_, ?_, ?_, sp⟩ <;> simp [hh, m4_1, m5_2, m8_26, m13_128, f326, f330, dc325, dr328, -boolBin, -intBin])
   replace h := h.2 dr328
   simp [hh, m4_1, m5_2, m8_26, m13_128, f326, dc325, dr328, -intBin]
   exact fin253 (true) _ _ _ h (by refine ⟨v244, v245, ?_, ?_, ?_, ?_, ?_, sp⟩ <;> simp [hh, m4_1, m5_2, m8_26, m13_128, f326, dc325, dr328, -intBin])
  replace h := hJ145
  obtain ⟨hb331, h⟩ := h
  obtain ⟨r332, er332, h⟩ := atm h
  simp [hh, m4_1, m5_2, m8_26, m11_64, m12_95, m13_128]
  refine RunK.callA Ty_ok (eqM_ok r112.1 r26.1 hb331) e17 (.cons (ArgOk.agg (.cons (Sep.argOk' sp.f9 (old_listF (by simp))) (.cons (Sep.argOk' sp.f10 (old_listF (by simp))) .nil))) (.cons (argM true r26.1) .nil)) (by decide) (by decide) rfl (by simp [hh, m4_1, m5_2, m8_26, m11_64, m12_95, m13_128]) ?_
  rintro _ rfl
  rw [← er332]
  rcases Bool.eq_false_or_eq_true r332 with dr332 | dr332
  ·replace h := h.1 dr332
   obtain ⟨c333, ec333, h⟩ := atm h
   have f334 := bb_neq ec333
   simp [hh, m4_1, m5_2, m8_26, m11_64, m12_95, m13_128, f334, dr332, -boolBin]
   exact fin159 (c333) _ _ _ h (by refine ⟨v132, v133, v134, v135, v136, v137, v138, v139, v140, v141, v142, ?_, ?_, ?_, ?_, ?_, ?_, ?_, sp⟩ <;> simp [hh, m4_1, m5_2, m8_26, m11_64, m12_95, m13_128, f334, dr332, -boolBin])
  replace h := h.2 dr332
  simp [hh, m4_1, m5_2, m8_26, m11_64, m12_95, m13_128, dr332]
  exact fin159 (true) _ _ _ h (by refine ⟨v132, v133, v134, v135, v136, v137, v138, v139, v140, v141, v142, ?_, ?_, ?_, ?_, ?_, ?_, ?_, sp⟩ <;> simp [hh, m4_1, m5_2, m8_26, m11_64, m12_95, m13_128, dr332])
theorem lawFirst_ok (aSig : List Control) (aRedex : Big) (aAgent : Big) (hp : lawFirst_pre aSig aRedex aAgent) : PureC Tryz.prog 4 [.list false (aSig.map Control.cells), .agg (bC false aRedex), .agg (bC false aAgent)] (fun r => r = bool (lawFirst aSig aRedex aAgent)) := (lawFirst_walk aSig aRedex aAgent _ (lawFirst_vc aSig aRedex aAgent hp)).mono (by rintro _ ⟨_, rfl, rfl⟩; rfl)
end Go.Ab.Vg
/- The contract of laws.FnExactFirstMatch: it answers true. -/
namespace Go.Ab
open Go.Proofs
theorem exactFirstMatch_ok (a0 : Sig) (a1 : Big) (a2 : Big) (h0 : HugeS a0) (h1 : HugeB a1) (h2 : HugeB a2) : PureC Tryz.prog 4 [encSig false a0, encB false a1, encB false a2] (fun r => r = bool true) := Vg.lawFirst_ok a0 a1 a2 ⟨h0, h1, h2⟩
end Go.Ab
