/- Merged texts (12 of 13) of the proof that ends in Lhy: Lmw Nmw Mdw Mow Lhz. -/
import Derived.Test.YtpakecdmnomalaaGreatDoorAbQlh11
/- Walks by program for YtpakecdmnomalaaGreatDoorAbLm. -/
namespace Go.Ab.Vg
open Go.Proofs
set_option maxRecDepth 100000
set_option linter.unusedSimpArgs false
set_option linter.unusedVariables false
attribute [local simp] Control.cells GNode.cells Wire.cells intC sliceC strC bC pA
theorem e40 : Ent Tryz.prog 40 := Ent.of Tryz.func40 (by kernel_rfl) rfl
theorem toIntS_walk (a : List Int) (Z : (List Int) → Prop) (h : toIntS_wp a Z) : OwnS Tryz.prog 40 [.list false (a.map intC)] (.s [.c]) (fun r => ∃ y : List Int, Z y ∧ r = .list true (y.map intC)) := by
 unfold toIntS_wp at h
 have sp : Sep noHeap 0 [] [] := Sep.nil (by simp)
 refine OwnS.of Tryz.func40 rfl Tryz.ntmps40 (by simp) fun Q hQ => ?_
 refine Runs.cut (fun ρ H n => ρ 0 = .list false (a.map intC) ∧ Sep H n [] []) (by refine ⟨?_, sp⟩ <;> simp ) ?_
 rintro ρ H n1 ⟨hh, sp⟩
 refine zE fun k' hk' => ?_
 simp [hh]
 apply hk'
 refine zE fun k' hk' => ?_
 obtain ⟨len2, elen2, h⟩ := atm h
 have f3 := fun H => len_list (H := H) (fr := false) (f := intC) kd_24 elen2
 obtain ⟨hb4, h⟩ := h
 obtain ⟨l5, el5, h⟩ := atm h
 simp [hh, f3, hb4, el5, -lenF]
 apply hk'
 refine Runs.cut (fun ρ H n => ∃ (v7 : AVal), (ρ 0 = .list false (a.map intC) ∧ ρ 3 = v7) ∧ Sep H n [oI v7 l5] []) (by refine ⟨.arr (n1, 7) len2.toNat 0 len2.toNat, ?_, (by rw [el5]; exact Sep.addRep (z := [int 0]) (f := intC) (k := len2.toNat) sp (fun H => by show Row H [.c] [int 0] [int 0] []; simp [Row, Tr]))⟩ <;> simp [hh, f3, hb4, el5, -lenF]) ?_
 clear hh
 rintro ρ H n8 ⟨v7, hh, sp⟩
 refine Runs.seq ?_
 refine zE fun k' hk' => ?_
 simp [hh]
 apply hk'
 refine Runs.block ?_
 refine Runs.loopW h (fun (sJ : Int × (List Int)) ρ H n => match sJ with | (i16, l17) => ∃ (v18 : AVal), (ρ 0 = .list false (a.map intC) ∧ ρ 3 = v18 ∧ ρ 4 = int i16) ∧ Sep H n [oI v18 l17] []) (by refine ⟨v7, ?_, sp⟩ <;> simp [hh]) ?_
 clear hh
 rintro ⟨i16, l17⟩ ρ H n19 K h ⟨v18, hh, sp⟩ IH20
 refine Runs.seq ?_
 refine zE fun k' hk' => ?_
 obtain ⟨len22, elen22, h⟩ := atm h
 have f23 := fun H => len_list (H := H) (fr := false) (f := intC) kd_24 elen22
 obtain ⟨c24, ec24, h⟩ := atm h
 have f25 := ib_lss (k := .i64) ec24
 simp [hh, f23, f25, -intBin, -lenF]
 apply hk'
 refine Runs.ite (b := c24) (by simp [hh]) (fun dc24 => ?_) (fun dc24 => ?_)
 ·replace h := h.1 dc24
  refine Runs.skip ?_
  refine Runs.seq ?_
  refine Runs.block ?_
  refine zF fun k' hk' => ?_
  obtain ⟨hb26, h⟩ := h
  obtain ⟨x27, ex27, h⟩ := atm h
  have f28 := fun H => ix_list (H := H) (fr := false) (f := intC) (k := .i64) kd_24 (fun _ => rfl) hb26 ex27
  obtain ⟨hb29, h⟩ := h
  obtain ⟨id30, hv, mo31, ln32, ni33⟩ := Sep.openF sp (by simp) hb29
  subst hv
  obtain ⟨x34, ex34, h⟩ := atm h
  have f35 := fun H (hm : H id30 = some ⟨1, l17.map intC⟩) => ix_arr (H := H) (k := .i64) (off := 0) (len := l17.length) (g := l17.length) kd_24 hm (by simp) rfl hb29
  have f36 := at_some (q := i16.toNat) hb29 ex34 rfl
  obtain ⟨l37, el37, h⟩ := atm h
  simp [hh, mo31, f28, f35, f36, dc24, -indexAddrF, -storeF]
  refine bind_store (q := i16.toNat) (news := intC x27) [] [] sp (by simp) (by simp; omega) (by simp) (by simp [-one1, o1x]) (Fill.v _ Fill.nil) ?_
  rintro H38 sp hfr39
  replace sp : Sep H38 n19 [oI (.arr id30 l17.length 0 l17.length) l37] [] := Sep.st el37 sp
  simp [hh, f28, f35, f36, dc24, -indexAddrF]
  apply hk'
  refine Runs.cut (fun ρ H n => ∃ (v41 : AVal), (ρ 0 = .list false (a.map intC) ∧ ρ 3 = v41 ∧ ρ 4 = int i16) ∧ Sep H n [oI v41 l37] []) (by refine ⟨.arr id30 l17.length 0 l17.length, ?_, sp⟩ <;> simp [hh, f28, f35, f36, dc24, -indexAddrF]) ?_
  clear hh
  rintro ρ H n42 ⟨v41, hh, sp⟩
  refine Runs.inBlock ?_
  refine zF fun k' hk' => ?_
  obtain ⟨hb43, h⟩ := h
  obtain ⟨v44, ev44, h⟩ := atm h
  have f45 := ib_add hb43 ev44
  simp [hh, f45, -intBin]
  apply hk'
  refine IH20 (v44, l37) _ _ _ h (by refine ⟨v41, ?_, sp⟩ <;> simp [hh])
 replace h := h.2 dc24
 refine Runs.exit rfl ?_
 refine zE fun k' hk' => ?_
 simp [hh, dc24]
 apply hk'
 exact Runs.ret1 (v := v18) Tryz.func40 Tryz.results40 (by simp [hh, dc24]) (hQ _ _ _ _ (Sep.sub (ids' := []) sp (by simp)) ⟨l17, h, rfl⟩)
theorem toIntS_ok (a : List Int) (hp : toIntS_pre a) : OwnS Tryz.prog 40 [.list false (a.map intC)] (.s [.c]) (fun r => r = .list true ((toIntS a).map intC)) := (toIntS_walk a _ (toIntS_vc a hp)).mono (by rintro _ ⟨_, rfl, rfl⟩; rfl)
theorem e41 : Ent Tryz.prog 41 := Ent.of Tryz.func41 (by kernel_rfl) rfl
theorem toStringS_walk (a : List Str) (Z : (List Str) → Prop) (h : toStringS_wp a Z) : OwnS Tryz.prog 41 [.list false (a.map strC)] (.s [.c]) (fun r => ∃ y : List Str, Z y ∧ r = .list true (y.map strC)) := by
 unfold toStringS_wp at h
 have sp : Sep noHeap 0 [] [] := Sep.nil (by simp)
 refine OwnS.of Tryz.func41 rfl Tryz.ntmps41 (by simp) fun Q hQ => ?_
 refine Runs.cut (fun ρ H n => ρ 0 = .list false (a.map strC) ∧ Sep H n [] []) (by refine ⟨?_, sp⟩ <;> simp ) ?_
 rintro ρ H n1 ⟨hh, sp⟩
 refine zE fun k' hk' => ?_
 simp [hh]
 apply hk'
 refine zE fun k' hk' => ?_
 obtain ⟨len2, elen2, h⟩ := atm h
 have f3 := fun H => len_list (H := H) (fr := false) (f := strC) kd_25 elen2
 obtain ⟨hb4, h⟩ := h
 obtain ⟨l5, el5, h⟩ := atm h
 simp [hh, f3, hb4, el5, -lenF]
 apply hk'
 refine Runs.cut (fun ρ H n => ∃ (v7 : AVal), (ρ 0 = .list false (a.map strC) ∧ ρ 3 = v7) ∧ Sep H n [oS v7 l5] []) (by refine ⟨.arr (n1, 7) len2.toNat 0 len2.toNat, ?_, (by rw [el5]; exact Sep.addRep (z := [str []]) (f := strC) (k := len2.toNat) sp (fun H => by show Row H [.c] [str []] [str []] []; simp [Row, Tr]))⟩ <;> simp [hh, f3, hb4, el5, -lenF]) ?_
 clear hh
 rintro ρ H n8 ⟨v7, hh, sp⟩
 refine Runs.seq ?_
 refine zE fun k' hk' => ?_
 simp [hh]
 apply hk'
 refine Runs.block ?_
 refine Runs.loopW h (fun (sJ : Int × (List Str)) ρ H n => match sJ with | (i16, l17) => ∃ (v18 : AVal), (ρ 0 = .list false (a.map strC) ∧ ρ 3 = v18 ∧ ρ 4 = int i16) ∧ Sep H n [oS v18 l17] []) (by refine ⟨v7, ?_, sp⟩ <;> simp [hh]) ?_
 clear hh
 rintro ⟨i16, l17⟩ ρ H n19 K h ⟨v18, hh, sp⟩ IH20
 refine Runs.seq ?_
 refine zE fun k' hk' => ?_
 obtain ⟨len22, elen22, h⟩ := atm h
 have f23 := fun H => len_list (H := H) (fr := false) (f := strC) kd_25 elen22
 obtain ⟨c24, ec24, h⟩ := atm h
 have f25 := ib_lss (k := .i64) ec24
 simp [hh, f23, f25, -intBin, -lenF]
 apply hk'
 refine Runs.ite (b := c24) (by simp [hh]) (fun dc24 => ?_) (fun dc24 => ?_)
 ·replace h := h.1 dc24
  refine Runs.skip ?_
  refine Runs.seq ?_
  refine Runs.block ?_
  refine zF fun k' hk' => ?_
  obtain ⟨hb26, h⟩ := h
  obtain ⟨x27, ex27, h⟩ := atm h
  have f28 := fun H => ix_list (H := H) (fr := false) (f := strC) (k := .i64) kd_25 (fun _ => rfl) hb26 ex27
  obtain ⟨hb29, h⟩ := h
  obtain ⟨id30, hv, mo31, ln32, ni33⟩ := Sep.openF sp (by simp) hb29
  subst hv
  obtain ⟨x34, ex34, h⟩ := atm h
  have f35 := fun H (hm : H id30 = some ⟨1, l17.map strC⟩) => ix_arr (H := H) (k := .i64) (off := 0) (len := l17.length) (g := l17.length) kd_25 hm (by simp) rfl hb29
  have f36 := at_some (q := i16.toNat) hb29 ex34 rfl
  obtain ⟨l37, el37, h⟩ := atm h
  simp [hh, mo31, f28, f35, f36, dc24, -indexAddrF, -storeF]
  refine bind_store (q := i16.toNat) (news := strC x27) [] [] sp (by simp) (by simp; omega) (by simp) (by simp [-one1, o1x]) (Fill.v _ Fill.nil) ?_
  rintro H38 sp hfr39
  replace sp : Sep H38 n19 [oS (.arr id30 l17.length 0 l17.length) l37] [] := Sep.st el37 sp
  simp [hh, f28, f35, f36, dc24, -indexAddrF]
  apply hk'
  refine Runs.cut (fun ρ H n => ∃ (v41 : AVal), (ρ 0 = .list false (a.map strC) ∧ ρ 3 = v41 ∧ ρ 4 = int i16) ∧ Sep H n [oS v41 l37] []) (by refine ⟨.arr id30 l17.length 0 l17.length, ?_, sp⟩ <;> simp [hh, f28, f35, f36, dc24, -indexAddrF]) ?_
  clear hh
  rintro ρ H n42 ⟨v41, hh, sp⟩
  refine Runs.inBlock ?_
  refine zF fun k' hk' => ?_
  obtain ⟨hb43, h⟩ := h
  obtain ⟨v44, ev44, h⟩ := atm h
  have f45 := ib_add hb43 ev44
  simp [hh, f45, -intBin]
  apply hk'
  refine IH20 (v44, l37) _ _ _ h (by refine ⟨v41, ?_, sp⟩ <;> simp [hh])
 replace h := h.2 dc24
 refine Runs.exit rfl ?_
 refine zE fun k' hk' => ?_
 simp [hh, dc24]
 apply hk'
 exact Runs.ret1 (v := v18) Tryz.func41 Tryz.results41 (by simp [hh, dc24]) (hQ _ _ _ _ (Sep.sub (ids' := []) sp (by simp)) ⟨l17, h, rfl⟩)
theorem toStringS_ok (a : List Str) (hp : toStringS_pre a) : OwnS Tryz.prog 41 [.list false (a.map strC)] (.s [.c]) (fun r => r = .list true ((toStringS a).map strC)) := (toStringS_walk a _ (toStringS_vc a hp)).mono (by rintro _ ⟨_, rfl, rfl⟩; rfl)
theorem e38 : Ent Tryz.prog 38 := Ent.of Tryz.func38 (by kernel_rfl) rfl
theorem toControl_walk (a : Control) (Z : Control → Prop) (h : toControl_wp a Z) : PureC Tryz.prog 38 [.agg [str a.name, int a.ports, int a.kind]] (fun r => ∃ y : Control, Z y ∧ r = .agg [str y.name, int y.ports, int y.kind]) := by
 unfold toControl_wp at h
 refine PureC.of Tryz.func38 rfl Tryz.ntmps38 (by simp) fun Q hQ => ?_
 refine Runs.cut (fun ρ H n => ρ 0 = .agg [str a.name, int a.ports, int a.kind]) (by simp []) ?_
 rintro ρ H n1 hh
 refine zE fun k' hk' => ?_
 simp [hh]
 apply hk'
 refine Runs.cut (fun ρ H n => (ρ 1 = pA n1 1 ∧ ρ 2 = pA (n1 + 1) 2) ∧ H (n1, 1) = some ⟨3, [[str a.name, int a.ports, int a.kind]]⟩ ∧ H (n1 + 1, 2) = some ⟨3, [[str [], int 0, int 0]]⟩) (by refine ⟨?_, ?_, ?_⟩ <;> simp [hh]) ?_
 clear hh
 rintro ρ H n4 ⟨hh, m1_1, m2_2⟩
 refine zE fun k' hk' => ?_
 simp [hh, m1_1, m2_2]
 apply hk'
 refine Runs.cut (fun ρ H n => (ρ 1 = pA n1 1 ∧ ρ 2 = pA (n1 + 1) 2 ∧ ρ 3 = pA n4 3) ∧ H (n1, 1) = some ⟨3, [[str a.name, int a.ports, int a.kind]]⟩ ∧ H (n1 + 1, 2) = some ⟨3, [[str [], int 0, int 0]]⟩ ∧ H (n4, 3) = some ⟨3, [[str [], int 0, int 0]]⟩) (by refine ⟨?_, ?_, ?_, ?_⟩ <;> simp [hh, m1_1, m2_2]) ?_
 clear hh m1_1 m2_2
 rintro ρ H n6 ⟨hh, m1_1, m2_2, m3_4⟩
 refine zE fun k' hk' => ?_
 simp [hh, m1_1, m2_2, m3_4]
 apply hk'
 refine Runs.cut (fun ρ H n => (ρ 1 = pA n1 1 ∧ ρ 2 = pA (n1 + 1) 2 ∧ ρ 3 = pA n4 3) ∧ H (n1, 1) = some ⟨3, [[str a.name, int a.ports, int a.kind]]⟩ ∧ H (n1 + 1, 2) = some ⟨3, [[str [], int 0, int 0]]⟩ ∧ H (n4, 3) = some ⟨3, [[str a.name, int 0, int 0]]⟩) (by refine ⟨?_, ?_, ?_, ?_⟩ <;> simp [hh, m1_1, m2_2, m3_4]) ?_
 clear hh m1_1 m2_2 m3_4
 rintro ρ H n7 ⟨hh, m1_1, m2_2, m3_4⟩
 refine zE fun k' hk' => ?_
 simp [hh, m1_1, m2_2, m3_4]
 apply hk'
 refine Runs.cut (fun ρ H n => (ρ 1 = pA n1 1 ∧ ρ 2 = pA (n1 + 1) 2 ∧ ρ 3 = pA n4 3) ∧ H (n1, 1) = some ⟨3, [[str a.name, int a.ports, int a.kind]]⟩ ∧ H (n1 + 1, 2) = some ⟨3, [[str [], int 0, int 0]]⟩ ∧ H (n4, 3) = some ⟨3, [[str a.name, int a.ports, int 0]]⟩) (by refine ⟨?_, ?_, ?_, ?_⟩ <;> simp [hh, m1_1, m2_2, m3_4]) ?_
 clear hh m1_1 m2_2 m3_4
 rintro ρ H n8 ⟨hh, m1_1, m2_2, m3_4⟩
 refine zE fun k' hk' => ?_
 simp [hh, m1_1, m2_2, m3_4]
 apply hk'
 refine Runs.cut (fun ρ H n => (ρ 2 = pA (n1 + 1) 2 ∧ ρ 3 = pA n4 3) ∧ H (n1 + 1, 2) = some ⟨3, [[str [], int 0, int 0]]⟩ ∧ H (n4, 3) = some ⟨3, [[str a.name, int a.ports, int a.kind]]⟩) (by refine ⟨?_, ?_, ?_⟩ <;> simp [hh, m1_1, m2_2, m3_4]) ?_
 clear hh m1_1 m2_2 m3_4
 rintro ρ H n9 ⟨hh, m2_2, m3_4⟩
 refine zE fun k' hk' => ?_
 simp [hh, m2_2, m3_4]
 apply hk'
 refine Runs.cut (fun ρ H n => ρ 2 = pA (n1 + 1) 2 ∧ H (n1 + 1, 2) = some ⟨3, [[str a.name, int a.ports, int a.kind]]⟩) (by refine ⟨?_, ?_⟩ <;> simp [hh, m2_2, m3_4]) ?_
 clear hh m2_2 m3_4
 rintro ρ H n10 ⟨hh, m2_2⟩
 exact Runs.res1 Ty_ok (v := .agg [str a.name, int a.ports, int a.kind]) Tryz.func38 Tryz.results38 (by simp [hh, m2_2, resA]) (hQ _ _ _ _ (.of (.aggL (.cons (.v _) (.cons (.v _) (.cons (.v _) .nil))))) ⟨a, h, rfl⟩)
theorem toControl_ok (a : Control)  : PureC Tryz.prog 38 [.agg [str a.name, int a.ports, int a.kind]] (fun r => r = .agg [str ((toControl a).name), int ((toControl a).ports), int ((toControl a).kind)]) := (toControl_walk a _ (toControl_vc a )).mono (by rintro _ ⟨_, rfl, rfl⟩; rfl)
theorem e10 : Ent Tryz.prog 10 := Ent.of Tryz.func10 (by kernel_rfl) rfl
theorem toControlS_walk (a : List Control) (Z : (List Control) → Prop) (h : toControlS_wp a Z) : OwnS Tryz.prog 10 [.list false (a.map Control.cells)] (.s [.c, .c, .c]) (fun r => ∃ y : List Control, Z y ∧ r = .list true (y.map Control.cells)) := by
 unfold toControlS_wp at h
 have sp : Sep noHeap 0 [] [] := Sep.nil (by simp)
 refine OwnS.of Tryz.func10 rfl Tryz.ntmps10 (by simp) fun Q hQ => ?_
 refine Runs.cut (fun ρ H n => ρ 0 = .list false (a.map Control.cells) ∧ Sep H n [] []) (by refine ⟨?_, sp⟩ <;> simp ) ?_
 rintro ρ H n1 ⟨hh, sp⟩
 refine zE fun k' hk' => ?_
 simp [hh]
 apply hk'
 refine zE fun k' hk' => ?_
 obtain ⟨len2, elen2, h⟩ := atm h
 have f3 := fun H => len_list (H := H) (fr := false) (f := Control.cells) kd_22 elen2
 obtain ⟨hb4, h⟩ := h
 obtain ⟨l5, el5, h⟩ := atm h
 simp [hh, f3, hb4, el5, -lenF]
 apply hk'
 refine Runs.cut (fun ρ H n => ∃ (v7 : AVal), (ρ 0 = .list false (a.map Control.cells) ∧ ρ 3 = v7) ∧ Sep H n [oE [.c, .c, .c] Control.cells v7 l5] []) (by refine ⟨.arr (n1, 7) len2.toNat 0 len2.toNat, ?_, (by rw [el5]; exact Sep.addRep (z := [str [], int 0, int 0]) (f := Control.cells) (k := len2.toNat) sp (fun H => by show Row H [.c, .c, .c] [str [], int 0, int 0] [str [], int 0, int 0] []; simp [Row, Tr]))⟩ <;> simp [hh, f3, hb4, el5, -lenF]) ?_
 clear hh
 rintro ρ H n8 ⟨v7, hh, sp⟩
 refine Runs.seq ?_
 refine zE fun k' hk' => ?_
 simp [hh]
 apply hk'
 refine Runs.block ?_
 refine Runs.loopW h (fun (sJ : Int × (List Control)) ρ H n => match sJ with | (i16, l17) => ∃ (v18 : AVal), (ρ 0 = .list false (a.map Control.cells) ∧ ρ 3 = v18 ∧ ρ 4 = int i16) ∧ Sep H n [oE [.c, .c, .c] Control.cells v18 l17] []) (by refine ⟨v7, ?_, sp⟩ <;> simp [hh]) ?_
 clear hh
 rintro ⟨i16, l17⟩ ρ H n19 K h ⟨v18, hh, sp⟩ IH20
 refine Runs.seq ?_
 refine zE fun k' hk' => ?_
 obtain ⟨len22, elen22, h⟩ := atm h
 have f23 := fun H => len_list (H := H) (fr := false) (f := Control.cells) kd_22 elen22
 obtain ⟨c24, ec24, h⟩ := atm h
 have f25 := ib_lss (k := .i64) ec24
 simp [hh, f23, f25, -intBin, -lenF]
 apply hk'
 refine Runs.ite (b := c24) (by simp [hh]) (fun dc24 => ?_) (fun dc24 => ?_)
 ·replace h := h.1 dc24
  refine Runs.skip ?_
  refine Runs.seq ?_
  refine Runs.block ?_
  refine zF fun k' hk' => ?_
  obtain ⟨hb26, h⟩ := h
  obtain ⟨x27, ex27, h⟩ := atm h
  have f28 := fun H => ix_list (H := H) (fr := false) (f := Control.cells) (k := .i64) kd_22 (fun _ => rfl) hb26 ex27
  obtain ⟨r29, er29, h⟩ := atm h
  simp [hh, f28, dc24, -indexAddrF]
  refine RunK.callA Ty_ok (toControl_ok x27 ) e38 (.cons (ArgOk.agg (.cons (.v _ _ _) (.cons (.v _ _ _) (.cons (.v _ _ _) .nil)))) .nil) (by decide) (by decide) rfl (by simp [hh, f28, dc24, -indexAddrF]) ?_
  rintro _ rfl
  rw [← er29]
  obtain ⟨hb30, h⟩ := h
  obtain ⟨id31, hv, mo32, ln33, ni34⟩ := Sep.openF sp (by simp) hb30
  subst hv
  obtain ⟨x35, ex35, h⟩ := atm h
  have f36 := fun H (hm : H id31 = some ⟨3, l17.map Control.cells⟩) => ix_arr (H := H) (k := .i64) (off := 0) (len := l17.length) (g := l17.length) kd_33 hm (by simp) rfl hb30
  have f37 := at_some (q := i16.toNat) hb30 ex35 rfl
  obtain ⟨l38, el38, h⟩ := atm h
  simp [hh, mo32, f28, f36, f37, dc24, -indexAddrF, -storeF]
  refine bind_store (q := i16.toNat) (news := Control.cells r29) [] [] sp (by simp) (by simp; omega) (by simp) (by simp [-one1, o1x]) (Fill.v _ (Fill.v _ (Fill.v _ Fill.nil))) ?_
  rintro H39 sp hfr40
  replace sp : Sep H39 n19 [oE [.c, .c, .c] Control.cells (.arr id31 l17.length 0 l17.length) l38] [] := Sep.st el38 sp
  simp [hh, f28, f36, f37, dc24, -indexAddrF]
  apply hk'
  refine Runs.cut (fun ρ H n => ∃ (v42 : AVal), (ρ 0 = .list false (a.map Control.cells) ∧ ρ 3 = v42 ∧ ρ 4 = int i16) ∧ Sep H n [oE [.c, .c, .c] Control.cells v42 l38] []) (by refine ⟨.arr id31 l17.length 0 l17.length, ?_, sp⟩ <;> simp [hh, f28, f36, f37, dc24, -indexAddrF]) ?_
  clear hh
  rintro ρ H n43 ⟨v42, hh, sp⟩
  refine Runs.inBlock ?_
  refine zF fun k' hk' => ?_
  obtain ⟨hb44, h⟩ := h
  obtain ⟨v45, ev45, h⟩ := atm h
  have f46 := ib_add hb44 ev45
  simp [hh, f46, -intBin]
  apply hk'
  refine IH20 (v45, l38) _ _ _ h (by refine ⟨v42, ?_, sp⟩ <;> simp [hh])
 replace h := h.2 dc24
 refine Runs.exit rfl ?_
 refine zE fun k' hk' => ?_
 simp [hh, dc24]
 apply hk'
 exact Runs.ret1 (v := v18) Tryz.func10 Tryz.results10 (by simp [hh, dc24]) (hQ _ _ _ _ (Sep.sub (ids' := []) sp (by simp)) ⟨l17, h, rfl⟩)
theorem toControlS_ok (a : List Control) (hp : toControlS_pre a) : OwnS Tryz.prog 10 [.list false (a.map Control.cells)] (.s [.c, .c, .c]) (fun r => r = .list true ((toControlS a).map Control.cells)) := (toControlS_walk a _ (toControlS_vc a hp)).mono (by rintro _ ⟨_, rfl, rfl⟩; rfl)
theorem e77 : Ent Tryz.prog 77 := Ent.of Tryz.func77 (by kernel_rfl) rfl
theorem toWire_walk (a : Wire) (Z : Wire → Prop) (h : toWire_wp a Z) : PureC Tryz.prog 77 [.agg [str a.name, int a.link]] (fun r => ∃ y : Wire, Z y ∧ r = .agg [str y.name, int y.link]) := by
 unfold toWire_wp at h
 refine PureC.of Tryz.func77 rfl Tryz.ntmps77 (by simp) fun Q hQ => ?_
 refine Runs.cut (fun ρ H n => ρ 0 = .agg [str a.name, int a.link]) (by simp []) ?_
 rintro ρ H n1 hh
 refine zE fun k' hk' => ?_
 simp [hh]
 apply hk'
 refine Runs.cut (fun ρ H n => (ρ 1 = pA n1 1 ∧ ρ 2 = pA (n1 + 1) 2) ∧ H (n1, 1) = some ⟨2, [[str a.name, int a.link]]⟩ ∧ H (n1 + 1, 2) = some ⟨2, [[str [], int 0]]⟩) (by refine ⟨?_, ?_, ?_⟩ <;> simp [hh]) ?_
 clear hh
 rintro ρ H n4 ⟨hh, m1_1, m2_2⟩
 refine zE fun k' hk' => ?_
 simp [hh, m1_1, m2_2]
 apply hk'
 refine Runs.cut (fun ρ H n => (ρ 1 = pA n1 1 ∧ ρ 2 = pA (n1 + 1) 2 ∧ ρ 3 = pA n4 3) ∧ H (n1, 1) = some ⟨2, [[str a.name, int a.link]]⟩ ∧ H (n1 + 1, 2) = some ⟨2, [[str [], int 0]]⟩ ∧ H (n4, 3) = some ⟨2, [[str [], int 0]]⟩) (by refine ⟨?_, ?_, ?_, ?_⟩ <;> simp [hh, m1_1, m2_2]) ?_
 clear hh m1_1 m2_2
 rintro ρ H n6 ⟨hh, m1_1, m2_2, m3_4⟩
 refine zE fun k' hk' => ?_
 simp [hh, m1_1, m2_2, m3_4]
 apply hk'
 refine Runs.cut (fun ρ H n => (ρ 1 = pA n1 1 ∧ ρ 2 = pA (n1 + 1) 2 ∧ ρ 3 = pA n4 3) ∧ H (n1, 1) = some ⟨2, [[str a.name, int a.link]]⟩ ∧ H (n1 + 1, 2) = some ⟨2, [[str [], int 0]]⟩ ∧ H (n4, 3) = some ⟨2, [[str a.name, int 0]]⟩) (by refine ⟨?_, ?_, ?_, ?_⟩ <;> simp [hh, m1_1, m2_2, m3_4]) ?_
 clear hh m1_1 m2_2 m3_4
 rintro ρ H n7 ⟨hh, m1_1, m2_2, m3_4⟩
 refine zE fun k' hk' => ?_
 simp [hh, m1_1, m2_2, m3_4]
 apply hk'
 refine Runs.cut (fun ρ H n => (ρ 2 = pA (n1 + 1) 2 ∧ ρ 3 = pA n4 3) ∧ H (n1 + 1, 2) = some ⟨2, [[str [], int 0]]⟩ ∧ H (n4, 3) = some ⟨2, [[str a.name, int a.link]]⟩) (by refine ⟨?_, ?_, ?_⟩ <;> simp [hh, m1_1, m2_2, m3_4]) ?_
 clear hh m1_1 m2_2 m3_4
 rintro ρ H n8 ⟨hh, m2_2, m3_4⟩
 refine zE fun k' hk' => ?_
 simp [hh, m2_2, m3_4]
 apply hk'
 refine Runs.cut (fun ρ H n => ρ 2 = pA (n1 + 1) 2 ∧ H (n1 + 1, 2) = some ⟨2, [[str a.name, int a.link]]⟩) (by refine ⟨?_, ?_⟩ <;> simp [hh, m2_2, m3_4]) ?_
 clear hh m2_2 m3_4
 rintro ρ H n9 ⟨hh, m2_2⟩
 exact Runs.res1 Ty_ok (v := .agg [str a.name, int a.link]) Tryz.func77 Tryz.results77 (by simp [hh, m2_2, resA]) (hQ _ _ _ _ (.of (.aggL (.cons (.v _) (.cons (.v _) .nil)))) ⟨a, h, rfl⟩)
theorem toWire_ok (a : Wire)  : PureC Tryz.prog 77 [.agg [str a.name, int a.link]] (fun r => r = .agg [str ((toWire a).name), int ((toWire a).link)]) := (toWire_walk a _ (toWire_vc a )).mono (by rintro _ ⟨_, rfl, rfl⟩; rfl)
theorem e42 : Ent Tryz.prog 42 := Ent.of Tryz.func42 (by kernel_rfl) rfl
theorem toWireS_walk (a : List Wire) (Z : (List Wire) → Prop) (h : toWireS_wp a Z) : OwnS Tryz.prog 42 [.list false (a.map Wire.cells)] (.s [.c, .c]) (fun r => ∃ y : List Wire, Z y ∧ r = .list true (y.map Wire.cells)) := by
 unfold toWireS_wp at h
 have sp : Sep noHeap 0 [] [] := Sep.nil (by simp)
 refine OwnS.of Tryz.func42 rfl Tryz.ntmps42 (by simp) fun Q hQ => ?_
 refine Runs.cut (fun ρ H n => ρ 0 = .list false (a.map Wire.cells) ∧ Sep H n [] []) (by refine ⟨?_, sp⟩ <;> simp ) ?_
 rintro ρ H n1 ⟨hh, sp⟩
 refine zE fun k' hk' => ?_
 simp [hh]
 apply hk'
 refine zE fun k' hk' => ?_
 obtain ⟨len2, elen2, h⟩ := atm h
 have f3 := fun H => len_list (H := H) (fr := false) (f := Wire.cells) kd_26 elen2
 obtain ⟨hb4, h⟩ := h
 obtain ⟨l5, el5, h⟩ := atm h
 simp [hh, f3, hb4, el5, -lenF]
 apply hk'
 refine Runs.cut (fun ρ H n => ∃ (v7 : AVal), (ρ 0 = .list false (a.map Wire.cells) ∧ ρ 3 = v7) ∧ Sep H n [oW v7 l5] []) (by refine ⟨.arr (n1, 7) len2.toNat 0 len2.toNat, ?_, (by rw [el5]; exact Sep.addRep (z := [str [], int 0]) (f := Wire.cells) (k := len2.toNat) sp (fun H => by show Row H [.c, .c] [str [], int 0] [str [], int 0] []; simp [Row, Tr]))⟩ <;> simp [hh, f3, hb4, el5, -lenF]) ?_
 clear hh
 rintro ρ H n8 ⟨v7, hh, sp⟩
 refine Runs.seq ?_
 refine zE fun k' hk' => ?_
 simp [hh]
 apply hk'
 refine Runs.block ?_
 refine Runs.loopW h (fun (sJ : Int × (List Wire)) ρ H n => match sJ with | (i16, l17) => ∃ (v18 : AVal), (ρ 0 = .list false (a.map Wire.cells) ∧ ρ 3 = v18 ∧ ρ 4 = int i16) ∧ Sep H n [oW v18 l17] []) (by refine ⟨v7, ?_, sp⟩ <;> simp [hh]) ?_
 clear hh
 rintro ⟨i16, l17⟩ ρ H n19 K h ⟨v18, hh, sp⟩ IH20
 refine Runs.seq ?_
 refine zE fun k' hk' => ?_
 obtain ⟨len22, elen22, h⟩ := atm h
 have f23 := fun H => len_list (H := H) (fr := false) (f := Wire.cells) kd_26 elen22
 obtain ⟨c24, ec24, h⟩ := atm h
 have f25 := ib_lss (k := .i64) ec24
 simp [hh, f23, f25, -intBin, -lenF]
 apply hk'
 refine Runs.ite (b := c24) (by simp [hh]) (fun dc24 => ?_) (fun dc24 => ?_)
 ·replace h := h.1 dc24
  refine Runs.skip ?_
  refine Runs.seq ?_
  refine Runs.block ?_
  refine zF fun k' hk' => ?_
  obtain ⟨hb26, h⟩ := h
  obtain ⟨x27, ex27, h⟩ := atm h
  have f28 := fun H => ix_list (H := H) (fr := false) (f := Wire.cells) (k := .i64) kd_26 (fun _ => rfl) hb26 ex27
  obtain ⟨r29, er29, h⟩ := atm h
  simp [hh, f28, dc24, -indexAddrF]
  refine RunK.callA Ty_ok (toWire_ok x27 ) e77 (.cons (ArgOk.agg (.cons (.v _ _ _) (.cons (.v _ _ _) .nil))) .nil) (by decide) (by decide) rfl (by simp [hh, f28, dc24, -indexAddrF]) ?_
  rintro _ rfl
  rw [← er29]
  obtain ⟨hb30, h⟩ := h
  obtain ⟨id31, hv, mo32, ln33, ni34⟩ := Sep.openF sp (by simp) hb30
  subst hv
  obtain ⟨x35, ex35, h⟩ := atm h
  have f36 := fun H (hm : H id31 = some ⟨2, l17.map Wire.cells⟩) => ix_arr (H := H) (k := .i64) (off := 0) (len := l17.length) (g := l17.length) kd_36 hm (by simp) rfl hb30
  have f37 := at_some (q := i16.toNat) hb30 ex35 rfl
  obtain ⟨l38, el38, h⟩ := atm h
  simp [hh, mo32, f28, f36, f37, dc24, -indexAddrF, -storeF]
  refine bind_store (q := i16.toNat) (news := Wire.cells r29) [] [] sp (by simp) (by simp; omega) (by simp) (by simp [-one1, o1x]) (Fill.v _ (Fill.v _ Fill.nil)) ?_
  rintro H39 sp hfr40
  replace sp : Sep H39 n19 [oW (.arr id31 l17.length 0 l17.length) l38] [] := Sep.st el38 sp
  simp [hh, f28, f36, f37, dc24, -indexAddrF]
  apply hk'
  refine Runs.cut (fun ρ H n => ∃ (v42 : AVal), (ρ 0 = .list false (a.map Wire.cells) ∧ ρ 3 = v42 ∧ ρ 4 = int i16) ∧ Sep H n [oW v42 l38] []) (by refine ⟨.arr id31 l17.length 0 l17.length, ?_, sp⟩ <;> simp [hh, f28, f36, f37, dc24, -indexAddrF]) ?_
  clear hh
  rintro ρ H n43 ⟨v42, hh, sp⟩
  refine Runs.inBlock ?_
  refine zF fun k' hk' => ?_
  obtain ⟨hb44, h⟩ := h
  obtain ⟨v45, ev45, h⟩ := atm h
  have f46 := ib_add hb44 ev45
  simp [hh, f46, -intBin]
  apply hk'
  refine IH20 (v45, l38) _ _ _ h (by refine ⟨v42, ?_, sp⟩ <;> simp [hh])
 replace h := h.2 dc24
 refine Runs.exit rfl ?_
 refine zE fun k' hk' => ?_
 simp [hh, dc24]
 apply hk'
 exact Runs.ret1 (v := v18) Tryz.func42 Tryz.results42 (by simp [hh, dc24]) (hQ _ _ _ _ (Sep.sub (ids' := []) sp (by simp)) ⟨l17, h, rfl⟩)
theorem toWireS_ok (a : List Wire) (hp : toWireS_pre a) : OwnS Tryz.prog 42 [.list false (a.map Wire.cells)] (.s [.c, .c]) (fun r => r = .list true ((toWireS a).map Wire.cells)) := (toWireS_walk a _ (toWireS_vc a hp)).mono (by rintro _ ⟨_, rfl, rfl⟩; rfl)
theorem e76 : Ent Tryz.prog 76 := Ent.of Tryz.func76 (by kernel_rfl) rfl
theorem toNode_walk (a : GNode) (Z : GNode → Prop) (h : toNode_wp a Z) : OwnS Tryz.prog 76 [.agg [int a.control, int a.parent, .list false (a.links.map intC)]] (.a [.c, .c, .s [.c]]) (fun r => ∃ y : GNode, Z y ∧ r = .agg [int y.control, int y.parent, .list true (y.links.map intC)]) := by
 unfold toNode_wp at h
 have sp : Sep noHeap 0 [] [] := Sep.nil (by simp)
 refine OwnS.of Tryz.func76 rfl Tryz.ntmps76 (by simp) fun Q hQ => ?_
 refine Runs.cut (fun ρ H n => ρ 0 = .agg [int a.control, int a.parent, .list false (a.links.map intC)] ∧ Sep H n [] []) (by refine ⟨?_, sp⟩ <;> simp ) ?_
 rintro ρ H n1 ⟨hh, sp⟩
 refine zE fun k' hk' => ?_
 simp [hh]
 apply hk'
 refine Runs.cut (fun ρ H n => (ρ 1 = pA n1 1 ∧ ρ 2 = pA (n1 + 1) 2) ∧ H (n1, 1) = some ⟨3, [[int a.control, int a.parent, .list false (a.links.map intC)]]⟩ ∧ H (n1 + 1, 2) = some ⟨3, [[int 0, int 0, .v (.slice none 0 0)]]⟩ ∧ Sep H n [] [(n1 + 1, 2), (n1, 1)]) (by refine ⟨?_, ?_, ?_, sp.var.var⟩ <;> simp [hh]) ?_
 clear hh
 rintro ρ H n4 ⟨hh, m1_1, m2_2, sp⟩
 refine zE fun k' hk' => ?_
 simp [hh, m1_1, m2_2]
 apply hk'
 refine Runs.cut (fun ρ H n => (ρ 1 = pA n1 1 ∧ ρ 2 = pA (n1 + 1) 2 ∧ ρ 3 = pA n4 3) ∧ H (n1, 1) = some ⟨3, [[int a.control, int a.parent, .list false (a.links.map intC)]]⟩ ∧ H (n1 + 1, 2) = some ⟨3, [[int 0, int 0, .v (.slice none 0 0)]]⟩ ∧ H (n4, 3) = some ⟨3, [[int 0, int 0, .v (.slice none 0 0)]]⟩ ∧ Sep H n [] [(n4, 3), (n1 + 1, 2), (n1, 1)]) (by refine ⟨?_, ?_, ?_, ?_, sp.var⟩ <;> simp [hh, m1_1, m2_2]) ?_
 clear hh m1_1 m2_2
 rintro ρ H n6 ⟨hh, m1_1, m2_2, m3_4, sp⟩
 refine zE fun k' hk' => ?_
 simp [hh, m1_1, m2_2, m3_4]
 apply hk'
 refine Runs.cut (fun ρ H n => (ρ 1 = pA n1 1 ∧ ρ 2 = pA (n1 + 1) 2 ∧ ρ 3 = pA n4 3) ∧ H (n1, 1) = some ⟨3, [[int a.control, int a.parent, .list false (a.links.map intC)]]⟩ ∧ H (n1 + 1, 2) = some ⟨3, [[int 0, int 0, .v (.slice none 0 0)]]⟩ ∧ H (n4, 3) = some ⟨3, [[int a.control, int 0, .v (.slice none 0 0)]]⟩ ∧ Sep H n [] [(n4, 3), (n1 + 1, 2), (n1, 1)]) (by refine ⟨?_, ?_, ?_, ?_, (Sep.setVar (w := (n4, 3)) sp (by simp))⟩ <;> simp [hh, m1_1, m2_2, m3_4]) ?_
 clear hh m1_1 m2_2 m3_4
 rintro ρ H n7 ⟨hh, m1_1, m2_2, m3_4, sp⟩
 refine zE fun k' hk' => ?_
 simp [hh, m1_1, m2_2, m3_4]
 apply hk'
 refine Runs.cut (fun ρ H n => (ρ 1 = pA n1 1 ∧ ρ 2 = pA (n1 + 1) 2 ∧ ρ 3 = pA n4 3) ∧ H (n1, 1) = some ⟨3, [[int a.control, int a.parent, .list false (a.links.map intC)]]⟩ ∧ H (n1 + 1, 2) = some ⟨3, [[int 0, int 0, .v (.slice none 0 0)]]⟩ ∧ H (n4, 3) = some ⟨3, [[int a.control, int a.parent, .v (.slice none 0 0)]]⟩ ∧ Sep H n [] [(n4, 3), (n1 + 1, 2), (n1, 1)]) (by refine ⟨?_, ?_, ?_, ?_, (Sep.setVar (w := (n4, 3)) sp (by simp))⟩ <;> simp [hh, m1_1, m2_2, m3_4]) ?_
 clear hh m1_1 m2_2 m3_4
 rintro ρ H n8 ⟨hh, m1_1, m2_2, m3_4, sp⟩
 refine zE fun k' hk' => ?_
 obtain ⟨hb9, h⟩ := h
 obtain ⟨r10, er10, h⟩ := atm h
 simp [hh, m1_1, m2_2, m3_4]
 refine RunK.callW Ty_ok (toIntS_ok a.links hb9) e40 (.cons (argI false a.links) .nil) sp (by decide) (by decide) rfl (by simp [hh, m1_1, m2_2, m3_4]) ?_
 rintro v11 H12 n13 _ sp rfl hle15 hfr14
 rw [← er10] at sp
 have m1_1 : H12 (n1, 1) = some ⟨3, [[int a.control, int a.parent, .list false (a.links.map intC)]]⟩ := (hfr14 _ (by simp)).trans (by simp [hh, m1_1, m2_2, m3_4, Heap.get_set])
 have m2_2 : H12 (n1 + 1, 2) = some ⟨3, [[int 0, int 0, .v (.slice none 0 0)]]⟩ := (hfr14 _ (by simp)).trans (by simp [hh, m1_1, m2_2, m3_4, Heap.get_set])
 have m3_4 : H12 (n4, 3) = some ⟨3, [[int a.control, int a.parent, .v (.slice none 0 0)]]⟩ := (hfr14 _ (by simp)).trans (by simp [hh, m1_1, m2_2, m3_4, Heap.get_set])
 have f18 := Sep.oc sp
 simp [hh, m1_1, m2_2, m3_4, f18, -cellsA, -one1, cAx, o1x]
 apply hk'
 refine Runs.cut (fun ρ H n => ∃ (v19 : AVal), (ρ 2 = pA (n1 + 1) 2 ∧ ρ 3 = pA n4 3) ∧ H (n1 + 1, 2) = some ⟨3, [[int 0, int 0, .v (.slice none 0 0)]]⟩ ∧ H (n4, 3) = some ⟨3, [[int a.control, int a.parent, v19]]⟩ ∧ Sep H n [oI v19 r10] [(n4, 3), (n1 + 1, 2)]) (by refine ⟨v11, ?_, ?_, ?_, (Sep.sub (Sep.setVar (w := (n4, 3)) sp (by simp)) (by simp +contextual))⟩ <;> simp [hh, m1_1, m2_2, m3_4, f18, -cellsA, -one1, cAx, o1x]) ?_
 clear hh m1_1 m2_2 m3_4
 rintro ρ H n20 ⟨v19, hh, m2_2, m3_4, sp⟩
 refine zE fun k' hk' => ?_
 have f21 := Sep.oc sp
 simp [hh, m2_2, m3_4, f21, -cellsA, -one1, cAx, o1x]
 apply hk'
 refine Runs.cut (fun ρ H n => ∃ (v22 : AVal), ρ 2 = pA (n1 + 1) 2 ∧ H (n1 + 1, 2) = some ⟨3, [[int a.control, int a.parent, v22]]⟩ ∧ Sep H n [oI v22 r10] [(n1 + 1, 2)]) (by refine ⟨v19, ?_, ?_, (Sep.sub (Sep.setVar (w := (n1 + 1, 2)) sp (by simp)) (by simp +contextual))⟩ <;> simp [hh, m2_2, m3_4, f21, -cellsA, -one1, cAx, o1x]) ?_
 clear hh m2_2 m3_4
 rintro ρ H n23 ⟨v22, hh, m2_2, sp⟩
 exact Runs.res1 Ty_ok (v := .agg [int a.control, int a.parent, v22]) Tryz.func76 Tryz.results76 (by simp [hh, m2_2, resA]) (hQ _ _ _ _ (Sep.sub (ids' := []) (Sep.pack (Fill.v _ (Fill.v _ (Fill.own Fill.nil))) sp) (by simp)) ⟨(GNode.mk a.control a.parent r10), h, rfl⟩)
theorem toNode_ok (a : GNode) (hp : toNode_pre a) : OwnS Tryz.prog 76 [.agg [int a.control, int a.parent, .list false (a.links.map intC)]] (.a [.c, .c, .s [.c]]) (fun r => r = .agg [int ((toNode a).control), int ((toNode a).parent), .list true (((toNode a).links).map intC)]) := (toNode_walk a _ (toNode_vc a hp)).mono (by rintro _ ⟨_, rfl, rfl⟩; rfl)
theorem e39 : Ent Tryz.prog 39 := Ent.of Tryz.func39 (by kernel_rfl) rfl
theorem toNodeS_walk (a : List GNode) (Z : (List GNode) → Prop) (h : toNodeS_wp a Z) : OwnS Tryz.prog 39 [.list false (a.map (GNode.cells false))] (.s [.c, .c, .s [.c]]) (fun r => ∃ y : List GNode, Z y ∧ r = .list true (y.map (GNode.cells true))) := by
 unfold toNodeS_wp at h
 have sp : Sep noHeap 0 [] [] := Sep.nil (by simp)
 refine OwnS.of Tryz.func39 rfl Tryz.ntmps39 (by simp) fun Q hQ => ?_
 refine Runs.cut (fun ρ H n => ρ 0 = .list false (a.map (GNode.cells false)) ∧ Sep H n [] []) (by refine ⟨?_, sp⟩ <;> simp ) ?_
 rintro ρ H n1 ⟨hh, sp⟩
 refine zE fun k' hk' => ?_
 simp [hh]
 apply hk'
 refine zE fun k' hk' => ?_
 obtain ⟨len2, elen2, h⟩ := atm h
 have f3 := fun H => len_list (H := H) (fr := false) (f := (GNode.cells false)) kd_23 elen2
 obtain ⟨hb4, h⟩ := h
 obtain ⟨l5, el5, h⟩ := atm h
 simp [hh, f3, hb4, el5, -lenF]
 apply hk'
 refine Runs.cut (fun ρ H n => ∃ (v7 : AVal), (ρ 0 = .list false (a.map (GNode.cells false)) ∧ ρ 3 = v7) ∧ Sep H n [oN v7 l5] []) (by refine ⟨.arr (n1, 7) len2.toNat 0 len2.toNat, ?_, (by rw [el5]; exact Sep.addRep (z := [int 0, int 0, .v (.slice none 0 0)]) (f := (GNode.cells true)) (k := len2.toNat) sp (fun H => by show Row H [.c, .c, .s [.c]] [int 0, int 0, .v (.slice none 0 0)] [int 0, int 0, .list true []] []; simp [Row, Tr]))⟩ <;> simp [hh, f3, hb4, el5, -lenF]) ?_
 clear hh
 rintro ρ H n8 ⟨v7, hh, sp⟩
 refine Runs.seq ?_
 refine zE fun k' hk' => ?_
 simp [hh]
 apply hk'
 refine Runs.block ?_
 refine Runs.loopW h (fun (sJ : Int × (List GNode)) ρ H n => match sJ with | (i16, l17) => ∃ (v18 : AVal), (ρ 0 = .list false (a.map (GNode.cells false)) ∧ ρ 3 = v18 ∧ ρ 4 = int i16) ∧ Sep H n [oN v18 l17] []) (by refine ⟨v7, ?_, sp⟩ <;> simp [hh]) ?_
 clear hh
 rintro ⟨i16, l17⟩ ρ H n19 K h ⟨v18, hh, sp⟩ IH20
 refine Runs.seq ?_
 refine zE fun k' hk' => ?_
 obtain ⟨len22, elen22, h⟩ := atm h
 have f23 := fun H => len_list (H := H) (fr := false) (f := (GNode.cells false)) kd_23 elen22
 obtain ⟨c24, ec24, h⟩ := atm h
 have f25 := ib_lss (k := .i64) ec24
 simp [hh, f23, f25, -intBin, -lenF]
 apply hk'
 refine Runs.ite (b := c24) (by simp [hh]) (fun dc24 => ?_) (fun dc24 => ?_)
 ·replace h := h.1 dc24
  refine Runs.skip ?_
  refine Runs.seq ?_
  refine Runs.block ?_
  refine zF fun k' hk' => ?_
  obtain ⟨hb26, h⟩ := h
  obtain ⟨x27, ex27, h⟩ := atm h
  have f28 := fun H => ix_list (H := H) (fr := false) (f := (GNode.cells false)) (k := .i64) kd_23 (fun _ => rfl) hb26 ex27
  obtain ⟨hb29, h⟩ := h
  obtain ⟨r30, er30, h⟩ := atm h
  simp [hh, f28, dc24, -indexAddrF]
  refine RunK.callW Ty_ok (toNode_ok x27 hb29) e76 (.cons (ArgOk.agg (.cons (.v _ _ _) (.cons (.v _ _ _) (.cons (argI false x27.links) .nil)))) .nil) sp (by decide) (by decide) rfl (by simp [hh, f28, dc24, -indexAddrF]) ?_
  rintro v31 H32 n33 _ sp rfl hle35 hfr34
  rw [← er30] at sp
  replace sp := Sep.unpack sp
  obtain ⟨L40, hv, hl41, sp⟩ := sp
  subst hv
  obtain ⟨v37, v38, v39, hv⟩ := len3 (by simpa using hl41)
  subst hv
  simp only [zip3, List.cons_append, List.nil_append] at sp
  replace sp := Sep.scalar sp
  obtain ⟨hv, sp⟩ := sp
  subst hv
  replace sp := Sep.scalar sp
  obtain ⟨hv, sp⟩ := sp
  subst hv
  replace sp := Sep.rot sp
  try simp only [List.cons_append, List.nil_append, List.append_assoc] at sp
  replace sp : Sep H32 n33 [oN v18 l17, oI v39 r30.links] [] := sp
  obtain ⟨hb43, h⟩ := h
  obtain ⟨x44, ex44, h⟩ := atm h
  obtain ⟨id45, els46, row47, W48, hq49, mo50, moL51, moR52, hrl53, hW54, hsub55, hni56, spr57, hcl58⟩ := Sep.rowF (q := i16.toNat) (f := (GNode.cells true)) sp hb43 ex44 rfl
  subst hq49
  obtain ⟨c59, c60, c61, hq49⟩ := len3 (by simpa using hrl53)
  subst hq49
  replace spr57 : Sep _ _ [(.c, c59, int x44.control), (.c, c60, int x44.parent), (.s [.c], c61, .list true (x44.links.map intC))] W48 := spr57
  obtain rfl := Sep.cAt (K1 := []) (K2 := [(.c, c60, int x44.parent), (.s [.c], c61, .list true (x44.links.map intC))]) spr57
  obtain rfl := Sep.cAt (K1 := [(.c, int x44.control, int x44.control)]) (K2 := [(.s [.c], c61, .list true (x44.links.map intC))]) spr57
  have f62 := ix_arr (k := .i64) (off := 0) (len := l17.length) kd_35 mo50 moL51 rfl hb43
  obtain ⟨l63, el63, h⟩ := atm h
  simp [hh, mo50, moL51, moR52, f28, f62, dc24, -indexAddrF, -storeF]
  refine bind_store (q := i16.toNat) (news := (GNode.cells true) r30) [oI v39 r30.links] [] sp (by simp) (by simp; omega) (by simp) (by simp [-one1, o1x, Sep.one1 sp.dr]) (Fill.v _ (Fill.v _ (Fill.own Fill.nil))) ?_
  rintro H64 sp hfr65
  replace sp : Sep H64 n33 [oN (.arr id45 l17.length 0 l17.length) l63] [] := Sep.st el63 sp
  simp [hh, f28, f62, dc24, -indexAddrF]
  apply hk'
  refine Runs.cut (fun ρ H n => ∃ (v67 : AVal), (ρ 0 = .list false (a.map (GNode.cells false)) ∧ ρ 3 = v67 ∧ ρ 4 = int i16) ∧ Sep H n [oN v67 l63] []) (by refine ⟨.arr id45 l17.length 0 l17.length, ?_, sp⟩ <;> simp [hh, f28, f62, dc24, -indexAddrF]) ?_
  clear hh
  rintro ρ H n68 ⟨v67, hh, sp⟩
  refine Runs.inBlock ?_
  refine zF fun k' hk' => ?_
  obtain ⟨hb69, h⟩ := h
  obtain ⟨v70, ev70, h⟩ := atm h
  have f71 := ib_add hb69 ev70
  simp [hh, f71, -intBin]
  apply hk'
  refine IH20 (v70, l63) _ _ _ h (by refine ⟨v67, ?_, sp⟩ <;> simp [hh])
 replace h := h.2 dc24
 refine Runs.exit rfl ?_
 refine zE fun k' hk' => ?_
 simp [hh, dc24]
 apply hk'
 exact Runs.ret1 (v := v18) Tryz.func39 Tryz.results39 (by simp [hh, dc24]) (hQ _ _ _ _ (Sep.sub (ids' := []) sp (by simp)) ⟨l17, h, rfl⟩)
theorem toNodeS_ok (a : List GNode) (hp : toNodeS_pre a) : OwnS Tryz.prog 39 [.list false (a.map (GNode.cells false))] (.s [.c, .c, .s [.c]]) (fun r => r = .list true ((toNodeS a).map (GNode.cells true))) := (toNodeS_walk a _ (toNodeS_vc a hp)).mono (by rintro _ ⟨_, rfl, rfl⟩; rfl)
theorem e11 : Ent Tryz.prog 11 := Ent.of Tryz.func11 (by kernel_rfl) rfl
theorem toBigraph_walk (a : Big) (Z : Big → Prop) (h : toBigraph_wp a Z) : OwnS Tryz.prog 11 [.agg (bC false a)] (.a [.c, .s [.c, .c, .s [.c]], .s [.c], .c, .s [.c], .s [.c, .c]]) (fun r => ∃ y : Big, Z y ∧ r = .agg (bC true y)) := by
 unfold toBigraph_wp at h
 have sp : Sep noHeap 0 [] [] := Sep.nil (by simp)
 refine OwnS.of Tryz.func11 rfl Tryz.ntmps11 (by simp) fun Q hQ => ?_
 refine Runs.cut (fun ρ H n => ρ 0 = .agg (bC false a) ∧ Sep H n [] []) (by refine ⟨?_, sp⟩ <;> simp ) ?_
 rintro ρ H n1 ⟨hh, sp⟩
 refine zE fun k' hk' => ?_
 simp [hh]
 apply hk'
 refine Runs.cut (fun ρ H n => (ρ 1 = pA n1 1 ∧ ρ 2 = pA (n1 + 1) 2) ∧ H (n1, 1) = some ⟨6, [bC false a]⟩ ∧ H (n1 + 1, 2) = some ⟨6, [[int 0, .v (.slice none 0 0), .v (.slice none 0 0), int 0, .v (.slice none 0 0), .v (.slice none 0 0)]]⟩ ∧ Sep H n [] [(n1 + 1, 2), (n1, 1)]) (by refine ⟨?_, ?_, ?_, sp.var.var⟩ <;> simp [hh]) ?_
 clear hh
 rintro ρ H n4 ⟨hh, m1_1, m2_2, sp⟩
 refine zE fun k' hk' => ?_
 simp [hh, m1_1, m2_2]
 apply hk'
 refine Runs.cut (fun ρ H n => (ρ 1 = pA n1 1 ∧ ρ 2 = pA (n1 + 1) 2 ∧ ρ 3 = pA n4 3) ∧ H (n1, 1) = some ⟨6, [bC false a]⟩ ∧ H (n1 + 1, 2) = some ⟨6, [[int 0, .v (.slice none 0 0), .v (.slice none 0 0), int 0, .v (.slice none 0 0), .v (.slice none 0 0)]]⟩ ∧ H (n4, 3) = some ⟨6, [[int 0, .v (.slice none 0 0), .v (.slice none 0 0), int 0, .v (.slice none 0 0), .v (.slice none 0 0)]]⟩ ∧ Sep H n [] [(n4, 3), (n1 + 1, 2), (n1, 1)]) (by refine ⟨?_, ?_, ?_, ?_, sp.var⟩ <;> simp [hh, m1_1, m2_2]) ?_
 clear hh m1_1 m2_2
 rintro ρ H n6 ⟨hh, m1_1, m2_2, m3_4, sp⟩
 refine zE fun k' hk' => ?_
 simp [hh, m1_1, m2_2, m3_4]
 apply hk'
 refine Runs.cut (fun ρ H n => (ρ 1 = pA n1 1 ∧ ρ 2 = pA (n1 + 1) 2 ∧ ρ 3 = pA n4 3) ∧ H (n1, 1) = some ⟨6, [bC false a]⟩ ∧ H (n1 + 1, 2) = some ⟨6, [[int 0, .v (.slice none 0 0), .v (.slice none 0 0), int 0, .v (.slice none 0 0), .v (.slice none 0 0)]]⟩ ∧ H (n4, 3) = some ⟨6, [[int a.roots, .v (.slice none 0 0), .v (.slice none 0 0), int 0, .v (.slice none 0 0), .v (.slice none 0 0)]]⟩ ∧ Sep H n [] [(n4, 3), (n1 + 1, 2), (n1, 1)]) (by refine ⟨?_, ?_, ?_, ?_, (Sep.setVar (w := (n4, 3)) sp (by simp))⟩ <;> simp [hh, m1_1, m2_2, m3_4]) ?_
 clear hh m1_1 m2_2 m3_4
 rintro ρ H n7 ⟨hh, m1_1, m2_2, m3_4, sp⟩
 refine zE fun k' hk' => ?_
 obtain ⟨hb8, h⟩ := h
 obtain ⟨r9, er9, h⟩ := atm h
 simp [hh, m1_1, m2_2, m3_4]
 refine RunK.callW Ty_ok (toNodeS_ok a.nodes hb8) e39 (.cons (ArgOk.nest_Node false a.nodes) .nil) sp (by decide) (by decide) rfl (by simp [hh, m1_1, m2_2, m3_4]) ?_
 rintro v10 H11 n12 _ sp rfl hle14 hfr13
 rw [← er9] at sp
 have m1_1 : H11 (n1, 1) = some ⟨6, [bC false a]⟩ := (hfr13 _ (by simp)).trans (by simp [hh, m1_1, m2_2, m3_4, Heap.get_set])
 have m2_2 : H11 (n1 + 1, 2) = some ⟨6, [[int 0, .v (.slice none 0 0), .v (.slice none 0 0), int 0, .v (.slice none 0 0), .v (.slice none 0 0)]]⟩ := (hfr13 _ (by simp)).trans (by simp [hh, m1_1, m2_2, m3_4, Heap.get_set])
 have m3_4 : H11 (n4, 3) = some ⟨6, [[int a.roots, .v (.slice none 0 0), .v (.slice none 0 0), int 0, .v (.slice none 0 0), .v (.slice none 0 0)]]⟩ := (hfr13 _ (by simp)).trans (by simp [hh, m1_1, m2_2, m3_4, Heap.get_set])
 have f17 := Sep.oc sp
 simp [hh, m1_1, m2_2, m3_4, f17, -cellsA, -one1, cAx, o1x]
 apply hk'
 refine Runs.cut (fun ρ H n => ∃ (v18 : AVal), (ρ 1 = pA n1 1 ∧ ρ 2 = pA (n1 + 1) 2 ∧ ρ 3 = pA n4 3) ∧ H (n1, 1) = some ⟨6, [bC false a]⟩ ∧ H (n1 + 1, 2) = some ⟨6, [[int 0, .v (.slice none 0 0), .v (.slice none 0 0), int 0, .v (.slice none 0 0), .v (.slice none 0 0)]]⟩ ∧ H (n4, 3) = some ⟨6, [[int a.roots, v18, .v (.slice none 0 0), int 0, .v (.slice none 0 0), .v (.slice none 0 0)]]⟩ ∧ Sep H n [oN v18 r9] [(n4, 3), (n1 + 1, 2), (n1, 1)]) (by refine ⟨v10, ?_, ?_, ?_, ?_, (Sep.setVar (w := (n4, 3)) sp (by simp))⟩ <;> simp [hh, m1_1, m2_2, m3_4, f17, -cellsA, -one1, cAx, o1x]) ?_
 clear hh m1_1 m2_2 m3_4
 rintro ρ H n19 ⟨v18, hh, m1_1, m2_2, m3_4, sp⟩
 refine zE fun k' hk' => ?_
 obtain ⟨hb20, h⟩ := h
 obtain ⟨r21, er21, h⟩ := atm h
 simp [hh, m1_1, m2_2, m3_4]
 refine RunK.callW Ty_ok (toIntS_ok a.sites hb20) e40 (.cons (argI false a.sites) .nil) sp (by decide) (by decide) rfl (by simp [hh, m1_1, m2_2, m3_4]) ?_
 rintro v22 H23 n24 _ sp rfl hle26 hfr25
 rw [← er21] at sp
 have m1_1 : H23 (n1, 1) = some ⟨6, [bC false a]⟩ := (hfr25 _ (by simp)).trans (by simp [hh, m1_1, m2_2, m3_4, Heap.get_set])
 have m2_2 : H23 (n1 + 1, 2) = some ⟨6, [[int 0, .v (.slice none 0 0), .v (.slice none 0 0), int 0, .v (.slice none 0 0), .v (.slice none 0 0)]]⟩ := (hfr25 _ (by simp)).trans (by simp [hh, m1_1, m2_2, m3_4, Heap.get_set])
 have m3_4 : H23 (n4, 3) = some ⟨6, [[int a.roots, v18, .v (.slice none 0 0), int 0, .v (.slice none 0 0), .v (.slice none 0 0)]]⟩ := (hfr25 _ (by simp)).trans (by simp [hh, m1_1, m2_2, m3_4, Heap.get_set])
 have f29 := Sep.oc sp
 simp [hh, m1_1, m2_2, m3_4, f29, -cellsA, -one1, cAx, o1x]
 apply hk'
 refine Runs.cut (fun ρ H n => ∃ (v30 v31 : AVal), (ρ 1 = pA n1 1 ∧ ρ 2 = pA (n1 + 1) 2 ∧ ρ 3 = pA n4 3) ∧ H (n1, 1) = some ⟨6, [bC false a]⟩ ∧ H (n1 + 1, 2) = some ⟨6, [[int 0, .v (.slice none 0 0), .v (.slice none 0 0), int 0, .v (.slice none 0 0), .v (.slice none 0 0)]]⟩ ∧ H (n4, 3) = some ⟨6, [[int a.roots, v31, v30, int 0, .v (.slice none 0 0), .v (.slice none 0 0)]]⟩ ∧ Sep H n [oI v30 r21, oN v31 r9] [(n4, 3), (n1 + 1, 2), (n1, 1)]) (by refine ⟨v22, v18, ?_, ?_, ?_, ?_, (Sep.setVar (w := (n4, 3)) sp (by simp))⟩ <;> simp [hh, m1_1, m2_2, m3_4, f29, -cellsA, -one1, cAx, o1x]) ?_
 clear hh m1_1 m2_2 m3_4
 rintro ρ H n32 ⟨v30, v31, hh, m1_1, m2_2, m3_4, sp⟩
 refine zE fun k' hk' => ?_
 simp [hh, m1_1, m2_2, m3_4]
 apply hk'
 refine Runs.cut (fun ρ H n => ∃ (v33 v34 : AVal), (ρ 1 = pA n1 1 ∧ ρ 2 = pA (n1 + 1) 2 ∧ ρ 3 = pA n4 3) ∧ H (n1, 1) = some ⟨6, [bC false a]⟩ ∧ H (n1 + 1, 2) = some ⟨6, [[int 0, .v (.slice none 0 0), .v (.slice none 0 0), int 0, .v (.slice none 0 0), .v (.slice none 0 0)]]⟩ ∧ H (n4, 3) = some ⟨6, [[int a.roots, v34, v33, int a.edges, .v (.slice none 0 0), .v (.slice none 0 0)]]⟩ ∧ Sep H n [oI v33 r21, oN v34 r9] [(n4, 3), (n1 + 1, 2), (n1, 1)]) (by refine ⟨v30, v31, ?_, ?_, ?_, ?_, (Sep.setVar (w := (n4, 3)) sp (by simp))⟩ <;> simp [hh, m1_1, m2_2, m3_4]) ?_
 clear hh m1_1 m2_2 m3_4
 rintro ρ H n35 ⟨v33, v34, hh, m1_1, m2_2, m3_4, sp⟩
 refine zE fun k' hk' => ?_
 obtain ⟨hb36, h⟩ := h
 obtain ⟨r37, er37, h⟩ := atm h
 simp [hh, m1_1, m2_2, m3_4]
 refine RunK.callW Ty_ok (toStringS_ok a.outer hb36) e41 (.cons (argS false a.outer) .nil) sp (by decide) (by decide) rfl (by simp [hh, m1_1, m2_2, m3_4]) ?_
 rintro v38 H39 n40 _ sp rfl hle42 hfr41
 rw [← er37] at sp
 have m1_1 : H39 (n1, 1) = some ⟨6, [bC false a]⟩ := (hfr41 _ (by simp)).trans (by simp [hh, m1_1, m2_2, m3_4, Heap.get_set])
 have m2_2 : H39 (n1 + 1, 2) = some ⟨6, [[int 0, .v (.slice none 0 0), .v (.slice none 0 0), int 0, .v (.slice none 0 0), .v (.slice none 0 0)]]⟩ := (hfr41 _ (by simp)).trans (by simp [hh, m1_1, m2_2, m3_4, Heap.get_set])
 have m3_4 : H39 (n4, 3) = some ⟨6, [[int a.roots, v34, v33, int a.edges, .v (.slice none 0 0), .v (.slice none 0 0)]]⟩ := (hfr41 _ (by simp)).trans (by simp [hh, m1_1, m2_2, m3_4, Heap.get_set])
 have f45 := Sep.oc sp
 simp [hh, m1_1, m2_2, m3_4, f45, -cellsA, -one1, cAx, o1x]
 apply hk'
 refine Runs.cut (fun ρ H n => ∃ (v46 v47 v48 : AVal), (ρ 1 = pA n1 1 ∧ ρ 2 = pA (n1 + 1) 2 ∧ ρ 3 = pA n4 3) ∧ H (n1, 1) = some ⟨6, [bC false a]⟩ ∧ H (n1 + 1, 2) = some ⟨6, [[int 0, .v (.slice none 0 0), .v (.slice none 0 0), int 0, .v (.slice none 0 0), .v (.slice none 0 0)]]⟩ ∧ H (n4, 3) = some ⟨6, [[int a.roots, v48, v47, int a.edges, v46, .v (.slice none 0 0)]]⟩ ∧ Sep H n [oS v46 r37, oI v47 r21, oN v48 r9] [(n4, 3), (n1 + 1, 2), (n1, 1)]) (by refine ⟨v38, v33, v34, ?_, ?_, ?_, ?_, (Sep.setVar (w := (n4, 3)) sp (by simp))⟩ <;> simp [hh, m1_1, m2_2, m3_4, f45, -cellsA, -one1, cAx, o1x]) ?_
 clear hh m1_1 m2_2 m3_4
 rintro ρ H n49 ⟨v46, v47, v48, hh, m1_1, m2_2, m3_4, sp⟩
 refine zE fun k' hk' => ?_
 obtain ⟨hb50, h⟩ := h
 obtain ⟨r51, er51, h⟩ := atm h
 simp [hh, m1_1, m2_2, m3_4]
 refine RunK.callW Ty_ok (toWireS_ok a.inner hb50) e42 (.cons (argW false a.inner) .nil) sp (by decide) (by decide) rfl (by simp [hh, m1_1, m2_2, m3_4]) ?_
 rintro v52 H53 n54 _ sp rfl hle56 hfr55
 rw [← er51] at sp
 have m1_1 : H53 (n1, 1) = some ⟨6, [bC false a]⟩ := (hfr55 _ (by simp)).trans (by simp [hh, m1_1, m2_2, m3_4, Heap.get_set])
 have m2_2 : H53 (n1 + 1, 2) = some ⟨6, [[int 0, .v (.slice none 0 0), .v (.slice none 0 0), int 0, .v (.slice none 0 0), .v (.slice none 0 0)]]⟩ := (hfr55 _ (by simp)).trans (by simp [hh, m1_1, m2_2, m3_4, Heap.get_set])
 have m3_4 : H53 (n4, 3) = some ⟨6, [[int a.roots, v48, v47, int a.edges, v46, .v (.slice none 0 0)]]⟩ := (hfr55 _ (by simp)).trans (by simp [hh, m1_1, m2_2, m3_4, Heap.get_set])
 have f59 := Sep.oc sp
 simp [hh, m1_1, m2_2, m3_4, f59, -cellsA, -one1, cAx, o1x]
 apply hk'
 refine Runs.cut (fun ρ H n => ∃ (v60 v61 v62 v63 : AVal), (ρ 2 = pA (n1 + 1) 2 ∧ ρ 3 = pA n4 3) ∧ H (n1 + 1, 2) = some ⟨6, [[int 0, .v (.slice none 0 0), .v (.slice none 0 0), int 0, .v (.slice none 0 0), .v (.slice none 0 0)]]⟩ ∧ H (n4, 3) = some ⟨6, [[int a.roots, v63, v62, int a.edges, v61, v60]]⟩ ∧ Sep H n [oW v60 r51, oS v61 r37, oI v62 r21, oN v63 r9] [(n4, 3), (n1 + 1, 2)]) (by refine ⟨v52, v46, v47, v48, ?_, ?_, ?_, (Sep.sub (Sep.setVar (w := (n4, 3)) sp (by simp)) (by simp +contextual))⟩ <;> simp [hh, m1_1, m2_2, m3_4, f59, -cellsA, -one1, cAx, o1x]) ?_
 clear hh m1_1 m2_2 m3_4
 rintro ρ H n64 ⟨v60, v61, v62, v63, hh, m2_2, m3_4, sp⟩
 refine zE fun k' hk' => ?_
 have f65 := Sep.oc sp.f3
 have f66 := Sep.oc sp.f2
 have f67 := Sep.oc sp.f1
 have f68 := Sep.oc sp
 simp [hh, m2_2, m3_4, f65, f66, f67, f68, -cellsA, -one1, cAx, o1x]
 apply hk'
 refine Runs.cut (fun ρ H n => ∃ (v69 v70 v71 v72 : AVal), ρ 2 = pA (n1 + 1) 2 ∧ H (n1 + 1, 2) = some ⟨6, [[int a.roots, v72, v71, int a.edges, v70, v69]]⟩ ∧ Sep H n [oW v69 r51, oS v70 r37, oI v71 r21, oN v72 r9] [(n1 + 1, 2)]) (by refine ⟨v60, v61, v62, v63, ?_, ?_, (Sep.sub (Sep.setVar (w := (n1 + 1, 2)) sp (by simp)) (by simp +contextual))⟩ <;> simp [hh, m2_2, m3_4, f65, f66, f67, f68, -cellsA, -one1, cAx, o1x]) ?_
 clear hh m2_2 m3_4
 rintro ρ H n73 ⟨v69, v70, v71, v72, hh, m2_2, sp⟩
 exact Runs.res1 Ty_ok (v := .agg [int a.roots, v72, v71, int a.edges, v70, v69]) Tryz.func11 Tryz.results11 (by simp [hh, m2_2, resA]) (hQ _ _ _ _ (Sep.sub (ids' := []) (Sep.pack (Fill.v _ (Fill.own (Fill.own (Fill.v _ (Fill.own (Fill.own Fill.nil)))))) sp.f1.f2.f3) (by simp)) ⟨(Big.mk a.roots r9 r21 a.edges r37 r51), h, rfl⟩)
theorem toBigraph_ok (a : Big) (hp : toBigraph_pre a) : OwnS Tryz.prog 11 [.agg (bC false a)] (.a [.c, .s [.c, .c, .s [.c]], .s [.c], .c, .s [.c], .s [.c, .c]]) (fun r => r = .agg [int ((toBigraph a).roots), .list true (((toBigraph a).nodes).map (GNode.cells true)), .list true (((toBigraph a).sites).map intC), int ((toBigraph a).edges), .list true (((toBigraph a).outer).map strC), .list true (((toBigraph a).inner).map Wire.cells)]) := (toBigraph_walk a _ (toBigraph_vc a hp)).mono (by rintro _ ⟨_, rfl, rfl⟩; rfl)
end Go.Ab.Vg
/- Walks by program for YtpakecdmnomalaaGreatDoorAbNm. -/
namespace Go.Ab.Vg
open Go.Proofs
set_option maxRecDepth 100000
set_option linter.unusedSimpArgs false
set_option linter.unusedVariables false
attribute [local simp] GNode.cells Wire.cells intC sliceC strC bC pA
end Go.Ab.Vg
/- Walks by program for YtpakecdmnomalaaGreatDoorAbMd. -/
namespace Go.Ab.Vg
open Go.Proofs
set_option maxRecDepth 100000
set_option linter.unusedSimpArgs false
set_option linter.unusedVariables false
attribute [local simp] intC mC pA
end Go.Ab.Vg
/- Walks by program for YtpakecdmnomalaaGreatDoorAbMo. -/
namespace Go.Ab.Vg
open Go.Proofs
set_option maxRecDepth 100000
set_option linter.unusedSimpArgs false
set_option linter.unusedVariables false
attribute [local simp] Control.cells GNode.cells Wire.cells intC sliceC strC bC pA
theorem e3 : Ent Tryz.prog 3 := Ent.of Tryz.func3 (by kernel_rfl) rfl
set_option maxHeartbeats 4000000 in
theorem lawCount_walk (aSig : List Control) (aRedex : Big) (aAgent : Big) (Z : Bool → Prop) (h : lawCount_wp aSig aRedex aAgent Z) : PureC Tryz.prog 3 [.list false (aSig.map Control.cells), .agg (bC false aRedex), .agg (bC false aAgent)] (fun r => ∃ y : Bool, Z y ∧ r = bool y) := by
 unfold lawCount_wp at h
 have sp : Sep noHeap 0 [] [] := Sep.nil (by simp)
 refine PureC.of Tryz.func3 rfl Tryz.ntmps3 (by simp) fun Q hQ => ?_
 refine Runs.cut (fun ρ H n => (ρ 0 = .list false (aSig.map Control.cells) ∧ ρ 1 = .agg (bC false aRedex) ∧ ρ 2 = .agg (bC false aAgent)) ∧ Sep H n [] []) (by refine ⟨?_, sp⟩ <;> simp ) ?_
 rintro ρ H n1 ⟨hh, sp⟩
 refine zE fun k' hk' => ?_
 simp [hh]
 apply hk'
 refine Runs.cut (fun ρ H n => (ρ 0 = .list false (aSig.map Control.cells) ∧ ρ 4 = pA n1 4 ∧ ρ 5 = pA (n1 + 1) 5) ∧ H (n1, 4) = some ⟨6, [bC false aRedex]⟩ ∧ H (n1 + 1, 5) = some ⟨6, [bC false aAgent]⟩ ∧ Sep H n [] [(n1 + 1, 5), (n1, 4)]) (by refine ⟨?_, ?_, ?_, sp.var.var⟩ <;> simp [hh]) ?_
 clear hh
 rintro ρ H n4 ⟨hh, m4_1, m5_2, sp⟩
 refine zE fun k' hk' => ?_
 simp [hh, m4_1, m5_2]
 apply hk'
 refine zE fun k' hk' => ?_
 obtain ⟨hb5, h⟩ := h
 obtain ⟨r6, er6, h⟩ := atm h
 simp [hh, m4_1, m5_2]
 refine RunK.callA Ty_ok (szControlS_ok aSig 1048576 hb5.1.1 hb5.1.2 hb5.2.len hb5.2.names) e7 (.cons (argC false aSig) (.cons (.v _ _ _) .nil)) (by decide) (by decide) rfl (by simp [hh, m4_1, m5_2]) ?_
 rintro _ rfl
 rw [← er6]
 simp [hh, m4_1, m5_2]
 apply hk'
 refine Runs.seq ?_
 refine zE fun k' hk' => ?_
 obtain ⟨c7, ec7, h⟩ := atm h
 have f8 := ib_lss (k := .i64) ec7
 simp [hh, m4_1, m5_2, f8, -intBin]
 apply hk'
 refine Runs.ite (b := c7) (by simp [hh, m4_1, m5_2]) (fun dc7 => ?_) (fun dc7 => ?_)
 ·replace h := h.1 dc7
  refine zE fun k' hk' => ?_
  simp [hh, m4_1, m5_2, dc7]
  apply hk'
  exact Runs.ret1 (v := bool true) Tryz.func3 Tryz.results3 (by simp [hh, m4_1, m5_2, dc7]) (hQ _ _ _ _ (.of (.v _)) ⟨true, h, rfl⟩)
 replace h := h.2 dc7
 refine Runs.skip ?_
 refine zE fun k' hk' => ?_
 obtain ⟨hb9, h⟩ := h
 obtain ⟨r10, er10, h⟩ := atm h
 simp [hh, m4_1, m5_2, dc7]
 refine RunK.callA Ty_ok (szBigraph_ok aRedex r6 hb9.1.1 hb9.1.2 hb9.2) e8 (.cons (argB false aRedex) (.cons (.v _ _ _) .nil)) (by decide) (by decide) rfl (by simp [hh, m4_1, m5_2, dc7]) ?_
 rintro _ rfl
 rw [← er10]
 simp [hh, m4_1, m5_2, dc7]
 apply hk'
 refine Runs.seq ?_
 refine zE fun k' hk' => ?_
 obtain ⟨c11, ec11, h⟩ := atm h
 have f12 := ib_lss (k := .i64) ec11
 simp [hh, m4_1, m5_2, f12, dc7, -intBin]
 apply hk'
 refine Runs.ite (b := c11) (by simp [hh, m4_1, m5_2, dc7]) (fun dc11 => ?_) (fun dc11 => ?_)
 ·replace h := h.1 dc11
  refine zE fun k' hk' => ?_
  simp [hh, m4_1, m5_2, dc7, dc11]
  apply hk'
  exact Runs.ret1 (v := bool true) Tryz.func3 Tryz.results3 (by simp [hh, m4_1, m5_2, dc7, dc11]) (hQ _ _ _ _ (.of (.v _)) ⟨true, h, rfl⟩)
 replace h := h.2 dc11
 refine Runs.skip ?_
 refine zE fun k' hk' => ?_
 obtain ⟨hb13, h⟩ := h
 obtain ⟨r14, er14, h⟩ := atm h
 simp [hh, m4_1, m5_2, dc7, dc11]
 refine RunK.callA Ty_ok (szBigraph_ok aAgent r10 hb13.1.1 hb13.1.2 hb13.2) e8 (.cons (argB false aAgent) (.cons (.v _ _ _) .nil)) (by decide) (by decide) rfl (by simp [hh, m4_1, m5_2, dc7, dc11]) ?_
 rintro _ rfl
 rw [← er14]
 simp [hh, m4_1, m5_2, dc7, dc11]
 apply hk'
 refine Runs.cut (fun ρ H n => (ρ 0 = .list false (aSig.map Control.cells) ∧ ρ 4 = pA n1 4 ∧ ρ 5 = pA (n1 + 1) 5 ∧ ρ 7 = int r14) ∧ H (n1, 4) = some ⟨6, [bC false aRedex]⟩ ∧ H (n1 + 1, 5) = some ⟨6, [bC false aAgent]⟩ ∧ Sep H n [] [(n1 + 1, 5), (n1, 4)]) (by refine ⟨?_, ?_, ?_, sp⟩ <;> simp [hh, m4_1, m5_2, dc7, dc11]) ?_
 clear hh m4_1 m5_2
 rintro ρ H n15 ⟨hh, m4_1, m5_2, sp⟩
 refine Runs.seq ?_
 refine zE fun k' hk' => ?_
 obtain ⟨c16, ec16, h⟩ := atm h
 have f17 := ib_lss (k := .i64) ec16
 simp [hh, m4_1, m5_2, f17, -intBin]
 apply hk'
 refine Runs.ite (b := c16) (by simp [hh, m4_1, m5_2]) (fun dc16 => ?_) (fun dc16 => ?_)
 ·replace h := h.1 dc16
  refine zE fun k' hk' => ?_
  simp [hh, m4_1, m5_2, dc16]
  apply hk'
  exact Runs.ret1 (v := bool true) Tryz.func3 Tryz.results3 (by simp [hh, m4_1, m5_2, dc16]) (hQ _ _ _ _ (.of (.v _)) ⟨true, h, rfl⟩)
 replace h := h.2 dc16
 refine Runs.skip ?_
 refine Runs.seqD Ty_ok kindOp_ok draws (by decide) (by kernel_rfl) fun k' hk' => ?_
 obtain ⟨hb18, h⟩ := h
 obtain ⟨r19, er19, h⟩ := atm h
 simp [hh, m4_1, m5_2, dc16]
 refine RunDK.callA Ty_ok kindOp_ok ((toControlS_ok aSig hb18).pure) e10 (.cons (argC false aSig) .nil) (by decide) rfl (by simp [hh, m4_1, m5_2, dc16]) ?_
 rw [← er19]
 obtain ⟨hb20, h⟩ := h
 obtain ⟨r21, er21, h⟩ := atm h
 simp [hh, m4_1, m5_2, dc16]
 refine RunDK.callA Ty_ok kindOp_ok ((toBigraph_ok aRedex hb20).pure) e11 (.cons (argB false aRedex) .nil) (by decide) rfl (by simp [hh, m4_1, m5_2, dc16]) ?_
 rw [← er21]
 obtain ⟨hb22, h⟩ := h
 obtain ⟨r23, er23, h⟩ := atm h
 simp [hh, m4_1, m5_2, dc16]
 refine RunDK.callA Ty_ok kindOp_ok ((toBigraph_ok aAgent hb22).pure) e11 (.cons (argB false aAgent) .nil) (by decide) rfl (by simp [hh, m4_1, m5_2, dc16]) ?_
 rw [← er23]
 obtain ⟨hb24, h⟩ := h
 obtain ⟨r25, er25, h⟩ := atm h
 simp [hh, m4_1, m5_2, dc16]
 refine RunDK.callA Ty_ok kindOp_ok (sCountActive_ok r19 r21 r23 hb24) e9 (.cons (argC true r19) (.cons (argB true r21) (.cons (argB true r23) .nil))) (by decide) rfl (by simp [hh, m4_1, m5_2, dc16]) ?_
 rw [← er25]
 simp [hh, m4_1, m5_2, dc16]
 apply hk'
 refine Runs.cut (fun ρ H n => (ρ 0 = .list false (aSig.map Control.cells) ∧ ρ 4 = pA n1 4 ∧ ρ 5 = pA (n1 + 1) 5 ∧ ρ 8 = int r25.1 ∧ ρ 9 = int r25.2.1 ∧ ρ 10 = bool r25.2.2) ∧ H (n1, 4) = some ⟨6, [bC false aRedex]⟩ ∧ H (n1 + 1, 5) = some ⟨6, [bC false aAgent]⟩ ∧ Sep H n [] [(n1 + 1, 5), (n1, 4)]) (by refine ⟨?_, ?_, ?_, sp⟩ <;> simp [hh, m4_1, m5_2, dc16]) ?_
 clear hh m4_1 m5_2
 rintro ρ H n26 ⟨hh, m4_1, m5_2, sp⟩
 refine zE fun k' hk' => ?_
 obtain ⟨hb27, h⟩ := h
 obtain ⟨r28, er28, h⟩ := atm h
 simp [hh, m4_1, m5_2]
 refine RunK.callW Ty_ok (toControlS_ok aSig hb27) e10 (.cons (argC false aSig) .nil) sp (by decide) (by decide) rfl (by simp [hh, m4_1, m5_2]) ?_
 rintro v29 H30 n31 _ sp rfl hle33 hfr32
 rw [← er28] at sp
 have m4_1 : H30 (n1, 4) = some ⟨6, [bC false aRedex]⟩ := (hfr32 _ (by simp)).trans (by simp [hh, m4_1, m5_2, Heap.get_set])
 have m5_2 : H30 (n1 + 1, 5) = some ⟨6, [bC false aAgent]⟩ := (hfr32 _ (by simp)).trans (by simp [hh, m4_1, m5_2, Heap.get_set])
 simp [hh, m4_1, m5_2]
 apply hk'
 refine Runs.cut (fun ρ H n => ∃ (v36 : AVal), (ρ 0 = .list false (aSig.map Control.cells) ∧ ρ 4 = pA n1 4 ∧ ρ 5 = pA (n1 + 1) 5 ∧ ρ 8 = int r25.1 ∧ ρ 9 = int r25.2.1 ∧ ρ 10 = bool r25.2.2 ∧ ρ 11 = v36) ∧ H (n1, 4) = some ⟨6, [bC false aRedex]⟩ ∧ H (n1 + 1, 5) = some ⟨6, [bC false aAgent]⟩ ∧ Sep H n [oE [.c, .c, .c] Control.cells v36 r28] [(n1 + 1, 5), (n1, 4)]) (by refine ⟨v29, ?_, ?_, ?_, sp⟩ <;> simp [hh, m4_1, m5_2]) ?_
 clear hh m4_1 m5_2
 rintro ρ H n37 ⟨v36, hh, m4_1, m5_2, sp⟩
 refine zE fun k' hk' => ?_
 obtain ⟨hb38, h⟩ := h
 obtain ⟨r39, er39, h⟩ := atm h
 simp [hh, m4_1, m5_2]
 refine RunK.callW Ty_ok (toBigraph_ok aRedex hb38) e11 (.cons (argB false aRedex) .nil) sp (by decide) (by decide) rfl (by simp [hh, m4_1, m5_2]) ?_
 rintro v40 H41 n42 _ sp rfl hle44 hfr43
 rw [← er39] at sp
 have m4_1 : H41 (n1, 4) = some ⟨6, [bC false aRedex]⟩ := (hfr43 _ (by simp)).trans (by simp [hh, m4_1, m5_2, Heap.get_set])
 have m5_2 : H41 (n1 + 1, 5) = some ⟨6, [bC false aAgent]⟩ := (hfr43 _ (by simp)).trans (by simp [hh, m4_1, m5_2, Heap.get_set])
 replace sp := Sep.unpack sp
 obtain ⟨L52, hv, hl53, sp⟩ := sp
 subst hv
 obtain ⟨v46, v47, v48, v49, v50, v51, hv⟩ := len6 (by simpa using hl53)
 subst hv
 simp only [zip3, List.cons_append, List.nil_append] at sp
 replace sp := Sep.scalar sp
 obtain ⟨hv, sp⟩ := sp
 subst hv
 replace sp := Sep.rot sp
 try simp only [List.cons_append, List.nil_append, List.append_assoc] at sp
 replace sp := Sep.rot sp
 try simp only [List.cons_append, List.nil_append, List.append_assoc] at sp
 replace sp := Sep.scalar sp
 obtain ⟨hv, sp⟩ := sp
 subst hv
 replace sp := Sep.rot sp
 try simp only [List.cons_append, List.nil_append, List.append_assoc] at sp
 replace sp := Sep.rot sp
 try simp only [List.cons_append, List.nil_append, List.append_assoc] at sp
 replace sp : Sep H41 n42 [oE [.c, .c, .c] Control.cells v36 r28, oN v47 r39.nodes, oI v48 r39.sites, oS v50 r39.outer, oW v51 r39.inner] [(n1 + 1, 5), (n1, 4)] := sp
 have f59 := Sep.oc sp.f1
 have f60 := Sep.oc sp.f2
 have f61 := Sep.oc sp.f3
 have f62 := Sep.oc sp.f4
 simp [hh, m4_1, m5_2, f59, f60, f61, f62, -cellsA, -one1, cAx, o1x]
 apply hk'
 refine Runs.cut (fun ρ H n => ∃ (v63 v64 v65 v66 v67 : AVal), (ρ 0 = .list false (aSig.map Control.cells) ∧ ρ 4 = pA n1 4 ∧ ρ 5 = pA (n1 + 1) 5 ∧ ρ 8 = int r25.1 ∧ ρ 9 = int r25.2.1 ∧ ρ 10 = bool r25.2.2 ∧ ρ 11 = v63 ∧ ρ 12 = pA n42 12) ∧ H (n1, 4) = some ⟨6, [bC false aRedex]⟩ ∧ H (n1 + 1, 5) = some ⟨6, [bC false aAgent]⟩ ∧ H (n42, 12) = some ⟨6, [[int r39.roots, v64, v65, int r39.edges, v66, v67]]⟩ ∧ Sep H n [oE [.c, .c, .c] Control.cells v63 r28, oN v64 r39.nodes, oI v65 r39.sites, oS v66 r39.outer, oW v67 r39.inner] [(n42, 12), (n1 + 1, 5), (n1, 4)]) (by refine ⟨v36, v47, v48, v50, v51, ?_, ?_, ?_, ?_, sp.var⟩ <;> simp [hh, m4_1, m5_2, f59, f60, f61, f62, -cellsA, -one1, cAx, o1x]) ?_
 clear hh m4_1 m5_2
 rintro ρ H n68 ⟨v63, v64, v65, v66, v67, hh, m4_1, m5_2, m12_57, sp⟩
 refine zE fun k' hk' => ?_
 obtain ⟨hb69, h⟩ := h
 obtain ⟨r70, er70, h⟩ := atm h
 simp [hh, m4_1, m5_2, m12_57]
 refine RunK.callW Ty_ok (toBigraph_ok aAgent hb69) e11 (.cons (argB false aAgent) .nil) sp (by decide) (by decide) rfl (by simp [hh, m4_1, m5_2, m12_57]) ?_
 rintro v71 H72 n73 _ sp rfl hle75 hfr74
 rw [← er70] at sp
 have m4_1 : H72 (n1, 4) = some ⟨6, [bC false aRedex]⟩ := (hfr74 _ (by simp)).trans (by simp [hh, m4_1, m5_2, m12_57, Heap.get_set])
 have m5_2 : H72 (n1 + 1, 5) = some ⟨6, [bC false aAgent]⟩ := (hfr74 _ (by simp)).trans (by simp [hh, m4_1, m5_2, m12_57, Heap.get_set])
 have m12_57 : H72 (n42, 12) = some ⟨6, [[int r39.roots, v64, v65, int r39.edges, v66, v67]]⟩ := (hfr74 _ (by simp)).trans (by simp [hh, m4_1, m5_2, m12_57, Heap.get_set])
 replace sp := Sep.unpack sp
 obtain ⟨L83, hv, hl84, sp⟩ := sp
 subst hv
 obtain ⟨v77, v78, v79, v80, v81, v82, hv⟩ := len6 (by simpa using hl84)
 subst hv
 simp only [zip3, List.cons_append, List.nil_append] at sp
 replace sp := Sep.scalar sp
 obtain ⟨hv, sp⟩ := sp
 subst hv
 replace sp := Sep.rot sp
 try simp only [List.cons_append, List.nil_append, List.append_assoc] at sp
 replace sp := Sep.rot sp
 try simp only [List.cons_append, List.nil_append, List.append_assoc] at sp
 replace sp := Sep.scalar sp
 obtain ⟨hv, sp⟩ := sp
 subst hv
 replace sp := Sep.rot sp
 try simp only [List.cons_append, List.nil_append, List.append_assoc] at sp
 replace sp := Sep.rot sp
 try simp only [List.cons_append, List.nil_append, List.append_assoc] at sp
 replace sp : Sep H72 n73 [oE [.c, .c, .c] Control.cells v63 r28, oN v64 r39.nodes, oI v65 r39.sites, oS v66 r39.outer, oW v67 r39.inner, oN v78 r70.nodes, oI v79 r70.sites, oS v81 r70.outer, oW v82 r70.inner] [(n42, 12), (n1 + 1, 5), (n1, 4)] := sp
 have f90 := Sep.oc sp.f5
 have f91 := Sep.oc sp.f6
 have f92 := Sep.oc sp.f7
 have f93 := Sep.oc sp.f8
 simp [hh, m4_1, m5_2, m12_57, f90, f91, f92, f93, -cellsA, -one1, cAx, o1x]
 apply hk'
 refine Runs.cut (fun ρ H n => ∃ (v94 v95 v96 v97 v98 v99 v100 v101 v102 : AVal), (ρ 0 = .list false (aSig.map Control.cells) ∧ ρ 4 = pA n1 4 ∧ ρ 5 = pA (n1 + 1) 5 ∧ ρ 8 = int r25.1 ∧ ρ 9 = int r25.2.1 ∧ ρ 10 = bool r25.2.2 ∧ ρ 11 = v94 ∧ ρ 12 = pA n42 12 ∧ ρ 13 = pA n73 13) ∧ H (n1, 4) = some ⟨6, [bC false aRedex]⟩ ∧ H (n1 + 1, 5) = some ⟨6, [bC false aAgent]⟩ ∧ H (n42, 12) = some ⟨6, [[int r39.roots, v95, v96, int r39.edges, v97, v98]]⟩ ∧ H (n73, 13) = some ⟨6, [[int r70.roots, v99, v100, int r70.edges, v101, v102]]⟩ ∧ Sep H n [oE [.c, .c, .c] Control.cells v94 r28, oN v95 r39.nodes, oI v96 r39.sites, oS v97 r39.outer, oW v98 r39.inner, oN v99 r70.nodes, oI v100 r70.sites, oS v101 r70.outer, oW v102 r70.inner] [(n73, 13), (n42, 12), (n1 + 1, 5), (n1, 4)]) (by refine ⟨v63, v64, v65, v66, v67, v78, v79, v81, v82, ?_, ?_, ?_, ?_, ?_, sp.var⟩ <;> simp [hh, m4_1, m5_2, m12_57, f90, f91, f92, f93, -cellsA, -one1, cAx, o1x]) ?_
 clear hh m4_1 m5_2 m12_57
 rintro ρ H n103 ⟨v94, v95, v96, v97, v98, v99, v100, v101, v102, hh, m4_1, m5_2, m12_57, m13_88, sp⟩
 refine zE fun k' hk' => ?_
 obtain ⟨hb104, h⟩ := h
 obtain ⟨r105, er105, h⟩ := atm h
 simp [hh, m4_1, m5_2, m12_57, m13_88]
 refine RunK.callA Ty_ok (CountActive_ok r28 r39 r70 hb104) e12 (.cons (Sep.argOk' sp (old_listF (by simp))) (.cons (ArgOk.agg (.cons (.v _ _ _) (.cons (Sep.argOk' sp.f1 (old_nest_Node true r39.nodes)) (.cons (Sep.argOk' sp.f2 (old_listF (by simp))) (.cons (.v _ _ _) (.cons (Sep.argOk' sp.f3 (old_listF (by simp))) (.cons (Sep.argOk' sp.f4 (old_listF (by simp))) .nil))))))) (.cons (ArgOk.agg (.cons (.v _ _ _) (.cons (Sep.argOk' sp.f5 (old_nest_Node true r70.nodes)) (.cons (Sep.argOk' sp.f6 (old_listF (by simp))) (.cons (.v _ _ _) (.cons (Sep.argOk' sp.f7 (old_listF (by simp))) (.cons (Sep.argOk' sp.f8 (old_listF (by simp))) .nil))))))) .nil))) (by decide) (by decide) rfl (by simp [hh, m4_1, m5_2, m12_57, m13_88]) ?_
 rintro _ rfl
 rw [← er105]
 simp [hh, m4_1, m5_2, m12_57, m13_88]
 apply hk'
 refine Runs.seq ?_
 refine zE fun k' hk' => ?_
 obtain ⟨J106, hJ107, hr108⟩ := h
 have fin119 : ∀ (sJ : Bool) (ρ : Env) (H : Heap) (n : Nat), J106 sJ → (match sJ with | b109 => ∃ (v110 v111 v112 v113 v114 v115 v116 v117 v118 : AVal), (ρ 0 = .list false (aSig.map Control.cells) ∧ ρ 4 = pA n1 4 ∧ ρ 5 = pA (n1 + 1) 5 ∧ ρ 11 = v110 ∧ ρ 12 = pA n42 12 ∧ ρ 13 = pA n73 13 ∧ ρ 69 = bool b109) ∧ H (n1, 4) = some ⟨6, [bC false aRedex]⟩ ∧ H (n1 + 1, 5) = some ⟨6, [bC false aAgent]⟩ ∧ H (n42, 12) = some ⟨6, [[int r39.roots, v111, v112, int r39.edges, v113, v114]]⟩ ∧ H (n73, 13) = some ⟨6, [[int r70.roots, v115, v116, int r70.edges, v117, v118]]⟩ ∧ Sep H n [oE [.c, .c, .c] Control.cells v110 r28, oN v111 r39.nodes, oI v112 r39.sites, oS v113 r39.outer, oW v114 r39.inner, oN v115 r70.nodes, oI v116 r70.sites, oS v117 r70.outer, oW v118 r70.inner] [(n73, 13), (n42, 12), (n1 + 1, 5), (n1, 4)]) → Runs Tryz.prog 3 85 k' ρ H n Q := by
  rintro b109 ρ H n120 h ⟨v110, v111, v112, v113, v114, v115, v116, v117, v118, hh, m4_1, m5_2, m12_57, m13_88, sp⟩
  replace h := hr108 _ h
  apply hk'
  refine Runs.ite (b := b109) (by simp [hh, m4_1, m5_2, m12_57, m13_88]) (fun db109 => ?_) (fun db109 => ?_)
  ·replace h := h.1 db109
   refine zE fun k' hk' => ?_
   simp [hh, m4_1, m5_2, m12_57, m13_88, db109]
   apply hk'
   exact Runs.ret1 (v := bool false) Tryz.func3 Tryz.results3 (by simp [hh, m4_1, m5_2, m12_57, m13_88, db109]) (hQ _ _ _ _ (.of (.v _)) ⟨false, h, rfl⟩)
  replace h := h.2 db109
  refine Runs.skip ?_
  refine Runs.seq ?_
  refine zE fun k' hk' => ?_
  obtain ⟨hb121, h⟩ := h
  obtain ⟨r122, er122, h⟩ := atm h
  simp [hh, m4_1, m5_2, m12_57, m13_88, db109]
  refine RunK.callW Ty_ok (toControlS_ok aSig hb121) e10 (.cons (argC false aSig) .nil) sp (by decide) (by decide) rfl (by simp [hh, m4_1, m5_2, m12_57, m13_88, db109]) ?_
  rintro v123 H124 n125 _ sp rfl hle127 hfr126
  rw [← er122] at sp
  have m4_1 : H124 (n1, 4) = some ⟨6, [bC false aRedex]⟩ := (hfr126 _ (by simp)).trans (by simp [hh, m4_1, m5_2, m12_57, m13_88, Heap.get_set])
  have m5_2 : H124 (n1 + 1, 5) = some ⟨6, [bC false aAgent]⟩ := (hfr126 _ (by simp)).trans (by simp [hh, m4_1, m5_2, m12_57, m13_88, Heap.get_set])
  have m12_57 : H124 (n42, 12) = some ⟨6, [[int r39.roots, v111, v112, int r39.edges, v113, v114]]⟩ := (hfr126 _ (by simp)).trans (by simp [hh, m4_1, m5_2, m12_57, m13_88, Heap.get_set])
  have m13_88 : H124 (n73, 13) = some ⟨6, [[int r70.roots, v115, v116, int r70.edges, v117, v118]]⟩ := (hfr126 _ (by simp)).trans (by simp [hh, m4_1, m5_2, m12_57, m13_88, Heap.get_set])
  obtain ⟨hb130, h⟩ := h
  obtain ⟨r131, er131, h⟩ := atm h
  simp [hh, m4_1, m5_2, m12_57, m13_88, db109]
  refine RunK.callA Ty_ok (eqControlS_ok r28 r122 hb130) e13 (.cons (Sep.argOk' sp.f1 (old_listF (by simp))) (.cons (Sep.argOk' sp (old_listF (by simp))) .nil)) (by decide) (by decide) rfl (by simp [hh, m4_1, m5_2, m12_57, m13_88, db109]) ?_
  rintro _ rfl
  rw [← er131]
  simp [hh, m4_1, m5_2, m12_57, m13_88, db109]
  apply hk'
  refine Runs.cut (fun ρ H n => ∃ (v132 v133 v134 v135 v136 v137 v138 v139 : AVal), (ρ 4 = pA n1 4 ∧ ρ 5 = pA (n1 + 1) 5 ∧ ρ 12 = pA n42 12 ∧ ρ 13 = pA n73 13 ∧ ρ 74 = bool (!r131)) ∧ H (n1, 4) = some ⟨6, [bC false aRedex]⟩ ∧ H (n1 + 1, 5) = some ⟨6, [bC false aAgent]⟩ ∧ H (n42, 12) = some ⟨6, [[int r39.roots, v132, v133, int r39.edges, v134, v135]]⟩ ∧ H (n73, 13) = some ⟨6, [[int r70.roots, v136, v137, int r70.edges, v138, v139]]⟩ ∧ Sep H n [oN v132 r39.nodes, oI v133 r39.sites, oS v134 r39.outer, oW v135 r39.inner, oN v136 r70.nodes, oI v137 r70.sites, oS v138 r70.outer, oW v139 r70.inner] [(n73, 13), (n42, 12), (n1 + 1, 5), (n1, 4)]) (by refine ⟨v111, v112, v113, v114, v115, v116, v117, v118, ?_, ?_, ?_, ?_, ?_, sp.dr.dr⟩ <;> simp [hh, m4_1, m5_2, m12_57, m13_88, db109]) ?_
  clear hh m4_1 m5_2 m12_57 m13_88
  rintro ρ H n140 ⟨v132, v133, v134, v135, v136, v137, v138, v139, hh, m4_1, m5_2, m12_57, m13_88, sp⟩
  refine Runs.ite (b := (!r131)) (by simp [hh, m4_1, m5_2, m12_57, m13_88]) (fun dr131 => ?_) (fun dr131 => ?_)
  ·have dr131 : r131 = false := by simpa using dr131
   replace h := h.2 dr131
   refine zE fun k' hk' => ?_
   simp [hh, m4_1, m5_2, m12_57, m13_88, dr131]
   apply hk'
   exact Runs.ret1 (v := bool false) Tryz.func3 Tryz.results3 (by simp [hh, m4_1, m5_2, m12_57, m13_88, dr131]) (hQ _ _ _ _ (.of (.v _)) ⟨false, h, rfl⟩)
  have dr131 : r131 = true := by simpa using dr131
  replace h := h.1 dr131
  refine Runs.skip ?_
  refine Runs.seq ?_
  refine Runs.seqD Ty_ok kindOp_ok draws (by decide) (by kernel_rfl) fun k' hk' => ?_
  obtain ⟨hb141, h⟩ := h
  obtain ⟨r142, er142, h⟩ := atm h
  simp [hh, m4_1, m5_2, m12_57, m13_88, dr131]
  refine RunDK.callA Ty_ok kindOp_ok ((toBigraph_ok aRedex hb141).pure) e11 (.cons (argB false aRedex) .nil) (by decide) rfl (by simp [hh, m4_1, m5_2, m12_57, m13_88, dr131]) ?_
  rw [← er142]
  obtain ⟨hb143, h⟩ := h
  obtain ⟨r144, er144, h⟩ := atm h
  simp [hh, m4_1, m5_2, m12_57, m13_88, dr131]
  refine RunDK.callA Ty_ok kindOp_ok (eqBigraph_ok r39 r142 hb143) e14 (.cons (ArgOk.agg (.cons (.v _ _ _) (.cons (Sep.argOk' sp (old_nest_Node true r39.nodes)) (.cons (Sep.argOk' sp.f1 (old_listF (by simp))) (.cons (.v _ _ _) (.cons (Sep.argOk' sp.f2 (old_listF (by simp))) (.cons (Sep.argOk' sp.f3 (old_listF (by simp))) .nil))))))) (.cons (argB true r142) .nil)) (by decide) rfl (by simp [hh, m4_1, m5_2, m12_57, m13_88, dr131]) ?_
  rw [← er144]
  simp [hh, m4_1, m5_2, m12_57, m13_88, dr131]
  apply hk'
  refine Runs.ite (b := (!r144)) (by simp [hh, m4_1, m5_2, m12_57, m13_88, dr131]) (fun dr144 => ?_) (fun dr144 => ?_)
  ·have dr144 : r144 = false := by simpa using dr144
   replace h := h.2 dr144
   refine zE fun k' hk' => ?_
   simp [hh, m4_1, m5_2, m12_57, m13_88, dr131, dr144]
   apply hk'
   exact Runs.ret1 (v := bool false) Tryz.func3 Tryz.results3 (by simp [hh, m4_1, m5_2, m12_57, m13_88, dr131, dr144]) (hQ _ _ _ _ (.of (.v _)) ⟨false, h, rfl⟩)
  have dr144 : r144 = true := by simpa using dr144
  replace h := h.1 dr144
  refine Runs.skip ?_
  refine Runs.seq ?_
  refine Runs.seqD Ty_ok kindOp_ok draws (by decide) (by kernel_rfl) fun k' hk' => ?_
  obtain ⟨hb145, h⟩ := h
  obtain ⟨r146, er146, h⟩ := atm h
  simp [hh, m4_1, m5_2, m12_57, m13_88, dr131, dr144]
  refine RunDK.callA Ty_ok kindOp_ok ((toBigraph_ok aAgent hb145).pure) e11 (.cons (argB false aAgent) .nil) (by decide) rfl (by simp [hh, m4_1, m5_2, m12_57, m13_88, dr131, dr144]) ?_
  rw [← er146]
  obtain ⟨hb147, h⟩ := h
  obtain ⟨r148, er148, h⟩ := atm h
  simp [hh, m4_1, m5_2, m12_57, m13_88, dr131, dr144]
  refine RunDK.callA Ty_ok kindOp_ok (eqBigraph_ok r70 r146 hb147) e14 (.cons (ArgOk.agg (.cons (.v _ _ _) (.cons (Sep.argOk' sp.f4 (old_nest_Node true r70.nodes)) (.cons (Sep.argOk' sp.f5 (old_listF (by simp))) (.cons (.v _ _ _) (.cons (Sep.argOk' sp.f6 (old_listF (by simp))) (.cons (Sep.argOk' sp.f7 (old_listF (by simp))) .nil))))))) (.cons (argB true r146) .nil)) (by decide) rfl (by simp [hh, m4_1, m5_2, m12_57, m13_88, dr131, dr144]) ?_
  rw [← er148]
  simp [hh, m4_1, m5_2, m12_57, m13_88, dr131, dr144]
  apply hk'
  refine Runs.ite (b := (!r148)) (by simp [hh, m4_1, m5_2, m12_57, m13_88, dr131, dr144]) (fun dr148 => ?_) (fun dr148 => ?_)
  ·have dr148 : r148 = false := by simpa using dr148
   replace h := h.2 dr148
   refine zE fun k' hk' => ?_
   simp [hh, m4_1, m5_2, m12_57, m13_88, dr131, dr144, dr148]
   apply hk'
   exact Runs.ret1 (v := bool false) Tryz.func3 Tryz.results3 (by simp [hh, m4_1, m5_2, m12_57, m13_88, dr131, dr144, dr148]) (hQ _ _ _ _ (.of (.v _)) ⟨false, h, rfl⟩)
  have dr148 : r148 = true := by simpa using dr148
  replace h := h.1 dr148
  refine Runs.skip ?_
  refine zE fun k' hk' => ?_
  simp [hh, m4_1, m5_2, m12_57, m13_88, dr131, dr144, dr148]
  apply hk'
  exact Runs.ret1 (v := bool true) Tryz.func3 Tryz.results3 (by simp [hh, m4_1, m5_2, m12_57, m13_88, dr131, dr144, dr148]) (hQ _ _ _ _ (.of (.v _)) ⟨true, h, rfl⟩)
 replace h := hJ107
 obtain ⟨c149, ec149, h⟩ := atm h
 have f150 := ib_neq (k := .i64) ec149
 rcases Bool.eq_false_or_eq_true c149 with dc149 | dc149
 ·replace h := h.1 dc149
  simp [hh, m4_1, m5_2, m12_57, m13_88, f150, dc149, -intBin]
  exact fin119 (true) _ _ _ h (by refine ⟨v94, v95, v96, v97, v98, v99, v100, v101, v102, ?_, ?_, ?_, ?_, ?_, sp⟩ <;> simp [hh, m4_1, m5_2, m12_57, m13_88, f150, dc149, -intBin])
 replace h := h.2 dc149
 obtain ⟨c151, ec151, h⟩ := atm h
 have f152 := ib_neq (k := .i64) ec151
 rcases Bool.eq_false_or_eq_true c151 with dc151 | dc151
 ·replace h := h.1 dc151
  simp [hh, m4_1, m5_2, m12_57, m13_88, f150, f152, dc149, dc151, -intBin]
  exact fin119 (true) _ _ _ h (by refine ⟨v94, v95, v96, v97, v98, v99, v100, v101, v102, ?_, ?_, ?_, ?_, ?_, sp⟩ <;> simp [hh, m4_1, m5_2, m12_57, m13_88, f150, f152, dc149, dc151, -intBin])
 replace h := h.2 dc151
 obtain ⟨c153, ec153, h⟩ := atm h
 have f154 := bb_neq ec153
 simp [hh, m4_1, m5_2, m12_57, m13_88, f150, f152, f154, dc149, dc151, -boolBin, -intBin]
 exact fin119 (c153) _ _ _ h (by refine ⟨v94, v95, v96, v97, v98, v99, v100, v101, v102, ?_, ?_, ?_, ?_, ?_, sp⟩ <;> simp [hh, m4_1, m5_2, m12_57, m13_88, f150, f152, f154, dc149, dc151, -boolBin, -intBin])
theorem lawCount_ok (aSig : List Control) (aRedex : Big) (aAgent : Big) (hp : lawCount_pre aSig aRedex aAgent) : PureC Tryz.prog 3 [.list false (aSig.map Control.cells), .agg (bC false aRedex), .agg (bC false aAgent)] (fun r => r = bool (lawCount aSig aRedex aAgent)) := (lawCount_walk aSig aRedex aAgent _ (lawCount_vc aSig aRedex aAgent hp)).mono (by rintro _ ⟨_, rfl, rfl⟩; rfl)
end Go.Ab.Vg
/- The contract of laws.FnExactCountActive: it answers true. -/
namespace Go.Ab
open Go.Proofs
theorem exactCountActive_ok (a0 : Sig) (a1 : Big) (a2 : Big) (h0 : HugeS a0) (h1 : HugeB a1) (h2 : HugeB a2) : PureC Tryz.prog 3 [encSig false a0, encB false a1, encB false a2] (fun r => r = bool true) := Vg.lawCount_ok a0 a1 a2 ⟨h0, h1, h2⟩
end Go.Ab
