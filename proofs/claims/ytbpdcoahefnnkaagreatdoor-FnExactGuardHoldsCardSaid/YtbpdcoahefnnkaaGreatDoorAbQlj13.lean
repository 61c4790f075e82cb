/- Merged texts (13 of 15) of the proof that ends in Ljy: Muw Mvw Rg. -/
import Derived.Test.YtbpdcoahefnnkaaGreatDoorAbQlj12
/- Walks by program for YtbpdcoahefnnkaaGreatDoorAbMu. -/
namespace Go.Ab.Vg
open Go.Proofs
set_option maxRecDepth 100000
set_option linter.unusedSimpArgs false
set_option linter.unusedVariables false
attribute [local simp] Control.cells GNode.cells Wire.cells intC sliceC strC bC mC rC gC pA
theorem e97 : Ent Tryz.prog 97 := Ent.of Tryz.func97 (by kernel_rfl) rfl
theorem areTwo_walk (sig : List Control) (a : Big) (b : Big) (Z : Bool → Prop) (h : areTwo_wp sig a b Z) : PureC Tryz.prog 97 [.list false (sig.map Control.cells), .agg (bC false a), .agg (bC false b)] (fun r => ∃ y : Bool, Z y ∧ r = bool y) := by
 unfold areTwo_wp at h
 refine PureC.of Tryz.func97 rfl Tryz.ntmps97 (by simp) fun Q hQ => ?_
 refine Runs.cut (fun ρ H n => (ρ 0 = .list false (sig.map Control.cells) ∧ ρ 1 = .agg (bC false a) ∧ ρ 2 = .agg (bC false b))) (by simp) ?_
 rintro ρ H n1 hh
 refine zE fun k' hk' => ?_
 simp [hh]
 apply hk'
 refine Runs.cut (fun ρ H n => (ρ 0 = .list false (sig.map Control.cells) ∧ ρ 4 = pA n1 4 ∧ ρ 5 = pA (n1 + 1) 5) ∧ H (n1, 4) = some ⟨6, [bC false a]⟩ ∧ H (n1 + 1, 5) = some ⟨6, [bC false b]⟩) (by refine ⟨?_, ?_, ?_⟩ <;> simp [hh]) ?_
 clear hh
 rintro ρ H n4 ⟨hh, m4_1, m5_2⟩
 refine zE fun k' hk' => ?_
 obtain ⟨J5, hJ6, hr7⟩ := h
 have fin9 : ∀ (sJ : Bool) (ρ : Env) (H : Heap) (n : Nat), J5 sJ → (match sJ with | b8 => ρ 6 = bool b8) → Runs Tryz.prog 97 15 k' ρ H n Q := by
  rintro b8 ρ H n10 h hh
  replace h := hr7 _ h
  apply hk'
  exact Runs.ret1 (v := bool b8) Tryz.func97 Tryz.results97 (by simp [hh]) (hQ _ _ _ _ (.of (.v _)) ⟨b8, h, rfl⟩)
 replace h := hJ6
 obtain ⟨hb11, h⟩ := h
 obtain ⟨r12, er12, h⟩ := atm h
 simp [hh, m4_1, m5_2]
 refine RunK.callA Ty_ok (IsBigraph_ok sig a hb11) e70 (.cons (argC false sig) (.cons (argB false a) .nil)) (by decide) (by decide) rfl (by simp [hh, m4_1, m5_2]) ?_
 rintro _ rfl
 rw [← er12]
 rcases Bool.eq_false_or_eq_true r12 with dr12 | dr12
 ·replace h := h.1 dr12
  obtain ⟨hb13, h⟩ := h
  obtain ⟨r14, er14, h⟩ := atm h
  simp [hh, m4_1, m5_2, dr12]
  refine RunK.callA Ty_ok (IsBigraph_ok sig b hb13) e70 (.cons (argC false sig) (.cons (argB false b) .nil)) (by decide) (by decide) rfl (by simp [hh, m4_1, m5_2, dr12]) ?_
  rintro _ rfl
  rw [← er14]
  simp [hh, m4_1, m5_2, dr12]
  exact fin9 (r14) _ _ _ h (by simp [hh, m4_1, m5_2, dr12])
 replace h := h.2 dr12
 simp [hh, m4_1, m5_2, dr12]
 exact fin9 (false) _ _ _ h (by simp [hh, m4_1, m5_2, dr12])
theorem areTwo_ok (sig : List Control) (a : Big) (b : Big) (hp : areTwo_pre sig a b) : PureC Tryz.prog 97 [.list false (sig.map Control.cells), .agg (bC false a), .agg (bC false b)] (fun r => r = bool (areTwo sig a b)) := (areTwo_walk sig a b _ (areTwo_vc sig a b hp)).mono (by rintro _ ⟨_, rfl, rfl⟩; rfl)
theorem e98 : Ent Tryz.prog 98 := Ent.of Tryz.func98 (by kernel_rfl) rfl
theorem eqStrs_walk (s1 : List Str) (s2 : List Str) (Z : Bool → Prop) (h : eqStrs_wp s1 s2 Z) : PureC Tryz.prog 98 [.list false (s1.map strC), .list false (s2.map strC)] (fun r => ∃ y : Bool, Z y ∧ r = bool y) := by
 unfold eqStrs_wp at h
 refine PureC.of Tryz.func98 rfl Tryz.ntmps98 (by simp) fun Q hQ => ?_
 refine Runs.cut (fun ρ H n => (ρ 0 = .list false (s1.map strC) ∧ ρ 1 = .list false (s2.map strC))) (by simp) ?_
 rintro ρ H n1 hh
 refine zE fun k' hk' => ?_
 simp [hh]
 apply hk'
 refine Runs.seq ?_
 refine zE fun k' hk' => ?_
 obtain ⟨len2, elen2, h⟩ := atm h
 have f3 := fun H => len_list (H := H) (fr := false) (f := strC) kd_25 elen2
 obtain ⟨len4, elen4, h⟩ := atm h
 have f5 := fun H => len_list (H := H) (fr := false) (f := strC) kd_25 elen4
 obtain ⟨c6, ec6, h⟩ := atm h
 have f7 := ib_neq (k := .i64) ec6
 simp [hh, f3, f5, f7, -intBin, -lenF]
 apply hk'
 refine Runs.ite (b := c6) (by simp [hh]) (fun dc6 => ?_) (fun dc6 => ?_)
 ·replace h := h.1 dc6
  refine zE fun k' hk' => ?_
  simp [hh, dc6]
  apply hk'
  exact Runs.ret1 (v := bool false) Tryz.func98 Tryz.results98 (by simp [hh, dc6]) (hQ _ _ _ _ (.of (.v _)) ⟨false, h, rfl⟩)
 replace h := h.2 dc6
 refine Runs.skip ?_
 refine Runs.seq ?_
 refine zE fun k' hk' => ?_
 obtain ⟨len8, elen8, h⟩ := atm h
 have f9 := fun H => len_list (H := H) (fr := false) (f := strC) kd_25 elen8
 simp [hh, f9, dc6, -lenF]
 apply hk'
 refine Runs.block ?_
 refine Runs.loopW h (fun (sJ : Int) ρ H n => match sJ with | v12 => (ρ 0 = .list false (s1.map strC) ∧ ρ 1 = .list false (s2.map strC) ∧ ρ 12 = int len8 ∧ ρ 13 = int v12)) (by simp [hh, dc6]) ?_
 clear hh
 rintro v12 ρ H n13 K h hh IH14
 refine zE fun k' hk' => ?_
 obtain ⟨c16, ec16, h⟩ := atm h
 have f17 := ib_lss (k := .i64) ec16
 simp [hh, f17, -intBin]
 apply hk'
 refine Runs.seq ?_
 refine Runs.ite (b := c16) (by simp [hh]) (fun dc16 => ?_) (fun dc16 => ?_)
 ·replace h := h.1 dc16
  refine Runs.skip ?_
  refine Runs.seq ?_
  refine Runs.block ?_
  refine zE fun k' hk' => ?_
  simp [hh, dc16]
  apply hk'
  refine Runs.seqD Ty_ok kindOp_ok draws (by decide) (by kernel_rfl) fun k' hk' => ?_
  obtain ⟨hb18, h⟩ := h
  obtain ⟨x19, ex19, h⟩ := atm h
  have f20 := fun H => ix_list (H := H) (fr := false) (f := strC) (k := .i64) kd_25 (fun _ => rfl) hb18 ex19
  obtain ⟨hb21, h⟩ := h
  obtain ⟨x22, ex22, h⟩ := atm h
  have f23 := fun H => ix_list (H := H) (fr := false) (f := strC) (k := .i64) kd_25 (fun _ => rfl) hb21 ex22
  obtain ⟨c24, ec24, h⟩ := atm h
  have f25 := sb_neq ec24
  simp [hh, f20, f23, f25, dc16, -indexAddrF, -strBin]
  apply hk'
  refine Runs.ite (b := c24) (by simp [hh, dc16]) (fun dc24 => ?_) (fun dc24 => ?_)
  ·replace h := h.1 dc24
   refine zE fun k' hk' => ?_
   simp [hh, dc16, dc24]
   apply hk'
   exact Runs.ret1 (v := bool false) Tryz.func98 Tryz.results98 (by simp [hh, dc16, dc24]) (hQ _ _ _ _ (.of (.v _)) ⟨false, h, rfl⟩)
  replace h := h.2 dc24
  refine Runs.skip ?_
  refine Runs.inBlock ?_
  refine zF fun k' hk' => ?_
  obtain ⟨hb26, h⟩ := h
  obtain ⟨v27, ev27, h⟩ := atm h
  have f28 := ib_add hb26 ev27
  simp [hh, f28, dc16, dc24, -intBin]
  apply hk'
  refine IH14 (v27) _ _ _ h (by simp [hh, dc16, dc24])
 replace h := h.2 dc16
 refine Runs.exit rfl ?_
 refine zE fun k' hk' => ?_
 simp [hh, dc16]
 apply hk'
 exact Runs.ret1 (v := bool true) Tryz.func98 Tryz.results98 (by simp [hh, dc16]) (hQ _ _ _ _ (.of (.v _)) ⟨true, h, rfl⟩)
theorem eqStrs_ok (s1 : List Str) (s2 : List Str) (hp : eqStrs_pre s1 s2) : PureC Tryz.prog 98 [.list false (s1.map strC), .list false (s2.map strC)] (fun r => r = bool (eqStrs s1 s2)) := (eqStrs_walk s1 s2 _ (eqStrs_vc s1 s2 hp)).mono (by rintro _ ⟨_, rfl, rfl⟩; rfl)
theorem e100 : Ent Tryz.prog 100 := Ent.of Tryz.func100 (by kernel_rfl) rfl
theorem isRule1_walk {H0 : Heap} {n0 : Nat} {X1 : Id} (k_ : Int) (v_ : Rule) (hX1 : H0 X1 = some ⟨13, [rC false v_]⟩) (Z : Bool → Prop) (h : isRule1_wp k_ v_ Z) : ClosC Tryz.prog H0 n0 (.fn (.func 100) [] [.ptr X1 1 0 0]) [int k_] (fun r => ∃ y : Bool, Z y ∧ r = bool y) := by
 unfold isRule1_wp at h
 refine ⟨100, [], [.ptr X1 1 0 0], rfl, e100, ?_⟩
 refine StillC.of Tryz.func100 rfl Tryz.ntmps100 (by simp) fun Q hB hQ => ?_
 have lX1 : X1.1 < n0 := (hB X1 _ hX1).1
 have neX1 : ∀ m d, n0 ≤ m → (X1 = (m, d)) = False := fun m d hm => by simp only [eq_iff_iff, iff_false]; rintro rfl; simp at lX1; omega
 have hfr : Frame n0 H0 H0 := Frame.refl _ _
 have hn0 : n0 ≤ n0 := Nat.le_refl _
 refine Runs.cut (fun ρ H n => (ρ 0 = int k_ ∧ ρ 1 = .ptr X1 1 0 0) ∧ H X1 = some ⟨13, [rC false v_]⟩ ∧ n0 ≤ n ∧ Frame n0 H0 H) (by refine ⟨?_, ?_, ?_, ?_⟩ <;> first | ((repeat (first | exact hfr | refine Frame.set (by first | omega | (simp; omega)) ?_)); done) | omega | simp [hX1]) ?_
 rintro ρ H n1 ⟨hh, mX1, hn0, hfr⟩
 have hn1 := Nat.le_succ_of_le hn0
 have hn2 := Nat.le_succ_of_le hn1
 refine zE fun k' hk' => ?_
 simp [hh, mX1, hn0, hn1, hn2, neX1]
 apply hk'
 refine zE fun k' hk' => ?_
 obtain ⟨len2, elen2, h⟩ := atm h
 have f3 := fun H => len_list (H := H) (fr := false) (f := intC) kd_24 elen2
 obtain ⟨hb4, h⟩ := h
 obtain ⟨v5, ev5, h⟩ := atm h
 have f6 := ib_sub hb4 ev5
 obtain ⟨r7, er7, h⟩ := atm h
 simp [hh, mX1, hn0, hn1, hn2, neX1, f3, f6, -intBin, -lenF]
 refine RunK.callA Ty_ok (within_ok k_ 0 v5 ) e101 (.cons (.v _ _ _) (.cons (.v _ _ _) (.cons (.v _ _ _) .nil))) (by decide) (by decide) rfl (by simp [hh, mX1, hn0, hn1, hn2, neX1, f3, f6, -intBin, -lenF]) ?_
 rintro _ rfl
 rw [← er7]
 simp [hh, mX1, hn0, hn1, hn2, neX1, f3, f6, -intBin, -lenF]
 apply hk'
 exact Runs.ret1 (v := bool (!r7)) Tryz.func100 Tryz.results100 (by simp [hh, mX1, hn0, hn1, hn2, neX1]) (hQ _ _ _ _ (.bnd (.v _)) (hfr) ⟨(!r7), h, rfl⟩)
theorem isRule1_ok {H0 : Heap} {n0 : Nat} {X1 : Id} (k_ : Int) (v_ : Rule) (hX1 : H0 X1 = some ⟨13, [rC false v_]⟩) (hp : isRule1_pre k_ v_) : ClosC Tryz.prog H0 n0 (.fn (.func 100) [] [.ptr X1 1 0 0]) [int k_] (fun r => r = bool (isRule1 k_ v_)) := (isRule1_walk k_ v_ hX1 _ (isRule1_vc k_ v_ hp)).mono (by rintro _ ⟨_, rfl, rfl⟩; rfl)
theorem e54 : Ent Tryz.prog 54 := Ent.of Tryz.func54 (by kernel_rfl) rfl
theorem IsRule_walk (sig : List Control) (r_ : Rule) (Z : Bool → Prop) (h : IsRule_wp sig r_ Z) : PureC Tryz.prog 54 [.list false (sig.map Control.cells), .agg (rC false r_)] (fun r => ∃ y : Bool, Z y ∧ r = bool y) := by
 unfold IsRule_wp at h
 refine PureC.of Tryz.func54 rfl Tryz.ntmps54 (by simp) fun Q hQ => ?_
 refine Runs.cut (fun ρ H n => (ρ 0 = .list false (sig.map Control.cells) ∧ ρ 1 = .agg (rC false r_))) (by simp) ?_
 rintro ρ H n1 hh
 refine zE fun k' hk' => ?_
 simp [hh]
 apply hk'
 refine Runs.cut (fun ρ H n => (ρ 0 = .list false (sig.map Control.cells) ∧ ρ 3 = pA n1 3) ∧ H (n1, 3) = some ⟨13, [rC false r_]⟩) (by refine ⟨?_, ?_⟩ <;> simp [hh]) ?_
 clear hh
 rintro ρ H n3 ⟨hh, m3_1⟩
 refine Runs.seq ?_
 refine zE fun k' hk' => ?_
 obtain ⟨J4, hJ5, hr6⟩ := h
 have fin8 : ∀ (sJ : Bool) (ρ : Env) (H : Heap) (n : Nat), J4 sJ → (match sJ with | b7 => (ρ 3 = pA n1 3 ∧ ρ 43 = bool b7) ∧ H (n1, 3) = some ⟨13, [rC false r_]⟩) → Runs Tryz.prog 54 59 k' ρ H n Q := by
  rintro b7 ρ H n9 h ⟨hh, m3_1⟩
  replace h := hr6 _ h
  apply hk'
  refine Runs.ite (b := b7) (by simp [hh, m3_1]) (fun db7 => ?_) (fun db7 => ?_)
  ·replace h := h.1 db7
   refine zE fun k' hk' => ?_
   simp [hh, m3_1, db7]
   apply hk'
   exact Runs.ret1 (v := bool false) Tryz.func54 Tryz.results54 (by simp [hh, m3_1, db7]) (hQ _ _ _ _ (.of (.v _)) ⟨false, h, rfl⟩)
  replace h := h.2 db7
  refine Runs.skip ?_
  refine zE fun k' hk' => ?_
  obtain ⟨J10, hJ11, hr12⟩ := h
  have fin14 : ∀ (sJ : Bool) (ρ : Env) (H : Heap) (n : Nat), J10 sJ → (match sJ with | b13 => ρ 4 = bool b13) → Runs Tryz.prog 54 59 k' ρ H n Q := by
   rintro b13 ρ H n15 h hh
   replace h := hr12 _ h
   apply hk'
   exact Runs.ret1 (v := bool b13) Tryz.func54 Tryz.results54 (by simp [hh]) (hQ _ _ _ _ (.of (.v _)) ⟨b13, h, rfl⟩)
  replace h := hJ11
  obtain ⟨len16, elen16, h⟩ := atm h
  have f17 := fun H => len_list (H := H) (fr := false) (f := intC) kd_24 elen16
  obtain ⟨len18, elen18, h⟩ := atm h
  have f19 := fun H => len_list (H := H) (fr := false) (f := intC) kd_24 elen18
  obtain ⟨c20, ec20, h⟩ := atm h
  have f21 := ib_eql (k := .i64) ec20
  rcases Bool.eq_false_or_eq_true c20 with dc20 | dc20
  ·replace h := h.1 dc20
   obtain ⟨hb22, h⟩ := h
   obtain ⟨r23, er23, h⟩ := atm h
   simp [hh, m3_1, f17, f19, f21, db7, dc20, -intBin, -lenF]
   refine RunK.callT Ty_ok (containsFuncI_ok false r_.copies (fun z => isRule1 z r_) hb22.1 (fun z hz => isRule1_ok z r_ m3_1 (hb22.2 z hz))) e99 (by decide) (by decide) rfl (by simp [hh, m3_1, f17, f19, f21, db7, dc20, -intBin, -lenF]) ?_
   rintro _ rfl
   rw [← er23]
   simp [hh, m3_1, f17, f19, f21, db7, dc20, -intBin, -lenF]
   exact fin14 ((!r23)) _ _ _ h (by simp [hh, m3_1, f17, f19, f21, db7, dc20, -intBin, -lenF])
  replace h := h.2 dc20
  simp [hh, m3_1, f17, f19, f21, db7, dc20, -intBin, -lenF]
  exact fin14 (false) _ _ _ h (by simp [hh, m3_1, f17, f19, f21, db7, dc20, -intBin, -lenF])
 replace h := hJ5
 obtain ⟨hb24, h⟩ := h
 obtain ⟨r25, er25, h⟩ := atm h
 simp [hh, m3_1]
 refine RunK.callA Ty_ok (areTwo_ok sig r_.redex r_.reactum hb24) e97 (.cons (argC false sig) (.cons (argB false r_.redex) (.cons (argB false r_.reactum) .nil))) (by decide) (by decide) rfl (by simp [hh, m3_1]) ?_
 rintro _ rfl
 rw [← er25]
 rcases Bool.eq_false_or_eq_true r25 with dr25 | dr25
 ·replace h := h.1 dr25
  obtain ⟨hb26, h⟩ := h
  obtain ⟨r27, er27, h⟩ := atm h
  simp [hh, m3_1, dr25]
  refine RunK.callA Ty_ok (isRedex_ok r_.redex hb26) e71 (.cons (argB false r_.redex) .nil) (by decide) (by decide) rfl (by simp [hh, m3_1, dr25]) ?_
  rintro _ rfl
  rw [← er27]
  rcases Bool.eq_false_or_eq_true r27 with dr27 | dr27
  ·replace h := h.1 dr27
   obtain ⟨len28, elen28, h⟩ := atm h
   have f29 := fun H => len_list (H := H) (fr := false) (f := Wire.cells) kd_45 elen28
   obtain ⟨c30, ec30, h⟩ := atm h
   have f31 := ib_gtr (k := .i64) ec30
   rcases Bool.eq_false_or_eq_true c30 with dc30 | dc30
   ·replace h := h.1 dc30
    simp [hh, m3_1, f29, f31, dr25, dr27, dc30, -intBin, -lenF]
    exact fin8 (true) _ _ _ h (by refine ⟨?_, ?_⟩ <;> simp [hh, m3_1, f29, f31, dr25, dr27, dc30, -intBin, -lenF])
   replace h := h.2 dc30
   obtain ⟨c32, ec32, h⟩ := atm h
   have f33 := ib_neq (k := .i64) ec32
   rcases Bool.eq_false_or_eq_true c32 with dc32 | dc32
   ·replace h := h.1 dc32
    simp [hh, m3_1, f29, f31, f33, dr25, dr27, dc30, dc32, -intBin, -lenF]
    exact fin8 (true) _ _ _ h (by refine ⟨?_, ?_⟩ <;> simp [hh, m3_1, f29, f31, f33, dr25, dr27, dc30, dc32, -intBin, -lenF])
   replace h := h.2 dc32
   obtain ⟨hb34, h⟩ := h
   obtain ⟨r35, er35, h⟩ := atm h
   simp [hh, m3_1, f29, f31, f33, dr25, dr27, dc30, dc32, -intBin, -lenF]
   refine RunK.callA Ty_ok (eqStrs_ok r_.redex.outer r_.reactum.outer hb34) e98 (.cons (argS false r_.redex.outer) (.cons (argS false r_.reactum.outer) .nil)) (by decide) (by decide) rfl (by simp [hh, m3_1, f29, f31, f33, dr25, dr27, dc30, dc32, -intBin, -lenF]) ?_
   rintro _ rfl
   rw [← er35]
   simp [hh, m3_1, f29, f31, f33, dr25, dr27, dc30, dc32, -intBin, -lenF]
   exact fin8 ((!r35)) _ _ _ h (by refine ⟨?_, ?_⟩ <;> simp [hh, m3_1, f29, f31, f33, dr25, dr27, dc30, dc32, -intBin, -lenF])
  replace h := h.2 dr27
  simp [hh, m3_1, dr25, dr27]
  exact fin8 (true) _ _ _ h (by refine ⟨?_, ?_⟩ <;> simp [hh, m3_1, dr25, dr27])
 replace h := h.2 dr25
 simp [hh, m3_1, dr25]
 exact fin8 (true) _ _ _ h (by refine ⟨?_, ?_⟩ <;> simp [hh, m3_1, dr25])
theorem IsRule_ok (sig : List Control) (r_ : Rule) (hp : IsRule_pre sig r_) : PureC Tryz.prog 54 [.list false (sig.map Control.cells), .agg (rC false r_)] (fun r => r = bool (IsRule sig r_)) := (IsRule_walk sig r_ _ (IsRule_vc sig r_ hp)).mono (by rintro _ ⟨_, rfl, rfl⟩; rfl)
theorem e55 : Ent Tryz.prog 55 := Ent.of Tryz.func55 (by kernel_rfl) rfl
theorem isGuard_walk (sig : List Control) (g : Guard) (Z : Bool → Prop) (h : isGuard_wp sig g Z) : PureC Tryz.prog 55 [.list false (sig.map Control.cells), .agg (gC false g)] (fun r => ∃ y : Bool, Z y ∧ r = bool y) := by
 unfold isGuard_wp at h
 refine PureC.of Tryz.func55 rfl Tryz.ntmps55 (by simp) fun Q hQ => ?_
 refine Runs.cut (fun ρ H n => (ρ 0 = .list false (sig.map Control.cells) ∧ ρ 1 = .agg (gC false g))) (by simp) ?_
 rintro ρ H n1 hh
 refine zE fun k' hk' => ?_
 simp [hh]
 apply hk'
 refine Runs.cut (fun ρ H n => (ρ 0 = .list false (sig.map Control.cells) ∧ ρ 3 = pA n1 3) ∧ H (n1, 3) = some ⟨8, [gC false g]⟩) (by refine ⟨?_, ?_⟩ <;> simp [hh]) ?_
 clear hh
 rintro ρ H n3 ⟨hh, m3_1⟩
 refine zE fun k' hk' => ?_
 obtain ⟨J4, hJ5, hr6⟩ := h
 have fin8 : ∀ (sJ : Bool) (ρ : Env) (H : Heap) (n : Nat), J4 sJ → (match sJ with | b7 => ρ 4 = bool b7) → Runs Tryz.prog 55 19 k' ρ H n Q := by
  rintro b7 ρ H n9 h hh
  replace h := hr6 _ h
  apply hk'
  exact Runs.ret1 (v := bool b7) Tryz.func55 Tryz.results55 (by simp [hh]) (hQ _ _ _ _ (.of (.v _)) ⟨b7, h, rfl⟩)
 replace h := hJ5
 obtain ⟨r10, er10, h⟩ := atm h
 simp [hh, m3_1]
 refine RunK.callA Ty_ok (within_ok g.zone 1 3 ) e101 (.cons (.v _ _ _) (.cons (.v _ _ _) (.cons (.v _ _ _) .nil))) (by decide) (by decide) rfl (by simp [hh, m3_1]) ?_
 rintro _ rfl
 rw [← er10]
 rcases Bool.eq_false_or_eq_true r10 with dr10 | dr10
 ·replace h := h.1 dr10
  obtain ⟨hb11, h⟩ := h
  obtain ⟨r12, er12, h⟩ := atm h
  simp [hh, m3_1, dr10]
  refine RunK.callA Ty_ok (IsBigraph_ok sig g.pattern hb11) e70 (.cons (argC false sig) (.cons (argB false g.pattern) .nil)) (by decide) (by decide) rfl (by simp [hh, m3_1, dr10]) ?_
  rintro _ rfl
  rw [← er12]
  rcases Bool.eq_false_or_eq_true r12 with dr12 | dr12
  ·replace h := h.1 dr12
   obtain ⟨hb13, h⟩ := h
   obtain ⟨r14, er14, h⟩ := atm h
   simp [hh, m3_1, dr10, dr12]
   refine RunK.callA Ty_ok (isRedex_ok g.pattern hb13) e71 (.cons (argB false g.pattern) .nil) (by decide) (by decide) rfl (by simp [hh, m3_1, dr10, dr12]) ?_
   rintro _ rfl
   rw [← er14]
   simp [hh, m3_1, dr10, dr12]
   exact fin8 (r14) _ _ _ h (by simp [hh, m3_1, dr10, dr12])
  replace h := h.2 dr12
  simp [hh, m3_1, dr10, dr12]
  exact fin8 (false) _ _ _ h (by simp [hh, m3_1, dr10, dr12])
 replace h := h.2 dr10
 simp [hh, m3_1, dr10]
 exact fin8 (false) _ _ _ h (by simp [hh, m3_1, dr10])
theorem isGuard_ok (sig : List Control) (g : Guard) (hp : isGuard_pre sig g) : PureC Tryz.prog 55 [.list false (sig.map Control.cells), .agg (gC false g)] (fun r => r = bool (isGuard sig g)) := (isGuard_walk sig g _ (isGuard_vc sig g hp)).mono (by rintro _ ⟨_, rfl, rfl⟩; rfl)
theorem e104 : Ent Tryz.prog 104 := Ent.of Tryz.func104 (by kernel_rfl) rfl
theorem restOf_walk (agent : Big) (m : Match) (Z : (List Int) → Prop) (h : restOf_wp agent m Z) : OwnS Tryz.prog 104 [.agg (bC false agent), .agg (mC false m)] (.s [.c]) (fun r => ∃ y : List Int, Z y ∧ r = .list true (y.map intC)) := by
 unfold restOf_wp at h
 have sp : Sep noHeap 0 [] [] := Sep.nil (by simp)
 refine OwnS.of Tryz.func104 rfl Tryz.ntmps104 (by simp) fun Q hQ => ?_
 refine Runs.cut (fun ρ H n => (ρ 0 = .agg (bC false agent) ∧ ρ 1 = .agg (mC false m)) ∧ Sep H n [] []) (by refine ⟨?_, sp⟩ <;> simp ) ?_
 rintro ρ H n1 ⟨hh, sp⟩
 refine zE fun k' hk' => ?_
 simp [hh]
 apply hk'
 refine Runs.cut (fun ρ H n => (ρ 2 = pA n1 2 ∧ ρ 3 = pA (n1 + 1) 3) ∧ H (n1, 2) = some ⟨6, [bC false agent]⟩ ∧ H (n1 + 1, 3) = some ⟨2, [mC false m]⟩ ∧ Sep H n [] [(n1 + 1, 3), (n1, 2)]) (by refine ⟨?_, ?_, ?_, sp.var.var⟩ <;> simp [hh]) ?_
 clear hh
 rintro ρ H n4 ⟨hh, m2_1, m3_2, sp⟩
 refine zE fun k' hk' => ?_
 simp [hh, m2_1, m3_2]
 apply hk'
 refine Runs.cut (fun ρ H n => ∃ (v6 : AVal), (ρ 2 = pA n1 2 ∧ ρ 3 = pA (n1 + 1) 3 ∧ ρ 5 = v6) ∧ H (n1, 2) = some ⟨6, [bC false agent]⟩ ∧ H (n1 + 1, 3) = some ⟨2, [mC false m]⟩ ∧ Sep H n [oI v6 ([] : List Int)] [(n1 + 1, 3), (n1, 2)]) (by refine ⟨.arr (n4, 7) 0 0 0, ?_, ?_, ?_, (Sep.addEmpty (l := [.c]) sp)⟩ <;> simp [hh, m2_1, m3_2]) ?_
 clear hh m2_1 m3_2
 rintro ρ H n7 ⟨v6, hh, m2_1, m3_2, sp⟩
 refine Runs.seq ?_
 refine zE fun k' hk' => ?_
 obtain ⟨len8, elen8, h⟩ := atm h
 have f9 := fun H => len_list (H := H) (fr := false) (f := (GNode.cells false)) kd_44 elen8
 simp [hh, m2_1, m3_2, f9, -lenF]
 apply hk'
 refine Runs.block ?_
 refine Runs.loopW h (fun (sJ : Int × (List Int)) ρ H n => match sJ with | (v17, l18) => ∃ (v19 : AVal), (ρ 2 = pA n1 2 ∧ ρ 3 = pA (n1 + 1) 3 ∧ ρ 5 = v19 ∧ ρ 10 = int len8 ∧ ρ 11 = int v17) ∧ H (n1, 2) = some ⟨6, [bC false agent]⟩ ∧ H (n1 + 1, 3) = some ⟨2, [mC false m]⟩ ∧ Sep H n [oI v19 l18] [(n1 + 1, 3), (n1, 2)]) (by refine ⟨v6, ?_, ?_, ?_, sp⟩ <;> simp [hh, m2_1, m3_2]) ?_
 clear hh m2_1 m3_2
 rintro ⟨v17, l18⟩ ρ H n20 K h ⟨v19, hh, m2_1, m3_2, sp⟩ IH21
 refine zE fun k' hk' => ?_
 obtain ⟨c23, ec23, h⟩ := atm h
 have f24 := ib_lss (k := .i64) ec23
 simp [hh, m2_1, m3_2, f24, -intBin]
 apply hk'
 refine Runs.seq ?_
 refine Runs.ite (b := c23) (by simp [hh, m2_1, m3_2]) (fun dc23 => ?_) (fun dc23 => ?_)
 ·replace h := h.1 dc23
  refine Runs.skip ?_
  refine Runs.seq ?_
  refine Runs.block ?_
  refine zE fun k' hk' => ?_
  simp [hh, m2_1, m3_2, dc23]
  apply hk'
  refine zE fun k' hk' => ?_
  obtain ⟨hb25, h⟩ := h
  obtain ⟨r26, er26, h⟩ := atm h
  simp [hh, m2_1, m3_2, dc23]
  refine RunK.callA Ty_ok (isUnder_ok agent v17 m.nodes hb25) e156 (.cons (argB false agent) (.cons (.v _ _ _) (.cons (argI false m.nodes) .nil))) (by decide) (by decide) rfl (by simp [hh, m2_1, m3_2, dc23]) ?_
  rintro _ rfl
  rw [← er26]
  simp [hh, m2_1, m3_2, dc23]
  apply hk'
  refine Runs.ite (b := (!r26)) (by simp [hh, m2_1, m3_2, dc23]) (fun dr26 => ?_) (fun dr26 => ?_)
  ·have dr26 : r26 = false := by simpa using dr26
   replace h := h.2 dr26
   refine zF fun k' hk' => ?_
   obtain ⟨hb27, h⟩ := h
   obtain ⟨l28, el28, h⟩ := atm h
   simp [hh, m2_1, m3_2, dc23, dr26, -appendF]
   refine bind_append [] [] [[int v17]] [intC v17] sp kd_24 (by simp) (by simp) (by simp) (by simp [-one1, o1x]) (rows_one (Fill.v _ Fill.nil)) (by simp) (by simpa using hb27) ?_
   rintro v29 H30 n31 sp hfr32 hle33
   replace sp : Sep H30 n31 [oI v29 l28] [(n1 + 1, 3), (n1, 2)] := Sep.ap el28 sp
   have m2_1 : H30 (n1, 2) = some ⟨6, [bC false agent]⟩ := (hfr32 _ (by simp)).trans (by simp [hh, m2_1, m3_2, Heap.get_set])
   have m3_2 : H30 (n1 + 1, 3) = some ⟨2, [mC false m]⟩ := (hfr32 _ (by simp)).trans (by simp [hh, m2_1, m3_2, Heap.get_set])
   simp [hh, m2_1, m3_2, dc23, dr26]
   apply hk'
   refine Runs.cut (fun ρ H n => ∃ (v35 : AVal), (ρ 2 = pA n1 2 ∧ ρ 3 = pA (n1 + 1) 3 ∧ ρ 5 = v35 ∧ ρ 10 = int len8 ∧ ρ 11 = int v17) ∧ H (n1, 2) = some ⟨6, [bC false agent]⟩ ∧ H (n1 + 1, 3) = some ⟨2, [mC false m]⟩ ∧ Sep H n [oI v35 l28] [(n1 + 1, 3), (n1, 2)]) (by refine ⟨v29, ?_, ?_, ?_, sp⟩ <;> simp [hh, m2_1, m3_2, dc23, dr26]) ?_
   clear hh m2_1 m3_2
   rintro ρ H n36 ⟨v35, hh, m2_1, m3_2, sp⟩
   refine Runs.inBlock ?_
   refine zF fun k' hk' => ?_
   obtain ⟨hb37, h⟩ := h
   obtain ⟨v38, ev38, h⟩ := atm h
   have f39 := ib_add hb37 ev38
   simp [hh, m2_1, m3_2, f39, -intBin]
   apply hk'
   refine IH21 (v38, l28) _ _ _ h (by refine ⟨v35, ?_, ?_, ?_, sp⟩ <;> simp [hh, m2_1, m3_2])
  have dr26 : r26 = true := by simpa using dr26
  replace h := h.1 dr26
  refine Runs.skip ?_
  refine Runs.inBlock ?_
  refine zF fun k' hk' => ?_
  obtain ⟨hb40, h⟩ := h
  obtain ⟨v41, ev41, h⟩ := atm h
  have f42 := ib_add hb40 ev41
  simp [hh, m2_1, m3_2, f42, dc23, dr26, -intBin]
  apply hk'
  refine IH21 (v41, l18) _ _ _ h (by refine ⟨v19, ?_, ?_, ?_, sp⟩ <;> simp [hh, m2_1, m3_2, dc23, dr26])
 replace h := h.2 dc23
 refine Runs.exit rfl ?_
 refine zE fun k' hk' => ?_
 simp [hh, m2_1, m3_2, dc23]
 apply hk'
 exact Runs.ret1 (v := v19) Tryz.func104 Tryz.results104 (by simp [hh, m2_1, m3_2, dc23]) (hQ _ _ _ _ (Sep.sub (ids' := []) sp (by simp)) ⟨l18, h, rfl⟩)
theorem restOf_ok (agent : Big) (m : Match) (hp : restOf_pre agent m) : OwnS Tryz.prog 104 [.agg (bC false agent), .agg (mC false m)] (.s [.c]) (fun r => r = .list true ((restOf agent m).map intC)) := (restOf_walk agent m _ (restOf_vc agent m hp)).mono (by rintro _ ⟨_, rfl, rfl⟩; rfl)
theorem e105 : Ent Tryz.prog 105 := Ent.of Tryz.func105 (by kernel_rfl) rfl
theorem parameterOf_walk (agent : Big) (m : Match) (Z : (List Int) → Prop) (h : parameterOf_wp agent m Z) : OwnS Tryz.prog 105 [.agg (bC false agent), .agg (mC false m)] (.s [.c]) (fun r => ∃ y : List Int, Z y ∧ r = .list true (y.map intC)) := by
 unfold parameterOf_wp at h
 have sp : Sep noHeap 0 [] [] := Sep.nil (by simp)
 refine OwnS.of Tryz.func105 rfl Tryz.ntmps105 (by simp) fun Q hQ => ?_
 refine Runs.cut (fun ρ H n => (ρ 0 = .agg (bC false agent) ∧ ρ 1 = .agg (mC false m)) ∧ Sep H n [] []) (by refine ⟨?_, sp⟩ <;> simp ) ?_
 rintro ρ H n1 ⟨hh, sp⟩
 refine zE fun k' hk' => ?_
 simp [hh]
 apply hk'
 refine Runs.cut (fun ρ H n => (ρ 2 = pA n1 2 ∧ ρ 3 = pA (n1 + 1) 3) ∧ H (n1, 2) = some ⟨6, [bC false agent]⟩ ∧ H (n1 + 1, 3) = some ⟨2, [mC false m]⟩ ∧ Sep H n [] [(n1 + 1, 3), (n1, 2)]) (by refine ⟨?_, ?_, ?_, sp.var.var⟩ <;> simp [hh]) ?_
 clear hh
 rintro ρ H n4 ⟨hh, m2_1, m3_2, sp⟩
 refine zE fun k' hk' => ?_
 simp [hh, m2_1, m3_2]
 apply hk'
 refine Runs.cut (fun ρ H n => ∃ (v6 : AVal), (ρ 2 = pA n1 2 ∧ ρ 3 = pA (n1 + 1) 3 ∧ ρ 5 = v6) ∧ H (n1, 2) = some ⟨6, [bC false agent]⟩ ∧ H (n1 + 1, 3) = some ⟨2, [mC false m]⟩ ∧ Sep H n [oI v6 ([] : List Int)] [(n1 + 1, 3), (n1, 2)]) (by refine ⟨.arr (n4, 7) 0 0 0, ?_, ?_, ?_, (Sep.addEmpty (l := [.c]) sp)⟩ <;> simp [hh, m2_1, m3_2]) ?_
 clear hh m2_1 m3_2
 rintro ρ H n7 ⟨v6, hh, m2_1, m3_2, sp⟩
 refine Runs.seq ?_
 refine zE fun k' hk' => ?_
 obtain ⟨len8, elen8, h⟩ := atm h
 have f9 := fun H => len_list (H := H) (fr := false) (f := (GNode.cells false)) kd_44 elen8
 simp [hh, m2_1, m3_2, f9, -lenF]
 apply hk'
 refine Runs.block ?_
 refine Runs.loopW h (fun (sJ : Int × (List Int)) ρ H n => match sJ with | (v17, l18) => ∃ (v19 : AVal), (ρ 2 = pA n1 2 ∧ ρ 3 = pA (n1 + 1) 3 ∧ ρ 5 = v19 ∧ ρ 10 = int len8 ∧ ρ 11 = int v17) ∧ H (n1, 2) = some ⟨6, [bC false agent]⟩ ∧ H (n1 + 1, 3) = some ⟨2, [mC false m]⟩ ∧ Sep H n [oI v19 l18] [(n1 + 1, 3), (n1, 2)]) (by refine ⟨v6, ?_, ?_, ?_, sp⟩ <;> simp [hh, m2_1, m3_2]) ?_
 clear hh m2_1 m3_2
 rintro ⟨v17, l18⟩ ρ H n20 K h ⟨v19, hh, m2_1, m3_2, sp⟩ IH21
 refine zE fun k' hk' => ?_
 obtain ⟨c23, ec23, h⟩ := atm h
 have f24 := ib_lss (k := .i64) ec23
 simp [hh, m2_1, m3_2, f24, -intBin]
 apply hk'
 refine Runs.seq ?_
 refine Runs.ite (b := c23) (by simp [hh, m2_1, m3_2]) (fun dc23 => ?_) (fun dc23 => ?_)
 ·replace h := h.1 dc23
  refine Runs.skip ?_
  refine Runs.seq ?_
  refine Runs.block ?_
  refine zE fun k' hk' => ?_
  simp [hh, m2_1, m3_2, dc23]
  apply hk'
  refine zE fun k' hk' => ?_
  obtain ⟨J25, hJ26, hr27⟩ := h
  have fin30 : ∀ (sJ : Bool) (ρ : Env) (H : Heap) (n : Nat), J25 sJ → (match sJ with | b28 => ∃ (v29 : AVal), (ρ 2 = pA n1 2 ∧ ρ 3 = pA (n1 + 1) 3 ∧ ρ 5 = v29 ∧ ρ 6 = int v17 ∧ ρ 10 = int len8 ∧ ρ 11 = int v17 ∧ ρ 25 = bool b28) ∧ H (n1, 2) = some ⟨6, [bC false agent]⟩ ∧ H (n1 + 1, 3) = some ⟨2, [mC false m]⟩ ∧ Sep H n [oI v29 l18] [(n1 + 1, 3), (n1, 2)]) → Runs Tryz.prog 105 32 k' ρ H n Q := by
   rintro b28 ρ H n31 h ⟨v29, hh, m2_1, m3_2, sp⟩
   replace h := hr27 _ h
   apply hk'
   refine Runs.ite (b := b28) (by simp [hh, m2_1, m3_2]) (fun db28 => ?_) (fun db28 => ?_)
   ·replace h := h.1 db28
    refine zF fun k' hk' => ?_
    obtain ⟨hb32, h⟩ := h
    obtain ⟨l33, el33, h⟩ := atm h
    simp [hh, m2_1, m3_2, db28, -appendF]
    refine bind_append [] [] [[int v17]] [intC v17] sp kd_24 (by simp) (by simp) (by simp) (by simp [-one1, o1x]) (rows_one (Fill.v _ Fill.nil)) (by simp) (by simpa using hb32) ?_
    rintro v34 H35 n36 sp hfr37 hle38
    replace sp : Sep H35 n36 [oI v34 l33] [(n1 + 1, 3), (n1, 2)] := Sep.ap el33 sp
    have m2_1 : H35 (n1, 2) = some ⟨6, [bC false agent]⟩ := (hfr37 _ (by simp)).trans (by simp [hh, m2_1, m3_2, Heap.get_set])
    have m3_2 : H35 (n1 + 1, 3) = some ⟨2, [mC false m]⟩ := (hfr37 _ (by simp)).trans (by simp [hh, m2_1, m3_2, Heap.get_set])
    simp [hh, m2_1, m3_2, db28]
    apply hk'
    refine Runs.cut (fun ρ H n => ∃ (v40 : AVal), (ρ 2 = pA n1 2 ∧ ρ 3 = pA (n1 + 1) 3 ∧ ρ 5 = v40 ∧ ρ 10 = int len8 ∧ ρ 11 = int v17) ∧ H (n1, 2) = some ⟨6, [bC false agent]⟩ ∧ H (n1 + 1, 3) = some ⟨2, [mC false m]⟩ ∧ Sep H n [oI v40 l33] [(n1 + 1, 3), (n1, 2)]) (by refine ⟨v34, ?_, ?_, ?_, sp⟩ <;> simp [hh, m2_1, m3_2, db28]) ?_
    clear hh m2_1 m3_2
    rintro ρ H n41 ⟨v40, hh, m2_1, m3_2, sp⟩
    refine Runs.inBlock ?_
    refine zF fun k' hk' => ?_
    obtain ⟨hb42, h⟩ := h
    obtain ⟨v43, ev43, h⟩ := atm h
    have f44 := ib_add hb42 ev43
    simp [hh, m2_1, m3_2, f44, -intBin]
    apply hk'
    refine IH21 (v43, l33) _ _ _ h (by refine ⟨v40, ?_, ?_, ?_, sp⟩ <;> simp [hh, m2_1, m3_2])
   replace h := h.2 db28
   refine Runs.skip ?_
   refine Runs.inBlock ?_
   refine zF fun k' hk' => ?_
   obtain ⟨hb45, h⟩ := h
   obtain ⟨v46, ev46, h⟩ := atm h
   have f47 := ib_add hb45 ev46
   simp [hh, m2_1, m3_2, f47, db28, -intBin]
   apply hk'
   refine IH21 (v46, l18) _ _ _ h (by refine ⟨v29, ?_, ?_, ?_, sp⟩ <;> simp [hh, m2_1, m3_2, db28])
  replace h := hJ26
  obtain ⟨hb48, h⟩ := h
  obtain ⟨r49, er49, h⟩ := atm h
  simp [hh, m2_1, m3_2, dc23]
  refine RunK.callA Ty_ok (isUnder_ok agent v17 m.nodes hb48) e156 (.cons (argB false agent) (.cons (.v _ _ _) (.cons (argI false m.nodes) .nil))) (by decide) (by decide) rfl (by simp [hh, m2_1, m3_2, dc23]) ?_
  rintro _ rfl
  rw [← er49]
  rcases Bool.eq_false_or_eq_true r49 with dr49 | dr49
  ·replace h := h.1 dr49
   obtain ⟨hb50, h⟩ := h
   obtain ⟨r51, er51, h⟩ := atm h
   simp [hh, m2_1, m3_2, dc23, dr49]
   refine RunK.callA Ty_ok (hasI_ok m.nodes v17 hb50) e131 (.cons (argI false m.nodes) (.cons (.v _ _ _) .nil)) (by decide) (by decide) rfl (by simp [hh, m2_1, m3_2, dc23, dr49]) ?_
   rintro _ rfl
   rw [← er51]
   simp [hh, m2_1, m3_2, dc23, dr49]
   exact fin30 ((!r51)) _ _ _ h (by refine ⟨v19, ?_, ?_, ?_, sp⟩ <;> simp [hh, m2_1, m3_2, dc23, dr49])
  replace h := h.2 dr49
  simp [hh, m2_1, m3_2, dc23, dr49]
  exact fin30 (false) _ _ _ h (by refine ⟨v19, ?_, ?_, ?_, sp⟩ <;> simp [hh, m2_1, m3_2, dc23, dr49])
 replace h := h.2 dc23
 refine Runs.exit rfl ?_
 refine zE fun k' hk' => ?_
 simp [hh, m2_1, m3_2, dc23]
 apply hk'
 exact Runs.ret1 (v := v19) Tryz.func105 Tryz.results105 (by simp [hh, m2_1, m3_2, dc23]) (hQ _ _ _ _ (Sep.sub (ids' := []) sp (by simp)) ⟨l18, h, rfl⟩)
theorem parameterOf_ok (agent : Big) (m : Match) (hp : parameterOf_pre agent m) : OwnS Tryz.prog 105 [.agg (bC false agent), .agg (mC false m)] (.s [.c]) (fun r => r = .list true ((parameterOf agent m).map intC)) := (parameterOf_walk agent m _ (parameterOf_vc agent m hp)).mono (by rintro _ ⟨_, rfl, rfl⟩; rfl)
theorem e159 : Ent Tryz.prog 159 := Ent.of Tryz.func159 (by kernel_rfl) rfl
theorem isPart1_walk {H0 : Heap} {n0 : Nat} {X1 : Id} (n_ : Int) (v_ : List Int) (hX1 : H0 X1 = some ⟨1, [[.list false (v_.map intC)]]⟩) (Z : Bool → Prop) (h : isPart1_wp n_ v_ Z) : ClosC Tryz.prog H0 n0 (.fn (.func 159) [] [.ptr X1 1 0 0]) [int n_] (fun r => ∃ y : Bool, Z y ∧ r = bool y) := by
 unfold isPart1_wp at h
 refine ⟨159, [], [.ptr X1 1 0 0], rfl, e159, ?_⟩
 refine StillC.of Tryz.func159 rfl Tryz.ntmps159 (by simp) fun Q hB hQ => ?_
 have lX1 : X1.1 < n0 := (hB X1 _ hX1).1
 have neX1 : ∀ m d, n0 ≤ m → (X1 = (m, d)) = False := fun m d hm => by simp only [eq_iff_iff, iff_false]; rintro rfl; simp at lX1; omega
 have hfr : Frame n0 H0 H0 := Frame.refl _ _
 have hn0 : n0 ≤ n0 := Nat.le_refl _
 refine Runs.cut (fun ρ H n => (ρ 0 = int n_ ∧ ρ 1 = .ptr X1 1 0 0) ∧ H X1 = some ⟨1, [[.list false (v_.map intC)]]⟩ ∧ n0 ≤ n ∧ Frame n0 H0 H) (by refine ⟨?_, ?_, ?_, ?_⟩ <;> first | ((repeat (first | exact hfr | refine Frame.set (by first | omega | (simp; omega)) ?_)); done) | omega | simp [hX1]) ?_
 rintro ρ H n1 ⟨hh, mX1, hn0, hfr⟩
 have hn1 := Nat.le_succ_of_le hn0
 have hn2 := Nat.le_succ_of_le hn1
 refine zE fun k' hk' => ?_
 simp [hh, mX1, hn0, hn1, hn2, neX1]
 apply hk'
 refine zE fun k' hk' => ?_
 obtain ⟨hb2, h⟩ := h
 obtain ⟨r3, er3, h⟩ := atm h
 simp [hh, mX1, hn0, hn1, hn2, neX1]
 refine RunK.callA Ty_ok (hasI_ok v_ n_ hb2) e131 (.cons (argI false v_) (.cons (.v _ _ _) .nil)) (by decide) (by decide) rfl (by simp [hh, mX1, hn0, hn1, hn2, neX1]) ?_
 rintro _ rfl
 rw [← er3]
 simp [hh, mX1, hn0, hn1, hn2, neX1]
 apply hk'
 exact Runs.ret1 (v := bool (!r3)) Tryz.func159 Tryz.results159 (by simp [hh, mX1, hn0, hn1, hn2, neX1]) (hQ _ _ _ _ (.bnd (.v _)) (hfr) ⟨(!r3), h, rfl⟩)
theorem isPart1_ok {H0 : Heap} {n0 : Nat} {X1 : Id} (n_ : Int) (v_ : List Int) (hX1 : H0 X1 = some ⟨1, [[.list false (v_.map intC)]]⟩) (hp : isPart1_pre n_ v_) : ClosC Tryz.prog H0 n0 (.fn (.func 159) [] [.ptr X1 1 0 0]) [int n_] (fun r => r = bool (isPart1 n_ v_)) := (isPart1_walk n_ v_ hX1 _ (isPart1_vc n_ v_ hp)).mono (by rintro _ ⟨_, rfl, rfl⟩; rfl)
theorem e107 : Ent Tryz.prog 107 := Ent.of Tryz.func107 (by kernel_rfl) rfl
theorem isPart_walk (a : List Int) (b : List Int) (Z : Bool → Prop) (h : isPart_wp a b Z) : PureC Tryz.prog 107 [.list false (a.map intC), .list false (b.map intC)] (fun r => ∃ y : Bool, Z y ∧ r = bool y) := by
 unfold isPart_wp at h
 refine PureC.of Tryz.func107 rfl Tryz.ntmps107 (by simp) fun Q hQ => ?_
 refine Runs.cut (fun ρ H n => (ρ 0 = .list false (a.map intC) ∧ ρ 1 = .list false (b.map intC))) (by simp) ?_
 rintro ρ H n1 hh
 refine zE fun k' hk' => ?_
 simp [hh]
 apply hk'
 refine Runs.cut (fun ρ H n => (ρ 0 = .list false (a.map intC) ∧ ρ 3 = pA n1 3) ∧ H (n1, 3) = some ⟨1, [[.list false (b.map intC)]]⟩) (by refine ⟨?_, ?_⟩ <;> simp [hh]) ?_
 clear hh
 rintro ρ H n3 ⟨hh, m3_1⟩
 refine zE fun k' hk' => ?_
 obtain ⟨hb4, h⟩ := h
 obtain ⟨r5, er5, h⟩ := atm h
 simp [hh, m3_1]
 refine RunK.callT Ty_ok (containsFuncI_ok false a (fun z => isPart1 z b) hb4.1 (fun z hz => isPart1_ok z b m3_1 (hb4.2 z hz))) e99 (by decide) (by decide) rfl (by simp [hh, m3_1]) ?_
 rintro _ rfl
 rw [← er5]
 simp [hh, m3_1]
 apply hk'
 exact Runs.ret1 (v := bool (!r5)) Tryz.func107 Tryz.results107 (by simp [hh, m3_1]) (hQ _ _ _ _ (.of (.v _)) ⟨(!r5), h, rfl⟩)
theorem isPart_ok (a : List Int) (b : List Int) (hp : isPart_pre a b) : PureC Tryz.prog 107 [.list false (a.map intC), .list false (b.map intC)] (fun r => r = bool (isPart a b)) := (isPart_walk a b _ (isPart_vc a b hp)).mono (by rintro _ ⟨_, rfl, rfl⟩; rfl)
theorem e106 : Ent Tryz.prog 106 := Ent.of Tryz.func106 (by kernel_rfl) rfl
theorem holds1_walk (own : Match) (v_ : List Int) (v0 : AVal) (Z : ((List Int) × Bool) → Prop) (h : holds1_wp own v_ Z) : PtrS Tryz.prog 106 (fun p => [v0, p]) 1 (fun s vs => [gv vs 0]) (fun s vs => [(.s [.c], gv vs 0, .list true (s.map intC))]) v_ [(.a [.s [.c], .s [.c]], v0, .agg (mC true own))] (fun s' r => ∃ y : Bool, Z (s', y) ∧ r = bool y) := by
 unfold holds1_wp at h
 refine PtrS.of Tryz.func106 rfl Tryz.ntmps106 (fun _ => by simp) fun X H0 n0 vs0 K0 ids0 hX hxi sp Q hQ => ?_
 have h00 := sp.1
 have lX : X.1 < n0 := h00 X (by simp)
 have neX : ∀ m d, n0 ≤ m → (X = (m, d)) = False := fun m d hm => by simp only [eq_iff_iff, iff_false]; rintro rfl; simp at lX; omega
 have hid : ∀ i ∈ ids0, H0 i = H0 i := fun _ _ => rfl
 have hnn : n0 ≤ n0 := Nat.le_refl _
 have hn1 := Nat.le_succ_of_le hnn
 have hn2 := Nat.le_succ_of_le hn1
 replace sp : Sep H0 n0 ((.a [.s [.c], .s [.c]], v0, .agg (mC true own)) :: oI (gv vs0 0) v_ :: K0) (X :: ids0) := sp
 replace sp := Sep.unpack sp
 obtain ⟨L0, hv, hl0, sp⟩ := sp
 subst hv
 obtain ⟨a0_, a1_, hv⟩ := len2 (by simpa using hl0)
 subst hv
 simp only [zip3, List.cons_append, List.nil_append] at sp
 replace sp := Sep.rot sp
 try simp only [List.cons_append, List.nil_append, List.append_assoc] at sp
 replace sp := Sep.rot sp
 try simp only [List.cons_append, List.nil_append, List.append_assoc] at sp
 replace sp := Sep.swap (K1 := oI (gv vs0 0) v_ :: K0) sp
 replace sp : Sep H0 n0 (oI a0_ own.nodes :: oI a1_ own.roots :: oI (gv vs0 0) v_ :: K0) (X :: ids0) := sp
 refine Runs.cut (fun ρ H n => ∃ (v4 v5 v6 : AVal), (ρ 0 = .agg [v4, v5] ∧ ρ 1 = .ptr X 1 0 0) ∧ H X = some ⟨1, [[v6]]⟩ ∧ n0 ≤ n ∧ (∀ i ∈ ids0, H i = H0 i) ∧ Sep H n (oI v4 own.nodes :: oI v5 own.roots :: oI v6 v_ :: K0) (X :: ids0)) (by refine ⟨a0_, a1_, (gv vs0 0), ?_, ?_, (by omega), hid, sp⟩ <;> simp [hX, hnn, hn1, hn2, neX]) ?_
 rintro ρ H n7 ⟨v4, v5, v6, hh, mX0, hnn, hid, sp⟩
 have hq_n7 := hnn
 have hn1 := Nat.le_succ_of_le hnn
 have hn2 := Nat.le_succ_of_le hn1
 refine zE fun k' hk' => ?_
 have f8 := Sep.oc sp
 have f9 := Sep.oc sp.f1
 simp [hh, mX0, hnn, hn1, hn2, neX, f8, f9, -cellsA, -one1, cAx, o1x]
 apply hk'
 refine Runs.cut (fun ρ H n => ∃ (v11 v12 v13 : AVal), (ρ 1 = .ptr X 1 0 0 ∧ ρ 2 = pA n7 2) ∧ H X = some ⟨1, [[v13]]⟩ ∧ H (n7, 2) = some ⟨2, [[v11, v12]]⟩ ∧ n0 ≤ n ∧ (∀ i ∈ ids0, H i = H0 i) ∧ Sep H n (oI v11 own.nodes :: oI v12 own.roots :: oI v13 v_ :: K0) ((n7, 2) :: X :: ids0)) (by refine ⟨v4, v5, v6, ?_, ?_, ?_, (by omega), (by intro i hi; have hlt := h00 i (by simp [hi]); have hxx : i ≠ X := fun e => hxi (e ▸ hi); repeat (first | exact hid i hi | rw [Heap.get_set_ne _ _ hxx] | rw [Heap.get_set_ne _ _ (by rintro rfl; simp at hlt; omega)])), sp.var⟩ <;> simp [hh, mX0, hnn, hn1, hn2, neX, f8, f9, -cellsA, -one1, cAx, o1x]) ?_
 clear hh mX0
 rintro ρ H n14 ⟨v11, v12, v13, hh, mX0, m2_9, hnn, hid, sp⟩
 have hq_n14 := hnn
 have hn1 := Nat.le_succ_of_le hnn
 have hn2 := Nat.le_succ_of_le hn1
 refine zE fun k' hk' => ?_
 obtain ⟨hb15, h⟩ := h
 obtain ⟨r16, er16, h⟩ := atm h
 simp [hh, mX0, m2_9, hnn, hn1, hn2, neX]
 refine RunK.callA Ty_ok (isPart_ok own.nodes v_ hb15) e107 (.cons (Sep.argOk' sp (old_listF (by simp))) (.cons (Sep.argOk' sp.f2 (old_listF (by simp))) .nil)) (by decide) (by decide) rfl (by simp [hh, mX0, m2_9, hnn, hn1, hn2, neX]) ?_
 rintro _ rfl
 rw [← er16]
 simp [hh, mX0, m2_9, hnn, hn1, hn2, neX]
 apply hk'
 exact Runs.ret1 (v := bool (!r16)) Tryz.func106 Tryz.results106 (by simp [hh, mX0, m2_9, hnn, hn1, hn2, neX]) (hQ _ _ _ v_ [v13] (by simp [gv, hh, mX0, m2_9, hnn, hn1, hn2, neX]) (Sep.sub sp.dr.dr (by simp +contextual)) hid (by omega) ⟨(!r16), h, rfl⟩)
theorem holds1_ok (own : Match) (v_ : List Int) (hp : holds1_pre own v_)  (v0 : AVal) : PtrS Tryz.prog 106 (fun p => [v0, p]) 1 (fun s vs => [gv vs 0]) (fun s vs => [(.s [.c], gv vs 0, .list true (s.map intC))]) v_ [(.a [.s [.c], .s [.c]], v0, .agg (mC true own))] (fun s' r => s' = (holds1 own v_).1 ∧ r = bool ((holds1 own v_).2)) := (holds1_walk own v_ v0 _ (holds1_vc own v_ hp)).mono (by rintro _ _ ⟨y, hz, rfl⟩; rw [← hz]; exact ⟨rfl, rfl⟩)
theorem e57 : Ent Tryz.prog 57 := Ent.of Tryz.func57 (by kernel_rfl) rfl
theorem holds_walk (g : Guard) (agent : Big) (m : Match) (Z : Bool → Prop) (h : holds_wp g agent m Z) : PureC Tryz.prog 57 [.agg (gC false g), .agg (bC false agent), .agg (mC false m)] (fun r => ∃ y : Bool, Z y ∧ r = bool y) := by
 unfold holds_wp at h
 have sp : Sep noHeap 0 [] [] := Sep.nil (by simp)
 refine PureC.of Tryz.func57 rfl Tryz.ntmps57 (by simp) fun Q hQ => ?_
 refine Runs.cut (fun ρ H n => (ρ 0 = .agg (gC false g) ∧ ρ 1 = .agg (bC false agent) ∧ ρ 2 = .agg (mC false m)) ∧ Sep H n [] []) (by refine ⟨?_, sp⟩ <;> simp ) ?_
 rintro ρ H n1 ⟨hh, sp⟩
 refine zE fun k' hk' => ?_
 simp [hh]
 apply hk'
 refine Runs.cut (fun ρ H n => (ρ 3 = pA n1 3 ∧ ρ 4 = pA (n1 + 1) 4 ∧ ρ 5 = pA (n1 + 2) 5) ∧ H (n1, 3) = some ⟨8, [gC false g]⟩ ∧ H (n1 + 1, 4) = some ⟨6, [bC false agent]⟩ ∧ H (n1 + 2, 5) = some ⟨2, [mC false m]⟩ ∧ Sep H n [] [(n1 + 2, 5), (n1 + 1, 4), (n1, 3)]) (by refine ⟨?_, ?_, ?_, ?_, sp.var.var.var⟩ <;> simp [hh]) ?_
 clear hh
 rintro ρ H n5 ⟨hh, m3_1, m4_2, m5_3, sp⟩
 refine zE fun k' hk' => ?_
 simp [hh, m3_1, m4_2, m5_3]
 apply hk'
 refine Runs.cut (fun ρ H n => ∃ (v8 : AVal), (ρ 3 = pA n1 3 ∧ ρ 4 = pA (n1 + 1) 4 ∧ ρ 5 = pA (n1 + 2) 5 ∧ ρ 7 = pA (n5 + 1) 7) ∧ H (n1, 3) = some ⟨8, [gC false g]⟩ ∧ H (n1 + 1, 4) = some ⟨6, [bC false agent]⟩ ∧ H (n1 + 2, 5) = some ⟨2, [mC false m]⟩ ∧ H (n5 + 1, 7) = some ⟨1, [[v8]]⟩ ∧ Sep H n [oI v8 ([] : List Int)] [(n5 + 1, 7), (n1 + 2, 5), (n1 + 1, 4), (n1, 3)]) (by refine ⟨.arr (n5, 10) 0 0 0, ?_, ?_, ?_, ?_, ?_, (Sep.var (Sep.addEmpty (l := [.c]) sp))⟩ <;> simp [hh, m3_1, m4_2, m5_3]) ?_
 clear hh m3_1 m4_2 m5_3
 rintro ρ H n9 ⟨v8, hh, m3_1, m4_2, m5_3, m7_6, sp⟩
 refine Runs.seq ?_
 refine zE fun k' hk' => ?_
 simp [hh, m3_1, m4_2, m5_3, m7_6]
 apply hk'
 refine Runs.block ?_
 refine zE fun k' hk' => ?_
 obtain ⟨c10, ec10, h⟩ := atm h
 have f11 := ib_eql (k := .i64) ec10
 simp [hh, m3_1, m4_2, m5_3, m7_6, f11, -intBin]
 apply hk'
 refine Runs.ite (b := c10) (by simp [hh, m3_1, m4_2, m5_3, m7_6]) (fun dc10 => ?_) (fun dc10 => ?_)
 ·replace h := h.1 dc10
  refine zE fun k' hk' => ?_
  obtain ⟨len12, elen12, h⟩ := atm h
  have f13 := fun H => len_list (H := H) (fr := false) (f := (GNode.cells false)) kd_44 elen12
  simp [hh, m3_1, m4_2, m5_3, m7_6, f13, dc10, -lenF]
  apply hk'
  refine Runs.block ?_
  refine Runs.loopW h (fun (sJ : Int × (List Int)) ρ H n => match sJ with | (v21, l22) => ∃ (v23 : AVal), (ρ 3 = pA n1 3 ∧ ρ 4 = pA (n1 + 1) 4 ∧ ρ 7 = pA (n5 + 1) 7 ∧ ρ 20 = int len12 ∧ ρ 21 = int v21) ∧ H (n1, 3) = some ⟨8, [gC false g]⟩ ∧ H (n1 + 1, 4) = some ⟨6, [bC false agent]⟩ ∧ H (n5 + 1, 7) = some ⟨1, [[v23]]⟩ ∧ Sep H n [oI v23 l22] [(n5 + 1, 7), (n1 + 1, 4), (n1, 3)]) (by refine ⟨v8, ?_, ?_, ?_, ?_, (Sep.sub sp (by simp +contextual))⟩ <;> simp [hh, m3_1, m4_2, m5_3, m7_6, dc10]) ?_
  clear hh m3_1 m4_2 m5_3 m7_6
  rintro ⟨v21, l22⟩ ρ H n24 K h ⟨v23, hh, m3_1, m4_2, m7_6, sp⟩ IH25
  refine zE fun k' hk' => ?_
  obtain ⟨c27, ec27, h⟩ := atm h
  have f28 := ib_lss (k := .i64) ec27
  simp [hh, m3_1, m4_2, m7_6, f28, -intBin]
  apply hk'
  refine Runs.seq ?_
  refine Runs.ite (b := c27) (by simp [hh, m3_1, m4_2, m7_6]) (fun dc27 => ?_) (fun dc27 => ?_)
  ·replace h := h.1 dc27
   refine Runs.skip ?_
   refine Runs.seq ?_
   refine Runs.block ?_
   refine zE fun k' hk' => ?_
   simp [hh, m3_1, m4_2, m7_6, dc27]
   apply hk'
   refine zF fun k' hk' => ?_
   obtain ⟨hb29, h⟩ := h
   obtain ⟨l30, el30, h⟩ := atm h
   simp [hh, m3_1, m4_2, m7_6, dc27, -appendF]
   refine bind_append [] [] [[int v21]] [intC v21] sp kd_24 (by simp) (by simp) (by simp) (by simp [-one1, o1x]) (rows_one (Fill.v _ Fill.nil)) (by simp) (by simpa using hb29) ?_
   rintro v31 H32 n33 sp hfr34 hle35
   replace sp : Sep H32 n33 [oI v31 l30] [(n5 + 1, 7), (n1 + 1, 4), (n1, 3)] := Sep.ap el30 sp
   have m3_1 : H32 (n1, 3) = some ⟨8, [gC false g]⟩ := (hfr34 _ (by simp)).trans (by simp [hh, m3_1, m4_2, m7_6, Heap.get_set])
   have m4_2 : H32 (n1 + 1, 4) = some ⟨6, [bC false agent]⟩ := (hfr34 _ (by simp)).trans (by simp [hh, m3_1, m4_2, m7_6, Heap.get_set])
   have m7_6 : H32 (n5 + 1, 7) = some ⟨1, [[v23]]⟩ := (hfr34 _ (by simp)).trans (by simp [hh, m3_1, m4_2, m7_6, Heap.get_set])
   have f37 := Sep.oc sp
   simp [hh, m3_1, m4_2, m7_6, f37, dc27, -cellsA, -one1, cAx, o1x]
   apply hk'
   refine Runs.cut (fun ρ H n => ∃ (v38 : AVal), (ρ 3 = pA n1 3 ∧ ρ 4 = pA (n1 + 1) 4 ∧ ρ 7 = pA (n5 + 1) 7 ∧ ρ 20 = int len12 ∧ ρ 21 = int v21) ∧ H (n1, 3) = some ⟨8, [gC false g]⟩ ∧ H (n1 + 1, 4) = some ⟨6, [bC false agent]⟩ ∧ H (n5 + 1, 7) = some ⟨1, [[v38]]⟩ ∧ Sep H n [oI v38 l30] [(n5 + 1, 7), (n1 + 1, 4), (n1, 3)]) (by refine ⟨v31, ?_, ?_, ?_, ?_, (Sep.setVar (w := (n5 + 1, 7)) sp (by simp))⟩ <;> simp [hh, m3_1, m4_2, m7_6, f37, dc27, -cellsA, -one1, cAx, o1x]) ?_
   clear hh m3_1 m4_2 m7_6
   rintro ρ H n39 ⟨v38, hh, m3_1, m4_2, m7_6, sp⟩
   refine Runs.inBlock ?_
   refine zF fun k' hk' => ?_
   obtain ⟨hb40, h⟩ := h
   obtain ⟨v41, ev41, h⟩ := atm h
   have f42 := ib_add hb40 ev41
   simp [hh, m3_1, m4_2, m7_6, f42, -intBin]
   apply hk'
   refine IH25 (v41, l30) _ _ _ h (by refine ⟨v38, ?_, ?_, ?_, ?_, sp⟩ <;> simp [hh, m3_1, m4_2, m7_6])
  replace h := h.2 dc27
  refine Runs.exit rfl ?_
  refine Runs.inBlock ?_
  refine zE fun k' hk' => ?_
  have f43 := Sep.oc sp
  obtain ⟨hb44, h⟩ := h
  obtain ⟨r45, er45, h⟩ := atm h
  simp [hh, m3_1, m4_2, m7_6, f43, dc27, -cellsA, -one1, cAx, o1x]
  refine RunK.callEff (xsA := [.agg (bC false g.pattern), .agg (bC false agent), .v (.slice none 0 0), .fn (.func 106) [] [pA (n5 + 1) 7]]) (ysA := [.agg (bC false g.pattern), .agg (bC false agent), .list false ([].map intC), .fn (.func 106) [] [pA (n5 + 1) 7]]) (caps := []) (I := VarI 1 (fun s vs => [gv vs 0]) (fun s vs => [(.s [.c], gv vs 0, .list true (s.map intC))]) (n5 + 1, 7)) (s := l22) (M := []) (R := []) (E := [oI v23 l22]) (K0 := []) (A := []) (W := [(n5 + 1, 7)]) (B := [(n1 + 1, 4), (n1, 3)]) Ty_ok (matchesY_ok (fun s m => holds1 m s) (fun s => ∀ m, MZ m → holds1_pre m s) e106 VarI.frame (fun s m v hG hm => holds1_ok m s (hG m hm) v (n5 + 1, 7)) g.pattern agent [] l22 hb44) (.cons (Sub.refl _) (.cons (Sub.refl _) (.cons (Sub.nil false) (.cons (Sub.refl _) .nil)))) e75 ⟨[v23], rfl, by simp [hh, m3_1, m4_2, m7_6, f43, dc27, gv, -cellsA, -one1, cAx, o1x]⟩ (by simp) sp (by decide) (by decide) rfl (by simp [hh, m3_1, m4_2, m7_6, f43, dc27, -cellsA, -one1, cAx, o1x]) ?_
  rintro _ H46 n47 _ _ ⟨rfl, rfl⟩ ⟨vs50, rfl, hmx⟩ sp hle49 hfr48
  rw [← er45] at sp
  try rw [← er45] at hmx
  rw [← er45]
  have m7_6 : H46 (n5 + 1, 7) = some ⟨1, [[(gv vs50 0)]]⟩ := hmx
  replace sp : Sep H46 n47 [oI (gv vs50 0) r45.1] [(n5 + 1, 7), (n1 + 1, 4), (n1, 3)] := sp
  have m3_1 : H46 (n1, 3) = some ⟨8, [gC false g]⟩ := (hfr48 _ (by simp)).trans (by simp [hh, m3_1, m4_2, m7_6, Heap.get_set])
  have m4_2 : H46 (n1 + 1, 4) = some ⟨6, [bC false agent]⟩ := (hfr48 _ (by simp)).trans (by simp [hh, m3_1, m4_2, m7_6, Heap.get_set])
  simp [hh, m3_1, m4_2, m7_6, f43, dc27, -cellsA, -one1, cAx, o1x]
  apply hk'
  refine Runs.cut (fun ρ H n => (ρ 3 = pA n1 3 ∧ ρ 9 = bool (!r45.2)) ∧ H (n1, 3) = some ⟨8, [gC false g]⟩ ∧ Sep H n [] [(n1, 3)]) (by refine ⟨?_, ?_, (Sep.sub sp.dr (by simp +contextual))⟩ <;> simp [hh, m3_1, m4_2, m7_6, f43, dc27, -cellsA, -one1, cAx, o1x]) ?_
  clear hh m3_1 m4_2 m7_6
  rintro ρ H n52 ⟨hh, m3_1, sp⟩
  refine zE fun k' hk' => ?_
  obtain ⟨c53, ec53, h⟩ := atm h
  have f54 := bb_neq ec53
  simp [hh, m3_1, f54, -boolBin]
  apply hk'
  exact Runs.ret1 (v := bool c53) Tryz.func57 Tryz.results57 (by simp [hh, m3_1]) (hQ _ _ _ _ (.of (.v _)) ⟨c53, h, rfl⟩)
 replace h := h.2 dc10
 refine zE fun k' hk' => ?_
 obtain ⟨c55, ec55, h⟩ := atm h
 have f56 := ib_eql (k := .i64) ec55
 simp [hh, m3_1, m4_2, m5_3, m7_6, f56, dc10, -intBin]
 apply hk'
 refine Runs.ite (b := c55) (by simp [hh, m3_1, m4_2, m5_3, m7_6, dc10]) (fun dc55 => ?_) (fun dc55 => ?_)
 ·replace h := h.1 dc55
  refine zF fun k' hk' => ?_
  obtain ⟨hb57, h⟩ := h
  obtain ⟨r58, er58, h⟩ := atm h
  simp [hh, m3_1, m4_2, m5_3, m7_6, dc10, dc55]
  refine RunK.callW Ty_ok (restOf_ok agent m hb57) e104 (.cons (argB false agent) (.cons (argM false m) .nil)) sp (by decide) (by decide) rfl (by simp [hh, m3_1, m4_2, m5_3, m7_6, dc10, dc55]) ?_
  rintro v59 H60 n61 _ sp rfl hle63 hfr62
  rw [← er58] at sp
  have m3_1 : H60 (n1, 3) = some ⟨8, [gC false g]⟩ := (hfr62 _ (by simp)).trans (by simp [hh, m3_1, m4_2, m5_3, m7_6, Heap.get_set])
  have m4_2 : H60 (n1 + 1, 4) = some ⟨6, [bC false agent]⟩ := (hfr62 _ (by simp)).trans (by simp [hh, m3_1, m4_2, m5_3, m7_6, Heap.get_set])
  have m5_3 : H60 (n1 + 2, 5) = some ⟨2, [mC false m]⟩ := (hfr62 _ (by simp)).trans (by simp [hh, m3_1, m4_2, m5_3, m7_6, Heap.get_set])
  have m7_6 : H60 (n5 + 1, 7) = some ⟨1, [[v8]]⟩ := (hfr62 _ (by simp)).trans (by simp [hh, m3_1, m4_2, m5_3, m7_6, Heap.get_set])
  have f66 := Sep.oc sp
  simp [hh, m3_1, m4_2, m5_3, m7_6, f66, dc10, dc55, -cellsA, -one1, cAx, o1x]
  apply hk'
  refine Runs.cut (fun ρ H n => ∃ (v67 : AVal), (ρ 3 = pA n1 3 ∧ ρ 4 = pA (n1 + 1) 4 ∧ ρ 7 = pA (n5 + 1) 7) ∧ H (n1, 3) = some ⟨8, [gC false g]⟩ ∧ H (n1 + 1, 4) = some ⟨6, [bC false agent]⟩ ∧ H (n5 + 1, 7) = some ⟨1, [[v67]]⟩ ∧ Sep H n [oI v67 r58] [(n5 + 1, 7), (n1 + 1, 4), (n1, 3)]) (by refine ⟨v59, ?_, ?_, ?_, ?_, (Sep.sub (Sep.dr (Sep.f1 (Sep.setVar (w := (n5 + 1, 7)) sp (by simp)))) (by simp +contextual))⟩ <;> simp [hh, m3_1, m4_2, m5_3, m7_6, f66, dc10, dc55, -cellsA, -one1, cAx, o1x]) ?_
  clear hh m3_1 m4_2 m5_3 m7_6
  rintro ρ H n68 ⟨v67, hh, m3_1, m4_2, m7_6, sp⟩
  refine Runs.inBlock ?_
  refine zE fun k' hk' => ?_
  have f69 := Sep.oc sp
  obtain ⟨hb70, h⟩ := h
  obtain ⟨r71, er71, h⟩ := atm h
  simp [hh, m3_1, m4_2, m7_6, f69, -cellsA, -one1, cAx, o1x]
  refine RunK.callEff (xsA := [.agg (bC false g.pattern), .agg (bC false agent), .v (.slice none 0 0), .fn (.func 106) [] [pA (n5 + 1) 7]]) (ysA := [.agg (bC false g.pattern), .agg (bC false agent), .list false ([].map intC), .fn (.func 106) [] [pA (n5 + 1) 7]]) (caps := []) (I := VarI 1 (fun s vs => [gv vs 0]) (fun s vs => [(.s [.c], gv vs 0, .list true (s.map intC))]) (n5 + 1, 7)) (s := r58) (M := []) (R := []) (E := [oI v67 r58]) (K0 := []) (A := []) (W := [(n5 + 1, 7)]) (B := [(n1 + 1, 4), (n1, 3)]) Ty_ok (matchesY_ok (fun s m => holds1 m s) (fun s => ∀ m, MZ m → holds1_pre m s) e106 VarI.frame (fun s m v hG hm => holds1_ok m s (hG m hm) v (n5 + 1, 7)) g.pattern agent [] r58 hb70) (.cons (Sub.refl _) (.cons (Sub.refl _) (.cons (Sub.nil false) (.cons (Sub.refl _) .nil)))) e75 ⟨[v67], rfl, by simp [hh, m3_1, m4_2, m7_6, f69, gv, -cellsA, -one1, cAx, o1x]⟩ (by simp) sp (by decide) (by decide) rfl (by simp [hh, m3_1, m4_2, m7_6, f69, -cellsA, -one1, cAx, o1x]) ?_
  rintro _ H72 n73 _ _ ⟨rfl, rfl⟩ ⟨vs76, rfl, hmx⟩ sp hle75 hfr74
  rw [← er71] at sp
  try rw [← er71] at hmx
  rw [← er71]
  have m7_6 : H72 (n5 + 1, 7) = some ⟨1, [[(gv vs76 0)]]⟩ := hmx
  replace sp : Sep H72 n73 [oI (gv vs76 0) r71.1] [(n5 + 1, 7), (n1 + 1, 4), (n1, 3)] := sp
  have m3_1 : H72 (n1, 3) = some ⟨8, [gC false g]⟩ := (hfr74 _ (by simp)).trans (by simp [hh, m3_1, m4_2, m7_6, Heap.get_set])
  have m4_2 : H72 (n1 + 1, 4) = some ⟨6, [bC false agent]⟩ := (hfr74 _ (by simp)).trans (by simp [hh, m3_1, m4_2, m7_6, Heap.get_set])
  simp [hh, m3_1, m4_2, m7_6, f69, -cellsA, -one1, cAx, o1x]
  apply hk'
  refine Runs.cut (fun ρ H n => (ρ 3 = pA n1 3 ∧ ρ 9 = bool (!r71.2)) ∧ H (n1, 3) = some ⟨8, [gC false g]⟩ ∧ Sep H n [] [(n1, 3)]) (by refine ⟨?_, ?_, (Sep.sub sp.dr (by simp +contextual))⟩ <;> simp [hh, m3_1, m4_2, m7_6, f69, -cellsA, -one1, cAx, o1x]) ?_
  clear hh m3_1 m4_2 m7_6
  rintro ρ H n78 ⟨hh, m3_1, sp⟩
  refine zE fun k' hk' => ?_
  obtain ⟨c79, ec79, h⟩ := atm h
  have f80 := bb_neq ec79
  simp [hh, m3_1, f80, -boolBin]
  apply hk'
  exact Runs.ret1 (v := bool c79) Tryz.func57 Tryz.results57 (by simp [hh, m3_1]) (hQ _ _ _ _ (.of (.v _)) ⟨c79, h, rfl⟩)
 replace h := h.2 dc55
 refine zF fun k' hk' => ?_
 obtain ⟨hb81, h⟩ := h
 obtain ⟨r82, er82, h⟩ := atm h
 simp [hh, m3_1, m4_2, m5_3, m7_6, dc10, dc55]
 refine RunK.callW Ty_ok (parameterOf_ok agent m hb81) e105 (.cons (argB false agent) (.cons (argM false m) .nil)) sp (by decide) (by decide) rfl (by simp [hh, m3_1, m4_2, m5_3, m7_6, dc10, dc55]) ?_
 rintro v83 H84 n85 _ sp rfl hle87 hfr86
 rw [← er82] at sp
 have m3_1 : H84 (n1, 3) = some ⟨8, [gC false g]⟩ := (hfr86 _ (by simp)).trans (by simp [hh, m3_1, m4_2, m5_3, m7_6, Heap.get_set])
 have m4_2 : H84 (n1 + 1, 4) = some ⟨6, [bC false agent]⟩ := (hfr86 _ (by simp)).trans (by simp [hh, m3_1, m4_2, m5_3, m7_6, Heap.get_set])
 have m5_3 : H84 (n1 + 2, 5) = some ⟨2, [mC false m]⟩ := (hfr86 _ (by simp)).trans (by simp [hh, m3_1, m4_2, m5_3, m7_6, Heap.get_set])
 have m7_6 : H84 (n5 + 1, 7) = some ⟨1, [[v8]]⟩ := (hfr86 _ (by simp)).trans (by simp [hh, m3_1, m4_2, m5_3, m7_6, Heap.get_set])
 have f90 := Sep.oc sp
 simp [hh, m3_1, m4_2, m5_3, m7_6, f90, dc10, dc55, -cellsA, -one1, cAx, o1x]
 apply hk'
 refine Runs.cut (fun ρ H n => ∃ (v91 : AVal), (ρ 3 = pA n1 3 ∧ ρ 4 = pA (n1 + 1) 4 ∧ ρ 7 = pA (n5 + 1) 7) ∧ H (n1, 3) = some ⟨8, [gC false g]⟩ ∧ H (n1 + 1, 4) = some ⟨6, [bC false agent]⟩ ∧ H (n5 + 1, 7) = some ⟨1, [[v91]]⟩ ∧ Sep H n [oI v91 r82] [(n5 + 1, 7), (n1 + 1, 4), (n1, 3)]) (by refine ⟨v83, ?_, ?_, ?_, ?_, (Sep.sub (Sep.dr (Sep.f1 (Sep.setVar (w := (n5 + 1, 7)) sp (by simp)))) (by simp +contextual))⟩ <;> simp [hh, m3_1, m4_2, m5_3, m7_6, f90, dc10, dc55, -cellsA, -one1, cAx, o1x]) ?_
 clear hh m3_1 m4_2 m5_3 m7_6
 rintro ρ H n92 ⟨v91, hh, m3_1, m4_2, m7_6, sp⟩
 refine Runs.inBlock ?_
 refine zE fun k' hk' => ?_
 have f93 := Sep.oc sp
 obtain ⟨hb94, h⟩ := h
 obtain ⟨r95, er95, h⟩ := atm h
 simp [hh, m3_1, m4_2, m7_6, f93, -cellsA, -one1, cAx, o1x]
 refine RunK.callEff (xsA := [.agg (bC false g.pattern), .agg (bC false agent), .v (.slice none 0 0), .fn (.func 106) [] [pA (n5 + 1) 7]]) (ysA := [.agg (bC false g.pattern), .agg (bC false agent), .list false ([].map intC), .fn (.func 106) [] [pA (n5 + 1) 7]]) (caps := []) (I := VarI 1 (fun s vs => [gv vs 0]) (fun s vs => [(.s [.c], gv vs 0, .list true (s.map intC))]) (n5 + 1, 7)) (s := r82) (M := []) (R := []) (E := [oI v91 r82]) (K0 := []) (A := []) (W := [(n5 + 1, 7)]) (B := [(n1 + 1, 4), (n1, 3)]) Ty_ok (matchesY_ok (fun s m => holds1 m s) (fun s => ∀ m, MZ m → holds1_pre m s) e106 VarI.frame (fun s m v hG hm => holds1_ok m s (hG m hm) v (n5 + 1, 7)) g.pattern agent [] r82 hb94) (.cons (Sub.refl _) (.cons (Sub.refl _) (.cons (Sub.nil false) (.cons (Sub.refl _) .nil)))) e75 ⟨[v91], rfl, by simp [hh, m3_1, m4_2, m7_6, f93, gv, -cellsA, -one1, cAx, o1x]⟩ (by simp) sp (by decide) (by decide) rfl (by simp [hh, m3_1, m4_2, m7_6, f93, -cellsA, -one1, cAx, o1x]) ?_
 rintro _ H96 n97 _ _ ⟨rfl, rfl⟩ ⟨vs100, rfl, hmx⟩ sp hle99 hfr98
 rw [← er95] at sp
 try rw [← er95] at hmx
 rw [← er95]
 have m7_6 : H96 (n5 + 1, 7) = some ⟨1, [[(gv vs100 0)]]⟩ := hmx
 replace sp : Sep H96 n97 [oI (gv vs100 0) r95.1] [(n5 + 1, 7), (n1 + 1, 4), (n1, 3)] := sp
 have m3_1 : H96 (n1, 3) = some ⟨8, [gC false g]⟩ := (hfr98 _ (by simp)).trans (by simp [hh, m3_1, m4_2, m7_6, Heap.get_set])
 have m4_2 : H96 (n1 + 1, 4) = some ⟨6, [bC false agent]⟩ := (hfr98 _ (by simp)).trans (by simp [hh, m3_1, m4_2, m7_6, Heap.get_set])
 simp [hh, m3_1, m4_2, m7_6, f93, -cellsA, -one1, cAx, o1x]
 apply hk'
 refine Runs.cut (fun ρ H n => (ρ 3 = pA n1 3 ∧ ρ 9 = bool (!r95.2)) ∧ H (n1, 3) = some ⟨8, [gC false g]⟩ ∧ Sep H n [] [(n1, 3)]) (by refine ⟨?_, ?_, (Sep.sub sp.dr (by simp +contextual))⟩ <;> simp [hh, m3_1, m4_2, m7_6, f93, -cellsA, -one1, cAx, o1x]) ?_
 clear hh m3_1 m4_2 m7_6
 rintro ρ H n102 ⟨hh, m3_1, sp⟩
 refine zE fun k' hk' => ?_
 obtain ⟨c103, ec103, h⟩ := atm h
 have f104 := bb_neq ec103
 simp [hh, m3_1, f104, -boolBin]
 apply hk'
 exact Runs.ret1 (v := bool c103) Tryz.func57 Tryz.results57 (by simp [hh, m3_1]) (hQ _ _ _ _ (.of (.v _)) ⟨c103, h, rfl⟩)
theorem holds_ok (g : Guard) (agent : Big) (m : Match) (hp : holds_pre g agent m) : PureC Tryz.prog 57 [.agg (gC false g), .agg (bC false agent), .agg (mC false m)] (fun r => r = bool (holds g agent m)) := (holds_walk g agent m _ (holds_vc g agent m hp)).mono (by rintro _ ⟨_, rfl, rfl⟩; rfl)
theorem e17 : Ent Tryz.prog 17 := Ent.of Tryz.func17 (by kernel_rfl) rfl
theorem GuardHolds_walk (sig : List Control) (g : Guard) (r_ : Rule) (agent : Big) (m : Match) (Z : (Bool × Bool) → Prop) (h : GuardHolds_wp sig g r_ agent m Z) : PureC Tryz.prog 17 [.list false (sig.map Control.cells), .agg (gC false g), .agg (rC false r_), .agg (bC false agent), .agg (mC false m)] (fun r => ∃ y : Bool × Bool, Z y ∧ r = .tup [bool y.1, bool y.2]) := by
 unfold GuardHolds_wp at h
 refine PureC.of Tryz.func17 rfl Tryz.ntmps17 (by simp) fun Q hQ => ?_
 refine Runs.cut (fun ρ H n => (ρ 0 = .list false (sig.map Control.cells) ∧ ρ 1 = .agg (gC false g) ∧ ρ 2 = .agg (rC false r_) ∧ ρ 3 = .agg (bC false agent) ∧ ρ 4 = .agg (mC false m))) (by simp) ?_
 rintro ρ H n1 hh
 refine zE fun k' hk' => ?_
 simp [hh]
 apply hk'
 refine Runs.cut (fun ρ H n => (ρ 0 = .list false (sig.map Control.cells) ∧ ρ 6 = pA n1 6 ∧ ρ 7 = pA (n1 + 1) 7 ∧ ρ 8 = pA (n1 + 2) 8 ∧ ρ 9 = pA (n1 + 3) 9) ∧ H (n1, 6) = some ⟨8, [gC false g]⟩ ∧ H (n1 + 1, 7) = some ⟨13, [rC false r_]⟩ ∧ H (n1 + 2, 8) = some ⟨6, [bC false agent]⟩ ∧ H (n1 + 3, 9) = some ⟨2, [mC false m]⟩) (by refine ⟨?_, ?_, ?_, ?_, ?_⟩ <;> simp [hh]) ?_
 clear hh
 rintro ρ H n6 ⟨hh, m6_1, m7_2, m8_3, m9_4⟩
 refine Runs.seq ?_
 refine zE fun k' hk' => ?_
 obtain ⟨J7, hJ8, hr9⟩ := h
 have fin11 : ∀ (sJ : Bool) (ρ : Env) (H : Heap) (n : Nat), J7 sJ → (match sJ with | b10 => (ρ 6 = pA n1 6 ∧ ρ 8 = pA (n1 + 2) 8 ∧ ρ 9 = pA (n1 + 3) 9 ∧ ρ 30 = bool b10) ∧ H (n1, 6) = some ⟨8, [gC false g]⟩ ∧ H (n1 + 2, 8) = some ⟨6, [bC false agent]⟩ ∧ H (n1 + 3, 9) = some ⟨2, [mC false m]⟩) → Runs Tryz.prog 17 35 k' ρ H n Q := by
  rintro b10 ρ H n12 h ⟨hh, m6_1, m8_3, m9_4⟩
  replace h := hr9 _ h
  apply hk'
  refine Runs.ite (b := b10) (by simp [hh, m6_1, m8_3, m9_4]) (fun db10 => ?_) (fun db10 => ?_)
  ·replace h := h.1 db10
   refine zE fun k' hk' => ?_
   simp [hh, m6_1, m8_3, m9_4, db10]
   apply hk'
   exact Runs.ret2 (v := bool false) (w := bool false) Tryz.func17 Tryz.results17 (by simp [hh, m6_1, m8_3, m9_4, db10]) (by simp [hh, m6_1, m8_3, m9_4, db10]) (hQ _ _ _ _ (.of (.tupL (.cons (.v _) (.cons (.v _) .nil)))) ⟨(false, false), h, rfl⟩)
  replace h := h.2 db10
  refine Runs.skip ?_
  refine zE fun k' hk' => ?_
  obtain ⟨hb13, h⟩ := h
  obtain ⟨r14, er14, h⟩ := atm h
  simp [hh, m6_1, m8_3, m9_4, db10]
  refine RunK.callA Ty_ok (holds_ok g agent m hb13) e57 (.cons (argG false g) (.cons (argB false agent) (.cons (argM false m) .nil))) (by decide) (by decide) rfl (by simp [hh, m6_1, m8_3, m9_4, db10]) ?_
  rintro _ rfl
  rw [← er14]
  simp [hh, m6_1, m8_3, m9_4, db10]
  apply hk'
  exact Runs.ret2 (v := bool r14) (w := bool true) Tryz.func17 Tryz.results17 (by simp [hh, m6_1, m8_3, m9_4, db10]) (by simp [hh, m6_1, m8_3, m9_4, db10]) (hQ _ _ _ _ (.of (.tupL (.cons (.v _) (.cons (.v _) .nil)))) ⟨(r14, true), h, rfl⟩)
 replace h := hJ8
 obtain ⟨hb15, h⟩ := h
 obtain ⟨r16, er16, h⟩ := atm h
 simp [hh, m6_1, m7_2, m8_3, m9_4]
 refine RunK.callA Ty_ok (IsRule_ok sig r_ hb15) e54 (.cons (argC false sig) (.cons (argR false r_) .nil)) (by decide) (by decide) rfl (by simp [hh, m6_1, m7_2, m8_3, m9_4]) ?_
 rintro _ rfl
 rw [← er16]
 rcases Bool.eq_false_or_eq_true r16 with dr16 | dr16
 ·replace h := h.1 dr16
  obtain ⟨hb17, h⟩ := h
  obtain ⟨r18, er18, h⟩ := atm h
  simp [hh, m6_1, m7_2, m8_3, m9_4, dr16]
  refine RunK.callA Ty_ok (isGuard_ok sig g hb17) e55 (.cons (argC false sig) (.cons (argG false g) .nil)) (by decide) (by decide) rfl (by simp [hh, m6_1, m7_2, m8_3, m9_4, dr16]) ?_
  rintro _ rfl
  rw [← er18]
  rcases Bool.eq_false_or_eq_true r18 with dr18 | dr18
  ·replace h := h.1 dr18
   obtain ⟨hb19, h⟩ := h
   obtain ⟨r20, er20, h⟩ := atm h
   simp [hh, m6_1, m7_2, m8_3, m9_4, dr16, dr18]
   refine RunK.callA Ty_ok (isMatched_ok sig r_.redex agent m hb19) e56 (.cons (argC false sig) (.cons (argB false r_.redex) (.cons (argB false agent) (.cons (argM false m) .nil)))) (by decide) (by decide) rfl (by simp [hh, m6_1, m7_2, m8_3, m9_4, dr16, dr18]) ?_
   rintro _ rfl
   rw [← er20]
   simp [hh, m6_1, m7_2, m8_3, m9_4, dr16, dr18]
   exact fin11 ((!r20)) _ _ _ h (by refine ⟨?_, ?_, ?_, ?_⟩ <;> simp [hh, m6_1, m7_2, m8_3, m9_4, dr16, dr18])
  replace h := h.2 dr18
  simp [hh, m6_1, m7_2, m8_3, m9_4, dr16, dr18]
  exact fin11 (true) _ _ _ h (by refine ⟨?_, ?_, ?_, ?_⟩ <;> simp [hh, m6_1, m7_2, m8_3, m9_4, dr16, dr18])
 replace h := h.2 dr16
 simp [hh, m6_1, m7_2, m8_3, m9_4, dr16]
 exact fin11 (true) _ _ _ h (by refine ⟨?_, ?_, ?_, ?_⟩ <;> simp [hh, m6_1, m7_2, m8_3, m9_4, dr16])
theorem GuardHolds_ok (sig : List Control) (g : Guard) (r_ : Rule) (agent : Big) (m : Match) (hp : GuardHolds_pre sig g r_ agent m) : PureC Tryz.prog 17 [.list false (sig.map Control.cells), .agg (gC false g), .agg (rC false r_), .agg (bC false agent), .agg (mC false m)] (fun r => r = .tup [bool ((GuardHolds sig g r_ agent m).1), bool ((GuardHolds sig g r_ agent m).2)]) := (GuardHolds_walk sig g r_ agent m _ (GuardHolds_vc sig g r_ agent m hp)).mono (by rintro _ ⟨_, rfl, rfl⟩; rfl)
theorem e90 : Ent Tryz.prog 90 := Ent.of Tryz.func90 (by kernel_rfl) rfl
theorem l3SameNames_walk (a : List Str) (b : List Str) (Z : Bool → Prop) (h : l3SameNames_wp a b Z) : PureC Tryz.prog 90 [.list false (a.map strC), .list false (b.map strC)] (fun r => ∃ y : Bool, Z y ∧ r = bool y) := by
 unfold l3SameNames_wp at h
 refine PureC.of Tryz.func90 rfl Tryz.ntmps90 (by simp) fun Q hQ => ?_
 refine Runs.cut (fun ρ H n => (ρ 0 = .list false (a.map strC) ∧ ρ 1 = .list false (b.map strC))) (by simp) ?_
 rintro ρ H n1 hh
 refine zE fun k' hk' => ?_
 simp [hh]
 apply hk'
 refine Runs.seq ?_
 refine zE fun k' hk' => ?_
 simp [hh]
 apply hk'
 refine Runs.block ?_
 refine Runs.loopW h (fun (sJ : Int) ρ H n => match sJ with | i4 => (ρ 0 = .list false (a.map strC) ∧ ρ 1 = .list false (b.map strC) ∧ ρ 5 = int i4)) (by simp [hh]) ?_
 clear hh
 rintro i4 ρ H n5 K h hh IH6
 refine Runs.seq ?_
 refine zE fun k' hk' => ?_
 obtain ⟨J8, hJ9, hr10⟩ := h
 have fin12 : ∀ (sJ : Bool) (ρ : Env) (H : Heap) (n : Nat), J8 sJ → (match sJ with | b11 => (ρ 0 = .list false (a.map strC) ∧ ρ 1 = .list false (b.map strC) ∧ ρ 5 = int i4 ∧ ρ 15 = bool b11)) → Runs Tryz.prog 90 32 k' ρ H n Q := by
  rintro b11 ρ H n13 h hh
  replace h := hr10 _ h
  apply hk'
  refine Runs.ite (b := b11) (by simp [hh]) (fun db11 => ?_) (fun db11 => ?_)
  ·replace h := h.1 db11
   refine Runs.skip ?_
   refine Runs.seq ?_
   refine Runs.block ?_
   refine Runs.seqD Ty_ok kindOp_ok draws (by decide) (by kernel_rfl) fun k' hk' => ?_
   obtain ⟨hb14, h⟩ := h
   obtain ⟨x15, ex15, h⟩ := atm h
   have f16 := fun H => ix_list (H := H) (fr := false) (f := strC) (k := .i64) kd_25 (fun _ => rfl) hb14 ex15
   obtain ⟨hb17, h⟩ := h
   obtain ⟨x18, ex18, h⟩ := atm h
   have f19 := fun H => ix_list (H := H) (fr := false) (f := strC) (k := .i64) kd_25 (fun _ => rfl) hb17 ex18
   obtain ⟨c20, ec20, h⟩ := atm h
   have f21 := sb_neq ec20
   simp [hh, f16, f19, f21, db11, -indexAddrF, -strBin]
   apply hk'
   refine Runs.ite (b := c20) (by simp [hh, db11]) (fun dc20 => ?_) (fun dc20 => ?_)
   ·replace h := h.1 dc20
    refine zE fun k' hk' => ?_
    simp [hh, db11, dc20]
    apply hk'
    exact Runs.ret1 (v := bool false) Tryz.func90 Tryz.results90 (by simp [hh, db11, dc20]) (hQ _ _ _ _ (.of (.v _)) ⟨false, h, rfl⟩)
   replace h := h.2 dc20
   refine Runs.skip ?_
   refine Runs.inBlock ?_
   refine zF fun k' hk' => ?_
   obtain ⟨hb22, h⟩ := h
   obtain ⟨v23, ev23, h⟩ := atm h
   have f24 := ib_add hb22 ev23
   simp [hh, f24, db11, dc20, -intBin]
   apply hk'
   refine IH6 (v23) _ _ _ h (by simp [hh, db11, dc20])
  replace h := h.2 db11
  refine Runs.exit rfl ?_
  refine zE fun k' hk' => ?_
  obtain ⟨len25, elen25, h⟩ := atm h
  have f26 := fun H => len_list (H := H) (fr := false) (f := strC) kd_25 elen25
  obtain ⟨len27, elen27, h⟩ := atm h
  have f28 := fun H => len_list (H := H) (fr := false) (f := strC) kd_25 elen27
  obtain ⟨c29, ec29, h⟩ := atm h
  have f30 := ib_eql (k := .i64) ec29
  simp [hh, f26, f28, f30, db11, -intBin, -lenF]
  apply hk'
  exact Runs.ret1 (v := bool c29) Tryz.func90 Tryz.results90 (by simp [hh, db11]) (hQ _ _ _ _ (.of (.v _)) ⟨c29, h, rfl⟩)
 replace h := hJ9
 obtain ⟨len31, elen31, h⟩ := atm h
 have f32 := fun H => len_list (H := H) (fr := false) (f := strC) kd_25 elen31
 obtain ⟨c33, ec33, h⟩ := atm h
 have f34 := ib_lss (k := .i64) ec33
 rcases Bool.eq_false_or_eq_true c33 with dc33 | dc33
 ·replace h := h.1 dc33
  obtain ⟨len35, elen35, h⟩ := atm h
  have f36 := fun H => len_list (H := H) (fr := false) (f := strC) kd_25 elen35
  obtain ⟨c37, ec37, h⟩ := atm h
  have f38 := ib_lss (k := .i64) ec37
  simp [hh, f32, f34, f36, f38, dc33, -intBin, -lenF]
  exact fin12 (c37) _ _ _ h (by simp [hh, f32, f34, f36, f38, dc33, -intBin, -lenF])
 replace h := h.2 dc33
 simp [hh, f32, f34, dc33, -intBin, -lenF]
 exact fin12 (false) _ _ _ h (by simp [hh, f32, f34, dc33, -intBin, -lenF])
theorem l3SameNames_ok (a : List Str) (b : List Str) (hp : l3SameNames_pre a b) : PureC Tryz.prog 90 [.list false (a.map strC), .list false (b.map strC)] (fun r => r = bool (l3SameNames a b)) := (l3SameNames_walk a b _ (l3SameNames_vc a b hp)).mono (by rintro _ ⟨_, rfl, rfl⟩; rfl)
theorem e91 : Ent Tryz.prog 91 := Ent.of Tryz.func91 (by kernel_rfl) rfl
theorem l9Copies_walk (r_ : Rule) (Z : Bool → Prop) (h : l9Copies_wp r_ Z) : PureC Tryz.prog 91 [.agg (rC false r_)] (fun r => ∃ y : Bool, Z y ∧ r = bool y) := by
 unfold l9Copies_wp at h
 refine PureC.of Tryz.func91 rfl Tryz.ntmps91 (by simp) fun Q hQ => ?_
 refine Runs.cut (fun ρ H n => ρ 0 = .agg (rC false r_)) (by simp) ?_
 rintro ρ H n1 hh
 refine zE fun k' hk' => ?_
 simp [hh]
 apply hk'
 refine Runs.cut (fun ρ H n => ρ 1 = pA n1 1 ∧ H (n1, 1) = some ⟨13, [rC false r_]⟩) (by refine ⟨?_, ?_⟩ <;> simp [hh]) ?_
 clear hh
 rintro ρ H n3 ⟨hh, m1_1⟩
 refine Runs.seq ?_
 refine zE fun k' hk' => ?_
 simp [hh, m1_1]
 apply hk'
 refine Runs.block ?_
 refine Runs.loopW h (fun (sJ : Int) ρ H n => match sJ with | i6 => (ρ 1 = pA n1 1 ∧ ρ 3 = int i6) ∧ H (n1, 1) = some ⟨13, [rC false r_]⟩) (by refine ⟨?_, ?_⟩ <;> simp [hh, m1_1]) ?_
 clear hh m1_1
 rintro i6 ρ H n7 K h ⟨hh, m1_1⟩ IH8
 refine Runs.seq ?_
 refine zE fun k' hk' => ?_
 obtain ⟨len10, elen10, h⟩ := atm h
 have f11 := fun H => len_list (H := H) (fr := false) (f := intC) kd_24 elen10
 obtain ⟨c12, ec12, h⟩ := atm h
 have f13 := ib_lss (k := .i64) ec12
 simp [hh, m1_1, f11, f13, -intBin, -lenF]
 apply hk'
 refine Runs.ite (b := c12) (by simp [hh, m1_1]) (fun dc12 => ?_) (fun dc12 => ?_)
 ·replace h := h.1 dc12
  refine Runs.skip ?_
  refine Runs.seq ?_
  refine Runs.block ?_
  refine Runs.seqD Ty_ok kindOp_ok draws (by decide) (by kernel_rfl) fun k' hk' => ?_
  obtain ⟨hb14, h⟩ := h
  obtain ⟨x15, ex15, h⟩ := atm h
  have f16 := fun H => ix_list (H := H) (fr := false) (f := intC) (k := .i64) kd_24 (fun _ => rfl) hb14 ex15
  obtain ⟨len17, elen17, h⟩ := atm h
  have f18 := fun H => len_list (H := H) (fr := false) (f := intC) kd_24 elen17
  obtain ⟨hb19, h⟩ := h
  obtain ⟨v20, ev20, h⟩ := atm h
  have f21 := ib_sub hb19 ev20
  obtain ⟨r22, er22, h⟩ := atm h
  simp [hh, m1_1, f16, f18, f21, dc12, -indexAddrF, -intBin, -lenF]
  refine RunDK.callA Ty_ok kindOp_ok (l1In_ok x15 0 v20) e88 (.cons (.v _ _ _) (.cons (.v _ _ _) (.cons (.v _ _ _) .nil))) (by decide) rfl (by simp [hh, m1_1, f16, f18, f21, dc12, -indexAddrF, -intBin, -lenF]) ?_
  rw [← er22]
  simp [hh, m1_1, f16, f18, f21, dc12, -indexAddrF, -intBin, -lenF]
  apply hk'
  refine Runs.cut (fun ρ H n => (ρ 1 = pA n1 1 ∧ ρ 3 = int i6 ∧ ρ 22 = bool (!r22)) ∧ H (n1, 1) = some ⟨13, [rC false r_]⟩) (by refine ⟨?_, ?_⟩ <;> simp [hh, m1_1, f16, f18, f21, dc12, -indexAddrF, -intBin, -lenF]) ?_
  clear hh m1_1
  rintro ρ H n23 ⟨hh, m1_1⟩
  refine Runs.ite (b := (!r22)) (by simp [hh, m1_1]) (fun dr22 => ?_) (fun dr22 => ?_)
  ·have dr22 : r22 = false := by simpa using dr22
   replace h := h.2 dr22
   refine zE fun k' hk' => ?_
   simp [hh, m1_1, dr22]
   apply hk'
   exact Runs.ret1 (v := bool false) Tryz.func91 Tryz.results91 (by simp [hh, m1_1, dr22]) (hQ _ _ _ _ (.of (.v _)) ⟨false, h, rfl⟩)
  have dr22 : r22 = true := by simpa using dr22
  replace h := h.1 dr22
  refine Runs.skip ?_
  refine Runs.inBlock ?_
  refine zF fun k' hk' => ?_
  obtain ⟨hb24, h⟩ := h
  obtain ⟨v25, ev25, h⟩ := atm h
  have f26 := ib_add hb24 ev25
  simp [hh, m1_1, f26, dr22, -intBin]
  apply hk'
  refine IH8 (v25) _ _ _ h (by refine ⟨?_, ?_⟩ <;> simp [hh, m1_1, dr22])
 replace h := h.2 dc12
 refine Runs.exit rfl ?_
 refine zE fun k' hk' => ?_
 obtain ⟨len27, elen27, h⟩ := atm h
 have f28 := fun H => len_list (H := H) (fr := false) (f := intC) kd_24 elen27
 obtain ⟨len29, elen29, h⟩ := atm h
 have f30 := fun H => len_list (H := H) (fr := false) (f := intC) kd_24 elen29
 obtain ⟨c31, ec31, h⟩ := atm h
 have f32 := ib_eql (k := .i64) ec31
 simp [hh, m1_1, f28, f30, f32, dc12, -intBin, -lenF]
 apply hk'
 exact Runs.ret1 (v := bool c31) Tryz.func91 Tryz.results91 (by simp [hh, m1_1, dc12]) (hQ _ _ _ _ (.of (.v _)) ⟨c31, h, rfl⟩)
theorem l9Copies_ok (r_ : Rule) (hp : l9Copies_pre r_) : PureC Tryz.prog 91 [.agg (rC false r_)] (fun r => r = bool (l9Copies r_)) := (l9Copies_walk r_ _ (l9Copies_vc r_ hp)).mono (by rintro _ ⟨_, rfl, rfl⟩; rfl)
theorem e46 : Ent Tryz.prog 46 := Ent.of Tryz.func46 (by kernel_rfl) rfl
theorem l9Good_walk (sig : List Control) (r_ : Rule) (Z : Bool → Prop) (h : l9Good_wp sig r_ Z) : PureC Tryz.prog 46 [.list false (sig.map Control.cells), .agg (rC false r_)] (fun r => ∃ y : Bool, Z y ∧ r = bool y) := by
 unfold l9Good_wp at h
 refine PureC.of Tryz.func46 rfl Tryz.ntmps46 (by simp) fun Q hQ => ?_
 refine Runs.cut (fun ρ H n => (ρ 0 = .list false (sig.map Control.cells) ∧ ρ 1 = .agg (rC false r_))) (by simp) ?_
 rintro ρ H n1 hh
 refine zE fun k' hk' => ?_
 simp [hh]
 apply hk'
 refine Runs.cut (fun ρ H n => (ρ 0 = .list false (sig.map Control.cells) ∧ ρ 3 = pA n1 3) ∧ H (n1, 3) = some ⟨13, [rC false r_]⟩) (by refine ⟨?_, ?_⟩ <;> simp [hh]) ?_
 clear hh
 rintro ρ H n3 ⟨hh, m3_1⟩
 refine zE fun k' hk' => ?_
 obtain ⟨J4, hJ5, hr6⟩ := h
 have fin8 : ∀ (sJ : Bool) (ρ : Env) (H : Heap) (n : Nat), J4 sJ → (match sJ with | b7 => ρ 4 = bool b7) → Runs Tryz.prog 46 44 k' ρ H n Q := by
  rintro b7 ρ H n9 h hh
  replace h := hr6 _ h
  apply hk'
  exact Runs.ret1 (v := bool b7) Tryz.func46 Tryz.results46 (by simp [hh]) (hQ _ _ _ _ (.of (.v _)) ⟨b7, h, rfl⟩)
 replace h := hJ5
 obtain ⟨hb10, h⟩ := h
 obtain ⟨r11, er11, h⟩ := atm h
 simp [hh, m3_1]
 refine RunK.callA Ty_ok (l8Redex_ok sig r_.redex hb10) e64 (.cons (argC false sig) (.cons (argB false r_.redex) .nil)) (by decide) (by decide) rfl (by simp [hh, m3_1]) ?_
 rintro _ rfl
 rw [← er11]
 rcases Bool.eq_false_or_eq_true r11 with dr11 | dr11
 ·replace h := h.1 dr11
  obtain ⟨hb12, h⟩ := h
  obtain ⟨r13, er13, h⟩ := atm h
  simp [hh, m3_1, dr11]
  refine RunK.callA Ty_ok (l2Good_ok sig r_.reactum hb12) e89 (.cons (argC false sig) (.cons (argB false r_.reactum) .nil)) (by decide) (by decide) rfl (by simp [hh, m3_1, dr11]) ?_
  rintro _ rfl
  rw [← er13]
  rcases Bool.eq_false_or_eq_true r13 with dr13 | dr13
  ·replace h := h.1 dr13
   obtain ⟨len14, elen14, h⟩ := atm h
   have f15 := fun H => len_list (H := H) (fr := false) (f := Wire.cells) kd_45 elen14
   obtain ⟨c16, ec16, h⟩ := atm h
   have f17 := ib_eql (k := .i64) ec16
   rcases Bool.eq_false_or_eq_true c16 with dc16 | dc16
   ·replace h := h.1 dc16
    obtain ⟨c18, ec18, h⟩ := atm h
    have f19 := ib_eql (k := .i64) ec18
    rcases Bool.eq_false_or_eq_true c18 with dc18 | dc18
    ·replace h := h.1 dc18
     obtain ⟨hb20, h⟩ := h
     obtain ⟨r21, er21, h⟩ := atm h
     simp [hh, m3_1, f15, f17, f19, dr11, dr13, dc16, dc18, -intBin, -lenF]
     refine RunK.callA Ty_ok (l3SameNames_ok r_.redex.outer r_.reactum.outer hb20) e90 (.cons (argS false r_.redex.outer) (.cons (argS false r_.reactum.outer) .nil)) (by decide) (by decide) rfl (by simp [hh, m3_1, f15, f17, f19, dr11, dr13, dc16, dc18, -intBin, -lenF]) ?_
     rintro _ rfl
     rw [← er21]
     rcases Bool.eq_false_or_eq_true r21 with dr21 | dr21
     ·replace h := h.1 dr21
      obtain ⟨hb22, h⟩ := h
      obtain ⟨r23, er23, h⟩ := atm h
      simp [hh, m3_1, f15, f17, f19, dr11, dr13, dc16, dc18, dr21, -intBin, -lenF]
      refine RunK.callA Ty_ok (l9Copies_ok r_ hb22) e91 (.cons (argR false r_) .nil) (by decide) (by decide) rfl (by simp [hh, m3_1, f15, f17, f19, dr11, dr13, dc16, dc18, dr21, -intBin, -lenF]) ?_
      rintro _ rfl
      rw [← er23]
      simp [hh, m3_1, f15, f17, f19, dr11, dr13, dc16, dc18, dr21, -intBin, -lenF]
      exact fin8 (r23) _ _ _ h (by simp [hh, m3_1, f15, f17, f19, dr11, dr13, dc16, dc18, dr21, -intBin, -lenF])
     replace h := h.2 dr21
     simp [hh, m3_1, f15, f17, f19, dr11, dr13, dc16, dc18, dr21, -intBin, -lenF]
     exact fin8 (false) _ _ _ h (by simp [hh, m3_1, f15, f17, f19, dr11, dr13, dc16, dc18, dr21, -intBin, -lenF])
    replace h := h.2 dc18
    simp [hh, m3_1, f15, f17, f19, dr11, dr13, dc16, dc18, -intBin, -lenF]
    exact fin8 (false) _ _ _ h (by simp [hh, m3_1, f15, f17, f19, dr11, dr13, dc16, dc18, -intBin, -lenF])
   replace h := h.2 dc16
   simp [hh, m3_1, f15, f17, dr11, dr13, dc16, -intBin, -lenF]
   exact fin8 (false) _ _ _ h (by simp [hh, m3_1, f15, f17, dr11, dr13, dc16, -intBin, -lenF])
  replace h := h.2 dr13
  simp [hh, m3_1, dr11, dr13]
  exact fin8 (false) _ _ _ h (by simp [hh, m3_1, dr11, dr13])
 replace h := h.2 dr11
 simp [hh, m3_1, dr11]
 exact fin8 (false) _ _ _ h (by simp [hh, m3_1, dr11])
theorem l9Good_ok (sig : List Control) (r_ : Rule) (hp : l9Good_pre sig r_) : PureC Tryz.prog 46 [.list false (sig.map Control.cells), .agg (rC false r_)] (fun r => r = bool (l9Good sig r_)) := (l9Good_walk sig r_ _ (l9Good_vc sig r_ hp)).mono (by rintro _ ⟨_, rfl, rfl⟩; rfl)
theorem e45 : Ent Tryz.prog 45 := Ent.of Tryz.func45 (by kernel_rfl) rfl
theorem l9Guard_walk (sig : List Control) (g : Guard) (Z : Bool → Prop) (h : l9Guard_wp sig g Z) : PureC Tryz.prog 45 [.list false (sig.map Control.cells), .agg (gC false g)] (fun r => ∃ y : Bool, Z y ∧ r = bool y) := by
 unfold l9Guard_wp at h
 refine PureC.of Tryz.func45 rfl Tryz.ntmps45 (by simp) fun Q hQ => ?_
 refine Runs.cut (fun ρ H n => (ρ 0 = .list false (sig.map Control.cells) ∧ ρ 1 = .agg (gC false g))) (by simp) ?_
 rintro ρ H n1 hh
 refine zE fun k' hk' => ?_
 simp [hh]
 apply hk'
 refine Runs.cut (fun ρ H n => (ρ 0 = .list false (sig.map Control.cells) ∧ ρ 3 = pA n1 3) ∧ H (n1, 3) = some ⟨8, [gC false g]⟩) (by refine ⟨?_, ?_⟩ <;> simp [hh]) ?_
 clear hh
 rintro ρ H n3 ⟨hh, m3_1⟩
 refine zE fun k' hk' => ?_
 obtain ⟨J4, hJ5, hr6⟩ := h
 have fin8 : ∀ (sJ : Bool) (ρ : Env) (H : Heap) (n : Nat), J4 sJ → (match sJ with | b7 => ρ 4 = bool b7) → Runs Tryz.prog 45 14 k' ρ H n Q := by
  rintro b7 ρ H n9 h hh
  replace h := hr6 _ h
  apply hk'
  exact Runs.ret1 (v := bool b7) Tryz.func45 Tryz.results45 (by simp [hh]) (hQ _ _ _ _ (.of (.v _)) ⟨b7, h, rfl⟩)
 replace h := hJ5
 obtain ⟨r10, er10, h⟩ := atm h
 simp [hh, m3_1]
 refine RunK.callA Ty_ok (l1In_ok g.zone 1 3) e88 (.cons (.v _ _ _) (.cons (.v _ _ _) (.cons (.v _ _ _) .nil))) (by decide) (by decide) rfl (by simp [hh, m3_1]) ?_
 rintro _ rfl
 rw [← er10]
 rcases Bool.eq_false_or_eq_true r10 with dr10 | dr10
 ·replace h := h.1 dr10
  obtain ⟨hb11, h⟩ := h
  obtain ⟨r12, er12, h⟩ := atm h
  simp [hh, m3_1, dr10]
  refine RunK.callA Ty_ok (l8Redex_ok sig g.pattern hb11) e64 (.cons (argC false sig) (.cons (argB false g.pattern) .nil)) (by decide) (by decide) rfl (by simp [hh, m3_1, dr10]) ?_
  rintro _ rfl
  rw [← er12]
  simp [hh, m3_1, dr10]
  exact fin8 (r12) _ _ _ h (by simp [hh, m3_1, dr10])
 replace h := h.2 dr10
 simp [hh, m3_1, dr10]
 exact fin8 (false) _ _ _ h (by simp [hh, m3_1, dr10])
theorem l9Guard_ok (sig : List Control) (g : Guard) (hp : l9Guard_pre sig g) : PureC Tryz.prog 45 [.list false (sig.map Control.cells), .agg (gC false g)] (fun r => r = bool (l9Guard sig g)) := (l9Guard_walk sig g _ (l9Guard_vc sig g hp)).mono (by rintro _ ⟨_, rfl, rfl⟩; rfl)
theorem e152 : Ent Tryz.prog 152 := Ent.of Tryz.func152 (by kernel_rfl) rfl
theorem l9May_walk (zone : Int) (agent : Big) (m : Match) (node : Int) (Z : Bool → Prop) (h : l9May_wp zone agent m node Z) : PureC Tryz.prog 152 [int zone, .agg (bC false agent), .agg (mC false m), int node] (fun r => ∃ y : Bool, Z y ∧ r = bool y) := by
 unfold l9May_wp at h
 refine PureC.of Tryz.func152 rfl Tryz.ntmps152 (by simp) fun Q hQ => ?_
 refine Runs.cut (fun ρ H n => (ρ 0 = int zone ∧ ρ 1 = .agg (bC false agent) ∧ ρ 2 = .agg (mC false m) ∧ ρ 3 = int node)) (by simp) ?_
 rintro ρ H n1 hh
 refine zE fun k' hk' => ?_
 simp [hh]
 apply hk'
 refine Runs.cut (fun ρ H n => (ρ 0 = int zone ∧ ρ 3 = int node ∧ ρ 5 = pA n1 5 ∧ ρ 6 = pA (n1 + 1) 6) ∧ H (n1, 5) = some ⟨6, [bC false agent]⟩ ∧ H (n1 + 1, 6) = some ⟨2, [mC false m]⟩) (by refine ⟨?_, ?_, ?_⟩ <;> simp [hh]) ?_
 clear hh
 rintro ρ H n4 ⟨hh, m5_1, m6_2⟩
 refine Runs.seq ?_
 refine zE fun k' hk' => ?_
 simp [hh, m5_1, m6_2]
 apply hk'
 refine Runs.block ?_
 refine zE fun k' hk' => ?_
 obtain ⟨c5, ec5, h⟩ := atm h
 have f6 := ib_eql (k := .i64) ec5
 simp [hh, m5_1, m6_2, f6, -intBin]
 apply hk'
 refine Runs.ite (b := c5) (by simp [hh, m5_1, m6_2]) (fun dc5 => ?_) (fun dc5 => ?_)
 ·replace h := h.1 dc5
  refine zE fun k' hk' => ?_
  obtain ⟨hb7, h⟩ := h
  obtain ⟨r8, er8, h⟩ := atm h
  simp [hh, m5_1, m6_2, dc5]
  refine RunK.callA Ty_ok (l8Inside_ok agent m node hb7) e172 (.cons (argB false agent) (.cons (argM false m) (.cons (.v _ _ _) .nil))) (by decide) (by decide) rfl (by simp [hh, m5_1, m6_2, dc5]) ?_
  rintro _ rfl
  rw [← er8]
  simp [hh, m5_1, m6_2, dc5]
  apply hk'
  exact Runs.ret1 (v := bool (!r8)) Tryz.func152 Tryz.results152 (by simp [hh, m5_1, m6_2, dc5]) (hQ _ _ _ _ (.of (.v _)) ⟨(!r8), h, rfl⟩)
 replace h := h.2 dc5
 refine zE fun k' hk' => ?_
 obtain ⟨c9, ec9, h⟩ := atm h
 have f10 := ib_eql (k := .i64) ec9
 simp [hh, m5_1, m6_2, f10, dc5, -intBin]
 apply hk'
 refine Runs.ite (b := c9) (by simp [hh, m5_1, m6_2, dc5]) (fun dc9 => ?_) (fun dc9 => ?_)
 ·replace h := h.1 dc9
  refine zE fun k' hk' => ?_
  obtain ⟨J11, hJ12, hr13⟩ := h
  have fin15 : ∀ (sJ : Bool) (ρ : Env) (H : Heap) (n : Nat), J11 sJ → (match sJ with | b14 => ρ 8 = bool b14) → Runs Tryz.prog 152 30 k' ρ H n Q := by
   rintro b14 ρ H n16 h hh
   replace h := hr13 _ h
   apply hk'
   exact Runs.ret1 (v := bool b14) Tryz.func152 Tryz.results152 (by simp [hh]) (hQ _ _ _ _ (.of (.v _)) ⟨b14, h, rfl⟩)
  replace h := hJ12
  obtain ⟨hb17, h⟩ := h
  obtain ⟨r18, er18, h⟩ := atm h
  simp [hh, m5_1, m6_2, dc5, dc9]
  refine RunK.callA Ty_ok (l8Inside_ok agent m node hb17) e172 (.cons (argB false agent) (.cons (argM false m) (.cons (.v _ _ _) .nil))) (by decide) (by decide) rfl (by simp [hh, m5_1, m6_2, dc5, dc9]) ?_
  rintro _ rfl
  rw [← er18]
  rcases Bool.eq_false_or_eq_true r18 with dr18 | dr18
  ·replace h := h.1 dr18
   obtain ⟨hb19, h⟩ := h
   obtain ⟨r20, er20, h⟩ := atm h
   simp [hh, m5_1, m6_2, dc5, dc9, dr18]
   refine RunK.callA Ty_ok (l1HasI_ok m.nodes node hb19) e163 (.cons (argI false m.nodes) (.cons (.v _ _ _) .nil)) (by decide) (by decide) rfl (by simp [hh, m5_1, m6_2, dc5, dc9, dr18]) ?_
   rintro _ rfl
   rw [← er20]
   simp [hh, m5_1, m6_2, dc5, dc9, dr18]
   exact fin15 ((!r20)) _ _ _ h (by simp [hh, m5_1, m6_2, dc5, dc9, dr18])
  replace h := h.2 dr18
  simp [hh, m5_1, m6_2, dc5, dc9, dr18]
  exact fin15 (false) _ _ _ h (by simp [hh, m5_1, m6_2, dc5, dc9, dr18])
 replace h := h.2 dc9
 refine Runs.skip ?_
 refine Runs.inBlock ?_
 refine zE fun k' hk' => ?_
 simp [hh, m5_1, m6_2, dc5, dc9]
 apply hk'
 exact Runs.ret1 (v := bool true) Tryz.func152 Tryz.results152 (by simp [hh, m5_1, m6_2, dc5, dc9]) (hQ _ _ _ _ (.of (.v _)) ⟨true, h, rfl⟩)
theorem l9May_ok (zone : Int) (agent : Big) (m : Match) (node : Int) (hp : l9May_pre zone agent m node) : PureC Tryz.prog 152 [int zone, .agg (bC false agent), .agg (mC false m), int node] (fun r => r = bool (l9May zone agent m node)) := (l9May_walk zone agent m node _ (l9May_vc zone agent m node hp)).mono (by rintro _ ⟨_, rfl, rfl⟩; rfl)
theorem e94 : Ent Tryz.prog 94 := Ent.of Tryz.func94 (by kernel_rfl) rfl
theorem l9Found_walk (g : Guard) (agent : Big) (m : Match) (nodes : List Int) (Z : Bool → Prop) (ih : ∀ gr agentr mr nodesr, l9Found_pre gr agentr mr nodesr → l9Found_ms gr agentr mr nodesr < l9Found_ms g agent m nodes → PureC Tryz.prog 94 [.agg (gC false gr), .agg (bC false agentr), .agg (mC false mr), .list false (nodesr.map intC)] (fun r => r = bool (l9Found gr agentr mr nodesr))) (h : l9Found_wp g agent m nodes Z) : PureC Tryz.prog 94 [.agg (gC false g), .agg (bC false agent), .agg (mC false m), .list false (nodes.map intC)] (fun r => ∃ y : Bool, Z y ∧ r = bool y) := by
 unfold l9Found_wp at h
 have sp : Sep noHeap 0 [] [] := Sep.nil (by simp)
 refine PureC.of Tryz.func94 rfl Tryz.ntmps94 (by simp) fun Q hQ => ?_
 refine Runs.cut (fun ρ H n => (ρ 0 = .agg (gC false g) ∧ ρ 1 = .agg (bC false agent) ∧ ρ 2 = .agg (mC false m) ∧ ρ 3 = .list false (nodes.map intC)) ∧ Sep H n [] []) (by refine ⟨?_, sp⟩ <;> simp ) ?_
 rintro ρ H n1 ⟨hh, sp⟩
 refine zE fun k' hk' => ?_
 simp [hh]
 apply hk'
 refine Runs.cut (fun ρ H n => (ρ 3 = .list false (nodes.map intC) ∧ ρ 4 = pA n1 4 ∧ ρ 5 = pA (n1 + 1) 5 ∧ ρ 6 = pA (n1 + 2) 6) ∧ H (n1, 4) = some ⟨8, [gC false g]⟩ ∧ H (n1 + 1, 5) = some ⟨6, [bC false agent]⟩ ∧ H (n1 + 2, 6) = some ⟨2, [mC false m]⟩ ∧ Sep H n [] [(n1 + 2, 6), (n1 + 1, 5), (n1, 4)]) (by refine ⟨?_, ?_, ?_, ?_, sp.var.var.var⟩ <;> simp [hh]) ?_
 clear hh
 rintro ρ H n5 ⟨hh, m4_1, m5_2, m6_3, sp⟩
 refine Runs.seq ?_
 refine zE fun k' hk' => ?_
 obtain ⟨len6, elen6, h⟩ := atm h
 have f7 := fun H => len_list (H := H) (fr := false) (f := intC) kd_24 elen6
 obtain ⟨len8, elen8, h⟩ := atm h
 have f9 := fun H => len_list (H := H) (fr := false) (f := (GNode.cells false)) kd_44 elen8
 obtain ⟨c10, ec10, h⟩ := atm h
 have f11 := ib_eql (k := .i64) ec10
 simp [hh, m4_1, m5_2, m6_3, f7, f9, f11, -intBin, -lenF]
 apply hk'
 refine Runs.ite (b := c10) (by simp [hh, m4_1, m5_2, m6_3]) (fun dc10 => ?_) (fun dc10 => ?_)
 ·replace h := h.1 dc10
  refine Runs.seqD Ty_ok kindOp_ok draws (by decide) (by kernel_rfl) fun k' hk' => ?_
  obtain ⟨hb12, h⟩ := h
  obtain ⟨r13, er13, h⟩ := atm h
  simp [hh, m4_1, m5_2, m6_3, dc10]
  refine RunDK.callA Ty_ok kindOp_ok ((l8Roots_ok g.pattern agent nodes hb12).pure) e113 (.cons (argB false g.pattern) (.cons (argB false agent) (.cons (argI false nodes) .nil))) (by decide) rfl (by simp [hh, m4_1, m5_2, m6_3, dc10]) ?_
  rw [← er13]
  obtain ⟨hb14, h⟩ := h
  obtain ⟨r15, er15, h⟩ := atm h
  simp [hh, m4_1, m5_2, m6_3, dc10]
  refine RunDK.callA Ty_ok kindOp_ok (l8Match_ok g.pattern agent (Match.mk nodes r13) hb14) e93 (.cons (argB false g.pattern) (.cons (argB false agent) (.cons (ArgOk.agg (.cons (argI false nodes) (.cons (argI true r13) .nil))) .nil))) (by decide) rfl (by simp [hh, m4_1, m5_2, m6_3, dc10]) ?_
  rw [← er15]
  simp [hh, m4_1, m5_2, m6_3, dc10]
  apply hk'
  refine Runs.cut (fun ρ H n => ρ 8 = bool r15 ∧ Sep H n [] []) (by refine ⟨?_, (Sep.sub sp (by simp +contextual))⟩ <;> simp [hh, m4_1, m5_2, m6_3, dc10]) ?_
  clear hh m4_1 m5_2 m6_3
  rintro ρ H n16 ⟨hh, sp⟩
  exact Runs.ret1 (v := bool r15) Tryz.func94 Tryz.results94 (by simp [hh]) (hQ _ _ _ _ (.of (.v _)) ⟨r15, h, rfl⟩)
 replace h := h.2 dc10
 refine Runs.skip ?_
 refine Runs.seq ?_
 refine zE fun k' hk' => ?_
 simp [hh, m4_1, m5_2, m6_3, dc10]
 apply hk'
 refine Runs.block ?_
 refine Runs.loopW h (fun (sJ : Int) ρ H n => match sJ with | x19 => (ρ 3 = .list false (nodes.map intC) ∧ ρ 4 = pA n1 4 ∧ ρ 5 = pA (n1 + 1) 5 ∧ ρ 6 = pA (n1 + 2) 6 ∧ ρ 9 = int x19) ∧ H (n1, 4) = some ⟨8, [gC false g]⟩ ∧ H (n1 + 1, 5) = some ⟨6, [bC false agent]⟩ ∧ H (n1 + 2, 6) = some ⟨2, [mC false m]⟩ ∧ Sep H n [] [(n1 + 2, 6), (n1 + 1, 5), (n1, 4)]) (by refine ⟨?_, ?_, ?_, ?_, sp⟩ <;> simp [hh, m4_1, m5_2, m6_3, dc10]) ?_
 clear hh m4_1 m5_2 m6_3
 rintro x19 ρ H n20 K h ⟨hh, m4_1, m5_2, m6_3, sp⟩ IH21
 refine Runs.seq ?_
 refine zE fun k' hk' => ?_
 obtain ⟨len23, elen23, h⟩ := atm h
 have f24 := fun H => len_list (H := H) (fr := false) (f := (GNode.cells false)) kd_44 elen23
 obtain ⟨c25, ec25, h⟩ := atm h
 have f26 := ib_lss (k := .i64) ec25
 simp [hh, m4_1, m5_2, m6_3, f24, f26, -intBin, -lenF]
 apply hk'
 refine Runs.ite (b := c25) (by simp [hh, m4_1, m5_2, m6_3]) (fun dc25 => ?_) (fun dc25 => ?_)
 ·replace h := h.1 dc25
  refine Runs.skip ?_
  refine Runs.seq ?_
  refine Runs.block ?_
  refine Runs.cut (fun ρ H n => (ρ 3 = .list false (nodes.map intC) ∧ ρ 4 = pA n1 4 ∧ ρ 5 = pA (n1 + 1) 5 ∧ ρ 6 = pA (n1 + 2) 6 ∧ ρ 9 = int x19) ∧ H (n1, 4) = some ⟨8, [gC false g]⟩ ∧ H (n1 + 1, 5) = some ⟨6, [bC false agent]⟩ ∧ H (n1 + 2, 6) = some ⟨2, [mC false m]⟩ ∧ Sep H n [] [(n1 + 2, 6), (n1 + 1, 5), (n1, 4)]) (by refine ⟨?_, ?_, ?_, ?_, sp⟩ <;> simp [hh, m4_1, m5_2, m6_3, dc25]) ?_
  clear hh m4_1 m5_2 m6_3
  rintro ρ H n27 ⟨hh, m4_1, m5_2, m6_3, sp⟩
  obtain ⟨hb28, h⟩ := h
  obtain ⟨r29, er29, h⟩ := atm h
  rcases Bool.eq_false_or_eq_true r29 with dr29 | dr29
  ·replace h := h.1 dr29
   obtain ⟨hb30, h⟩ := h
   obtain ⟨r31, er31, h⟩ := atm h
   rcases Bool.eq_false_or_eq_true r31 with dr31 | dr31
   ·replace h := h.1 dr31
    obtain ⟨hb32, h⟩ := h
    obtain ⟨r33, er33, h⟩ := atm h
    obtain ⟨hb35, h⟩ := h
    obtain ⟨l36, el36, h⟩ := atm h
    obtain ⟨hb37, h⟩ := h
    obtain ⟨r38, er38, h⟩ := atm h
    refine Runs.seqC (fun H n => H (n1, 4) = some ⟨8, [gC false g]⟩ ∧ H (n1 + 1, 5) = some ⟨6, [bC false agent]⟩ ∧ H (n1 + 2, 6) = some ⟨2, [mC false m]⟩ ∧ Sep H n [] [(n1 + 2, 6), (n1 + 1, 5), (n1, 4)]) [19, 22, 23, 24] (.free 0 (.free 1 (.free 2 (.free 3 (.free 4 (.free 5 (.free 6 (.free 7 (.free 8 (.free 9 (.free 10 (.free 11 (.free 12 (.free 13 (.free 14 (.free 15 (.free 16 (.free 17 (.free 18 (.free 20 (.free 21 (.hard 19 (.hard 22 (.hard 23 (.hard 24 (.fin) (.stop)) (.stop)) (.stop)) (.stop))))))))))))))))))))))) (fun ρ H n => (ρ 3 = .list false (nodes.map intC) ∧ ρ 4 = pA n1 4 ∧ ρ 5 = pA (n1 + 1) 5 ∧ ρ 6 = pA (n1 + 2) 6 ∧ ρ 9 = int x19 ∧ ρ 59 = bool r38) ∧ H (n1, 4) = some ⟨8, [gC false g]⟩ ∧ H (n1 + 1, 5) = some ⟨6, [bC false agent]⟩ ∧ H (n1 + 2, 6) = some ⟨2, [mC false m]⟩ ∧ Sep H n [] [(n1 + 2, 6), (n1 + 1, 5), (n1, 4)]) draws (by decide) (by kernel_rfl) ?_ ?_
    ·refine RunT.free (.ptr (n1, 4) 1 0 2) rfl rfl ⟨m4_1, m5_2, m6_3, sp⟩ (fun H n hS => by obtain ⟨m4_1, m5_2, m6_3, sp⟩ := hS; exact (by exact stepF_ok Ty_ok (by rw [stepF_loc]; simp [hh, m4_1, m5_2, m6_3]))) ?_
     refine RunT.free (.agg (bC false g.pattern)) rfl rfl ⟨m4_1, m5_2, m6_3, sp⟩ (fun H n hS => by obtain ⟨m4_1, m5_2, m6_3, sp⟩ := hS; exact (by exact stepF_ok Ty_ok (by rw [stepF_loc]; simp [hh, m4_1, m5_2, m6_3]))) ?_
     refine RunT.free (.agg (bC false agent)) rfl rfl ⟨m4_1, m5_2, m6_3, sp⟩ (fun H n hS => by obtain ⟨m4_1, m5_2, m6_3, sp⟩ := hS; exact (by exact stepF_ok Ty_ok (by rw [stepF_loc]; simp [hh, m4_1, m5_2, m6_3]))) ?_
     refine RunT.free (.list false (nodes.map intC)) rfl rfl ⟨m4_1, m5_2, m6_3, sp⟩ (fun H n hS => by obtain ⟨m4_1, m5_2, m6_3, sp⟩ := hS; exact (by exact stepF_ok Ty_ok (by rw [stepF_loc]; simp [hh, m4_1, m5_2, m6_3]))) ?_
     refine RunT.free (int x19) rfl rfl ⟨m4_1, m5_2, m6_3, sp⟩ (fun H n hS => by obtain ⟨m4_1, m5_2, m6_3, sp⟩ := hS; exact (by exact stepF_ok Ty_ok (by rw [stepF_loc]; simp [hh, m4_1, m5_2, m6_3]))) ?_
     refine RunT.free (bool r29) rfl rfl ⟨m4_1, m5_2, m6_3, sp⟩ (fun H n hS => by obtain ⟨m4_1, m5_2, m6_3, sp⟩ := hS; exact (by rw [er29]; exact OpSem.callD2 (xs := [.agg (bC false g.pattern), .agg (bC false agent), .list false (nodes.map intC), int x19]) (l8Can_ok g.pattern agent nodes x19 hb28) e114 (.cons (argB false g.pattern) (.cons (argB false agent) (.cons (argI false nodes) (.cons (.v _ _ _) .nil)))) (by simp [hh, m4_1, m5_2, m6_3]) (by simp [hh, m4_1, m5_2, m6_3]))) ?_
     refine RunT.free (bool r29) rfl rfl ⟨m4_1, m5_2, m6_3, sp⟩ (fun H n hS => by obtain ⟨m4_1, m5_2, m6_3, sp⟩ := hS; exact (by exact stepF_ok Ty_ok (by rw [stepF_loc]; simp [hh, m4_1, m5_2, m6_3, dr29]))) ?_
     refine RunT.free (pA n1 4) rfl (by simp [gok, guardOf, hh, m4_1, m5_2, m6_3, dr29]) ⟨m4_1, m5_2, m6_3, sp⟩ (fun H n hS => by obtain ⟨m4_1, m5_2, m6_3, sp⟩ := hS; exact (by exact stepF_ok Ty_ok (by rw [stepF_loc]; simp [hh, m4_1, m5_2, m6_3, dr29]))) ?_
     refine RunT.free (int g.zone) rfl (by simp [gok, guardOf, hh, m4_1, m5_2, m6_3, dr29]) ⟨m4_1, m5_2, m6_3, sp⟩ (fun H n hS => by obtain ⟨m4_1, m5_2, m6_3, sp⟩ := hS; exact (by exact stepF_ok Ty_ok (by rw [stepF_loc]; simp [hh, m4_1, m5_2, m6_3, dr29]))) ?_
     refine RunT.free (.agg (bC false agent)) rfl (by simp [gok, guardOf, hh, m4_1, m5_2, m6_3, dr29]) ⟨m4_1, m5_2, m6_3, sp⟩ (fun H n hS => by obtain ⟨m4_1, m5_2, m6_3, sp⟩ := hS; exact (by exact stepF_ok Ty_ok (by rw [stepF_loc]; simp [hh, m4_1, m5_2, m6_3, dr29]))) ?_
     refine RunT.free (.agg (mC false m)) rfl (by simp [gok, guardOf, hh, m4_1, m5_2, m6_3, dr29]) ⟨m4_1, m5_2, m6_3, sp⟩ (fun H n hS => by obtain ⟨m4_1, m5_2, m6_3, sp⟩ := hS; exact (by exact stepF_ok Ty_ok (by rw [stepF_loc]; simp [hh, m4_1, m5_2, m6_3, dr29]))) ?_
     refine RunT.free (int x19) rfl (by simp [gok, guardOf, hh, m4_1, m5_2, m6_3, dr29]) ⟨m4_1, m5_2, m6_3, sp⟩ (fun H n hS => by obtain ⟨m4_1, m5_2, m6_3, sp⟩ := hS; exact (by exact stepF_ok Ty_ok (by rw [stepF_loc]; simp [hh, m4_1, m5_2, m6_3, dr29]))) ?_
     refine RunT.free (bool r31) rfl (by simp [gok, guardOf, hh, m4_1, m5_2, m6_3, dr29]) ⟨m4_1, m5_2, m6_3, sp⟩ (fun H n hS => by obtain ⟨m4_1, m5_2, m6_3, sp⟩ := hS; exact (by rw [er31]; exact OpSem.callD2 (xs := [int g.zone, .agg (bC false agent), .agg (mC false m), int x19]) (l9May_ok g.zone agent m x19 hb30) e152 (.cons (.v _ _ _) (.cons (argB false agent) (.cons (argM false m) (.cons (.v _ _ _) .nil)))) (by simp [hh, m4_1, m5_2, m6_3, dr29]) (by simp [hh, m4_1, m5_2, m6_3, dr29]))) ?_
     refine RunT.free (bool r31) rfl rfl ⟨m4_1, m5_2, m6_3, sp⟩ (fun H n hS => by obtain ⟨m4_1, m5_2, m6_3, sp⟩ := hS; exact (by exact stepF_ok Ty_ok (by rw [stepF_loc]; simp [hh, m4_1, m5_2, m6_3, dr29, dr31]))) ?_
     refine RunT.free (bool r31) rfl rfl ⟨m4_1, m5_2, m6_3, sp⟩ (fun H n hS => by obtain ⟨m4_1, m5_2, m6_3, sp⟩ := hS; exact (by exact stepF_ok Ty_ok (by rw [stepF_loc]; simp [hh, m4_1, m5_2, m6_3, dr29, dr31]))) ?_
     refine RunT.free (.agg (gC false g)) rfl (by simp [gok, guardOf, hh, m4_1, m5_2, m6_3, dr29, dr31]) ⟨m4_1, m5_2, m6_3, sp⟩ (fun H n hS => by obtain ⟨m4_1, m5_2, m6_3, sp⟩ := hS; exact (by exact stepF_ok Ty_ok (by rw [stepF_loc]; simp [hh, m4_1, m5_2, m6_3, dr29, dr31]))) ?_
     refine RunT.free (.agg (bC false agent)) rfl (by simp [gok, guardOf, hh, m4_1, m5_2, m6_3, dr29, dr31]) ⟨m4_1, m5_2, m6_3, sp⟩ (fun H n hS => by obtain ⟨m4_1, m5_2, m6_3, sp⟩ := hS; exact (by exact stepF_ok Ty_ok (by rw [stepF_loc]; simp [hh, m4_1, m5_2, m6_3, dr29, dr31]))) ?_
     refine RunT.free (.agg (mC false m)) rfl (by simp [gok, guardOf, hh, m4_1, m5_2, m6_3, dr29, dr31]) ⟨m4_1, m5_2, m6_3, sp⟩ (fun H n hS => by obtain ⟨m4_1, m5_2, m6_3, sp⟩ := hS; exact (by exact stepF_ok Ty_ok (by rw [stepF_loc]; simp [hh, m4_1, m5_2, m6_3, dr29, dr31]))) ?_
     refine RunT.free (.list false (nodes.map intC)) rfl (by simp [gok, guardOf, hh, m4_1, m5_2, m6_3, dr29, dr31]) ⟨m4_1, m5_2, m6_3, sp⟩ (fun H n hS => by obtain ⟨m4_1, m5_2, m6_3, sp⟩ := hS; exact (by exact stepF_ok Ty_ok (by rw [stepF_loc]; simp [hh, m4_1, m5_2, m6_3, dr29, dr31]))) ?_
     refine RunT.free (int x19) rfl (by simp [gok, guardOf, hh, m4_1, m5_2, m6_3, dr29, dr31]) ⟨m4_1, m5_2, m6_3, sp⟩ (fun H n hS => by obtain ⟨m4_1, m5_2, m6_3, sp⟩ := hS; exact (by exact stepF_ok Ty_ok (by rw [stepF_loc]; simp [hh, m4_1, m5_2, m6_3, dr29, dr31]))) ?_
     refine RunT.free (.list true ([x19].map intC)) rfl (by simp [gok, guardOf, hh, m4_1, m5_2, m6_3, dr29, dr31]) ⟨m4_1, m5_2, m6_3, sp⟩ (fun H n hS => by obtain ⟨m4_1, m5_2, m6_3, sp⟩ := hS; exact (by exact stepF_ok Ty_ok (by rw [stepF_loc]; simp [hh, m4_1, m5_2, m6_3, dr29, dr31]))) ?_
     refine ⟨?_, trivial⟩
     refine RunT.callW (as1 := [.list false (nodes.map intC)]) rfl (by simp [gok, guardOf, hh, m4_1, m5_2, m6_3, dr29, dr31]) (l1Own_ok nodes hb32) e112 (.cons (argI false nodes) .nil) sp (by simp [hh, m4_1, m5_2, m6_3, dr29, dr31]) (by simp [hh, m4_1, m5_2, m6_3, dr29, dr31]) ?_
     rintro v44 H40 n41 _ sp rfl hle43 hfr42
     rw [← er33] at sp
     replace sp : Sep H40 n41 [oI v44 r33] [(n1 + 2, 6), (n1 + 1, 5), (n1, 4)] := sp
     have m4_1 : H40 (n1, 4) = some ⟨8, [gC false g]⟩ := (hfr42 _ (by simp)).trans (by simp [hh, m4_1, m5_2, m6_3, Heap.get_set])
     have m5_2 : H40 (n1 + 1, 5) = some ⟨6, [bC false agent]⟩ := (hfr42 _ (by simp)).trans (by simp [hh, m4_1, m5_2, m6_3, Heap.get_set])
     have m6_3 : H40 (n1 + 2, 6) = some ⟨2, [mC false m]⟩ := (hfr42 _ (by simp)).trans (by simp [hh, m4_1, m5_2, m6_3, Heap.get_set])
     refine ⟨(fun _ => ⟨m4_1, m5_2, m6_3, sp.dr⟩), ?_⟩
     refine ⟨?_, trivial⟩
     refine RunT.append (v := v44) (xv := (.list true ([x19].map intC))) Ty_ok [] [] [[int x19]] [intC x19] rfl (by simp [gok, guardOf, hh, m4_1, m5_2, m6_3, dr29, dr31]) (by simp [hh, m4_1, m5_2, m6_3, dr29, dr31]) (by simp [hh, m4_1, m5_2, m6_3, dr29, dr31]) sp kd_24 (by simp) (by simp) (by simp [srcOf]) (by simp [-one1, o1x]) (rows_one (Fill.v _ Fill.nil)) (by simp) (by simpa using hb35) ?_
     rintro v51 H47 n48 sp hfr49 hle50
     replace sp : Sep H47 n48 [oI v51 l36] [(n1 + 2, 6), (n1 + 1, 5), (n1, 4)] := by refine Sep.ap el36 ?_; exact sp
     have m4_1 : H47 (n1, 4) = some ⟨8, [gC false g]⟩ := (hfr49 _ (by simp)).trans (by simp [hh, m4_1, m5_2, m6_3, Heap.get_set])
     have m5_2 : H47 (n1 + 1, 5) = some ⟨6, [bC false agent]⟩ := (hfr49 _ (by simp)).trans (by simp [hh, m4_1, m5_2, m6_3, Heap.get_set])
     have m6_3 : H47 (n1 + 2, 6) = some ⟨2, [mC false m]⟩ := (hfr49 _ (by simp)).trans (by simp [hh, m4_1, m5_2, m6_3, Heap.get_set])
     refine ⟨(fun _ => ⟨m4_1, m5_2, m6_3, sp.dr⟩), ?_⟩
     refine ⟨?_, trivial⟩
     refine RunT.callA (as1 := [.agg (gC false g), .agg (bC false agent), .agg (mC false m), v51]) rfl (by simp [gok, guardOf, hh, m4_1, m5_2, m6_3, dr29, dr31]) (ih g agent m l36 hb37.1 hb37.2) e94 (.cons (argG false g) (.cons (argB false agent) (.cons (argM false m) (.cons (Sep.argOk' sp (old_listF (by simp))) .nil)))) (by simp [hh, m4_1, m5_2, m6_3, dr29, dr31]) (by simp [hh, m4_1, m5_2, m6_3, dr29, dr31]) (fun hl => absurd (hl.symm.trans (show lateC _ _ _ = true by kernel_rfl)) (by decide)) ?_
     rw [← er38]
     refine ⟨?_, trivial⟩
     refine RunT.same (v := (bool r38)) Ty_ok rfl rfl (by simp [hh, m4_1, m5_2, m6_3, dr29, dr31]) (fun hl => absurd (hl.symm.trans (show lateC _ _ _ = true by kernel_rfl)) (by decide)) ?_
     refine RunT.fin (by refine ⟨?_, ?_, ?_, ?_, sp.dr⟩ <;> simp [hh, m4_1, m5_2, m6_3, dr29, dr31])
    clear hh m4_1 m5_2 m6_3
    rintro ρ H n39 ⟨hh, m4_1, m5_2, m6_3, sp⟩
    refine Runs.ite (b := r38) (by simp [hh, m4_1, m5_2, m6_3]) (fun dr38 => ?_) (fun dr38 => ?_)
    ·replace h := h.1 dr38
     refine zE fun k' hk' => ?_
     simp [hh, m4_1, m5_2, m6_3, dr38]
     apply hk'
     exact Runs.ret1 (v := bool true) Tryz.func94 Tryz.results94 (by simp [hh, m4_1, m5_2, m6_3, dr38]) (hQ _ _ _ _ (.of (.v _)) ⟨true, h, rfl⟩)
    replace h := h.2 dr38
    refine Runs.skip ?_
    refine Runs.inBlock ?_
    refine zF fun k' hk' => ?_
    obtain ⟨hb66, h⟩ := h
    obtain ⟨v67, ev67, h⟩ := atm h
    have f68 := ib_add hb66 ev67
    simp [hh, m4_1, m5_2, m6_3, f68, dr38, -intBin]
    apply hk'
    refine IH21 (v67) _ _ _ h (by refine ⟨?_, ?_, ?_, ?_, sp⟩ <;> simp [hh, m4_1, m5_2, m6_3, dr38])
   replace h := h.2 dr31
   refine Runs.seqC (fun H n => H (n1, 4) = some ⟨8, [gC false g]⟩ ∧ H (n1 + 1, 5) = some ⟨6, [bC false agent]⟩ ∧ H (n1 + 2, 6) = some ⟨2, [mC false m]⟩ ∧ Sep H n [] [(n1 + 2, 6), (n1 + 1, 5), (n1, 4)]) [] (.free 0 (.free 1 (.free 2 (.free 3 (.free 4 (.free 5 (.free 6 (.free 7 (.free 8 (.free 9 (.free 10 (.free 11 (.free 12 (.free 13 (.free 14 (.free 15 (.free 16 (.free 17 (.free 18 (.free 19 (.free 20 (.free 21 (.free 22 (.free 23 (.free 24 (.fin)))))))))))))))))))))))))) (fun ρ H n => (ρ 3 = .list false (nodes.map intC) ∧ ρ 4 = pA n1 4 ∧ ρ 5 = pA (n1 + 1) 5 ∧ ρ 6 = pA (n1 + 2) 6 ∧ ρ 9 = int x19 ∧ ρ 59 = bool false) ∧ H (n1, 4) = some ⟨8, [gC false g]⟩ ∧ H (n1 + 1, 5) = some ⟨6, [bC false agent]⟩ ∧ H (n1 + 2, 6) = some ⟨2, [mC false m]⟩ ∧ Sep H n [] [(n1 + 2, 6), (n1 + 1, 5), (n1, 4)]) draws (by decide) (by kernel_rfl) ?_ ?_
   ·refine RunT.free (.ptr (n1, 4) 1 0 2) rfl rfl ⟨m4_1, m5_2, m6_3, sp⟩ (fun H n hS => by obtain ⟨m4_1, m5_2, m6_3, sp⟩ := hS; exact (by exact stepF_ok Ty_ok (by rw [stepF_loc]; simp [hh, m4_1, m5_2, m6_3]))) ?_
    refine RunT.free (.agg (bC false g.pattern)) rfl rfl ⟨m4_1, m5_2, m6_3, sp⟩ (fun H n hS => by obtain ⟨m4_1, m5_2, m6_3, sp⟩ := hS; exact (by exact stepF_ok Ty_ok (by rw [stepF_loc]; simp [hh, m4_1, m5_2, m6_3]))) ?_
    refine RunT.free (.agg (bC false agent)) rfl rfl ⟨m4_1, m5_2, m6_3, sp⟩ (fun H n hS => by obtain ⟨m4_1, m5_2, m6_3, sp⟩ := hS; exact (by exact stepF_ok Ty_ok (by rw [stepF_loc]; simp [hh, m4_1, m5_2, m6_3]))) ?_
    refine RunT.free (.list false (nodes.map intC)) rfl rfl ⟨m4_1, m5_2, m6_3, sp⟩ (fun H n hS => by obtain ⟨m4_1, m5_2, m6_3, sp⟩ := hS; exact (by exact stepF_ok Ty_ok (by rw [stepF_loc]; simp [hh, m4_1, m5_2, m6_3]))) ?_
    refine RunT.free (int x19) rfl rfl ⟨m4_1, m5_2, m6_3, sp⟩ (fun H n hS => by obtain ⟨m4_1, m5_2, m6_3, sp⟩ := hS; exact (by exact stepF_ok Ty_ok (by rw [stepF_loc]; simp [hh, m4_1, m5_2, m6_3]))) ?_
    refine RunT.free (bool r29) rfl rfl ⟨m4_1, m5_2, m6_3, sp⟩ (fun H n hS => by obtain ⟨m4_1, m5_2, m6_3, sp⟩ := hS; exact (by rw [er29]; exact OpSem.callD2 (xs := [.agg (bC false g.pattern), .agg (bC false agent), .list false (nodes.map intC), int x19]) (l8Can_ok g.pattern agent nodes x19 hb28) e114 (.cons (argB false g.pattern) (.cons (argB false agent) (.cons (argI false nodes) (.cons (.v _ _ _) .nil)))) (by simp [hh, m4_1, m5_2, m6_3]) (by simp [hh, m4_1, m5_2, m6_3]))) ?_
    refine RunT.free (bool r29) rfl rfl ⟨m4_1, m5_2, m6_3, sp⟩ (fun H n hS => by obtain ⟨m4_1, m5_2, m6_3, sp⟩ := hS; exact (by exact stepF_ok Ty_ok (by rw [stepF_loc]; simp [hh, m4_1, m5_2, m6_3, dr29]))) ?_
    refine RunT.free (pA n1 4) rfl (by simp [gok, guardOf, hh, m4_1, m5_2, m6_3, dr29]) ⟨m4_1, m5_2, m6_3, sp⟩ (fun H n hS => by obtain ⟨m4_1, m5_2, m6_3, sp⟩ := hS; exact (by exact stepF_ok Ty_ok (by rw [stepF_loc]; simp [hh, m4_1, m5_2, m6_3, dr29]))) ?_
    refine RunT.free (int g.zone) rfl (by simp [gok, guardOf, hh, m4_1, m5_2, m6_3, dr29]) ⟨m4_1, m5_2, m6_3, sp⟩ (fun H n hS => by obtain ⟨m4_1, m5_2, m6_3, sp⟩ := hS; exact (by exact stepF_ok Ty_ok (by rw [stepF_loc]; simp [hh, m4_1, m5_2, m6_3, dr29]))) ?_
    refine RunT.free (.agg (bC false agent)) rfl (by simp [gok, guardOf, hh, m4_1, m5_2, m6_3, dr29]) ⟨m4_1, m5_2, m6_3, sp⟩ (fun H n hS => by obtain ⟨m4_1, m5_2, m6_3, sp⟩ := hS; exact (by exact stepF_ok Ty_ok (by rw [stepF_loc]; simp [hh, m4_1, m5_2, m6_3, dr29]))) ?_
    refine RunT.free (.agg (mC false m)) rfl (by simp [gok, guardOf, hh, m4_1, m5_2, m6_3, dr29]) ⟨m4_1, m5_2, m6_3, sp⟩ (fun H n hS => by obtain ⟨m4_1, m5_2, m6_3, sp⟩ := hS; exact (by exact stepF_ok Ty_ok (by rw [stepF_loc]; simp [hh, m4_1, m5_2, m6_3, dr29]))) ?_
    refine RunT.free (int x19) rfl (by simp [gok, guardOf, hh, m4_1, m5_2, m6_3, dr29]) ⟨m4_1, m5_2, m6_3, sp⟩ (fun H n hS => by obtain ⟨m4_1, m5_2, m6_3, sp⟩ := hS; exact (by exact stepF_ok Ty_ok (by rw [stepF_loc]; simp [hh, m4_1, m5_2, m6_3, dr29]))) ?_
    refine RunT.free (bool r31) rfl (by simp [gok, guardOf, hh, m4_1, m5_2, m6_3, dr29]) ⟨m4_1, m5_2, m6_3, sp⟩ (fun H n hS => by obtain ⟨m4_1, m5_2, m6_3, sp⟩ := hS; exact (by rw [er31]; exact OpSem.callD2 (xs := [int g.zone, .agg (bC false agent), .agg (mC false m), int x19]) (l9May_ok g.zone agent m x19 hb30) e152 (.cons (.v _ _ _) (.cons (argB false agent) (.cons (argM false m) (.cons (.v _ _ _) .nil)))) (by simp [hh, m4_1, m5_2, m6_3, dr29]) (by simp [hh, m4_1, m5_2, m6_3, dr29]))) ?_
    refine RunT.free (bool r31) rfl rfl ⟨m4_1, m5_2, m6_3, sp⟩ (fun H n hS => by obtain ⟨m4_1, m5_2, m6_3, sp⟩ := hS; exact (by exact stepF_ok Ty_ok (by rw [stepF_loc]; simp [hh, m4_1, m5_2, m6_3, dr29, dr31]))) ?_
    refine RunT.free (bool r31) rfl rfl ⟨m4_1, m5_2, m6_3, sp⟩ (fun H n hS => by obtain ⟨m4_1, m5_2, m6_3, sp⟩ := hS; exact (by exact stepF_ok Ty_ok (by rw [stepF_loc]; simp [hh, m4_1, m5_2, m6_3, dr29, dr31]))) ?_
    refine RunT.skip rfl (by simp [gok, guardOf, hh, m4_1, m5_2, m6_3, dr29, dr31]) ⟨m4_1, m5_2, m6_3, sp⟩ ?_
    refine RunT.skip rfl (by simp [gok, guardOf, hh, m4_1, m5_2, m6_3, dr29, dr31]) ⟨m4_1, m5_2, m6_3, sp⟩ ?_
    refine RunT.skip rfl (by simp [gok, guardOf, hh, m4_1, m5_2, m6_3, dr29, dr31]) ⟨m4_1, m5_2, m6_3, sp⟩ ?_
    refine RunT.skip rfl (by simp [gok, guardOf, hh, m4_1, m5_2, m6_3, dr29, dr31]) ⟨m4_1, m5_2, m6_3, sp⟩ ?_
    refine RunT.skip rfl (by simp [gok, guardOf, hh, m4_1, m5_2, m6_3, dr29, dr31]) ⟨m4_1, m5_2, m6_3, sp⟩ ?_
    refine RunT.skip rfl (by simp [gok, guardOf, hh, m4_1, m5_2, m6_3, dr29, dr31]) ⟨m4_1, m5_2, m6_3, sp⟩ ?_
    refine RunT.skip rfl (by simp [gok, guardOf, hh, m4_1, m5_2, m6_3, dr29, dr31]) ⟨m4_1, m5_2, m6_3, sp⟩ ?_
    refine RunT.skip rfl (by simp [gok, guardOf, hh, m4_1, m5_2, m6_3, dr29, dr31]) ⟨m4_1, m5_2, m6_3, sp⟩ ?_
    refine RunT.skip rfl (by simp [gok, guardOf, hh, m4_1, m5_2, m6_3, dr29, dr31]) ⟨m4_1, m5_2, m6_3, sp⟩ ?_
    refine RunT.free (bool false) rfl rfl ⟨m4_1, m5_2, m6_3, sp⟩ (fun H n hS => by obtain ⟨m4_1, m5_2, m6_3, sp⟩ := hS; exact (by exact stepF_ok Ty_ok (by rw [stepF_loc]; simp [hh, m4_1, m5_2, m6_3, dr29, dr31]))) ?_
    refine RunT.fin (by refine ⟨?_, ?_, ?_, ?_, sp⟩ <;> simp [hh, m4_1, m5_2, m6_3, dr29, dr31])
   clear hh m4_1 m5_2 m6_3
   rintro ρ H n69 ⟨hh, m4_1, m5_2, m6_3, sp⟩
   refine Runs.cond (b := false) (by simp [hh, m4_1, m5_2, m6_3]) ?_
   simp only [if_true, if_false, Bool.false_eq_true, ↓reduceIte]
   refine Runs.skip ?_
   refine Runs.inBlock ?_
   refine zF fun k' hk' => ?_
   obtain ⟨hb70, h⟩ := h
   obtain ⟨v71, ev71, h⟩ := atm h
   have f72 := ib_add hb70 ev71
   simp [hh, m4_1, m5_2, m6_3, f72, -intBin]
   apply hk'
   refine IH21 (v71) _ _ _ h (by refine ⟨?_, ?_, ?_, ?_, sp⟩ <;> simp [hh, m4_1, m5_2, m6_3])
  replace h := h.2 dr29
  refine Runs.seqC (fun H n => H (n1, 4) = some ⟨8, [gC false g]⟩ ∧ H (n1 + 1, 5) = some ⟨6, [bC false agent]⟩ ∧ H (n1 + 2, 6) = some ⟨2, [mC false m]⟩ ∧ Sep H n [] [(n1 + 2, 6), (n1 + 1, 5), (n1, 4)]) [] (.free 0 (.free 1 (.free 2 (.free 3 (.free 4 (.free 5 (.free 6 (.free 7 (.free 8 (.free 9 (.free 10 (.free 11 (.free 12 (.free 13 (.free 14 (.free 15 (.free 16 (.free 17 (.free 18 (.free 19 (.free 20 (.free 21 (.free 22 (.free 23 (.free 24 (.fin)))))))))))))))))))))))))) (fun ρ H n => (ρ 3 = .list false (nodes.map intC) ∧ ρ 4 = pA n1 4 ∧ ρ 5 = pA (n1 + 1) 5 ∧ ρ 6 = pA (n1 + 2) 6 ∧ ρ 9 = int x19 ∧ ρ 59 = bool false) ∧ H (n1, 4) = some ⟨8, [gC false g]⟩ ∧ H (n1 + 1, 5) = some ⟨6, [bC false agent]⟩ ∧ H (n1 + 2, 6) = some ⟨2, [mC false m]⟩ ∧ Sep H n [] [(n1 + 2, 6), (n1 + 1, 5), (n1, 4)]) draws (by decide) (by kernel_rfl) ?_ ?_
  ·refine RunT.free (.ptr (n1, 4) 1 0 2) rfl rfl ⟨m4_1, m5_2, m6_3, sp⟩ (fun H n hS => by obtain ⟨m4_1, m5_2, m6_3, sp⟩ := hS; exact (by exact stepF_ok Ty_ok (by rw [stepF_loc]; simp [hh, m4_1, m5_2, m6_3]))) ?_
   refine RunT.free (.agg (bC false g.pattern)) rfl rfl ⟨m4_1, m5_2, m6_3, sp⟩ (fun H n hS => by obtain ⟨m4_1, m5_2, m6_3, sp⟩ := hS; exact (by exact stepF_ok Ty_ok (by rw [stepF_loc]; simp [hh, m4_1, m5_2, m6_3]))) ?_
   refine RunT.free (.agg (bC false agent)) rfl rfl ⟨m4_1, m5_2, m6_3, sp⟩ (fun H n hS => by obtain ⟨m4_1, m5_2, m6_3, sp⟩ := hS; exact (by exact stepF_ok Ty_ok (by rw [stepF_loc]; simp [hh, m4_1, m5_2, m6_3]))) ?_
   refine RunT.free (.list false (nodes.map intC)) rfl rfl ⟨m4_1, m5_2, m6_3, sp⟩ (fun H n hS => by obtain ⟨m4_1, m5_2, m6_3, sp⟩ := hS; exact (by exact stepF_ok Ty_ok (by rw [stepF_loc]; simp [hh, m4_1, m5_2, m6_3]))) ?_
   refine RunT.free (int x19) rfl rfl ⟨m4_1, m5_2, m6_3, sp⟩ (fun H n hS => by obtain ⟨m4_1, m5_2, m6_3, sp⟩ := hS; exact (by exact stepF_ok Ty_ok (by rw [stepF_loc]; simp [hh, m4_1, m5_2, m6_3]))) ?_
   refine RunT.free (bool r29) rfl rfl ⟨m4_1, m5_2, m6_3, sp⟩ (fun H n hS => by obtain ⟨m4_1, m5_2, m6_3, sp⟩ := hS; exact (by rw [er29]; exact OpSem.callD2 (xs := [.agg (bC false g.pattern), .agg (bC false agent), .list false (nodes.map intC), int x19]) (l8Can_ok g.pattern agent nodes x19 hb28) e114 (.cons (argB false g.pattern) (.cons (argB false agent) (.cons (argI false nodes) (.cons (.v _ _ _) .nil)))) (by simp [hh, m4_1, m5_2, m6_3]) (by simp [hh, m4_1, m5_2, m6_3]))) ?_
   refine RunT.free (bool r29) rfl rfl ⟨m4_1, m5_2, m6_3, sp⟩ (fun H n hS => by obtain ⟨m4_1, m5_2, m6_3, sp⟩ := hS; exact (by exact stepF_ok Ty_ok (by rw [stepF_loc]; simp [hh, m4_1, m5_2, m6_3, dr29]))) ?_
   refine RunT.skip rfl (by simp [gok, guardOf, hh, m4_1, m5_2, m6_3, dr29]) ⟨m4_1, m5_2, m6_3, sp⟩ ?_
   refine RunT.skip rfl (by simp [gok, guardOf, hh, m4_1, m5_2, m6_3, dr29]) ⟨m4_1, m5_2, m6_3, sp⟩ ?_
   refine RunT.skip rfl (by simp [gok, guardOf, hh, m4_1, m5_2, m6_3, dr29]) ⟨m4_1, m5_2, m6_3, sp⟩ ?_
   refine RunT.skip rfl (by simp [gok, guardOf, hh, m4_1, m5_2, m6_3, dr29]) ⟨m4_1, m5_2, m6_3, sp⟩ ?_
   refine RunT.skip rfl (by simp [gok, guardOf, hh, m4_1, m5_2, m6_3, dr29]) ⟨m4_1, m5_2, m6_3, sp⟩ ?_
   refine RunT.skip rfl (by simp [gok, guardOf, hh, m4_1, m5_2, m6_3, dr29]) ⟨m4_1, m5_2, m6_3, sp⟩ ?_
   refine RunT.free (bool false) rfl rfl ⟨m4_1, m5_2, m6_3, sp⟩ (fun H n hS => by obtain ⟨m4_1, m5_2, m6_3, sp⟩ := hS; exact (by exact stepF_ok Ty_ok (by rw [stepF_loc]; simp [hh, m4_1, m5_2, m6_3, dr29]))) ?_
   refine RunT.free (bool false) rfl rfl ⟨m4_1, m5_2, m6_3, sp⟩ (fun H n hS => by obtain ⟨m4_1, m5_2, m6_3, sp⟩ := hS; exact (by exact stepF_ok Ty_ok (by rw [stepF_loc]; simp [hh, m4_1, m5_2, m6_3, dr29]))) ?_
   refine RunT.skip rfl (by simp [gok, guardOf, hh, m4_1, m5_2, m6_3, dr29]) ⟨m4_1, m5_2, m6_3, sp⟩ ?_
   refine RunT.skip rfl (by simp [gok, guardOf, hh, m4_1, m5_2, m6_3, dr29]) ⟨m4_1, m5_2, m6_3, sp⟩ ?_
   refine RunT.skip rfl (by simp [gok, guardOf, hh, m4_1, m5_2, m6_3, dr29]) ⟨m4_1, m5_2, m6_3, sp⟩ ?_
   refine RunT.skip rfl (by simp [gok, guardOf, hh, m4_1, m5_2, m6_3, dr29]) ⟨m4_1, m5_2, m6_3, sp⟩ ?_
   refine RunT.skip rfl (by simp [gok, guardOf, hh, m4_1, m5_2, m6_3, dr29]) ⟨m4_1, m5_2, m6_3, sp⟩ ?_
   refine RunT.skip rfl (by simp [gok, guardOf, hh, m4_1, m5_2, m6_3, dr29]) ⟨m4_1, m5_2, m6_3, sp⟩ ?_
   refine RunT.skip rfl (by simp [gok, guardOf, hh, m4_1, m5_2, m6_3, dr29]) ⟨m4_1, m5_2, m6_3, sp⟩ ?_
   refine RunT.skip rfl (by simp [gok, guardOf, hh, m4_1, m5_2, m6_3, dr29]) ⟨m4_1, m5_2, m6_3, sp⟩ ?_
   refine RunT.skip rfl (by simp [gok, guardOf, hh, m4_1, m5_2, m6_3, dr29]) ⟨m4_1, m5_2, m6_3, sp⟩ ?_
   refine RunT.free (bool false) rfl rfl ⟨m4_1, m5_2, m6_3, sp⟩ (fun H n hS => by obtain ⟨m4_1, m5_2, m6_3, sp⟩ := hS; exact (by exact stepF_ok Ty_ok (by rw [stepF_loc]; simp [hh, m4_1, m5_2, m6_3, dr29]))) ?_
   refine RunT.fin (by refine ⟨?_, ?_, ?_, ?_, sp⟩ <;> simp [hh, m4_1, m5_2, m6_3, dr29])
  clear hh m4_1 m5_2 m6_3
  rintro ρ H n73 ⟨hh, m4_1, m5_2, m6_3, sp⟩
  refine Runs.cond (b := false) (by simp [hh, m4_1, m5_2, m6_3]) ?_
  simp only [if_true, if_false, Bool.false_eq_true, ↓reduceIte]
  refine Runs.skip ?_
  refine Runs.inBlock ?_
  refine zF fun k' hk' => ?_
  obtain ⟨hb74, h⟩ := h
  obtain ⟨v75, ev75, h⟩ := atm h
  have f76 := ib_add hb74 ev75
  simp [hh, m4_1, m5_2, m6_3, f76, -intBin]
  apply hk'
  refine IH21 (v75) _ _ _ h (by refine ⟨?_, ?_, ?_, ?_, sp⟩ <;> simp [hh, m4_1, m5_2, m6_3])
 replace h := h.2 dc25
 refine Runs.exit rfl ?_
 refine zE fun k' hk' => ?_
 simp [hh, m4_1, m5_2, m6_3, dc25]
 apply hk'
 exact Runs.ret1 (v := bool false) Tryz.func94 Tryz.results94 (by simp [hh, m4_1, m5_2, m6_3, dc25]) (hQ _ _ _ _ (.of (.v _)) ⟨false, h, rfl⟩)
theorem l9Found_okm (mq : Nat) : ∀ (g : Guard) (agent : Big) (m : Match) (nodes : List Int), l9Found_ms g agent m nodes = mq → l9Found_pre g agent m nodes → PureC Tryz.prog 94 [.agg (gC false g), .agg (bC false agent), .agg (mC false m), .list false (nodes.map intC)] (fun r => r = bool (l9Found g agent m nodes)) := by
 induction mq using Nat.strongRecOn with
 | _ mq ih =>
  rintro g agent m nodes rfl hp
  exact (l9Found_walk g agent m nodes _ (fun gr agentr mr nodesr hp' hl => ih _ hl gr agentr mr nodesr rfl hp') (l9Found_vc g agent m nodes hp)).mono (by rintro _ ⟨_, rfl, rfl⟩; rfl)
theorem l9Found_ok (g : Guard) (agent : Big) (m : Match) (nodes : List Int) (hp : l9Found_pre g agent m nodes) : PureC Tryz.prog 94 [.agg (gC false g), .agg (bC false agent), .agg (mC false m), .list false (nodes.map intC)] (fun r => r = bool (l9Found g agent m nodes)) := l9Found_okm _ g agent m nodes rfl hp
theorem e48 : Ent Tryz.prog 48 := Ent.of Tryz.func48 (by kernel_rfl) rfl
theorem l9Holds_walk (g : Guard) (agent : Big) (m : Match) (Z : Bool → Prop) (h : l9Holds_wp g agent m Z) : PureC Tryz.prog 48 [.agg (gC false g), .agg (bC false agent), .agg (mC false m)] (fun r => ∃ y : Bool, Z y ∧ r = bool y) := by
 unfold l9Holds_wp at h
 have sp : Sep noHeap 0 [] [] := Sep.nil (by simp)
 refine PureC.of Tryz.func48 rfl Tryz.ntmps48 (by simp) fun Q hQ => ?_
 refine Runs.cut (fun ρ H n => (ρ 0 = .agg (gC false g) ∧ ρ 1 = .agg (bC false agent) ∧ ρ 2 = .agg (mC false m)) ∧ Sep H n [] []) (by refine ⟨?_, sp⟩ <;> simp ) ?_
 rintro ρ H n1 ⟨hh, sp⟩
 refine zE fun k' hk' => ?_
 simp [hh]
 apply hk'
 refine Runs.cut (fun ρ H n => (ρ 3 = pA n1 3 ∧ ρ 4 = pA (n1 + 1) 4 ∧ ρ 5 = pA (n1 + 2) 5) ∧ H (n1, 3) = some ⟨8, [gC false g]⟩ ∧ H (n1 + 1, 4) = some ⟨6, [bC false agent]⟩ ∧ H (n1 + 2, 5) = some ⟨2, [mC false m]⟩ ∧ Sep H n [] [(n1 + 2, 5), (n1 + 1, 4), (n1, 3)]) (by refine ⟨?_, ?_, ?_, ?_, sp.var.var.var⟩ <;> simp [hh]) ?_
 clear hh
 rintro ρ H n5 ⟨hh, m3_1, m4_2, m5_3, sp⟩
 refine Runs.cut (fun ρ H n => (ρ 3 = pA n1 3 ∧ ρ 4 = pA (n1 + 1) 4 ∧ ρ 5 = pA (n1 + 2) 5) ∧ H (n1, 3) = some ⟨8, [gC false g]⟩ ∧ H (n1 + 1, 4) = some ⟨6, [bC false agent]⟩ ∧ H (n1 + 2, 5) = some ⟨2, [mC false m]⟩ ∧ Sep H n [] [(n1 + 2, 5), (n1 + 1, 4), (n1, 3)]) (by refine ⟨?_, ?_, ?_, ?_, sp⟩ <;> simp [hh, m3_1, m4_2, m5_3]) ?_
 clear hh m3_1 m4_2 m5_3
 rintro ρ H n6 ⟨hh, m3_1, m4_2, m5_3, sp⟩
 obtain ⟨hb7, h⟩ := h
 obtain ⟨r8, er8, h⟩ := atm h
 obtain ⟨c9, ec9, h⟩ := atm h
 have f10 := bb_neq ec9
 refine Runs.seqC (fun H n => H (n1, 3) = some ⟨8, [gC false g]⟩ ∧ H (n1 + 1, 4) = some ⟨6, [bC false agent]⟩ ∧ H (n1 + 2, 5) = some ⟨2, [mC false m]⟩ ∧ Sep H n [] [(n1 + 2, 5), (n1 + 1, 4), (n1, 3)]) [] (.free 0 (.free 1 (.free 2 (.free 3 (.free 4 (.free 5 (.free 6 (.free 7 (.free 8 (.fin)))))))))) (fun ρ H n => ρ 6 = bool c9 ∧ Sep H n [] []) draws (by decide) (by kernel_rfl) ?_ ?_
 ·refine RunT.free (.agg (gC false g)) rfl rfl ⟨m3_1, m4_2, m5_3, sp⟩ (fun H n hS => by obtain ⟨m3_1, m4_2, m5_3, sp⟩ := hS; exact (by exact stepF_ok Ty_ok (by rw [stepF_loc]; simp [hh, m3_1, m4_2, m5_3, f10, -boolBin]))) ?_
  refine RunT.free (.agg (bC false agent)) rfl rfl ⟨m3_1, m4_2, m5_3, sp⟩ (fun H n hS => by obtain ⟨m3_1, m4_2, m5_3, sp⟩ := hS; exact (by exact stepF_ok Ty_ok (by rw [stepF_loc]; simp [hh, m3_1, m4_2, m5_3, f10, -boolBin]))) ?_
  refine RunT.free (.agg (mC false m)) rfl rfl ⟨m3_1, m4_2, m5_3, sp⟩ (fun H n hS => by obtain ⟨m3_1, m4_2, m5_3, sp⟩ := hS; exact (by exact stepF_ok Ty_ok (by rw [stepF_loc]; simp [hh, m3_1, m4_2, m5_3, f10, -boolBin]))) ?_
  refine RunT.free (.list true (([] : List Int).map intC)) rfl rfl ⟨m3_1, m4_2, m5_3, sp⟩ (fun H n hS => by obtain ⟨m3_1, m4_2, m5_3, sp⟩ := hS; exact (by simpa using OpSem.build0 Ty_ok kd_24)) ?_
  refine RunT.free (bool r8) rfl rfl ⟨m3_1, m4_2, m5_3, sp⟩ (fun H n hS => by obtain ⟨m3_1, m4_2, m5_3, sp⟩ := hS; exact (by rw [er8]; exact OpSem.callD2 (xs := [.agg (gC false g), .agg (bC false agent), .agg (mC false m), .list true (([] : List Int).map intC)]) (l9Found_ok g agent m ([] : List Int) hb7) e94 (.cons (argG false g) (.cons (argB false agent) (.cons (argM false m) (.cons (argI true ([] : List Int)) .nil)))) (by simp [hh, m3_1, m4_2, m5_3, f10, -boolBin]) (by simp [hh, m3_1, m4_2, m5_3, f10, -boolBin]))) ?_
  refine RunT.free (.ptr (n1, 3) 1 0 1) rfl rfl ⟨m3_1, m4_2, m5_3, sp⟩ (fun H n hS => by obtain ⟨m3_1, m4_2, m5_3, sp⟩ := hS; exact (by exact stepF_ok Ty_ok (by rw [stepF_loc]; simp [hh, m3_1, m4_2, m5_3, f10, -boolBin]))) ?_
  refine RunT.free (bool g.neg) rfl rfl ⟨m3_1, m4_2, m5_3, sp⟩ (fun H n hS => by obtain ⟨m3_1, m4_2, m5_3, sp⟩ := hS; exact (by exact stepF_ok Ty_ok (by rw [stepF_loc]; simp [hh, m3_1, m4_2, m5_3, f10, -boolBin]))) ?_
  refine RunT.free (bool c9) rfl rfl ⟨m3_1, m4_2, m5_3, sp⟩ (fun H n hS => by obtain ⟨m3_1, m4_2, m5_3, sp⟩ := hS; exact (by have f10 := bb_neq ec9; exact stepF_ok Ty_ok (by rw [stepF_loc]; simp [hh, m3_1, m4_2, m5_3, f10, -boolBin]))) ?_
  refine RunT.free (bool c9) rfl rfl ⟨m3_1, m4_2, m5_3, sp⟩ (fun H n hS => by obtain ⟨m3_1, m4_2, m5_3, sp⟩ := hS; exact (by exact stepF_ok Ty_ok (by rw [stepF_loc]; simp [hh, m3_1, m4_2, m5_3, f10, -boolBin]))) ?_
  refine RunT.fin (by refine ⟨?_, (Sep.sub sp (by simp +contextual))⟩ <;> simp [hh, m3_1, m4_2, m5_3, f10, -boolBin])
 clear hh m3_1 m4_2 m5_3
 rintro ρ H n11 ⟨hh, sp⟩
 exact Runs.ret1 (v := bool c9) Tryz.func48 Tryz.results48 (by simp [hh]) (hQ _ _ _ _ (.of (.v _)) ⟨c9, h, rfl⟩)
theorem l9Holds_ok (g : Guard) (agent : Big) (m : Match) (hp : l9Holds_pre g agent m) : PureC Tryz.prog 48 [.agg (gC false g), .agg (bC false agent), .agg (mC false m)] (fun r => r = bool (l9Holds g agent m)) := (l9Holds_walk g agent m _ (l9Holds_vc g agent m hp)).mono (by rintro _ ⟨_, rfl, rfl⟩; rfl)
theorem e11 : Ent Tryz.prog 11 := Ent.of Tryz.func11 (by kernel_rfl) rfl
theorem sGuardHolds_walk (sig : List Control) (g : Guard) (r_ : Rule) (agent : Big) (m : Match) (Z : (Bool × Bool) → Prop) (h : sGuardHolds_wp sig g r_ agent m Z) : PureC Tryz.prog 11 [.list false (sig.map Control.cells), .agg (gC false g), .agg (rC false r_), .agg (bC false agent), .agg (mC false m)] (fun r => ∃ y : Bool × Bool, Z y ∧ r = .tup [bool y.1, bool y.2]) := by
 unfold sGuardHolds_wp at h
 refine PureC.of Tryz.func11 rfl Tryz.ntmps11 (by simp) fun Q hQ => ?_
 refine Runs.cut (fun ρ H n => (ρ 0 = .list false (sig.map Control.cells) ∧ ρ 1 = .agg (gC false g) ∧ ρ 2 = .agg (rC false r_) ∧ ρ 3 = .agg (bC false agent) ∧ ρ 4 = .agg (mC false m))) (by simp) ?_
 rintro ρ H n1 hh
 refine zE fun k' hk' => ?_
 simp [hh]
 apply hk'
 refine Runs.cut (fun ρ H n => (ρ 0 = .list false (sig.map Control.cells) ∧ ρ 6 = pA n1 6 ∧ ρ 7 = pA (n1 + 1) 7 ∧ ρ 8 = pA (n1 + 2) 8 ∧ ρ 9 = pA (n1 + 3) 9) ∧ H (n1, 6) = some ⟨8, [gC false g]⟩ ∧ H (n1 + 1, 7) = some ⟨13, [rC false r_]⟩ ∧ H (n1 + 2, 8) = some ⟨6, [bC false agent]⟩ ∧ H (n1 + 3, 9) = some ⟨2, [mC false m]⟩) (by refine ⟨?_, ?_, ?_, ?_, ?_⟩ <;> simp [hh]) ?_
 clear hh
 rintro ρ H n6 ⟨hh, m6_1, m7_2, m8_3, m9_4⟩
 refine Runs.seq ?_
 refine zE fun k' hk' => ?_
 obtain ⟨J7, hJ8, hr9⟩ := h
 have fin11 : ∀ (sJ : Bool) (ρ : Env) (H : Heap) (n : Nat), J7 sJ → (match sJ with | b10 => (ρ 6 = pA n1 6 ∧ ρ 8 = pA (n1 + 2) 8 ∧ ρ 9 = pA (n1 + 3) 9 ∧ ρ 30 = bool b10) ∧ H (n1, 6) = some ⟨8, [gC false g]⟩ ∧ H (n1 + 2, 8) = some ⟨6, [bC false agent]⟩ ∧ H (n1 + 3, 9) = some ⟨2, [mC false m]⟩) → Runs Tryz.prog 11 35 k' ρ H n Q := by
  rintro b10 ρ H n12 h ⟨hh, m6_1, m8_3, m9_4⟩
  replace h := hr9 _ h
  apply hk'
  refine Runs.ite (b := b10) (by simp [hh, m6_1, m8_3, m9_4]) (fun db10 => ?_) (fun db10 => ?_)
  ·replace h := h.1 db10
   refine zE fun k' hk' => ?_
   simp [hh, m6_1, m8_3, m9_4, db10]
   apply hk'
   exact Runs.ret2 (v := bool false) (w := bool false) Tryz.func11 Tryz.results11 (by simp [hh, m6_1, m8_3, m9_4, db10]) (by simp [hh, m6_1, m8_3, m9_4, db10]) (hQ _ _ _ _ (.of (.tupL (.cons (.v _) (.cons (.v _) .nil)))) ⟨(false, false), h, rfl⟩)
  replace h := h.2 db10
  refine Runs.skip ?_
  refine zE fun k' hk' => ?_
  obtain ⟨hb13, h⟩ := h
  obtain ⟨r14, er14, h⟩ := atm h
  simp [hh, m6_1, m8_3, m9_4, db10]
  refine RunK.callA Ty_ok (l9Holds_ok g agent m hb13) e48 (.cons (argG false g) (.cons (argB false agent) (.cons (argM false m) .nil))) (by decide) (by decide) rfl (by simp [hh, m6_1, m8_3, m9_4, db10]) ?_
  rintro _ rfl
  rw [← er14]
  simp [hh, m6_1, m8_3, m9_4, db10]
  apply hk'
  exact Runs.ret2 (v := bool r14) (w := bool true) Tryz.func11 Tryz.results11 (by simp [hh, m6_1, m8_3, m9_4, db10]) (by simp [hh, m6_1, m8_3, m9_4, db10]) (hQ _ _ _ _ (.of (.tupL (.cons (.v _) (.cons (.v _) .nil)))) ⟨(r14, true), h, rfl⟩)
 replace h := hJ8
 obtain ⟨hb15, h⟩ := h
 obtain ⟨r16, er16, h⟩ := atm h
 simp [hh, m6_1, m7_2, m8_3, m9_4]
 refine RunK.callA Ty_ok (l9Guard_ok sig g hb15) e45 (.cons (argC false sig) (.cons (argG false g) .nil)) (by decide) (by decide) rfl (by simp [hh, m6_1, m7_2, m8_3, m9_4]) ?_
 rintro _ rfl
 rw [← er16]
 rcases Bool.eq_false_or_eq_true r16 with dr16 | dr16
 ·replace h := h.1 dr16
  obtain ⟨hb17, h⟩ := h
  obtain ⟨r18, er18, h⟩ := atm h
  simp [hh, m6_1, m7_2, m8_3, m9_4, dr16]
  refine RunK.callA Ty_ok (l9Good_ok sig r_ hb17) e46 (.cons (argC false sig) (.cons (argR false r_) .nil)) (by decide) (by decide) rfl (by simp [hh, m6_1, m7_2, m8_3, m9_4, dr16]) ?_
  rintro _ rfl
  rw [← er18]
  rcases Bool.eq_false_or_eq_true r18 with dr18 | dr18
  ·replace h := h.1 dr18
   obtain ⟨hb19, h⟩ := h
   obtain ⟨r20, er20, h⟩ := atm h
   simp [hh, m6_1, m7_2, m8_3, m9_4, dr16, dr18]
   refine RunK.callA Ty_ok (l8Given_ok sig r_.redex agent m hb19) e47 (.cons (argC false sig) (.cons (argB false r_.redex) (.cons (argB false agent) (.cons (argM false m) .nil)))) (by decide) (by decide) rfl (by simp [hh, m6_1, m7_2, m8_3, m9_4, dr16, dr18]) ?_
   rintro _ rfl
   rw [← er20]
   simp [hh, m6_1, m7_2, m8_3, m9_4, dr16, dr18]
   exact fin11 ((!r20)) _ _ _ h (by refine ⟨?_, ?_, ?_, ?_⟩ <;> simp [hh, m6_1, m7_2, m8_3, m9_4, dr16, dr18])
  replace h := h.2 dr18
  simp [hh, m6_1, m7_2, m8_3, m9_4, dr16, dr18]
  exact fin11 (true) _ _ _ h (by refine ⟨?_, ?_, ?_, ?_⟩ <;> simp [hh, m6_1, m7_2, m8_3, m9_4, dr16, dr18])
 replace h := h.2 dr16
 simp [hh, m6_1, m7_2, m8_3, m9_4, dr16]
 exact fin11 (true) _ _ _ h (by refine ⟨?_, ?_, ?_, ?_⟩ <;> simp [hh, m6_1, m7_2, m8_3, m9_4, dr16])
theorem sGuardHolds_ok (sig : List Control) (g : Guard) (r_ : Rule) (agent : Big) (m : Match) (hp : sGuardHolds_pre sig g r_ agent m) : PureC Tryz.prog 11 [.list false (sig.map Control.cells), .agg (gC false g), .agg (rC false r_), .agg (bC false agent), .agg (mC false m)] (fun r => r = .tup [bool ((sGuardHolds sig g r_ agent m).1), bool ((sGuardHolds sig g r_ agent m).2)]) := (sGuardHolds_walk sig g r_ agent m _ (sGuardHolds_vc sig g r_ agent m hp)).mono (by rintro _ ⟨_, rfl, rfl⟩; rfl)
end Go.Ab.Vg
/- Walks by program for YtbpdcoahefnnkaaGreatDoorAbMv. -/
namespace Go.Ab.Vg
open Go.Proofs
set_option maxRecDepth 100000
set_option linter.unusedSimpArgs false
set_option linter.unusedVariables false
attribute [local simp] Control.cells GNode.cells Wire.cells intC sliceC strC bC mC rC gC pA
theorem e14 : Ent Tryz.prog 14 := Ent.of Tryz.func14 (by kernel_rfl) rfl
theorem toRule_walk (a : Rule) (Z : Rule → Prop) (h : toRule_wp a Z) : PureC Tryz.prog 14 [.agg (rC false a)] (fun r => ∃ y : Rule, Z y ∧ r = .agg (rC true y)) := by
 unfold toRule_wp at h
 refine PureC.of Tryz.func14 rfl Tryz.ntmps14 (by simp) fun Q hQ => ?_
 refine Runs.cut (fun ρ H n => ρ 0 = .agg (rC false a)) (by simp) ?_
 rintro ρ H n1 hh
 refine zE fun k' hk' => ?_
 simp [hh]
 apply hk'
 refine Runs.cut (fun ρ H n => (ρ 1 = pA n1 1 ∧ ρ 2 = pA (n1 + 1) 2) ∧ H (n1, 1) = some ⟨13, [rC false a]⟩ ∧ H (n1 + 1, 2) = some ⟨13, [[int 0, .v (.slice none 0 0), .v (.slice none 0 0), int 0, .v (.slice none 0 0), .v (.slice none 0 0), int 0, .v (.slice none 0 0), .v (.slice none 0 0), int 0, .v (.slice none 0 0), .v (.slice none 0 0), .v (.slice none 0 0)]]⟩) (by refine ⟨?_, ?_, ?_⟩ <;> simp [hh]) ?_
 clear hh
 rintro ρ H n4 ⟨hh, m1_1, m2_2⟩
 refine zE fun k' hk' => ?_
 simp [hh, m1_1, m2_2]
 apply hk'
 refine Runs.cut (fun ρ H n => (ρ 1 = pA n1 1 ∧ ρ 2 = pA (n1 + 1) 2 ∧ ρ 3 = pA n4 3) ∧ H (n1, 1) = some ⟨13, [rC false a]⟩ ∧ H (n1 + 1, 2) = some ⟨13, [[int 0, .v (.slice none 0 0), .v (.slice none 0 0), int 0, .v (.slice none 0 0), .v (.slice none 0 0), int 0, .v (.slice none 0 0), .v (.slice none 0 0), int 0, .v (.slice none 0 0), .v (.slice none 0 0), .v (.slice none 0 0)]]⟩ ∧ H (n4, 3) = some ⟨13, [[int 0, .v (.slice none 0 0), .v (.slice none 0 0), int 0, .v (.slice none 0 0), .v (.slice none 0 0), int 0, .v (.slice none 0 0), .v (.slice none 0 0), int 0, .v (.slice none 0 0), .v (.slice none 0 0), .v (.slice none 0 0)]]⟩) (by refine ⟨?_, ?_, ?_, ?_⟩ <;> simp [hh, m1_1, m2_2]) ?_
 clear hh m1_1 m2_2
 rintro ρ H n6 ⟨hh, m1_1, m2_2, m3_4⟩
 refine zE fun k' hk' => ?_
 obtain ⟨hb7, h⟩ := h
 obtain ⟨r8, er8, h⟩ := atm h
 simp [hh, m1_1, m2_2, m3_4]
 refine RunK.callA Ty_ok ((toBigraph_ok a.redex hb7).pure) e15 (.cons (argB false a.redex) .nil) (by decide) (by decide) rfl (by simp [hh, m1_1, m2_2, m3_4]) ?_
 rintro _ rfl
 rw [← er8]
 simp [hh, m1_1, m2_2, m3_4]
 apply hk'
 refine Runs.cut (fun ρ H n => (ρ 1 = pA n1 1 ∧ ρ 2 = pA (n1 + 1) 2 ∧ ρ 3 = pA n4 3) ∧ H (n1, 1) = some ⟨13, [rC false a]⟩ ∧ H (n1 + 1, 2) = some ⟨13, [[int 0, .v (.slice none 0 0), .v (.slice none 0 0), int 0, .v (.slice none 0 0), .v (.slice none 0 0), int 0, .v (.slice none 0 0), .v (.slice none 0 0), int 0, .v (.slice none 0 0), .v (.slice none 0 0), .v (.slice none 0 0)]]⟩ ∧ H (n4, 3) = some ⟨13, [[int r8.roots, .list true (r8.nodes.map (GNode.cells true)), .list true (r8.sites.map intC), int r8.edges, .list true (r8.outer.map strC), .list true (r8.inner.map Wire.cells), int 0, .v (.slice none 0 0), .v (.slice none 0 0), int 0, .v (.slice none 0 0), .v (.slice none 0 0), .v (.slice none 0 0)]]⟩) (by refine ⟨?_, ?_, ?_, ?_⟩ <;> simp [hh, m1_1, m2_2, m3_4]) ?_
 clear hh m1_1 m2_2 m3_4
 rintro ρ H n9 ⟨hh, m1_1, m2_2, m3_4⟩
 refine zE fun k' hk' => ?_
 obtain ⟨hb10, h⟩ := h
 obtain ⟨r11, er11, h⟩ := atm h
 simp [hh, m1_1, m2_2, m3_4]
 refine RunK.callA Ty_ok ((toBigraph_ok a.reactum hb10).pure) e15 (.cons (argB false a.reactum) .nil) (by decide) (by decide) rfl (by simp [hh, m1_1, m2_2, m3_4]) ?_
 rintro _ rfl
 rw [← er11]
 simp [hh, m1_1, m2_2, m3_4]
 apply hk'
 refine Runs.cut (fun ρ H n => (ρ 1 = pA n1 1 ∧ ρ 2 = pA (n1 + 1) 2 ∧ ρ 3 = pA n4 3) ∧ H (n1, 1) = some ⟨13, [rC false a]⟩ ∧ H (n1 + 1, 2) = some ⟨13, [[int 0, .v (.slice none 0 0), .v (.slice none 0 0), int 0, .v (.slice none 0 0), .v (.slice none 0 0), int 0, .v (.slice none 0 0), .v (.slice none 0 0), int 0, .v (.slice none 0 0), .v (.slice none 0 0), .v (.slice none 0 0)]]⟩ ∧ H (n4, 3) = some ⟨13, [[int r8.roots, .list true (r8.nodes.map (GNode.cells true)), .list true (r8.sites.map intC), int r8.edges, .list true (r8.outer.map strC), .list true (r8.inner.map Wire.cells), int r11.roots, .list true (r11.nodes.map (GNode.cells true)), .list true (r11.sites.map intC), int r11.edges, .list true (r11.outer.map strC), .list true (r11.inner.map Wire.cells), .v (.slice none 0 0)]]⟩) (by refine ⟨?_, ?_, ?_, ?_⟩ <;> simp [hh, m1_1, m2_2, m3_4]) ?_
 clear hh m1_1 m2_2 m3_4
 rintro ρ H n12 ⟨hh, m1_1, m2_2, m3_4⟩
 refine zE fun k' hk' => ?_
 obtain ⟨hb13, h⟩ := h
 obtain ⟨r14, er14, h⟩ := atm h
 simp [hh, m1_1, m2_2, m3_4]
 refine RunK.callA Ty_ok ((toIntS_ok a.copies hb13).pure) e50 (.cons (argI false a.copies) .nil) (by decide) (by decide) rfl (by simp [hh, m1_1, m2_2, m3_4]) ?_
 rintro _ rfl
 rw [← er14]
 simp [hh, m1_1, m2_2, m3_4]
 apply hk'
 refine Runs.cut (fun ρ H n => (ρ 2 = pA (n1 + 1) 2 ∧ ρ 3 = pA n4 3) ∧ H (n1 + 1, 2) = some ⟨13, [[int 0, .v (.slice none 0 0), .v (.slice none 0 0), int 0, .v (.slice none 0 0), .v (.slice none 0 0), int 0, .v (.slice none 0 0), .v (.slice none 0 0), int 0, .v (.slice none 0 0), .v (.slice none 0 0), .v (.slice none 0 0)]]⟩ ∧ H (n4, 3) = some ⟨13, [[int r8.roots, .list true (r8.nodes.map (GNode.cells true)), .list true (r8.sites.map intC), int r8.edges, .list true (r8.outer.map strC), .list true (r8.inner.map Wire.cells), int r11.roots, .list true (r11.nodes.map (GNode.cells true)), .list true (r11.sites.map intC), int r11.edges, .list true (r11.outer.map strC), .list true (r11.inner.map Wire.cells), .list true (r14.map intC)]]⟩) (by refine ⟨?_, ?_, ?_⟩ <;> simp [hh, m1_1, m2_2, m3_4]) ?_
 clear hh m1_1 m2_2 m3_4
 rintro ρ H n15 ⟨hh, m2_2, m3_4⟩
 refine zE fun k' hk' => ?_
 simp [hh, m2_2, m3_4]
 apply hk'
 refine Runs.cut (fun ρ H n => ρ 2 = pA (n1 + 1) 2 ∧ H (n1 + 1, 2) = some ⟨13, [[int r8.roots, .list true (r8.nodes.map (GNode.cells true)), .list true (r8.sites.map intC), int r8.edges, .list true (r8.outer.map strC), .list true (r8.inner.map Wire.cells), int r11.roots, .list true (r11.nodes.map (GNode.cells true)), .list true (r11.sites.map intC), int r11.edges, .list true (r11.outer.map strC), .list true (r11.inner.map Wire.cells), .list true (r14.map intC)]]⟩) (by refine ⟨?_, ?_⟩ <;> simp [hh, m2_2, m3_4]) ?_
 clear hh m2_2 m3_4
 rintro ρ H n16 ⟨hh, m2_2⟩
 exact Runs.res1 Ty_ok (v := .agg [int r8.roots, .list true (r8.nodes.map (GNode.cells true)), .list true (r8.sites.map intC), int r8.edges, .list true (r8.outer.map strC), .list true (r8.inner.map Wire.cells), int r11.roots, .list true (r11.nodes.map (GNode.cells true)), .list true (r11.sites.map intC), int r11.edges, .list true (r11.outer.map strC), .list true (r11.inner.map Wire.cells), .list true (r14.map intC)]) Tryz.func14 Tryz.results14 (by simp [hh, m2_2, resA]) (hQ _ _ _ _ (.of (.aggL (.cons (.v _) (.cons (.fresh (by simp)) (.cons (.fresh (by simp)) (.cons (.v _) (.cons (.fresh (by simp)) (.cons (.fresh (by simp)) (.cons (.v _) (.cons (.fresh (by simp)) (.cons (.fresh (by simp)) (.cons (.v _) (.cons (.fresh (by simp)) (.cons (.fresh (by simp)) (.cons (.fresh (by simp)) .nil))))))))))))))) ⟨(Rule.mk r8 r11 r14), h, rfl⟩)
theorem toRule_ok (a : Rule) (hp : toRule_pre a) : PureC Tryz.prog 14 [.agg (rC false a)] (fun r => r = .agg [int (((toRule a).redex).roots), .list true ((((toRule a).redex).nodes).map (GNode.cells true)), .list true ((((toRule a).redex).sites).map intC), int (((toRule a).redex).edges), .list true ((((toRule a).redex).outer).map strC), .list true ((((toRule a).redex).inner).map Wire.cells), int (((toRule a).reactum).roots), .list true ((((toRule a).reactum).nodes).map (GNode.cells true)), .list true ((((toRule a).reactum).sites).map intC), int (((toRule a).reactum).edges), .list true ((((toRule a).reactum).outer).map strC), .list true ((((toRule a).reactum).inner).map Wire.cells), .list true (((toRule a).copies).map intC)]) := (toRule_walk a _ (toRule_vc a hp)).mono (by rintro _ ⟨_, rfl, rfl⟩; rfl)
theorem e13 : Ent Tryz.prog 13 := Ent.of Tryz.func13 (by kernel_rfl) rfl
theorem toGuard_walk (a : Guard) (Z : Guard → Prop) (h : toGuard_wp a Z) : PureC Tryz.prog 13 [.agg (gC false a)] (fun r => ∃ y : Guard, Z y ∧ r = .agg (gC true y)) := by
 unfold toGuard_wp at h
 refine PureC.of Tryz.func13 rfl Tryz.ntmps13 (by simp) fun Q hQ => ?_
 refine Runs.cut (fun ρ H n => ρ 0 = .agg (gC false a)) (by simp) ?_
 rintro ρ H n1 hh
 refine zE fun k' hk' => ?_
 simp [hh]
 apply hk'
 refine Runs.cut (fun ρ H n => (ρ 1 = pA n1 1 ∧ ρ 2 = pA (n1 + 1) 2) ∧ H (n1, 1) = some ⟨8, [gC false a]⟩ ∧ H (n1 + 1, 2) = some ⟨8, [[int 0, bool false, int 0, .v (.slice none 0 0), .v (.slice none 0 0), int 0, .v (.slice none 0 0), .v (.slice none 0 0)]]⟩) (by refine ⟨?_, ?_, ?_⟩ <;> simp [hh]) ?_
 clear hh
 rintro ρ H n4 ⟨hh, m1_1, m2_2⟩
 refine zE fun k' hk' => ?_
 simp [hh, m1_1, m2_2]
 apply hk'
 refine Runs.cut (fun ρ H n => (ρ 1 = pA n1 1 ∧ ρ 2 = pA (n1 + 1) 2 ∧ ρ 3 = pA n4 3) ∧ H (n1, 1) = some ⟨8, [gC false a]⟩ ∧ H (n1 + 1, 2) = some ⟨8, [[int 0, bool false, int 0, .v (.slice none 0 0), .v (.slice none 0 0), int 0, .v (.slice none 0 0), .v (.slice none 0 0)]]⟩ ∧ H (n4, 3) = some ⟨8, [[int 0, bool false, int 0, .v (.slice none 0 0), .v (.slice none 0 0), int 0, .v (.slice none 0 0), .v (.slice none 0 0)]]⟩) (by refine ⟨?_, ?_, ?_, ?_⟩ <;> simp [hh, m1_1, m2_2]) ?_
 clear hh m1_1 m2_2
 rintro ρ H n6 ⟨hh, m1_1, m2_2, m3_4⟩
 refine zE fun k' hk' => ?_
 simp [hh, m1_1, m2_2, m3_4]
 apply hk'
 refine Runs.cut (fun ρ H n => (ρ 1 = pA n1 1 ∧ ρ 2 = pA (n1 + 1) 2 ∧ ρ 3 = pA n4 3) ∧ H (n1, 1) = some ⟨8, [gC false a]⟩ ∧ H (n1 + 1, 2) = some ⟨8, [[int 0, bool false, int 0, .v (.slice none 0 0), .v (.slice none 0 0), int 0, .v (.slice none 0 0), .v (.slice none 0 0)]]⟩ ∧ H (n4, 3) = some ⟨8, [[int a.zone, bool false, int 0, .v (.slice none 0 0), .v (.slice none 0 0), int 0, .v (.slice none 0 0), .v (.slice none 0 0)]]⟩) (by refine ⟨?_, ?_, ?_, ?_⟩ <;> simp [hh, m1_1, m2_2, m3_4]) ?_
 clear hh m1_1 m2_2 m3_4
 rintro ρ H n7 ⟨hh, m1_1, m2_2, m3_4⟩
 refine zE fun k' hk' => ?_
 simp [hh, m1_1, m2_2, m3_4]
 apply hk'
 refine Runs.cut (fun ρ H n => (ρ 1 = pA n1 1 ∧ ρ 2 = pA (n1 + 1) 2 ∧ ρ 3 = pA n4 3) ∧ H (n1, 1) = some ⟨8, [gC false a]⟩ ∧ H (n1 + 1, 2) = some ⟨8, [[int 0, bool false, int 0, .v (.slice none 0 0), .v (.slice none 0 0), int 0, .v (.slice none 0 0), .v (.slice none 0 0)]]⟩ ∧ H (n4, 3) = some ⟨8, [[int a.zone, bool a.neg, int 0, .v (.slice none 0 0), .v (.slice none 0 0), int 0, .v (.slice none 0 0), .v (.slice none 0 0)]]⟩) (by refine ⟨?_, ?_, ?_, ?_⟩ <;> simp [hh, m1_1, m2_2, m3_4]) ?_
 clear hh m1_1 m2_2 m3_4
 rintro ρ H n8 ⟨hh, m1_1, m2_2, m3_4⟩
 refine zE fun k' hk' => ?_
 obtain ⟨hb9, h⟩ := h
 obtain ⟨r10, er10, h⟩ := atm h
 simp [hh, m1_1, m2_2, m3_4]
 refine RunK.callA Ty_ok ((toBigraph_ok a.pattern hb9).pure) e15 (.cons (argB false a.pattern) .nil) (by decide) (by decide) rfl (by simp [hh, m1_1, m2_2, m3_4]) ?_
 rintro _ rfl
 rw [← er10]
 simp [hh, m1_1, m2_2, m3_4]
 apply hk'
 refine Runs.cut (fun ρ H n => (ρ 2 = pA (n1 + 1) 2 ∧ ρ 3 = pA n4 3) ∧ H (n1 + 1, 2) = some ⟨8, [[int 0, bool false, int 0, .v (.slice none 0 0), .v (.slice none 0 0), int 0, .v (.slice none 0 0), .v (.slice none 0 0)]]⟩ ∧ H (n4, 3) = some ⟨8, [[int a.zone, bool a.neg, int r10.roots, .list true (r10.nodes.map (GNode.cells true)), .list true (r10.sites.map intC), int r10.edges, .list true (r10.outer.map strC), .list true (r10.inner.map Wire.cells)]]⟩) (by refine ⟨?_, ?_, ?_⟩ <;> simp [hh, m1_1, m2_2, m3_4]) ?_
 clear hh m1_1 m2_2 m3_4
 rintro ρ H n11 ⟨hh, m2_2, m3_4⟩
 refine zE fun k' hk' => ?_
 simp [hh, m2_2, m3_4]
 apply hk'
 refine Runs.cut (fun ρ H n => ρ 2 = pA (n1 + 1) 2 ∧ H (n1 + 1, 2) = some ⟨8, [[int a.zone, bool a.neg, int r10.roots, .list true (r10.nodes.map (GNode.cells true)), .list true (r10.sites.map intC), int r10.edges, .list true (r10.outer.map strC), .list true (r10.inner.map Wire.cells)]]⟩) (by refine ⟨?_, ?_⟩ <;> simp [hh, m2_2, m3_4]) ?_
 clear hh m2_2 m3_4
 rintro ρ H n12 ⟨hh, m2_2⟩
 exact Runs.res1 Ty_ok (v := .agg [int a.zone, bool a.neg, int r10.roots, .list true (r10.nodes.map (GNode.cells true)), .list true (r10.sites.map intC), int r10.edges, .list true (r10.outer.map strC), .list true (r10.inner.map Wire.cells)]) Tryz.func13 Tryz.results13 (by simp [hh, m2_2, resA]) (hQ _ _ _ _ (.of (.aggL (.cons (.v _) (.cons (.v _) (.cons (.v _) (.cons (.fresh (by simp)) (.cons (.fresh (by simp)) (.cons (.v _) (.cons (.fresh (by simp)) (.cons (.fresh (by simp)) .nil)))))))))) ⟨(Guard.mk a.zone a.neg r10), h, rfl⟩)
theorem toGuard_ok (a : Guard) (hp : toGuard_pre a) : PureC Tryz.prog 13 [.agg (gC false a)] (fun r => r = .agg [int ((toGuard a).zone), bool ((toGuard a).neg), int (((toGuard a).pattern).roots), .list true ((((toGuard a).pattern).nodes).map (GNode.cells true)), .list true ((((toGuard a).pattern).sites).map intC), int (((toGuard a).pattern).edges), .list true ((((toGuard a).pattern).outer).map strC), .list true ((((toGuard a).pattern).inner).map Wire.cells)]) := (toGuard_walk a _ (toGuard_vc a hp)).mono (by rintro _ ⟨_, rfl, rfl⟩; rfl)
theorem e8 : Ent Tryz.prog 8 := Ent.of Tryz.func8 (by kernel_rfl) rfl
theorem szR_walk (a : Rule) (left : Int) (Z : Int → Prop) (h : szR_wp a left Z) : PureC Tryz.prog 8 [.agg (rC false a), int left] (fun r => ∃ y : Int, Z y ∧ r = int y) := by
 unfold szR_wp at h
 refine PureC.of Tryz.func8 rfl Tryz.ntmps8 (by simp) fun Q hQ => ?_
 refine Runs.cut (fun ρ H n => (ρ 0 = .agg (rC false a) ∧ ρ 1 = int left)) (by simp) ?_
 rintro ρ H n1 hh
 refine zE fun k' hk' => ?_
 simp [hh]
 apply hk'
 refine Runs.cut (fun ρ H n => (ρ 1 = int left ∧ ρ 2 = pA n1 2) ∧ H (n1, 2) = some ⟨13, [rC false a]⟩) (by refine ⟨?_, ?_⟩ <;> simp [hh]) ?_
 clear hh
 rintro ρ H n3 ⟨hh, m2_1⟩
 refine zE fun k' hk' => ?_
 obtain ⟨hb4, h⟩ := h
 obtain ⟨r5, er5, h⟩ := atm h
 simp [hh, m2_1]
 refine RunK.callA Ty_ok (szBigraph_ok a.redex left hb4.1.1 hb4.1.2 hb4.2) e9 (.cons (argB false a.redex) (.cons (.v _ _ _) .nil)) (by decide) (by decide) rfl (by simp [hh, m2_1]) ?_
 rintro _ rfl
 rw [← er5]
 simp [hh, m2_1]
 apply hk'
 refine Runs.seq ?_
 refine zE fun k' hk' => ?_
 obtain ⟨c6, ec6, h⟩ := atm h
 have f7 := ib_lss (k := .i64) ec6
 simp [hh, m2_1, f7, -intBin]
 apply hk'
 refine Runs.ite (b := c6) (by simp [hh, m2_1]) (fun dc6 => ?_) (fun dc6 => ?_)
 ·replace h := h.1 dc6
  refine zE fun k' hk' => ?_
  simp [hh, m2_1, dc6]
  apply hk'
  exact Runs.ret1 (v := int (-1)) Tryz.func8 Tryz.results8 (by simp [hh, m2_1, dc6]) (hQ _ _ _ _ (.of (.v _)) ⟨(-1), h, rfl⟩)
 replace h := h.2 dc6
 refine Runs.skip ?_
 refine zE fun k' hk' => ?_
 obtain ⟨hb8, h⟩ := h
 obtain ⟨r9, er9, h⟩ := atm h
 simp [hh, m2_1, dc6]
 refine RunK.callA Ty_ok (szBigraph_ok a.reactum r5 hb8.1.1 hb8.1.2 hb8.2) e9 (.cons (argB false a.reactum) (.cons (.v _ _ _) .nil)) (by decide) (by decide) rfl (by simp [hh, m2_1, dc6]) ?_
 rintro _ rfl
 rw [← er9]
 simp [hh, m2_1, dc6]
 apply hk'
 refine Runs.seq ?_
 refine zE fun k' hk' => ?_
 obtain ⟨c10, ec10, h⟩ := atm h
 have f11 := ib_lss (k := .i64) ec10
 simp [hh, m2_1, f11, dc6, -intBin]
 apply hk'
 refine Runs.ite (b := c10) (by simp [hh, m2_1, dc6]) (fun dc10 => ?_) (fun dc10 => ?_)
 ·replace h := h.1 dc10
  refine zE fun k' hk' => ?_
  simp [hh, m2_1, dc6, dc10]
  apply hk'
  refine Runs.cut (fun ρ H n => ρ 4 = int (-1)) (by simp [hh, m2_1, dc6, dc10]) ?_
  clear hh m2_1
  rintro ρ H n12 hh
  exact Runs.ret1 (v := int (-1)) Tryz.func8 Tryz.results8 (by simp [hh]) (hQ _ _ _ _ (.of (.v _)) ⟨(-1), h, rfl⟩)
 replace h := h.2 dc10
 refine Runs.skip ?_
 refine zE fun k' hk' => ?_
 obtain ⟨hb13, h⟩ := h
 obtain ⟨r14, er14, h⟩ := atm h
 simp [hh, m2_1, dc6, dc10]
 refine RunK.callA Ty_ok (szIntS_ok a.copies r9 hb13.1.1 hb13.1.2 hb13.2) e41 (.cons (argI false a.copies) (.cons (.v _ _ _) .nil)) (by decide) (by decide) rfl (by simp [hh, m2_1, dc6, dc10]) ?_
 rintro _ rfl
 rw [← er14]
 simp [hh, m2_1, dc6, dc10]
 apply hk'
 refine Runs.cut (fun ρ H n => ρ 1 = int r14) (by simp [hh, m2_1, dc6, dc10]) ?_
 clear hh m2_1
 rintro ρ H n15 hh
 refine Runs.seq ?_
 refine zE fun k' hk' => ?_
 obtain ⟨c16, ec16, h⟩ := atm h
 have f17 := ib_lss (k := .i64) ec16
 simp [hh, f17, -intBin]
 apply hk'
 refine Runs.ite (b := c16) (by simp [hh]) (fun dc16 => ?_) (fun dc16 => ?_)
 ·replace h := h.1 dc16
  refine zE fun k' hk' => ?_
  simp [hh, dc16]
  apply hk'
  exact Runs.ret1 (v := int (-1)) Tryz.func8 Tryz.results8 (by simp [hh, dc16]) (hQ _ _ _ _ (.of (.v _)) ⟨(-1), h, rfl⟩)
 replace h := h.2 dc16
 refine Runs.skip ?_
 refine zE fun k' hk' => ?_
 simp [hh, dc16]
 apply hk'
 exact Runs.ret1 (v := int r14) Tryz.func8 Tryz.results8 (by simp [hh, dc16]) (hQ _ _ _ _ (.of (.v _)) ⟨r14, h, rfl⟩)
theorem szR_ok (a : Rule) (left : Int) (hp : szR_pre a left) : PureC Tryz.prog 8 [.agg (rC false a), int left] (fun r => r = int (szR a left)) := (szR_walk a left _ (szR_vc a left hp)).mono (by rintro _ ⟨_, rfl, rfl⟩; rfl)
theorem e7 : Ent Tryz.prog 7 := Ent.of Tryz.func7 (by kernel_rfl) rfl
theorem szG_walk (a : Guard) (left : Int) (Z : Int → Prop) (h : szG_wp a left Z) : PureC Tryz.prog 7 [.agg (gC false a), int left] (fun r => ∃ y : Int, Z y ∧ r = int y) := by
 unfold szG_wp at h
 refine PureC.of Tryz.func7 rfl Tryz.ntmps7 (by simp) fun Q hQ => ?_
 refine Runs.cut (fun ρ H n => (ρ 0 = .agg (gC false a) ∧ ρ 1 = int left)) (by simp) ?_
 rintro ρ H n1 hh
 refine zE fun k' hk' => ?_
 simp [hh]
 apply hk'
 refine Runs.cut (fun ρ H n => (ρ 1 = int left ∧ ρ 2 = pA n1 2) ∧ H (n1, 2) = some ⟨8, [gC false a]⟩) (by refine ⟨?_, ?_⟩ <;> simp [hh]) ?_
 clear hh
 rintro ρ H n3 ⟨hh, m2_1⟩
 refine zE fun k' hk' => ?_
 obtain ⟨hb4, h⟩ := h
 obtain ⟨r5, er5, h⟩ := atm h
 simp [hh, m2_1]
 refine RunK.callA Ty_ok (szBigraph_ok a.pattern left hb4.1.1 hb4.1.2 hb4.2) e9 (.cons (argB false a.pattern) (.cons (.v _ _ _) .nil)) (by decide) (by decide) rfl (by simp [hh, m2_1]) ?_
 rintro _ rfl
 rw [← er5]
 simp [hh, m2_1]
 apply hk'
 refine Runs.seq ?_
 refine zE fun k' hk' => ?_
 obtain ⟨c6, ec6, h⟩ := atm h
 have f7 := ib_lss (k := .i64) ec6
 simp [hh, m2_1, f7, -intBin]
 apply hk'
 refine Runs.ite (b := c6) (by simp [hh, m2_1]) (fun dc6 => ?_) (fun dc6 => ?_)
 ·replace h := h.1 dc6
  refine zE fun k' hk' => ?_
  simp [hh, m2_1, dc6]
  apply hk'
  exact Runs.ret1 (v := int (-1)) Tryz.func7 Tryz.results7 (by simp [hh, m2_1, dc6]) (hQ _ _ _ _ (.of (.v _)) ⟨(-1), h, rfl⟩)
 replace h := h.2 dc6
 refine Runs.skip ?_
 refine zE fun k' hk' => ?_
 simp [hh, m2_1, dc6]
 apply hk'
 exact Runs.ret1 (v := int r5) Tryz.func7 Tryz.results7 (by simp [hh, m2_1, dc6]) (hQ _ _ _ _ (.of (.v _)) ⟨r5, h, rfl⟩)
theorem szG_ok (a : Guard) (left : Int) (hp : szG_pre a left) : PureC Tryz.prog 7 [.agg (gC false a), int left] (fun r => r = int (szG a left)) := (szG_walk a left _ (szG_vc a left hp)).mono (by rintro _ ⟨_, rfl, rfl⟩; rfl)
theorem e20 : Ent Tryz.prog 20 := Ent.of Tryz.func20 (by kernel_rfl) rfl
theorem eqR_walk (a : Rule) (b : Rule) (Z : Bool → Prop) (h : eqR_wp a b Z) : PureC Tryz.prog 20 [.agg (rC false a), .agg (rC false b)] (fun r => ∃ y : Bool, Z y ∧ r = bool y) := by
 unfold eqR_wp at h
 refine PureC.of Tryz.func20 rfl Tryz.ntmps20 (by simp) fun Q hQ => ?_
 refine Runs.cut (fun ρ H n => (ρ 0 = .agg (rC false a) ∧ ρ 1 = .agg (rC false b))) (by simp) ?_
 rintro ρ H n1 hh
 refine zE fun k' hk' => ?_
 simp [hh]
 apply hk'
 refine Runs.cut (fun ρ H n => (ρ 2 = pA n1 2 ∧ ρ 3 = pA (n1 + 1) 3) ∧ H (n1, 2) = some ⟨13, [rC false a]⟩ ∧ H (n1 + 1, 3) = some ⟨13, [rC false b]⟩) (by refine ⟨?_, ?_, ?_⟩ <;> simp [hh]) ?_
 clear hh
 rintro ρ H n4 ⟨hh, m2_1, m3_2⟩
 refine Runs.seq ?_
 refine zE fun k' hk' => ?_
 obtain ⟨hb5, h⟩ := h
 obtain ⟨r6, er6, h⟩ := atm h
 simp [hh, m2_1, m3_2]
 refine RunK.callA Ty_ok (eqBigraph_ok a.redex b.redex hb5) e21 (.cons (argB false a.redex) (.cons (argB false b.redex) .nil)) (by decide) (by decide) rfl (by simp [hh, m2_1, m3_2]) ?_
 rintro _ rfl
 rw [← er6]
 simp [hh, m2_1, m3_2]
 apply hk'
 refine Runs.ite (b := (!r6)) (by simp [hh, m2_1, m3_2]) (fun dr6 => ?_) (fun dr6 => ?_)
 ·have dr6 : r6 = false := by simpa using dr6
  replace h := h.2 dr6
  refine zE fun k' hk' => ?_
  simp [hh, m2_1, m3_2, dr6]
  apply hk'
  exact Runs.ret1 (v := bool false) Tryz.func20 Tryz.results20 (by simp [hh, m2_1, m3_2, dr6]) (hQ _ _ _ _ (.of (.v _)) ⟨false, h, rfl⟩)
 have dr6 : r6 = true := by simpa using dr6
 replace h := h.1 dr6
 refine Runs.skip ?_
 refine Runs.seq ?_
 refine zE fun k' hk' => ?_
 obtain ⟨hb7, h⟩ := h
 obtain ⟨r8, er8, h⟩ := atm h
 simp [hh, m2_1, m3_2, dr6]
 refine RunK.callA Ty_ok (eqBigraph_ok a.reactum b.reactum hb7) e21 (.cons (argB false a.reactum) (.cons (argB false b.reactum) .nil)) (by decide) (by decide) rfl (by simp [hh, m2_1, m3_2, dr6]) ?_
 rintro _ rfl
 rw [← er8]
 simp [hh, m2_1, m3_2, dr6]
 apply hk'
 refine Runs.ite (b := (!r8)) (by simp [hh, m2_1, m3_2, dr6]) (fun dr8 => ?_) (fun dr8 => ?_)
 ·have dr8 : r8 = false := by simpa using dr8
  replace h := h.2 dr8
  refine zE fun k' hk' => ?_
  simp [hh, m2_1, m3_2, dr6, dr8]
  apply hk'
  exact Runs.ret1 (v := bool false) Tryz.func20 Tryz.results20 (by simp [hh, m2_1, m3_2, dr6, dr8]) (hQ _ _ _ _ (.of (.v _)) ⟨false, h, rfl⟩)
 have dr8 : r8 = true := by simpa using dr8
 replace h := h.1 dr8
 refine Runs.skip ?_
 refine Runs.seq ?_
 refine zE fun k' hk' => ?_
 obtain ⟨hb9, h⟩ := h
 obtain ⟨r10, er10, h⟩ := atm h
 simp [hh, m2_1, m3_2, dr6, dr8]
 refine RunK.callA Ty_ok (eqIntS_ok a.copies b.copies hb9) e27 (.cons (argI false a.copies) (.cons (argI false b.copies) .nil)) (by decide) (by decide) rfl (by simp [hh, m2_1, m3_2, dr6, dr8]) ?_
 rintro _ rfl
 rw [← er10]
 simp [hh, m2_1, m3_2, dr6, dr8]
 apply hk'
 refine Runs.cut (fun ρ H n => ρ 22 = bool (!r10)) (by simp [hh, m2_1, m3_2, dr6, dr8]) ?_
 clear hh m2_1 m3_2
 rintro ρ H n11 hh
 refine Runs.ite (b := (!r10)) (by simp [hh]) (fun dr10 => ?_) (fun dr10 => ?_)
 ·have dr10 : r10 = false := by simpa using dr10
  replace h := h.2 dr10
  refine zE fun k' hk' => ?_
  simp [hh, dr10]
  apply hk'
  exact Runs.ret1 (v := bool false) Tryz.func20 Tryz.results20 (by simp [hh, dr10]) (hQ _ _ _ _ (.of (.v _)) ⟨false, h, rfl⟩)
 have dr10 : r10 = true := by simpa using dr10
 replace h := h.1 dr10
 refine Runs.skip ?_
 refine zE fun k' hk' => ?_
 simp [hh, dr10]
 apply hk'
 exact Runs.ret1 (v := bool true) Tryz.func20 Tryz.results20 (by simp [hh, dr10]) (hQ _ _ _ _ (.of (.v _)) ⟨true, h, rfl⟩)
theorem eqR_ok (a : Rule) (b : Rule) (hp : eqR_pre a b) : PureC Tryz.prog 20 [.agg (rC false a), .agg (rC false b)] (fun r => r = bool (eqR a b)) := (eqR_walk a b _ (eqR_vc a b hp)).mono (by rintro _ ⟨_, rfl, rfl⟩; rfl)
theorem e19 : Ent Tryz.prog 19 := Ent.of Tryz.func19 (by kernel_rfl) rfl
theorem eqG_walk (a : Guard) (b : Guard) (Z : Bool → Prop) (h : eqG_wp a b Z) : PureC Tryz.prog 19 [.agg (gC false a), .agg (gC false b)] (fun r => ∃ y : Bool, Z y ∧ r = bool y) := by
 unfold eqG_wp at h
 refine PureC.of Tryz.func19 rfl Tryz.ntmps19 (by simp) fun Q hQ => ?_
 refine Runs.cut (fun ρ H n => (ρ 0 = .agg (gC false a) ∧ ρ 1 = .agg (gC false b))) (by simp) ?_
 rintro ρ H n1 hh
 refine zE fun k' hk' => ?_
 simp [hh]
 apply hk'
 refine Runs.cut (fun ρ H n => (ρ 2 = pA n1 2 ∧ ρ 3 = pA (n1 + 1) 3) ∧ H (n1, 2) = some ⟨8, [gC false a]⟩ ∧ H (n1 + 1, 3) = some ⟨8, [gC false b]⟩) (by refine ⟨?_, ?_, ?_⟩ <;> simp [hh]) ?_
 clear hh
 rintro ρ H n4 ⟨hh, m2_1, m3_2⟩
 refine Runs.seq ?_
 refine zE fun k' hk' => ?_
 obtain ⟨c5, ec5, h⟩ := atm h
 have f6 := ib_neq (k := .i64) ec5
 simp [hh, m2_1, m3_2, f6, -intBin]
 apply hk'
 refine Runs.ite (b := c5) (by simp [hh, m2_1, m3_2]) (fun dc5 => ?_) (fun dc5 => ?_)
 ·replace h := h.1 dc5
  refine zE fun k' hk' => ?_
  simp [hh, m2_1, m3_2, dc5]
  apply hk'
  exact Runs.ret1 (v := bool false) Tryz.func19 Tryz.results19 (by simp [hh, m2_1, m3_2, dc5]) (hQ _ _ _ _ (.of (.v _)) ⟨false, h, rfl⟩)
 replace h := h.2 dc5
 refine Runs.skip ?_
 refine Runs.seq ?_
 refine zE fun k' hk' => ?_
 obtain ⟨c7, ec7, h⟩ := atm h
 have f8 := bb_neq ec7
 simp [hh, m2_1, m3_2, f8, dc5, -boolBin]
 apply hk'
 refine Runs.ite (b := c7) (by simp [hh, m2_1, m3_2, dc5]) (fun dc7 => ?_) (fun dc7 => ?_)
 ·replace h := h.1 dc7
  refine zE fun k' hk' => ?_
  simp [hh, m2_1, m3_2, dc5, dc7]
  apply hk'
  exact Runs.ret1 (v := bool false) Tryz.func19 Tryz.results19 (by simp [hh, m2_1, m3_2, dc5, dc7]) (hQ _ _ _ _ (.of (.v _)) ⟨false, h, rfl⟩)
 replace h := h.2 dc7
 refine Runs.skip ?_
 refine Runs.seq ?_
 refine zE fun k' hk' => ?_
 obtain ⟨hb9, h⟩ := h
 obtain ⟨r10, er10, h⟩ := atm h
 simp [hh, m2_1, m3_2, dc5, dc7]
 refine RunK.callA Ty_ok (eqBigraph_ok a.pattern b.pattern hb9) e21 (.cons (argB false a.pattern) (.cons (argB false b.pattern) .nil)) (by decide) (by decide) rfl (by simp [hh, m2_1, m3_2, dc5, dc7]) ?_
 rintro _ rfl
 rw [← er10]
 simp [hh, m2_1, m3_2, dc5, dc7]
 apply hk'
 refine Runs.cut (fun ρ H n => ρ 20 = bool (!r10)) (by simp [hh, m2_1, m3_2, dc5, dc7]) ?_
 clear hh m2_1 m3_2
 rintro ρ H n11 hh
 refine Runs.ite (b := (!r10)) (by simp [hh]) (fun dr10 => ?_) (fun dr10 => ?_)
 ·have dr10 : r10 = false := by simpa using dr10
  replace h := h.2 dr10
  refine zE fun k' hk' => ?_
  simp [hh, dr10]
  apply hk'
  exact Runs.ret1 (v := bool false) Tryz.func19 Tryz.results19 (by simp [hh, dr10]) (hQ _ _ _ _ (.of (.v _)) ⟨false, h, rfl⟩)
 have dr10 : r10 = true := by simpa using dr10
 replace h := h.1 dr10
 refine Runs.skip ?_
 refine zE fun k' hk' => ?_
 simp [hh, dr10]
 apply hk'
 exact Runs.ret1 (v := bool true) Tryz.func19 Tryz.results19 (by simp [hh, dr10]) (hQ _ _ _ _ (.of (.v _)) ⟨true, h, rfl⟩)
theorem eqG_ok (a : Guard) (b : Guard) (hp : eqG_pre a b) : PureC Tryz.prog 19 [.agg (gC false a), .agg (gC false b)] (fun r => r = bool (eqG a b)) := (eqG_walk a b _ (eqG_vc a b hp)).mono (by rintro _ ⟨_, rfl, rfl⟩; rfl)
theorem e3 : Ent Tryz.prog 3 := Ent.of Tryz.func3 (by kernel_rfl) rfl
set_option maxHeartbeats 4000000 in
theorem lawGuard_walk (aSig : List Control) (aG : Guard) (aR : Rule) (aAgent : Big) (aM : Match) (Z : Bool → Prop) (h : lawGuard_wp aSig aG aR aAgent aM Z) : PureC Tryz.prog 3 [.list false (aSig.map Control.cells), .agg (gC false aG), .agg (rC false aR), .agg (bC false aAgent), .agg (mC false aM)] (fun r => ∃ y : Bool, Z y ∧ r = bool y) := by
 unfold lawGuard_wp at h
 refine PureC.of Tryz.func3 rfl Tryz.ntmps3 (by simp) fun Q hQ => ?_
 refine Runs.cut (fun ρ H n => (ρ 0 = .list false (aSig.map Control.cells) ∧ ρ 1 = .agg (gC false aG) ∧ ρ 2 = .agg (rC false aR) ∧ ρ 3 = .agg (bC false aAgent) ∧ ρ 4 = .agg (mC false aM))) (by simp) ?_
 rintro ρ H n1 hh
 refine zE fun k' hk' => ?_
 simp [hh]
 apply hk'
 refine Runs.cut (fun ρ H n => (ρ 0 = .list false (aSig.map Control.cells) ∧ ρ 6 = pA n1 6 ∧ ρ 7 = pA (n1 + 1) 7 ∧ ρ 8 = pA (n1 + 2) 8 ∧ ρ 9 = pA (n1 + 3) 9) ∧ H (n1, 6) = some ⟨8, [gC false aG]⟩ ∧ H (n1 + 1, 7) = some ⟨13, [rC false aR]⟩ ∧ H (n1 + 2, 8) = some ⟨6, [bC false aAgent]⟩ ∧ H (n1 + 3, 9) = some ⟨2, [mC false aM]⟩) (by refine ⟨?_, ?_, ?_, ?_, ?_⟩ <;> simp [hh]) ?_
 clear hh
 rintro ρ H n6 ⟨hh, m6_1, m7_2, m8_3, m9_4⟩
 refine zE fun k' hk' => ?_
 simp [hh, m6_1, m7_2, m8_3, m9_4]
 apply hk'
 refine zE fun k' hk' => ?_
 obtain ⟨hb7, h⟩ := h
 obtain ⟨r8, er8, h⟩ := atm h
 simp [hh, m6_1, m7_2, m8_3, m9_4]
 refine RunK.callA Ty_ok (szControlS_ok aSig 1048576 hb7.1.1 hb7.1.2 hb7.2.len hb7.2.names) e6 (.cons (argC false aSig) (.cons (.v _ _ _) .nil)) (by decide) (by decide) rfl (by simp [hh, m6_1, m7_2, m8_3, m9_4]) ?_
 rintro _ rfl
 rw [← er8]
 simp [hh, m6_1, m7_2, m8_3, m9_4]
 apply hk'
 refine Runs.seq ?_
 refine zE fun k' hk' => ?_
 obtain ⟨c9, ec9, h⟩ := atm h
 have f10 := ib_lss (k := .i64) ec9
 simp [hh, m6_1, m7_2, m8_3, m9_4, f10, -intBin]
 apply hk'
 refine Runs.ite (b := c9) (by simp [hh, m6_1, m7_2, m8_3, m9_4]) (fun dc9 => ?_) (fun dc9 => ?_)
 ·replace h := h.1 dc9
  refine zE fun k' hk' => ?_
  simp [hh, m6_1, m7_2, m8_3, m9_4, dc9]
  apply hk'
  exact Runs.ret1 (v := bool true) Tryz.func3 Tryz.results3 (by simp [hh, m6_1, m7_2, m8_3, m9_4, dc9]) (hQ _ _ _ _ (.of (.v _)) ⟨true, h, rfl⟩)
 replace h := h.2 dc9
 refine Runs.skip ?_
 refine zE fun k' hk' => ?_
 obtain ⟨hb11, h⟩ := h
 obtain ⟨r12, er12, h⟩ := atm h
 simp [hh, m6_1, m7_2, m8_3, m9_4, dc9]
 refine RunK.callA Ty_ok (szG_ok aG r8 hb11) e7 (.cons (argG false aG) (.cons (.v _ _ _) .nil)) (by decide) (by decide) rfl (by simp [hh, m6_1, m7_2, m8_3, m9_4, dc9]) ?_
 rintro _ rfl
 rw [← er12]
 simp [hh, m6_1, m7_2, m8_3, m9_4, dc9]
 apply hk'
 refine Runs.seq ?_
 refine zE fun k' hk' => ?_
 obtain ⟨c13, ec13, h⟩ := atm h
 have f14 := ib_lss (k := .i64) ec13
 simp [hh, m6_1, m7_2, m8_3, m9_4, f14, dc9, -intBin]
 apply hk'
 refine Runs.ite (b := c13) (by simp [hh, m6_1, m7_2, m8_3, m9_4, dc9]) (fun dc13 => ?_) (fun dc13 => ?_)
 ·replace h := h.1 dc13
  refine zE fun k' hk' => ?_
  simp [hh, m6_1, m7_2, m8_3, m9_4, dc9, dc13]
  apply hk'
  exact Runs.ret1 (v := bool true) Tryz.func3 Tryz.results3 (by simp [hh, m6_1, m7_2, m8_3, m9_4, dc9, dc13]) (hQ _ _ _ _ (.of (.v _)) ⟨true, h, rfl⟩)
 replace h := h.2 dc13
 refine Runs.skip ?_
 refine zE fun k' hk' => ?_
 obtain ⟨hb15, h⟩ := h
 obtain ⟨r16, er16, h⟩ := atm h
 simp [hh, m6_1, m7_2, m8_3, m9_4, dc9, dc13]
 refine RunK.callA Ty_ok (szR_ok aR r12 hb15) e8 (.cons (argR false aR) (.cons (.v _ _ _) .nil)) (by decide) (by decide) rfl (by simp [hh, m6_1, m7_2, m8_3, m9_4, dc9, dc13]) ?_
 rintro _ rfl
 rw [← er16]
 simp [hh, m6_1, m7_2, m8_3, m9_4, dc9, dc13]
 apply hk'
 refine Runs.cut (fun ρ H n => (ρ 0 = .list false (aSig.map Control.cells) ∧ ρ 6 = pA n1 6 ∧ ρ 7 = pA (n1 + 1) 7 ∧ ρ 8 = pA (n1 + 2) 8 ∧ ρ 9 = pA (n1 + 3) 9 ∧ ρ 11 = int r16) ∧ H (n1, 6) = some ⟨8, [gC false aG]⟩ ∧ H (n1 + 1, 7) = some ⟨13, [rC false aR]⟩ ∧ H (n1 + 2, 8) = some ⟨6, [bC false aAgent]⟩ ∧ H (n1 + 3, 9) = some ⟨2, [mC false aM]⟩) (by refine ⟨?_, ?_, ?_, ?_, ?_⟩ <;> simp [hh, m6_1, m7_2, m8_3, m9_4, dc9, dc13]) ?_
 clear hh m6_1 m7_2 m8_3 m9_4
 rintro ρ H n17 ⟨hh, m6_1, m7_2, m8_3, m9_4⟩
 refine Runs.seq ?_
 refine zE fun k' hk' => ?_
 obtain ⟨c18, ec18, h⟩ := atm h
 have f19 := ib_lss (k := .i64) ec18
 simp [hh, m6_1, m7_2, m8_3, m9_4, f19, -intBin]
 apply hk'
 refine Runs.ite (b := c18) (by simp [hh, m6_1, m7_2, m8_3, m9_4]) (fun dc18 => ?_) (fun dc18 => ?_)
 ·replace h := h.1 dc18
  refine zE fun k' hk' => ?_
  simp [hh, m6_1, m7_2, m8_3, m9_4, dc18]
  apply hk'
  exact Runs.ret1 (v := bool true) Tryz.func3 Tryz.results3 (by simp [hh, m6_1, m7_2, m8_3, m9_4, dc18]) (hQ _ _ _ _ (.of (.v _)) ⟨true, h, rfl⟩)
 replace h := h.2 dc18
 refine Runs.skip ?_
 refine zE fun k' hk' => ?_
 obtain ⟨hb20, h⟩ := h
 obtain ⟨r21, er21, h⟩ := atm h
 simp [hh, m6_1, m7_2, m8_3, m9_4, dc18]
 refine RunK.callA Ty_ok (szBigraph_ok aAgent r16 hb20.1.1 hb20.1.2 hb20.2) e9 (.cons (argB false aAgent) (.cons (.v _ _ _) .nil)) (by decide) (by decide) rfl (by simp [hh, m6_1, m7_2, m8_3, m9_4, dc18]) ?_
 rintro _ rfl
 rw [← er21]
 simp [hh, m6_1, m7_2, m8_3, m9_4, dc18]
 apply hk'
 refine Runs.seq ?_
 refine zE fun k' hk' => ?_
 obtain ⟨c22, ec22, h⟩ := atm h
 have f23 := ib_lss (k := .i64) ec22
 simp [hh, m6_1, m7_2, m8_3, m9_4, f23, dc18, -intBin]
 apply hk'
 refine Runs.ite (b := c22) (by simp [hh, m6_1, m7_2, m8_3, m9_4, dc18]) (fun dc22 => ?_) (fun dc22 => ?_)
 ·replace h := h.1 dc22
  refine zE fun k' hk' => ?_
  simp [hh, m6_1, m7_2, m8_3, m9_4, dc18, dc22]
  apply hk'
  exact Runs.ret1 (v := bool true) Tryz.func3 Tryz.results3 (by simp [hh, m6_1, m7_2, m8_3, m9_4, dc18, dc22]) (hQ _ _ _ _ (.of (.v _)) ⟨true, h, rfl⟩)
 replace h := h.2 dc22
 refine Runs.skip ?_
 refine zE fun k' hk' => ?_
 obtain ⟨hb24, h⟩ := h
 obtain ⟨r25, er25, h⟩ := atm h
 simp [hh, m6_1, m7_2, m8_3, m9_4, dc18, dc22]
 refine RunK.callA Ty_ok (szM_ok aM r21 hb24) e10 (.cons (argM false aM) (.cons (.v _ _ _) .nil)) (by decide) (by decide) rfl (by simp [hh, m6_1, m7_2, m8_3, m9_4, dc18, dc22]) ?_
 rintro _ rfl
 rw [← er25]
 simp [hh, m6_1, m7_2, m8_3, m9_4, dc18, dc22]
 apply hk'
 refine Runs.seq ?_
 refine zE fun k' hk' => ?_
 obtain ⟨c26, ec26, h⟩ := atm h
 have f27 := ib_lss (k := .i64) ec26
 simp [hh, m6_1, m7_2, m8_3, m9_4, f27, dc18, dc22, -intBin]
 apply hk'
 refine Runs.ite (b := c26) (by simp [hh, m6_1, m7_2, m8_3, m9_4, dc18, dc22]) (fun dc26 => ?_) (fun dc26 => ?_)
 ·replace h := h.1 dc26
  refine zE fun k' hk' => ?_
  simp [hh, m6_1, m7_2, m8_3, m9_4, dc18, dc22, dc26]
  apply hk'
  refine Runs.cut (fun ρ H n => ρ 10 = bool true) (by simp [hh, m6_1, m7_2, m8_3, m9_4, dc18, dc22, dc26]) ?_
  clear hh m6_1 m7_2 m8_3 m9_4
  rintro ρ H n28 hh
  exact Runs.ret1 (v := bool true) Tryz.func3 Tryz.results3 (by simp [hh]) (hQ _ _ _ _ (.of (.v _)) ⟨true, h, rfl⟩)
 replace h := h.2 dc26
 refine Runs.skip ?_
 refine Runs.seqD Ty_ok kindOp_ok draws (by decide) (by kernel_rfl) fun k' hk' => ?_
 obtain ⟨hb29, h⟩ := h
 obtain ⟨r30, er30, h⟩ := atm h
 simp [hh, m6_1, m7_2, m8_3, m9_4, dc18, dc22, dc26]
 refine RunDK.callA Ty_ok kindOp_ok ((toControlS_ok aSig hb29).pure) e12 (.cons (argC false aSig) .nil) (by decide) rfl (by simp [hh, m6_1, m7_2, m8_3, m9_4, dc18, dc22, dc26]) ?_
 rw [← er30]
 obtain ⟨hb31, h⟩ := h
 obtain ⟨r32, er32, h⟩ := atm h
 simp [hh, m6_1, m7_2, m8_3, m9_4, dc18, dc22, dc26]
 refine RunDK.callA Ty_ok kindOp_ok (toGuard_ok aG hb31) e13 (.cons (argG false aG) .nil) (by decide) rfl (by simp [hh, m6_1, m7_2, m8_3, m9_4, dc18, dc22, dc26]) ?_
 rw [← er32]
 obtain ⟨hb33, h⟩ := h
 obtain ⟨r34, er34, h⟩ := atm h
 simp [hh, m6_1, m7_2, m8_3, m9_4, dc18, dc22, dc26]
 refine RunDK.callA Ty_ok kindOp_ok (toRule_ok aR hb33) e14 (.cons (argR false aR) .nil) (by decide) rfl (by simp [hh, m6_1, m7_2, m8_3, m9_4, dc18, dc22, dc26]) ?_
 rw [← er34]
 obtain ⟨hb35, h⟩ := h
 obtain ⟨r36, er36, h⟩ := atm h
 simp [hh, m6_1, m7_2, m8_3, m9_4, dc18, dc22, dc26]
 refine RunDK.callA Ty_ok kindOp_ok ((toBigraph_ok aAgent hb35).pure) e15 (.cons (argB false aAgent) .nil) (by decide) rfl (by simp [hh, m6_1, m7_2, m8_3, m9_4, dc18, dc22, dc26]) ?_
 rw [← er36]
 obtain ⟨hb37, h⟩ := h
 obtain ⟨r38, er38, h⟩ := atm h
 simp [hh, m6_1, m7_2, m8_3, m9_4, dc18, dc22, dc26]
 refine RunDK.callA Ty_ok kindOp_ok ((toMatch_ok aM hb37).pure) e16 (.cons (argM false aM) .nil) (by decide) rfl (by simp [hh, m6_1, m7_2, m8_3, m9_4, dc18, dc22, dc26]) ?_
 rw [← er38]
 obtain ⟨hb39, h⟩ := h
 obtain ⟨r40, er40, h⟩ := atm h
 simp [hh, m6_1, m7_2, m8_3, m9_4, dc18, dc22, dc26]
 refine RunDK.callA Ty_ok kindOp_ok (sGuardHolds_ok r30 r32 r34 r36 r38 hb39) e11 (.cons (argC true r30) (.cons (argG true r32) (.cons (argR true r34) (.cons (argB true r36) (.cons (argM true r38) .nil))))) (by decide) rfl (by simp [hh, m6_1, m7_2, m8_3, m9_4, dc18, dc22, dc26]) ?_
 rw [← er40]
 simp [hh, m6_1, m7_2, m8_3, m9_4, dc18, dc22, dc26]
 apply hk'
 refine Runs.cut (fun ρ H n => (ρ 0 = .list false (aSig.map Control.cells) ∧ ρ 6 = pA n1 6 ∧ ρ 7 = pA (n1 + 1) 7 ∧ ρ 8 = pA (n1 + 2) 8 ∧ ρ 9 = pA (n1 + 3) 9 ∧ ρ 12 = bool r40.1 ∧ ρ 13 = bool r40.2) ∧ H (n1, 6) = some ⟨8, [gC false aG]⟩ ∧ H (n1 + 1, 7) = some ⟨13, [rC false aR]⟩ ∧ H (n1 + 2, 8) = some ⟨6, [bC false aAgent]⟩ ∧ H (n1 + 3, 9) = some ⟨2, [mC false aM]⟩) (by refine ⟨?_, ?_, ?_, ?_, ?_⟩ <;> simp [hh, m6_1, m7_2, m8_3, m9_4, dc18, dc22, dc26]) ?_
 clear hh m6_1 m7_2 m8_3 m9_4
 rintro ρ H n41 ⟨hh, m6_1, m7_2, m8_3, m9_4⟩
 refine zE fun k' hk' => ?_
 obtain ⟨hb42, h⟩ := h
 obtain ⟨r43, er43, h⟩ := atm h
 simp [hh, m6_1, m7_2, m8_3, m9_4]
 refine RunK.callA Ty_ok ((toControlS_ok aSig hb42).pure) e12 (.cons (argC false aSig) .nil) (by decide) (by decide) rfl (by simp [hh, m6_1, m7_2, m8_3, m9_4]) ?_
 rintro _ rfl
 rw [← er43]
 simp [hh, m6_1, m7_2, m8_3, m9_4]
 apply hk'
 refine zE fun k' hk' => ?_
 obtain ⟨hb44, h⟩ := h
 obtain ⟨r45, er45, h⟩ := atm h
 simp [hh, m6_1, m7_2, m8_3, m9_4]
 refine RunK.callA Ty_ok (toGuard_ok aG hb44) e13 (.cons (argG false aG) .nil) (by decide) (by decide) rfl (by simp [hh, m6_1, m7_2, m8_3, m9_4]) ?_
 rintro _ rfl
 rw [← er45]
 simp [hh, m6_1, m7_2, m8_3, m9_4]
 apply hk'
 refine Runs.cut (fun ρ H n => (ρ 0 = .list false (aSig.map Control.cells) ∧ ρ 6 = pA n1 6 ∧ ρ 7 = pA (n1 + 1) 7 ∧ ρ 8 = pA (n1 + 2) 8 ∧ ρ 9 = pA (n1 + 3) 9 ∧ ρ 12 = bool r40.1 ∧ ρ 13 = bool r40.2 ∧ ρ 14 = .list true (r43.map Control.cells) ∧ ρ 15 = pA n41 15) ∧ H (n1, 6) = some ⟨8, [gC false aG]⟩ ∧ H (n1 + 1, 7) = some ⟨13, [rC false aR]⟩ ∧ H (n1 + 2, 8) = some ⟨6, [bC false aAgent]⟩ ∧ H (n1 + 3, 9) = some ⟨2, [mC false aM]⟩ ∧ H (n41, 15) = some ⟨8, [gC true r45]⟩) (by refine ⟨?_, ?_, ?_, ?_, ?_, ?_⟩ <;> simp [hh, m6_1, m7_2, m8_3, m9_4]) ?_
 clear hh m6_1 m7_2 m8_3 m9_4
 rintro ρ H n47 ⟨hh, m6_1, m7_2, m8_3, m9_4, m15_45⟩
 refine zE fun k' hk' => ?_
 obtain ⟨hb48, h⟩ := h
 obtain ⟨r49, er49, h⟩ := atm h
 simp [hh, m6_1, m7_2, m8_3, m9_4, m15_45]
 refine RunK.callA Ty_ok (toRule_ok aR hb48) e14 (.cons (argR false aR) .nil) (by decide) (by decide) rfl (by simp [hh, m6_1, m7_2, m8_3, m9_4, m15_45]) ?_
 rintro _ rfl
 rw [← er49]
 simp [hh, m6_1, m7_2, m8_3, m9_4, m15_45]
 apply hk'
 refine Runs.cut (fun ρ H n => (ρ 0 = .list false (aSig.map Control.cells) ∧ ρ 6 = pA n1 6 ∧ ρ 7 = pA (n1 + 1) 7 ∧ ρ 8 = pA (n1 + 2) 8 ∧ ρ 9 = pA (n1 + 3) 9 ∧ ρ 12 = bool r40.1 ∧ ρ 13 = bool r40.2 ∧ ρ 14 = .list true (r43.map Control.cells) ∧ ρ 15 = pA n41 15 ∧ ρ 16 = pA n47 16) ∧ H (n1, 6) = some ⟨8, [gC false aG]⟩ ∧ H (n1 + 1, 7) = some ⟨13, [rC false aR]⟩ ∧ H (n1 + 2, 8) = some ⟨6, [bC false aAgent]⟩ ∧ H (n1 + 3, 9) = some ⟨2, [mC false aM]⟩ ∧ H (n41, 15) = some ⟨8, [gC true r45]⟩ ∧ H (n47, 16) = some ⟨13, [rC true r49]⟩) (by refine ⟨?_, ?_, ?_, ?_, ?_, ?_, ?_⟩ <;> simp [hh, m6_1, m7_2, m8_3, m9_4, m15_45]) ?_
 clear hh m6_1 m7_2 m8_3 m9_4 m15_45
 rintro ρ H n51 ⟨hh, m6_1, m7_2, m8_3, m9_4, m15_45, m16_49⟩
 refine zE fun k' hk' => ?_
 obtain ⟨hb52, h⟩ := h
 obtain ⟨r53, er53, h⟩ := atm h
 simp [hh, m6_1, m7_2, m8_3, m9_4, m15_45, m16_49]
 refine RunK.callA Ty_ok ((toBigraph_ok aAgent hb52).pure) e15 (.cons (argB false aAgent) .nil) (by decide) (by decide) rfl (by simp [hh, m6_1, m7_2, m8_3, m9_4, m15_45, m16_49]) ?_
 rintro _ rfl
 rw [← er53]
 simp [hh, m6_1, m7_2, m8_3, m9_4, m15_45, m16_49]
 apply hk'
 refine Runs.cut (fun ρ H n => (ρ 0 = .list false (aSig.map Control.cells) ∧ ρ 6 = pA n1 6 ∧ ρ 7 = pA (n1 + 1) 7 ∧ ρ 8 = pA (n1 + 2) 8 ∧ ρ 9 = pA (n1 + 3) 9 ∧ ρ 12 = bool r40.1 ∧ ρ 13 = bool r40.2 ∧ ρ 14 = .list true (r43.map Control.cells) ∧ ρ 15 = pA n41 15 ∧ ρ 16 = pA n47 16 ∧ ρ 17 = pA n51 17) ∧ H (n1, 6) = some ⟨8, [gC false aG]⟩ ∧ H (n1 + 1, 7) = some ⟨13, [rC false aR]⟩ ∧ H (n1 + 2, 8) = some ⟨6, [bC false aAgent]⟩ ∧ H (n1 + 3, 9) = some ⟨2, [mC false aM]⟩ ∧ H (n41, 15) = some ⟨8, [gC true r45]⟩ ∧ H (n47, 16) = some ⟨13, [rC true r49]⟩ ∧ H (n51, 17) = some ⟨6, [bC true r53]⟩) (by refine ⟨?_, ?_, ?_, ?_, ?_, ?_, ?_, ?_⟩ <;> simp [hh, m6_1, m7_2, m8_3, m9_4, m15_45, m16_49]) ?_
 clear hh m6_1 m7_2 m8_3 m9_4 m15_45 m16_49
 rintro ρ H n55 ⟨hh, m6_1, m7_2, m8_3, m9_4, m15_45, m16_49, m17_53⟩
 refine zE fun k' hk' => ?_
 obtain ⟨hb56, h⟩ := h
 obtain ⟨r57, er57, h⟩ := atm h
 simp [hh, m6_1, m7_2, m8_3, m9_4, m15_45, m16_49, m17_53]
 refine RunK.callA Ty_ok ((toMatch_ok aM hb56).pure) e16 (.cons (argM false aM) .nil) (by decide) (by decide) rfl (by simp [hh, m6_1, m7_2, m8_3, m9_4, m15_45, m16_49, m17_53]) ?_
 rintro _ rfl
 rw [← er57]
 simp [hh, m6_1, m7_2, m8_3, m9_4, m15_45, m16_49, m17_53]
 apply hk'
 refine Runs.cut (fun ρ H n => (ρ 0 = .list false (aSig.map Control.cells) ∧ ρ 6 = pA n1 6 ∧ ρ 7 = pA (n1 + 1) 7 ∧ ρ 8 = pA (n1 + 2) 8 ∧ ρ 9 = pA (n1 + 3) 9 ∧ ρ 12 = bool r40.1 ∧ ρ 13 = bool r40.2 ∧ ρ 14 = .list true (r43.map Control.cells) ∧ ρ 15 = pA n41 15 ∧ ρ 16 = pA n47 16 ∧ ρ 17 = pA n51 17 ∧ ρ 18 = pA n55 18) ∧ H (n1, 6) = some ⟨8, [gC false aG]⟩ ∧ H (n1 + 1, 7) = some ⟨13, [rC false aR]⟩ ∧ H (n1 + 2, 8) = some ⟨6, [bC false aAgent]⟩ ∧ H (n1 + 3, 9) = some ⟨2, [mC false aM]⟩ ∧ H (n41, 15) = some ⟨8, [gC true r45]⟩ ∧ H (n47, 16) = some ⟨13, [rC true r49]⟩ ∧ H (n51, 17) = some ⟨6, [bC true r53]⟩ ∧ H (n55, 18) = some ⟨2, [mC true r57]⟩) (by refine ⟨?_, ?_, ?_, ?_, ?_, ?_, ?_, ?_, ?_⟩ <;> simp [hh, m6_1, m7_2, m8_3, m9_4, m15_45, m16_49, m17_53]) ?_
 clear hh m6_1 m7_2 m8_3 m9_4 m15_45 m16_49 m17_53
 rintro ρ H n59 ⟨hh, m6_1, m7_2, m8_3, m9_4, m15_45, m16_49, m17_53, m18_57⟩
 refine zE fun k' hk' => ?_
 obtain ⟨hb60, h⟩ := h
 obtain ⟨r61, er61, h⟩ := atm h
 simp [hh, m6_1, m7_2, m8_3, m9_4, m15_45, m16_49, m17_53, m18_57]
 refine RunK.callA Ty_ok (GuardHolds_ok r43 r45 r49 r53 r57 hb60) e17 (.cons (argC true r43) (.cons (argG true r45) (.cons (argR true r49) (.cons (argB true r53) (.cons (argM true r57) .nil))))) (by decide) (by decide) rfl (by simp [hh, m6_1, m7_2, m8_3, m9_4, m15_45, m16_49, m17_53, m18_57]) ?_
 rintro _ rfl
 rw [← er61]
 simp [hh, m6_1, m7_2, m8_3, m9_4, m15_45, m16_49, m17_53, m18_57]
 apply hk'
 refine Runs.seq ?_
 refine zE fun k' hk' => ?_
 obtain ⟨J62, hJ63, hr64⟩ := h
 have fin66 : ∀ (sJ : Bool) (ρ : Env) (H : Heap) (n : Nat), J62 sJ → (match sJ with | b65 => (ρ 0 = .list false (aSig.map Control.cells) ∧ ρ 6 = pA n1 6 ∧ ρ 7 = pA (n1 + 1) 7 ∧ ρ 8 = pA (n1 + 2) 8 ∧ ρ 9 = pA (n1 + 3) 9 ∧ ρ 14 = .list true (r43.map Control.cells) ∧ ρ 15 = pA n41 15 ∧ ρ 16 = pA n47 16 ∧ ρ 17 = pA n51 17 ∧ ρ 18 = pA n55 18 ∧ ρ 86 = bool b65) ∧ H (n1, 6) = some ⟨8, [gC false aG]⟩ ∧ H (n1 + 1, 7) = some ⟨13, [rC false aR]⟩ ∧ H (n1 + 2, 8) = some ⟨6, [bC false aAgent]⟩ ∧ H (n1 + 3, 9) = some ⟨2, [mC false aM]⟩ ∧ H (n41, 15) = some ⟨8, [gC true r45]⟩ ∧ H (n47, 16) = some ⟨13, [rC true r49]⟩ ∧ H (n51, 17) = some ⟨6, [bC true r53]⟩ ∧ H (n55, 18) = some ⟨2, [mC true r57]⟩) → Runs Tryz.prog 3 112 k' ρ H n Q := by
  rintro b65 ρ H n67 h ⟨hh, m6_1, m7_2, m8_3, m9_4, m15_45, m16_49, m17_53, m18_57⟩
  replace h := hr64 _ h
  apply hk'
  refine Runs.ite (b := b65) (by simp [hh, m6_1, m7_2, m8_3, m9_4, m15_45, m16_49, m17_53, m18_57]) (fun db65 => ?_) (fun db65 => ?_)
  ·replace h := h.1 db65
   refine zE fun k' hk' => ?_
   simp [hh, m6_1, m7_2, m8_3, m9_4, m15_45, m16_49, m17_53, m18_57, db65]
   apply hk'
   exact Runs.ret1 (v := bool false) Tryz.func3 Tryz.results3 (by simp [hh, m6_1, m7_2, m8_3, m9_4, m15_45, m16_49, m17_53, m18_57, db65]) (hQ _ _ _ _ (.of (.v _)) ⟨false, h, rfl⟩)
  replace h := h.2 db65
  refine Runs.skip ?_
  refine Runs.seq ?_
  refine zE fun k' hk' => ?_
  obtain ⟨hb68, h⟩ := h
  obtain ⟨r69, er69, h⟩ := atm h
  simp [hh, m6_1, m7_2, m8_3, m9_4, m15_45, m16_49, m17_53, m18_57, db65]
  refine RunK.callA Ty_ok ((toControlS_ok aSig hb68).pure) e12 (.cons (argC false aSig) .nil) (by decide) (by decide) rfl (by simp [hh, m6_1, m7_2, m8_3, m9_4, m15_45, m16_49, m17_53, m18_57, db65]) ?_
  rintro _ rfl
  rw [← er69]
  obtain ⟨hb70, h⟩ := h
  obtain ⟨r71, er71, h⟩ := atm h
  simp [hh, m6_1, m7_2, m8_3, m9_4, m15_45, m16_49, m17_53, m18_57, db65]
  refine RunK.callA Ty_ok (eqControlS_ok r43 r69 hb70) e18 (.cons (argC true r43) (.cons (argC true r69) .nil)) (by decide) (by decide) rfl (by simp [hh, m6_1, m7_2, m8_3, m9_4, m15_45, m16_49, m17_53, m18_57, db65]) ?_
  rintro _ rfl
  rw [← er71]
  simp [hh, m6_1, m7_2, m8_3, m9_4, m15_45, m16_49, m17_53, m18_57, db65]
  apply hk'
  refine Runs.ite (b := (!r71)) (by simp [hh, m6_1, m7_2, m8_3, m9_4, m15_45, m16_49, m17_53, m18_57, db65]) (fun dr71 => ?_) (fun dr71 => ?_)
  ·have dr71 : r71 = false := by simpa using dr71
   replace h := h.2 dr71
   refine zE fun k' hk' => ?_
   simp [hh, m6_1, m7_2, m8_3, m9_4, m15_45, m16_49, m17_53, m18_57, db65, dr71]
   apply hk'
   exact Runs.ret1 (v := bool false) Tryz.func3 Tryz.results3 (by simp [hh, m6_1, m7_2, m8_3, m9_4, m15_45, m16_49, m17_53, m18_57, db65, dr71]) (hQ _ _ _ _ (.of (.v _)) ⟨false, h, rfl⟩)
  have dr71 : r71 = true := by simpa using dr71
  replace h := h.1 dr71
  refine Runs.skip ?_
  refine Runs.seq ?_
  refine Runs.seqD Ty_ok kindOp_ok draws (by decide) (by kernel_rfl) fun k' hk' => ?_
  obtain ⟨hb72, h⟩ := h
  obtain ⟨r73, er73, h⟩ := atm h
  simp [hh, m6_1, m7_2, m8_3, m9_4, m15_45, m16_49, m17_53, m18_57, db65, dr71]
  refine RunDK.callA Ty_ok kindOp_ok (toGuard_ok aG hb72) e13 (.cons (argG false aG) .nil) (by decide) rfl (by simp [hh, m6_1, m7_2, m8_3, m9_4, m15_45, m16_49, m17_53, m18_57, db65, dr71]) ?_
  rw [← er73]
  obtain ⟨hb74, h⟩ := h
  obtain ⟨r75, er75, h⟩ := atm h
  simp [hh, m6_1, m7_2, m8_3, m9_4, m15_45, m16_49, m17_53, m18_57, db65, dr71]
  refine RunDK.callA Ty_ok kindOp_ok (eqG_ok r45 r73 hb74) e19 (.cons (argG true r45) (.cons (argG true r73) .nil)) (by decide) rfl (by simp [hh, m6_1, m7_2, m8_3, m9_4, m15_45, m16_49, m17_53, m18_57, db65, dr71]) ?_
  rw [← er75]
  simp [hh, m6_1, m7_2, m8_3, m9_4, m15_45, m16_49, m17_53, m18_57, db65, dr71]
  apply hk'
  refine Runs.ite (b := (!r75)) (by simp [hh, m6_1, m7_2, m8_3, m9_4, m15_45, m16_49, m17_53, m18_57, db65, dr71]) (fun dr75 => ?_) (fun dr75 => ?_)
  ·have dr75 : r75 = false := by simpa using dr75
   replace h := h.2 dr75
   refine zE fun k' hk' => ?_
   simp [hh, m6_1, m7_2, m8_3, m9_4, m15_45, m16_49, m17_53, m18_57, db65, dr71, dr75]
   apply hk'
   exact Runs.ret1 (v := bool false) Tryz.func3 Tryz.results3 (by simp [hh, m6_1, m7_2, m8_3, m9_4, m15_45, m16_49, m17_53, m18_57, db65, dr71, dr75]) (hQ _ _ _ _ (.of (.v _)) ⟨false, h, rfl⟩)
  have dr75 : r75 = true := by simpa using dr75
  replace h := h.1 dr75
  refine Runs.skip ?_
  refine Runs.seq ?_
  refine Runs.seqD Ty_ok kindOp_ok draws (by decide) (by kernel_rfl) fun k' hk' => ?_
  obtain ⟨hb76, h⟩ := h
  obtain ⟨r77, er77, h⟩ := atm h
  simp [hh, m6_1, m7_2, m8_3, m9_4, m15_45, m16_49, m17_53, m18_57, db65, dr71, dr75]
  refine RunDK.callA Ty_ok kindOp_ok (toRule_ok aR hb76) e14 (.cons (argR false aR) .nil) (by decide) rfl (by simp [hh, m6_1, m7_2, m8_3, m9_4, m15_45, m16_49, m17_53, m18_57, db65, dr71, dr75]) ?_
  rw [← er77]
  obtain ⟨hb78, h⟩ := h
  obtain ⟨r79, er79, h⟩ := atm h
  simp [hh, m6_1, m7_2, m8_3, m9_4, m15_45, m16_49, m17_53, m18_57, db65, dr71, dr75]
  refine RunDK.callA Ty_ok kindOp_ok (eqR_ok r49 r77 hb78) e20 (.cons (argR true r49) (.cons (argR true r77) .nil)) (by decide) rfl (by simp [hh, m6_1, m7_2, m8_3, m9_4, m15_45, m16_49, m17_53, m18_57, db65, dr71, dr75]) ?_
  rw [← er79]
  simp [hh, m6_1, m7_2, m8_3, m9_4, m15_45, m16_49, m17_53, m18_57, db65, dr71, dr75]
  apply hk'
  refine Runs.cut (fun ρ H n => (ρ 8 = pA (n1 + 2) 8 ∧ ρ 9 = pA (n1 + 3) 9 ∧ ρ 17 = pA n51 17 ∧ ρ 18 = pA n55 18 ∧ ρ 101 = bool (!r79)) ∧ H (n1 + 2, 8) = some ⟨6, [bC false aAgent]⟩ ∧ H (n1 + 3, 9) = some ⟨2, [mC false aM]⟩ ∧ H (n51, 17) = some ⟨6, [bC true r53]⟩ ∧ H (n55, 18) = some ⟨2, [mC true r57]⟩) (by refine ⟨?_, ?_, ?_, ?_, ?_⟩ <;> simp [hh, m6_1, m7_2, m8_3, m9_4, m15_45, m16_49, m17_53, m18_57, db65, dr71, dr75]) ?_
  clear hh m6_1 m7_2 m8_3 m9_4 m15_45 m16_49 m17_53 m18_57
  rintro ρ H n80 ⟨hh, m8_3, m9_4, m17_53, m18_57⟩
  refine Runs.ite (b := (!r79)) (by simp [hh, m8_3, m9_4, m17_53, m18_57]) (fun dr79 => ?_) (fun dr79 => ?_)
  ·have dr79 : r79 = false := by simpa using dr79
   replace h := h.2 dr79
   refine zE fun k' hk' => ?_
   simp [hh, m8_3, m9_4, m17_53, m18_57, dr79]
   apply hk'
   exact Runs.ret1 (v := bool false) Tryz.func3 Tryz.results3 (by simp [hh, m8_3, m9_4, m17_53, m18_57, dr79]) (hQ _ _ _ _ (.of (.v _)) ⟨false, h, rfl⟩)
  have dr79 : r79 = true := by simpa using dr79
  replace h := h.1 dr79
  refine Runs.skip ?_
  refine Runs.seq ?_
  refine Runs.seqD Ty_ok kindOp_ok draws (by decide) (by kernel_rfl) fun k' hk' => ?_
  obtain ⟨hb81, h⟩ := h
  obtain ⟨r82, er82, h⟩ := atm h
  simp [hh, m8_3, m9_4, m17_53, m18_57, dr79]
  refine RunDK.callA Ty_ok kindOp_ok ((toBigraph_ok aAgent hb81).pure) e15 (.cons (argB false aAgent) .nil) (by decide) rfl (by simp [hh, m8_3, m9_4, m17_53, m18_57, dr79]) ?_
  rw [← er82]
  obtain ⟨hb83, h⟩ := h
  obtain ⟨r84, er84, h⟩ := atm h
  simp [hh, m8_3, m9_4, m17_53, m18_57, dr79]
  refine RunDK.callA Ty_ok kindOp_ok (eqBigraph_ok r53 r82 hb83) e21 (.cons (argB true r53) (.cons (argB true r82) .nil)) (by decide) rfl (by simp [hh, m8_3, m9_4, m17_53, m18_57, dr79]) ?_
  rw [← er84]
  simp [hh, m8_3, m9_4, m17_53, m18_57, dr79]
  apply hk'
  refine Runs.ite (b := (!r84)) (by simp [hh, m8_3, m9_4, m17_53, m18_57, dr79]) (fun dr84 => ?_) (fun dr84 => ?_)
  ·have dr84 : r84 = false := by simpa using dr84
   replace h := h.2 dr84
   refine zE fun k' hk' => ?_
   simp [hh, m8_3, m9_4, m17_53, m18_57, dr79, dr84]
   apply hk'
   exact Runs.ret1 (v := bool false) Tryz.func3 Tryz.results3 (by simp [hh, m8_3, m9_4, m17_53, m18_57, dr79, dr84]) (hQ _ _ _ _ (.of (.v _)) ⟨false, h, rfl⟩)
  have dr84 : r84 = true := by simpa using dr84
  replace h := h.1 dr84
  refine Runs.skip ?_
  refine Runs.seq ?_
  refine Runs.seqD Ty_ok kindOp_ok draws (by decide) (by kernel_rfl) fun k' hk' => ?_
  obtain ⟨hb85, h⟩ := h
  obtain ⟨r86, er86, h⟩ := atm h
  simp [hh, m8_3, m9_4, m17_53, m18_57, dr79, dr84]
  refine RunDK.callA Ty_ok kindOp_ok ((toMatch_ok aM hb85).pure) e16 (.cons (argM false aM) .nil) (by decide) rfl (by simp [hh, m8_3, m9_4, m17_53, m18_57, dr79, dr84]) ?_
  rw [← er86]
  obtain ⟨hb87, h⟩ := h
  obtain ⟨r88, er88, h⟩ := atm h
  simp [hh, m8_3, m9_4, m17_53, m18_57, dr79, dr84]
  refine RunDK.callA Ty_ok kindOp_ok (eqM_ok r57 r86 hb87) e22 (.cons (argM true r57) (.cons (argM true r86) .nil)) (by decide) rfl (by simp [hh, m8_3, m9_4, m17_53, m18_57, dr79, dr84]) ?_
  rw [← er88]
  simp [hh, m8_3, m9_4, m17_53, m18_57, dr79, dr84]
  apply hk'
  refine Runs.ite (b := (!r88)) (by simp [hh, m8_3, m9_4, m17_53, m18_57, dr79, dr84]) (fun dr88 => ?_) (fun dr88 => ?_)
  ·have dr88 : r88 = false := by simpa using dr88
   replace h := h.2 dr88
   refine zE fun k' hk' => ?_
   simp [hh, m8_3, m9_4, m17_53, m18_57, dr79, dr84, dr88]
   apply hk'
   exact Runs.ret1 (v := bool false) Tryz.func3 Tryz.results3 (by simp [hh, m8_3, m9_4, m17_53, m18_57, dr79, dr84, dr88]) (hQ _ _ _ _ (.of (.v _)) ⟨false, h, rfl⟩)
  have dr88 : r88 = true := by simpa using dr88
  replace h := h.1 dr88
  refine Runs.skip ?_
  refine zE fun k' hk' => ?_
  simp [hh, m8_3, m9_4, m17_53, m18_57, dr79, dr84, dr88]
  apply hk'
  exact Runs.ret1 (v := bool true) Tryz.func3 Tryz.results3 (by simp [hh, m8_3, m9_4, m17_53, m18_57, dr79, dr84, dr88]) (hQ _ _ _ _ (.of (.v _)) ⟨true, h, rfl⟩)
 replace h := hJ63
 obtain ⟨c89, ec89, h⟩ := atm h
 have f90 := bb_neq ec89
 rcases Bool.eq_false_or_eq_true c89 with dc89 | dc89
 ·replace h := h.1 dc89
  simp [hh, m6_1, m7_2, m8_3, m9_4, m15_45, m16_49, m17_53, m18_57, f90, dc89, -boolBin]
  exact fin66 (true) _ _ _ h (by refine ⟨?_, ?_, ?_, ?_, ?_, ?_, ?_, ?_, ?_⟩ <;> simp [hh, m6_1, m7_2, m8_3, m9_4, m15_45, m16_49, m17_53, m18_57, f90, dc89, -boolBin])
 replace h := h.2 dc89
 obtain ⟨c91, ec91, h⟩ := atm h
 have f92 := bb_neq ec91
 simp [hh, m6_1, m7_2, m8_3, m9_4, m15_45, m16_49, m17_53, m18_57, f90, f92, dc89, -boolBin]
 exact fin66 (c91) _ _ _ h (by refine ⟨?_, ?_, ?_, ?_, ?_, ?_, ?_, ?_, ?_⟩ <;> simp [hh, m6_1, m7_2, m8_3, m9_4, m15_45, m16_49, m17_53, m18_57, f90, f92, dc89, -boolBin])
theorem lawGuard_ok (aSig : List Control) (aG : Guard) (aR : Rule) (aAgent : Big) (aM : Match) (hp : lawGuard_pre aSig aG aR aAgent aM) : PureC Tryz.prog 3 [.list false (aSig.map Control.cells), .agg (gC false aG), .agg (rC false aR), .agg (bC false aAgent), .agg (mC false aM)] (fun r => r = bool (lawGuard aSig aG aR aAgent aM)) := (lawGuard_walk aSig aG aR aAgent aM _ (lawGuard_vc aSig aG aR aAgent aM hp)).mono (by rintro _ ⟨_, rfl, rfl⟩; rfl)
end Go.Ab.Vg
/- Readers of a law's arguments: a rule, a guard. (Template.) -/
namespace Go.Ab
abbrev HugeR (r : Rule) : Prop := HugeB r.redex ∧ HugeB r.reactum ∧ r.copies.length ≤ 9223372036854775807
abbrev HugeG (g : Guard) : Prop := HugeB g.pattern
end Go.Ab
namespace Go.Proofs.YtbpdcoahefnnkaaGreatDoor
open Go.ChangeShapes Go.WideShapes Go.ChangeAt Go.RowKit Go.Ab
set_option maxRecDepth 100000
theorem rRuleF : Reader Tryz.prog 32 (Go.Ab.Rule.cells false) HugeR := by
 have h := Reader.struct Tryz.underlying32 (n := 13) (by kernel_rfl) (FReader.cons (n := 6) rfl (by kernel_rfl) rBigF (FReader.cons (n := 6) rfl (by kernel_rfl) rBigF (FReader.cons (n := 1) rfl (by kernel_rfl) rInts (FReader.nil 13))))
 exact h.map (e' := Go.Ab.Rule.cells false) (ok' := HugeR) (fun p => ⟨p.1, p.2.1, p.2.2.1⟩) (fun p => rfl) (fun p hp => ⟨hp.1, hp.2.1, hp.2.2.1.1⟩)
theorem rRule : ArgR Tryz.prog 32 (fun r : Go.Ab.Rule => .agg (r.cells false)) HugeR := ArgR.struct Tryz.underlying32 rRuleF
theorem rGuardF : Reader Tryz.prog 30 (Go.Ab.Guard.cells false) HugeG := by
 have h := Reader.struct Tryz.underlying30 (n := 8) (by kernel_rfl) (FReader.cons (n := 1) rfl (by kernel_rfl) (Reader.int Tryz.underlying3) (FReader.cons (n := 1) rfl (by kernel_rfl) (Reader.bool Tryz.underlying4) (FReader.cons (n := 6) rfl (by kernel_rfl) rBigF (FReader.nil 8))))
 exact h.map (e' := Go.Ab.Guard.cells false) (ok' := HugeG) (fun p => ⟨p.1, p.2.1, p.2.2.1⟩) (fun p => rfl) (fun p hp => hp.2.2.1)
theorem rGuard : ArgR Tryz.prog 30 (fun g : Go.Ab.Guard => .agg (g.cells false)) HugeG := ArgR.struct Tryz.underlying30 rGuardF
end Go.Proofs.YtbpdcoahefnnkaaGreatDoor
