/- The contract of laws.FnExactAmbSteps: it answers true. -/
import Derived.Test.YtgmjebjcomckaaaDoorAbUm
import Derived.Test.YtgmjebjcomckaaaDoorAbLaw1
namespace Go.Ab
open Go.Proofs
set_option linter.unusedSimpArgs false

theorem old_encSteps (t : Bool) (l : List AmbStep) : old (encSteps t l) = encSteps false l := old_listF (by simp [AmbStep.cells])

theorem ArgOk.steps {H : Heap} {n : Nat} (t : Bool) (l : List AmbStep) : ArgOk H n (encSteps t l) (encSteps false l) := ArgOk.imm' (by simp [encSteps, AmbStep.cells]) (old_encSteps t l)

theorem ambSteps_len (p : Proc) : (ambSteps p).length ≤ 1048576 := by
  unfold ambSteps
  split
  · rename_i h
    have hv := goodP_valid h
    have := kindS_len p hv.len 3
    omega
  · simp

theorem exactAmbSteps_ok (p : Proc) (hp : Small p) : PureC Tryd.prog 4 [encP false p] (fun r => r = bool true) := by
  refine PureC.of Tryd.func4 rfl Tryd.ntmps4 (by simp) fun Q hQ => ?_
  refine Runs.seqE Ty_ok (by decide) fun k' hk' => ?_
  simp [encP]   -- R0
  refine hk' _ _ _ ?_
  refine Runs.seqE Ty_ok (by decide) fun k' hk' => ?_
  simp   -- R1
  refine hk' _ _ _ ?_
  refine Runs.seqE Ty_ok (by decide) fun k' hk' => ?_
  simp   -- R2
  refine RunK.callA Ty_ok (szProcess_ok p 1048576 (by omega) (by omega) hp) e9 (.cons (ArgOk.encP false p) (.cons (.v _ _ _) .nil)) (by decide) (by decide) rfl (by simp [encP]) ?_
  rintro _ rfl
  simp
  refine hk' _ _ _ ?_
  refine Runs.seq ?_
  refine Runs.seqE Ty_ok (by decide) fun k' hk' => ?_
  simp   -- R3
  refine hk' _ _ _ ?_
  refine Runs.ite rfl (fun hc1 => ?_) (fun hc1 => ?_)   -- t18
  · refine Runs.seqE Ty_ok (by decide) fun k' hk' => ?_
    simp   -- R4
    refine hk' _ _ _ ?_
    exact Runs.ret Tryd.func4 (RetOk.one Tryd.results4) (hQ _ _ _ _ (.v _ _ _) rfl)
  · simp only [decide_eq_false_iff_not] at hc1
    have hsz : 0 ≤ szProc p 1048576 := by
      split at hc1
      · omega
      · omega
    obtain ⟨hl, hn⟩ := szProc_le hsz
    have hl' : p.length ≤ 1048576 := by omega
    have hn' : ∀ i, i < p.length → (p.getD i default).name.length ≤ 1048576 := by
      intro i hi
      have hx : p.getD i default = p[i] := by simp [hi]
      have := hn p[i] (List.getElem_mem hi)
      rw [hx]
      omega
    refine Runs.skip ?_
    refine Runs.seqE Ty_ok (by decide) fun k' hk' => ?_
    simp   -- R5
    refine RunK.callA Ty_ok (toProcess_ok p hl') e11 (.cons (ArgOk.encP false p) .nil) (by decide) (by decide) rfl (by simp [encP]) ?_
    rintro _ rfl
    simp
    refine RunK.callA Ty_ok (specAmbSteps_ok p hl' hn') e14 (.cons (ArgOk.encP true p) .nil) (by decide) (by decide) rfl (by simp) ?_
    rintro _ rfl
    simp
    refine hk' _ _ _ ?_
    refine Runs.seqE Ty_ok (by decide) fun k' hk' => ?_
    simp   -- R6
    refine RunK.callO Ty_ok (toProcess_own p hl') e11 (.cons (ArgOk.encP false p) .nil) (by decide) (by decide) rfl (by simp [encP]) ?_
    rintro v H1 n1 r S hO rfl hn1 hS hfr
    obtain ⟨gx, rfl, hx⟩ := hO.agg1Inv
    have hb := hfr (0, 1) (by decide)
    simp at hb
    have hone := hx.one1
    simp [hone, -Ab.one1]
    refine hk' _ _ _ ?_
    refine Runs.cut (fun ρ H n => ρ 1 = .ptr (0, 1) 1 0 0 ∧ ρ 4 = encSteps true (ambSteps p) ∧ ρ 5 = bool (goodP p) ∧ ρ 6 = .ptr (n1, 6) 1 0 0 ∧ H (0, 1) = some ⟨1, [[.list false (p.map AmbNode.cells)]]⟩ ∧ H (n1, 6) = some ⟨1, [[gx]]⟩ ∧
      Own H 1 gx (.list true (p.map AmbNode.cells)) S ∧ (∀ i ∈ S, 1 ≤ i.1 ∧ i.1 < n1) ∧ n = n1 + 1) ?_ ?_
    · refine ⟨by simp, by simp, by simp, by simp, ?_, by simp, hx.frame fun i hi => ?_, hS, rfl⟩
      · simp [hb]
      · have hi6 : i ≠ (n1, 6) := fun he => by have := (hS i hi).2; rw [he] at this; simp at this
        rw [Heap.get_set_ne _ _ hi6]
    rintro ρ H n ⟨h1, h4, h5, h6, hb1, hb6, hx, hS, rfl⟩
    have hO : Own H 2 (.agg [gx]) (encP true p) S := Own.agg1 hx
    refine Runs.seqE Ty_ok (by decide) fun k' hk' => ?_
    simp [h6, hb6]   -- R7
    refine RunK.callO Ty_ok (AmbSteps_ok p hl' hn') e15 (.cons (ArgOk.own' hO (old_encP _ _)) .nil) (by decide) (by decide) rfl (by simp) ?_
    rintro v H1 n2 r S2 hO2 rfl hn2 hS2 hfr
    obtain ⟨g0, rfl, hg0⟩ := hO2.tup2Inv
    simp
    refine hk' _ _ _ ?_
    refine Runs.cut (fun ρ H n => ρ 1 = .ptr (0, 1) 1 0 0 ∧ ρ 4 = encSteps true (ambSteps p) ∧ ρ 5 = bool (goodP p) ∧ ρ 6 = .ptr (n1, 6) 1 0 0 ∧ ρ 7 = g0 ∧ ρ 8 = bool (goodP p) ∧ H (0, 1) = some ⟨1, [[.list false (p.map AmbNode.cells)]]⟩ ∧ H (n1, 6) = some ⟨1, [[gx]]⟩ ∧
      Own H 1 gx (.list true (p.map AmbNode.cells)) S ∧ Own H 1 g0 (encSteps true (ambSteps p)) S2 ∧ (∀ i ∈ S2, n1 + 1 ≤ i.1 ∧ i.1 < n) ∧ n1 + 1 ≤ n) ?_ ?_
    · refine ⟨by simp [h1], by simp [h4], by simp [h5], by simp [h6], by simp, by simp, ?_, ?_, hx.frame fun i hi => hfr i (by have := (hS i hi).2; omega), hg0, hS2, hn2⟩
      · rw [hfr _ (by simp), hb1]
      · rw [hfr _ (by simp), hb6]
    clear hfr hO hx hg0 hb1 hb6 h1 h4 h5 h6 hk' hO2
    rintro ρ H n ⟨h1, h4, h5, h6, h7, h8, hb1, hb6, hx, hg0, hS2, hn⟩
    have hO : Own H 2 (.agg [gx]) (encP true p) S := Own.agg1 hx
    refine Runs.seq ?_
    refine Runs.seqE Ty_ok (by decide) fun k' hk' => ?_
    simp [h7, h4]   -- R8
    refine RunK.callA Ty_ok (eqAmbStepS_ok (ambSteps p) (ambSteps p) (ambSteps_len p)) e16 (.cons (ArgOk.own' hg0 (old_encSteps _ _)) (.cons (ArgOk.steps true _) .nil)) (by decide) (by decide) rfl (by simp [h4, h7]) ?_
    rintro _ rfl
    simp [h8, h5]
    refine hk' _ _ _ ?_
    refine Runs.ite rfl (fun hc2 => by simp at hc2) (fun hc2 => ?_)   -- t40
    refine Runs.skip ?_
    refine Runs.seq ?_
    refine Runs.seqD Ty_ok kindOp_ok draws (by decide) (by kernel_rfl) fun k' hk' => ?_
    simp [h1, h6, hb1, hb6]   -- R10
    refine RunDK.callA Ty_ok kindOp_ok (toProcess_ok p hl') e11 (.cons (ArgOk.encP false p) .nil) (by decide) rfl (by simp [encP]) ?_
    simp
    refine RunDK.callA Ty_ok kindOp_ok (eqProcess_ok p p hl') e13 (.cons (ArgOk.own' hO (old_encP _ _)) (.cons (ArgOk.encP true p) .nil)) (by decide) rfl (by simp [encP]) ?_
    simp
    refine hk' _ _ _ ?_
    refine Runs.ite rfl (fun hc3 => by simp at hc3) (fun hc3 => ?_)   -- t45
    refine Runs.skip ?_
    refine Runs.seqE Ty_ok (by decide) fun k' hk' => ?_
    simp   -- R12
    refine hk' _ _ _ ?_
    refine Runs.seqE Ty_ok (by decide) fun k' hk' => ?_
    simp [h6, hb6]   -- R13
    refine RunK.callS Ty_ok (markProcess_ok p hO 1 (by omega)) e17 (by decide) (by decide) rfl (by simp) ?_
    rintro v H1 n2 ⟨rfl, hn2, hfr⟩
    simp
    refine hk' _ _ _ ?_
    refine Runs.cut (fun ρ H n => ρ 1 = .ptr (0, 1) 1 0 0 ∧ ρ 4 = encSteps true (ambSteps p) ∧ ρ 5 = bool (goodP p) ∧ ρ 7 = g0 ∧ ρ 8 = bool (goodP p) ∧ (∃ k9 : Int, ρ 9 = int k9 ∧ 0 ≤ k9) ∧ H (0, 1) = some ⟨1, [[.list false (p.map AmbNode.cells)]]⟩ ∧
      Own H 1 g0 (encSteps true (ambSteps p)) S2 ∧ (∀ i ∈ S2, 1 ≤ i.1 ∧ i.1 < n) ∧ 1 ≤ n) ?_ ?_
    · refine ⟨by simp [h1], by simp [h4], by simp [h5], by simp [h7], by simp [h8], ⟨_, by simp; rfl, by omega⟩, ?_, hg0.frame fun i hi => hfr i (hS2 i hi).2 (fun hs => by have := (hS i hs).2; have := (hS2 i hi).1; omega), fun i hi => ?_, by omega⟩
      · rw [hfr _ (by simp; omega) (fun hs => by have := (hS _ hs).1; simp at this), hb1]
      · have := hS2 i hi; omega
    clear hfr hO hx hg0 hb1 hb6 h1 h4 h5 h6 h7 h8 hk' hS2 hn
    rintro ρ H n ⟨h1, h4, h5, h7, h8, ⟨k9, h9, hk9⟩, hb1, hg0, hS2, hn⟩
    refine Runs.seq ?_
    refine Runs.seqE Ty_ok (by decide) fun k' hk' => ?_
    simp [h9, guardOf, show ¬ k9 < 0 by omega, h7, h4]   -- R14
    refine RunK.callA Ty_ok (eqAmbStepS_ok (ambSteps p) (ambSteps p) (ambSteps_len p)) e16 (.cons (ArgOk.own' hg0 (old_encSteps _ _)) (.cons (ArgOk.steps true _) .nil)) (by decide) (by decide) rfl (by simp [h4, h7]) ?_
    rintro _ rfl
    simp [h8, h5, guardOf]
    refine hk' _ _ _ ?_
    refine Runs.ite rfl (fun hc4 => by simp at hc4) (fun hc4 => ?_)   -- t61
    refine Runs.skip ?_
    refine Runs.seqE Ty_ok (by decide) fun k' hk' => ?_
    simp   -- R16
    refine hk' _ _ _ ?_
    refine Runs.seqE Ty_ok (by decide) fun k' hk' => ?_
    simp [h7]   -- R17
    have hal := ambSteps_len p
    refine RunK.callS Ty_ok (markAmbStepS_ok (ambSteps p) hg0 1 (by omega)) e18 (by decide) (by decide) rfl (by simp [h7]) ?_
    rintro v H1 n2 ⟨rfl, rfl, hg1, hfr⟩
    simp [-Int.natCast_add]
    refine hk' _ _ _ ?_
    generalize hm : 1 + 3 * (ambSteps p).length = m
    refine Runs.cut (fun ρ H n => ρ 1 = .ptr (0, 1) 1 0 0 ∧ ρ 4 = encSteps true (ambSteps p) ∧ ρ 5 = bool (goodP p) ∧ ρ 7 = g0 ∧ ρ 10 = int (m : Int) ∧ H (0, 1) = some ⟨1, [[.list false (p.map AmbNode.cells)]]⟩ ∧
      Own H 1 g0 (encSteps true (markSteps 1 (ambSteps p).length)) S2) ?_ ?_
    · refine ⟨by simp [h1], by simp [h4], by simp [h5], by simp [h7], by simp, ?_, hg1⟩
      rw [hfr _ (fun hs => by have := (hS2 _ hs).1; simp at this), hb1]
    clear hfr hg0 hg1 hb1 h1 h4 h5 h7 h8 h9 hk' hS2 hn
    rintro ρ H n ⟨h1, h4, h5, h7, h10, hb1, hg0⟩
    refine Runs.seqE Ty_ok (by decide) fun k' hk' => ?_
    simp   -- R18
    refine hk' _ _ _ ?_
    refine Runs.seqE Ty_ok (by decide) fun k' hk' => ?_
    simp [h7]   -- R19
    refine RunK.callA Ty_ok (heldAmbStepS_ok 1 (ambSteps p).length (by omega)) e19 (.cons (ArgOk.own' hg0 (old_encSteps _ _)) (.cons (.v _ _ _) .nil)) (by decide) (by decide) rfl (by simp [h7]) ?_
    rintro _ rfl
    rw [hm]
    simp
    refine hk' _ _ _ ?_
    refine Runs.seq ?_
    refine Runs.seqE Ty_ok (by decide) fun k' hk' => ?_
    simp [show ¬ (m : Int) < 0 by omega]   -- R20
    refine hk' _ _ _ ?_
    refine Runs.ite rfl (fun hc5 => by simp at hc5) (fun hc5 => ?_)   -- t69
    refine Runs.skip ?_
    refine Runs.seq ?_
    refine Runs.seqE Ty_ok (by decide) fun k' hk' => ?_
    simp [h10]   -- R22
    refine hk' _ _ _ ?_
    refine Runs.ite rfl (fun hc6 => by simp at hc6) (fun hc6 => ?_)   -- t72
    refine Runs.skip ?_
    refine Runs.seqE Ty_ok (by decide) fun k' hk' => ?_
    simp [h1, hb1]   -- R24
    refine RunK.callA Ty_ok (toProcess_ok p hl') e11 (.cons (ArgOk.encP false p) .nil) (by decide) (by decide) rfl (by simp [encP]) ?_
    rintro _ rfl
    simp
    refine RunK.callA Ty_ok (AmbSteps_ok p hl' hn').pure e15 (.cons (ArgOk.encP true p) .nil) (by decide) (by decide) rfl (by simp) ?_
    rintro _ rfl
    simp
    refine hk' _ _ _ ?_
    refine Runs.seq ?_
    refine Runs.seqE Ty_ok (by decide) fun k' hk' => ?_
    simp [h4]   -- R25
    refine RunK.callA Ty_ok (eqAmbStepS_ok (ambSteps p) (ambSteps p) (ambSteps_len p)) e16 (.cons (ArgOk.steps true _) (.cons (ArgOk.steps true _) .nil)) (by decide) (by decide) rfl (by simp [h4]) ?_
    rintro _ rfl
    simp [h5, guardOf]
    refine hk' _ _ _ ?_
    refine Runs.ite rfl (fun hc7 => by simp at hc7) (fun hc7 => ?_)   -- t87
    refine Runs.skip ?_
    refine Runs.seqE Ty_ok (by decide) fun k' hk' => ?_
    simp   -- R27
    refine hk' _ _ _ ?_
    refine Runs.seqE Ty_ok (by decide) fun k' hk' => ?_
    simp [h7]   -- R28
    refine RunK.callA Ty_ok (heldAmbStepS_ok 1 (ambSteps p).length (by omega)) e19 (.cons (ArgOk.own' hg0 (old_encSteps _ _)) (.cons (.v _ _ _) .nil)) (by decide) (by decide) rfl (by simp [h7]) ?_
    rintro _ rfl
    rw [hm]
    simp
    refine hk' _ _ _ ?_
    refine Runs.seq ?_
    refine Runs.seqE Ty_ok (by decide) fun k' hk' => ?_
    simp [show ¬ (m : Int) < 0 by omega]   -- R29
    refine hk' _ _ _ ?_
    refine Runs.ite rfl (fun hc8 => by simp at hc8) (fun hc8 => ?_)   -- t92
    refine Runs.skip ?_
    refine Runs.seq ?_
    refine Runs.seqE Ty_ok (by decide) fun k' hk' => ?_
    simp [h10]   -- R31
    refine hk' _ _ _ ?_
    refine Runs.ite rfl (fun hc9 => by simp at hc9) (fun hc9 => ?_)   -- t95
    refine Runs.skip ?_
    refine Runs.seqE Ty_ok (by decide) fun k' hk' => ?_
    simp   -- R33
    refine hk' _ _ _ ?_
    exact Runs.ret Tryd.func4 (RetOk.one Tryd.results4) (hQ _ _ _ _ (.v _ _ _) rfl)
end Go.Ab
