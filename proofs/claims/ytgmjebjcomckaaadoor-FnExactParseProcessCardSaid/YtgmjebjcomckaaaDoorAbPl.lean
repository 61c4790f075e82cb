/- The contract of laws.FnExactParseProcess: it answers true. -/
import Derived.Test.YtgmjebjcomckaaaDoorAbPj
import Derived.Test.YtgmjebjcomckaaaDoorAbPk
import Derived.Test.YtgmjebjcomckaaaDoorAbYb
namespace Go.Ab
open Go.Proofs
set_option linter.unusedSimpArgs false

theorem parse_len (s : Str) : (parse s).1.length ≤ 8 := by
  rw [parse_chk]
  cases h : pIn true 40 (-1) s [] with
  | none => simp
  | some x =>
    obtain ⟨r, l⟩ := x
    have := ((p_adds true 40 _ _ _ _ _ (by simp)).2.1 h).1.choose_spec.2.1
    simp only
    split
    · exact this
    · simp

theorem exactParseProcess_ok (s : Str) (hs : s.length ≤ 9223372036854775807) : PureC Tryd.prog 5 [str s] (fun r => r = bool true) := by
  refine PureC.of Tryd.func5 rfl Tryd.ntmps5 (by simp) fun Q hQ => ?_
  refine Runs.seqE Ty_ok (by decide) fun k' hk' => ?_
  simp   -- R0
  refine hk' _ _ _ ?_
  refine Runs.seq ?_
  refine Runs.seqE Ty_ok (by decide) fun k' hk' => ?_
  simp   -- R1
  refine hk' _ _ _ ?_
  refine Runs.ite rfl (fun hc1 => ?_) (fun hc1 => ?_)   -- t13
  · refine Runs.seqE Ty_ok (by decide) fun k' hk' => ?_
    simp   -- R2
    refine hk' _ _ _ ?_
    exact Runs.ret Tryd.func5 (RetOk.one Tryd.results5) (hQ _ _ _ _ (.v _ _ _) rfl)
  · have hs : s.length ≤ 1048576 := by simp at hc1; omega
    clear hc1
    obtain ⟨l, hl⟩ : ∃ l, (parse s).1 = l := ⟨_, rfl⟩
    obtain ⟨b, hb⟩ : ∃ b, (parse s).2 = b := ⟨_, rfl⟩
    have hl8 : l.length ≤ 8 := by rw [← hl]; exact parse_len s
    have cI := ParseProcess_ok s hs
    have cS := specParseProcess_ok s hs
    rw [hl, hb] at cI cS
    refine Runs.skip ?_
    refine Runs.seqE Ty_ok (by decide) fun k' hk' => ?_
    simp   -- R3
    refine RunK.callA Ty_ok cS e20 (.cons (.v _ _ _) .nil) (by decide) (by decide) rfl (by simp) ?_
    rintro _ rfl
    simp [encP]
    refine hk' _ _ _ ?_
    refine Runs.seqE Ty_ok (by decide) fun k' hk' => ?_
    simp   -- R4
    refine RunK.callO Ty_ok cI e21 (.cons (.v _ _ _) .nil) (by decide) (by decide) rfl (by simp) ?_
    rintro v H1 n1 r S hO rfl hn1 hS hfr
    obtain ⟨g, rfl, hg⟩ := hO.tup2Inv
    obtain ⟨gx, rfl, hx⟩ := hg.agg1Inv
    have hb3 := hfr (0, 3) (by decide)
    simp at hb3
    have hone := hx.one1
    simp [hone, -Ab.one1]
    refine hk' _ _ _ ?_
    refine Runs.cut (fun ρ H n => ρ 0 = str s ∧ ρ 3 = .ptr (0, 3) 1 0 0 ∧ ρ 4 = bool b ∧ ρ 5 = .ptr (n1, 5) 1 0 0 ∧ ρ 6 = bool b ∧ H (0, 3) = some ⟨1, [[.list true (l.map AmbNode.cells)]]⟩ ∧ H (n1, 5) = some ⟨1, [[gx]]⟩ ∧
      Own H 1 gx (.list true (l.map AmbNode.cells)) S ∧ (∀ i ∈ S, 1 ≤ i.1 ∧ i.1 < n1) ∧ n = n1 + 1) ?_ ?_
    · refine ⟨by simp, by simp, by simp, by simp, by simp, ?_, by simp, hx.frame fun i hi => ?_, hS, rfl⟩
      · simp [hb3]
      · have hi6 : i ≠ (n1, 5) := fun he => by have := (hS i hi).2; rw [he] at this; simp at this
        rw [Heap.get_set_ne _ _ hi6]
    clear hk' hfr hO hg hx hb3 hS
    rintro ρ H n ⟨h0, h3, h4, h5, h6, hb3, hb5, hx, hS, rfl⟩
    have hO : Own H 2 (.agg [gx]) (encP true l) S := Own.agg1 hx
    refine Runs.seq ?_
    refine Runs.seqE Ty_ok (by decide) fun k' hk' => ?_
    simp [h3, h5, hb3, hb5]   -- R5
    refine RunK.callA Ty_ok (eqProcess_ok l l (by omega)) e13 (.cons (ArgOk.own' hO (old_encP _ _)) (.cons (ArgOk.encP true l) .nil)) (by decide) (by decide) rfl (by simp [encP]) ?_
    rintro _ rfl
    simp [h4, h6, guardOf]
    refine hk' _ _ _ ?_
    refine Runs.ite rfl (fun hc2 => by simp at hc2) (fun hc2 => ?_)   -- t32
    refine Runs.skip ?_
    refine Runs.seqE Ty_ok (by decide) fun k' hk' => ?_
    simp   -- R7
    refine hk' _ _ _ ?_
    refine Runs.seqE Ty_ok (by decide) fun k' hk' => ?_
    simp [h5, hb5]   -- R8
    refine RunK.callS Ty_ok (markProcess_ok l hO 1 (by omega)) e17 (by decide) (by decide) rfl (by simp) ?_
    rintro v H2 n2 ⟨rfl, hn2, hfr, hO2⟩
    simp [-Int.natCast_add]
    refine hk' _ _ _ ?_
    generalize hm : 1 + 3 * l.length = m
    refine Runs.cut (fun ρ H n => ρ 0 = str s ∧ ρ 3 = .ptr (0, 3) 1 0 0 ∧ ρ 4 = bool b ∧ ρ 5 = .ptr (n1, 5) 1 0 0 ∧ ρ 7 = int (m : Int) ∧ H (0, 3) = some ⟨1, [[.list true (l.map AmbNode.cells)]]⟩ ∧ H (n1, 5) = some ⟨1, [[gx]]⟩ ∧
      Own H 2 (.agg [gx]) (encP true (markNodes 1 l.length)) S ∧ n1 < n) ?_ ?_
    · refine ⟨by simp [h0], by simp [h3], by simp [h4], by simp [h5], by simp, ?_, ?_, hO2, by omega⟩
      · rw [hfr _ (by simp) (fun hs => by have := (hS _ hs).1; simp at this), hb3]
      · rw [hfr _ (by simp) (fun hs => by have := (hS _ hs).2; simp at this), hb5]
    clear hk' hfr hO hO2 hx hb3 hb5 h0 h3 h4 h5 h6 hn2
    rintro ρ H n ⟨h0, h3, h4, h5, h7, hb3, hb5, hO, hn⟩
    refine Runs.seqE Ty_ok (by decide) fun k' hk' => ?_
    simp   -- R9
    refine hk' _ _ _ ?_
    refine Runs.seqE Ty_ok (by decide) fun k' hk' => ?_
    simp [h5, hb5]   -- R10
    refine RunK.callA Ty_ok (heldProcess_ok 1 l.length (by omega)) e22 (.cons (ArgOk.own' hO (old_encP _ _)) (.cons (.v _ _ _) .nil)) (by decide) (by decide) rfl (by simp) ?_
    rintro _ rfl
    rw [hm]
    simp
    refine hk' _ _ _ ?_
    refine Runs.seq ?_
    refine Runs.seqE Ty_ok (by decide) fun k' hk' => ?_
    simp [show ¬ (m : Int) < 0 by omega]   -- R11
    refine hk' _ _ _ ?_
    refine Runs.ite rfl (fun hc3 => by simp at hc3) (fun hc3 => ?_)   -- t40
    refine Runs.skip ?_
    refine Runs.seq ?_
    refine Runs.seqE Ty_ok (by decide) fun k' hk' => ?_
    simp [h7]   -- R13
    refine hk' _ _ _ ?_
    refine Runs.ite rfl (fun hc4 => by simp at hc4) (fun hc4 => ?_)   -- t43
    refine Runs.skip ?_
    refine Runs.seqE Ty_ok (by decide) fun k' hk' => ?_
    simp [h0]   -- R15
    refine RunK.callA Ty_ok cI.pure e21 (.cons (.v _ _ _) .nil) (by decide) (by decide) rfl (by simp [h0]) ?_
    rintro _ rfl
    simp [encP]
    refine hk' _ _ _ ?_
    have h39 : ¬ (0, 3) = (n, 9) := by simp
    have h59 : ¬ (n1, 5) = (n, 9) := by simp
    refine Runs.seq ?_
    refine Runs.seqE Ty_ok (by decide) fun k' hk' => ?_
    simp [h3, hb3]   -- R16
    refine RunK.callA Ty_ok (eqProcess_ok l l (by omega)) e13 (.cons (ArgOk.encP true l) (.cons (ArgOk.encP true l) .nil)) (by decide) (by decide) rfl (by simp [encP]) ?_
    rintro _ rfl
    simp [h4, guardOf]
    refine hk' _ _ _ ?_
    refine Runs.ite rfl (fun hc5 => by simp at hc5) (fun hc5 => ?_)   -- t57
    refine Runs.skip ?_
    refine Runs.seqE Ty_ok (by decide) fun k' hk' => ?_
    simp   -- R18
    refine hk' _ _ _ ?_
    refine Runs.seqE Ty_ok (by decide) fun k' hk' => ?_
    simp [h5, hb5]   -- R19
    refine RunK.callA Ty_ok (heldProcess_ok 1 l.length (by omega)) e22 (.cons (ArgOk.own' (hO.frame fun i hi => ?_) (old_encP _ _)) (.cons (.v _ _ _) .nil)) (by decide) (by decide) rfl (by simp) ?_
    · have hi9 : i ≠ (n, 9) := fun he => by have := (hS i hi).2; rw [he] at this; simp at this; omega
      rw [Heap.get_set_ne _ _ hi9]
    rintro _ rfl
    rw [hm]
    simp
    refine hk' _ _ _ ?_
    refine Runs.seq ?_
    refine Runs.seqE Ty_ok (by decide) fun k' hk' => ?_
    simp [show ¬ (m : Int) < 0 by omega]   -- R20
    refine hk' _ _ _ ?_
    refine Runs.ite rfl (fun hc6 => by simp at hc6) (fun hc6 => ?_)   -- t62
    refine Runs.skip ?_
    refine Runs.seq ?_
    refine Runs.seqE Ty_ok (by decide) fun k' hk' => ?_
    simp [h7]   -- R22
    refine hk' _ _ _ ?_
    refine Runs.ite rfl (fun hc7 => by simp at hc7) (fun hc7 => ?_)   -- t65
    refine Runs.skip ?_
    refine Runs.seqE Ty_ok (by decide) fun k' hk' => ?_
    simp   -- R24
    refine hk' _ _ _ ?_
    exact Runs.ret Tryd.func5 (RetOk.one Tryd.results5) (hQ _ _ _ _ (.v _ _ _) rfl)
end Go.Ab
