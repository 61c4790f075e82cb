/- Contract of spec.l2Sig. -/
import Derived.Test.YtgmjebjcomckaaaDoorAbGf
namespace Go.Ab
open Go.Proofs
set_option linter.unusedSimpArgs false

theorem newName_at {sig : Sig} {i j : Nat} (hi : i < sig.length) (hj : j < i) (h : sig[j].name = sig[i].name) : newName sig i = false := by
  have hg : sig.getD i default = sig[i] := by simp [hi]
  have : (sig.take i).any (fun d => d.name == sig[i].name) = true := by
    rw [List.any_eq_true]
    refine ⟨sig[j], ?_, by simpa using h⟩
    rw [List.mem_take_iff_getElem]
    exact ⟨j, by omega, rfl⟩
  rw [newName, hg, this]
  rfl
theorem newName_end {sig : Sig} {i : Nat} (hi : i < sig.length) (h : ∀ j (hj : j < sig.length), j < i → ¬ sig[j].name = sig[i].name) : newName sig i = true := by
  have hg : sig.getD i default = sig[i] := by simp [hi]
  have : (sig.take i).any (fun d => d.name == sig[i].name) = false := by
    rw [List.any_eq_false]
    intro d hd
    rw [List.mem_take_iff_getElem] at hd
    obtain ⟨j, hj, rfl⟩ := hd
    have := h j (by omega) (by omega)
    simpa using this
  rw [newName, hg, this]
  rfl

theorem l2Sig_ok (sig : Sig) (hl : sig.length ≤ 1048576) (hs : ∀ c ∈ sig, c.name.length ≤ 1048576) : PureC Tryd.prog 128 [encSig false sig] (fun r => r = bool (goodSig sig)) := by
  refine PureC.of Tryd.func128 rfl Tryd.ntmps128 (by simp) fun Q hQ => ?_
  refine Runs.seqE Ty_ok (by decide) fun k' hk' => ?_
  simp [encSig]   -- R0
  refine hk' _ _ _ ?_
  refine Runs.seq ?_
  refine Runs.seqE Ty_ok (by decide) fun k' hk' => ?_
  simp   -- R1
  refine hk' _ _ _ ?_
  have bad : ∀ k, k < sig.length → okCtl sig k = false → ∀ H n, Q (bool false) H n := fun k hk hb H n => hQ _ _ _ _ (.v _ _ _) (by rw [goodSig_eq, all_range_bad hk hb, Bool.and_false])
  refine Runs.block (Runs.loopUp sig.length (fun k ρ H n => ρ 0 = .list false (sig.map Control.cells) ∧ ρ 3 = int k ∧ ∀ i, i < k → okCtl sig i = true) ?_ ?_)
  · simp
  · rintro k ρ H n hk ⟨h0, h3, hall⟩ IH
    refine Runs.seq ?_
    refine Runs.seqE Ty_ok (by decide) fun k' hk' => ?_
    simp [h0, h3]   -- R2
    refine hk' _ _ _ ?_
    refine Runs.ite rfl (fun hc1 => ?_) (fun hc1 => ?_)   -- t8
    · have hc1 : k < sig.length := by simpa using hc1
      have hgk : sig.getD k default = sig[k] := by simp [hc1]
      refine Runs.skip ?_
      refine Runs.seq ?_
      refine Runs.block ?_
      refine Runs.seq ?_
      refine Runs.seqE Ty_ok (by decide) fun k' hk' => ?_
      have fin : ∀ ρ : Env, ρ 0 = .list false (sig.map Control.cells) → ρ 3 = int k → ρ 35 = bool (!okControl sig[k]) → Runs Tryd.prog 128 55 k' ρ H n Q := by
        intro ρ h0 h3 h35
        refine hk' _ _ _ ?_
        refine Runs.ite h35 (fun hc2 => ?_) (fun hc2 => ?_)   -- t35
        · have hb : okControl sig[k] = false := by simpa using hc2
          refine Runs.seqE Ty_ok (by decide) fun k' hk' => ?_
          simp   -- R5
          refine hk' _ _ _ ?_
          exact Runs.ret Tryd.func128 (RetOk.one Tryd.results128) (bad k hc1 (by rw [okCtl, hgk, hb, Bool.false_and]) _ _)
        · have hb : okControl sig[k] = true := by simpa using hc2
          refine Runs.skip ?_
          refine Runs.seqE Ty_ok (by decide) fun k' hk' => ?_
          simp   -- R6
          refine hk' _ _ _ ?_
          refine Runs.block (Runs.loopUp k (fun j ρ H n => ρ 0 = .list false (sig.map Control.cells) ∧ ρ 3 = int k ∧ ρ 4 = int j ∧ ∀ q (hq : q < sig.length), q < j → ¬ sig[q].name = sig[k].name) ?_ ?_)
          · simp [h0, h3]
          · rintro j ρ H n hj ⟨h0, h3, h4, hno⟩ IH2
            refine Runs.seq ?_
            refine Runs.seqE Ty_ok (by decide) fun k' hk' => ?_
            simp [h3, h4]   -- R7
            refine hk' _ _ _ ?_
            refine Runs.ite rfl (fun hc3 => ?_) (fun hc3 => ?_)   -- t38
            · have hc3 : j < k := by simpa using hc3
              have hjl : j < sig.length := by omega
              refine Runs.skip ?_
              refine Runs.seq ?_
              refine Runs.block ?_
              refine Runs.seqD Ty_ok kindOp_ok draws (by decide) (by kernel_rfl) fun k' hk' => ?_
              simp [h0, h3, h4, hc1, hjl, Control.cells]   -- R9
              refine hk' _ _ _ ?_
              refine Runs.ite rfl (fun hc4 => ?_) (fun hc4 => ?_)   -- t51
              · have hc4 : sig[j].name = sig[k].name := by simpa using hc4
                refine Runs.seqE Ty_ok (by decide) fun k' hk' => ?_
                simp   -- R10
                refine hk' _ _ _ ?_
                exact Runs.ret Tryd.func128 (RetOk.one Tryd.results128) (bad k hc1 (by rw [okCtl, newName_at hc1 hc3 hc4, Bool.and_false]) _ _)
              · have hc4 : ¬ sig[j].name = sig[k].name := by simpa using hc4
                refine Runs.skip ?_
                refine Runs.inBlock ?_
                refine Runs.evalE Ty_ok (by decide) fun k' hk' => ?_
                simp [h4, wrap_succ (show j < 4611686018427387904 by omega)]   -- R8
                refine hk' _ _ _ ?_
                refine IH2 hc3 _ _ _ ⟨by simp [h0, Control.cells], by simp [h3], by simp, fun q hq hqj => ?_⟩
                rcases Nat.lt_or_ge q j with h | h
                · exact hno q hq h
                · have : q = j := by omega
                  subst this
                  exact hc4
            · have hc3 : ¬ j < k := by simpa using hc3
              have hje : j = k := by omega
              subst hje
              refine Runs.exit rfl ?_
              refine Runs.inBlock ?_
              refine Runs.evalE Ty_ok (by decide) fun k' hk' => ?_
              simp [h3, wrap_succ (show j < 4611686018427387904 by omega)]   -- R3
              refine hk' _ _ _ ?_
              refine IH hc1 _ _ _ ⟨by simp [h0], by simp, fun i hi => ?_⟩
              rcases Nat.lt_or_ge i j with h | h
              · exact hall i h
              · rw [show i = j by omega, okCtl, hgk, hb, newName_end hc1 hno]
                rfl
      simp [h0, h3, hc1, Control.cells]   -- R4
      refine RunK.callA Ty_ok (l2Name_ok sig[k].name (hs _ (List.getElem_mem hc1))) e105 (.cons (.v _ _ _) .nil) (by decide) (by decide) rfl (by simp) ?_
      rintro _ rfl
      cases hnm : isNm sig[k].name
      · simp [guardOf]
        exact fin _ (by simp [h0, Control.cells]) (by simp [h3]) (by simp only [okControl, hnm]; simp)
      · simp [h0, h3, hc1, Control.cells, guardOf]
        refine RunK.callA Ty_ok (l1In_ok sig[k].ports 0 3) e104 (.cons (.v _ _ _) (.cons (.v _ _ _) (.cons (.v _ _ _) .nil))) (by decide) (by decide) rfl (by simp) ?_
        rintro _ rfl
        cases hpo : within sig[k].ports 0 3
        · simp [guardOf]
          exact fin _ (by simp [h0, Control.cells]) (by simp [h3]) (by simp only [okControl, hnm, hpo]; simp)
        · simp [h0, h3, hc1, Control.cells, guardOf]
          refine RunK.callA Ty_ok (l1In_ok sig[k].kind 0 2) e104 (.cons (.v _ _ _) (.cons (.v _ _ _) (.cons (.v _ _ _) .nil))) (by decide) (by decide) rfl (by simp) ?_
          rintro _ rfl
          simp [guardOf]
          exact fin _ (by simp [h0, Control.cells]) (by simp [h3]) (by simp only [okControl, hnm, hpo]; simp)
    · have hc1 : ¬ k < sig.length := by simpa using hc1
      have hke : k = sig.length := by omega
      subst hke
      refine Runs.exit rfl ?_
      refine Runs.seqE Ty_ok (by decide) fun k' hk' => ?_
      simp [h0]   -- R11
      refine RunK.callA Ty_ok (l1In_ok sig.length 1 6) e104 (.cons (.v _ _ _) (.cons (.v _ _ _) (.cons (.v _ _ _) .nil))) (by decide) (by decide) rfl (by simp) ?_
      rintro _ rfl
      simp
      refine hk' _ _ _ ?_
      exact Runs.ret Tryd.func128 (RetOk.one Tryd.results128) (hQ _ _ _ _ (.v _ _ _) (by rw [goodSig_eq, all_range_end hall, Bool.and_true]))
end Go.Ab
