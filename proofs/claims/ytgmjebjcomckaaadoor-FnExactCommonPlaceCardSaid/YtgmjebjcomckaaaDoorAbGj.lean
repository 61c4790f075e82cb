/- Contract of spec.l2Good. -/
import Derived.Test.YtgmjebjcomckaaaDoorAbGi
namespace Go.Ab
open Go.Proofs
set_option linter.unusedSimpArgs false

theorem ctl_all {sig : Sig} {b : Big} {k : Nat} (h : ∀ i, i < k → okNodeB sig b i = true) : CtlOk sig b k := by
  induction k with
  | zero => intro i hi; omega
  | succ k ih => exact ctl_step (h k (by omega)) (ih fun i hi => h i (by omega))

def pre1 (sig : Sig) (b : Big) : Bool := goodSig sig && within b.roots 0 4 && decide (b.nodes.length ≤ 8) && decide (b.sites.length ≤ 4) && within b.edges 0 8
def pre2 (b : Big) : Bool := goodNames b.outer && goodNames (names b)
theorem goodPre_eq (sig : Sig) (b : Big) : goodPre sig b = (pre1 sig b && pre2 b) := by
  simp only [goodPre, pre1, pre2, Bool.and_assoc]

theorem l2Good_ok (sig : Sig) (b : Big) (hs : SmallB sig b) : PureC Tryd.prog 66 [encSig false sig, encB false b] (fun r => r = bool (goodB sig b)) := by
  obtain ⟨s1, s2, s3, s4, s5, s6, s7, s8, s9, s10, s11⟩ := id hs
  have hnl : (names b).length ≤ 1048576 := by simpa [names] using s6
  have hnn : ∀ s ∈ names b, s.length ≤ 1048576 := by
    intro s hs
    obtain ⟨w, hw, rfl⟩ := List.mem_map.1 hs
    exact s8 w hw
  refine PureC.of Tryd.func66 rfl Tryd.ntmps66 (by simp) fun Q hQ => ?_
  have no : goodB sig b = false → ∀ H n, Q (bool false) H n := fun h H n => hQ _ _ _ _ (.v _ _ _) (by rw [h])
  refine Runs.seqE Ty_ok (by decide) fun k' hk' => ?_
  simp [encSig, encB, Big.cells]   -- R0
  refine hk' _ _ _ ?_
  refine Runs.cut (fun ρ H n => ρ 0 = .list false (sig.map Control.cells) ∧ ρ 3 = .ptr (0, 3) 1 0 0 ∧ H (0, 3) = some ⟨6, [b.cells false]⟩) ⟨by simp, by simp, by simp [Big.cells]⟩ ?_
  clear hk'
  rintro ρ H n ⟨h0, h3, hm3⟩
  have hm3' := hm3
  simp only [Big.cells, encN, encI, encS, encW] at hm3'
  refine Runs.seq ?_
  refine Runs.seqE Ty_ok (by decide) fun k' hk' => ?_
  have fin : ∀ ρ : Env, ρ 0 = .list false (sig.map Control.cells) → ρ 3 = .ptr (0, 3) 1 0 0 → ρ 34 = bool (!pre1 sig b) → Runs Tryd.prog 66 98 k' ρ H n Q := by
    clear h0 h3
    intro ρ h0 h3 h34
    refine hk' _ _ _ ?_
    refine Runs.ite h34 (fun hc1 => ?_) (fun hc1 => ?_)   -- t34
    · have hb : pre1 sig b = false := by simpa using hc1
      refine Runs.seqE Ty_ok (by decide) fun k' hk' => ?_
      simp   -- R2
      refine hk' _ _ _ ?_
      exact Runs.ret Tryd.func66 (RetOk.one Tryd.results66) (no (by rw [goodB_eq, goodPre_eq, hb]; rfl) _ _)
    · have hb1 : pre1 sig b = true := by simpa using hc1
      have hb' := hb1
      simp only [pre1, within, Bool.and_eq_true, decide_eq_true_eq] at hb'
      obtain ⟨⟨⟨⟨_, hr⟩, hn8⟩, _⟩, hed⟩ := hb'
      refine Runs.skip ?_
      refine Runs.seq ?_
      refine Runs.seqE Ty_ok (by decide) fun k' hk' => ?_
      have fin2 : ∀ ρ : Env, ρ 0 = .list false (sig.map Control.cells) → ρ 3 = .ptr (0, 3) 1 0 0 → ρ 50 = bool (!pre2 b) → Runs Tryd.prog 66 98 k' ρ H n Q := by
        clear h0 h3
        intro ρ h0 h3 h50
        refine hk' _ _ _ ?_
        refine Runs.ite h50 (fun hc1 => ?_) (fun hc1 => ?_)   -- t50
        · have hb : pre2 b = false := by simpa using hc1
          refine Runs.seqE Ty_ok (by decide) fun k' hk' => ?_
          simp   -- R4
          refine hk' _ _ _ ?_
          exact Runs.ret Tryd.func66 (RetOk.one Tryd.results66) (no (by rw [goodB_eq, goodPre_eq, hb, Bool.and_false]; rfl) _ _)
        · have hb2 : pre2 b = true := by simpa using hc1
          have hpre : goodPre sig b = true := by rw [goodPre_eq, hb1, hb2]; rfl
          refine Runs.skip ?_
          refine Runs.seq ?_
          refine Runs.seqE Ty_ok (by decide) fun k' hk' => ?_
          simp   -- R5
          refine hk' _ _ _ ?_
          refine Runs.block (Runs.loopUp b.nodes.length (fun k ρ' H' n' => ρ' 0 = .list false (sig.map Control.cells) ∧ ρ' 3 = .ptr (0, 3) 1 0 0 ∧ ρ' 5 = int k ∧ H' = H ∧ n' = n ∧ ∀ i, i < k → okNodeB sig b i = true) ?_ ?_)
          · exact ⟨by simp [h0], by simp [h3], by simp, rfl, rfl, fun i hi => by omega⟩
          · clear h0 h3
            rintro k ρ H' n' hk ⟨h0, h3, h5, rfl, rfl, hall⟩ IH
            refine Runs.seq ?_
            refine Runs.seqE Ty_ok (by decide) fun k' hk' => ?_
            simp [h3, h5, hm3']   -- R6
            refine hk' _ _ _ ?_
            refine Runs.ite rfl (fun hc2 => ?_) (fun hc2 => ?_)   -- t55
            · have hc2 : k < b.nodes.length := by simpa using hc2
              refine Runs.skip ?_
              refine Runs.seq ?_
              refine Runs.block ?_
              refine Runs.seqE Ty_ok (by decide) fun k' hk' => ?_
              simp [h0, h3, h5, hm3']   -- R8
              refine RunK.callA Ty_ok (l2Node_ok sig b hs k hc2 hr hed (ctl_all hall)) e131 (.cons (ArgOk.encSig false sig) (.cons (ArgOk.encB false b) (.cons (.v _ _ _) .nil))) (by decide) (by decide) rfl (by simp [h0, h5, encSig, encB, Big.cells, encN, encI, encS, encW]) ?_
              rintro _ rfl
              simp
              refine hk' _ _ _ ?_
              refine Runs.ite rfl (fun hc3 => ?_) (fun hc3 => ?_)   -- t62
              · have hb3 : okNodeB sig b k = false := by simpa using hc3
                refine Runs.seqE Ty_ok (by decide) fun k' hk' => ?_
                simp   -- R9
                refine hk' _ _ _ ?_
                exact Runs.ret Tryd.func66 (RetOk.one Tryd.results66) (no (by rw [goodB_eq, all_range_bad hc2 hb3, Bool.and_false]; rfl) _ _)
              · have hb3 : okNodeB sig b k = true := by simpa using hc3
                refine Runs.skip ?_
                refine Runs.inBlock ?_
                refine Runs.evalE Ty_ok (by decide) fun k' hk' => ?_
                simp [h5, wrap_succ (show k < 4611686018427387904 by omega)]   -- R7
                refine hk' _ _ _ ?_
                refine IH hc2 _ _ _ ⟨by simp [h0], by simp [h3], by simp, rfl, rfl, fun i hi => ?_⟩
                rcases Nat.lt_or_ge i k with h | h
                · exact hall i h
                · rw [show i = k by omega]; exact hb3
            · have hc2 : ¬ k < b.nodes.length := by simpa using hc2
              have hke : k = b.nodes.length := by omega
              subst hke
              have hnodes := all_range_end hall
              have hctl := ctl_all hall
              refine Runs.exit rfl ?_
              refine Runs.seq ?_
              refine Runs.seqE Ty_ok (by decide) fun k' hk' => ?_
              simp   -- R10
              refine hk' _ _ _ ?_
              clear IH hall h5
              refine Runs.block (Runs.loopUp b.sites.length (fun k ρ' H2 n2 => ρ' 0 = .list false (sig.map Control.cells) ∧ ρ' 3 = .ptr (0, 3) 1 0 0 ∧ ρ' 6 = int k ∧ H2 = H' ∧ n2 = n' ∧ ∀ i (hi : i < b.sites.length), i < k → okParent sig b b.sites[i] b.nodes.length = true) ?_ ?_)
              · exact ⟨by simp [h0], by simp [h3], by simp, rfl, rfl, fun i hi h => by omega⟩
              · clear h0 h3
                rintro k ρ H2 n2 hk2 ⟨h0, h3, h6, rfl, rfl, hall⟩ IH
                refine Runs.seq ?_
                refine Runs.seqE Ty_ok (by decide) fun k' hk' => ?_
                simp [h3, h6, hm3']   -- R11
                refine hk' _ _ _ ?_
                refine Runs.ite rfl (fun hc4 => ?_) (fun hc4 => ?_)   -- t67
                · have hc4 : k < b.sites.length := by simpa using hc4
                  refine Runs.skip ?_
                  refine Runs.seq ?_
                  refine Runs.block ?_
                  refine Runs.seqD Ty_ok kindOp_ok draws (by decide) (by kernel_rfl) fun k' hk' => ?_
                  simp [h0, h3, h6, hm3', hc4, intC]   -- R13
                  refine RunDK.callA Ty_ok kindOp_ok (l2Under_ok sig b b.sites[k] b.nodes.length (s11 _ (List.getElem_mem hc4)) hr (Nat.le_refl _) hctl) e132 (.cons (ArgOk.encSig false sig) (.cons (ArgOk.encB false b) (.cons (.v _ _ _) (.cons (.v _ _ _) .nil)))) (by decide) rfl (by simp [h0, encSig, encB, Big.cells, encN, encI, encS, encW, intC]) ?_
                  simp
                  refine hk' _ _ _ ?_
                  refine Runs.ite rfl (fun hc5 => ?_) (fun hc5 => ?_)   -- t81
                  · have hb3 : okParent sig b b.sites[k] b.nodes.length = false := by simpa using hc5
                    refine Runs.seqE Ty_ok (by decide) fun k' hk' => ?_
                    simp   -- R14
                    refine hk' _ _ _ ?_
                    exact Runs.ret Tryd.func66 (RetOk.one Tryd.results66) (no (by rw [goodB_eq, all_bad hc4 hb3, Bool.and_false]; rfl) _ _)
                  · have hb3 : okParent sig b b.sites[k] b.nodes.length = true := by simpa using hc5
                    refine Runs.skip ?_
                    refine Runs.inBlock ?_
                    refine Runs.evalE Ty_ok (by decide) fun k' hk' => ?_
                    simp [h6, wrap_succ (show k < 4611686018427387904 by omega)]   -- R12
                    refine hk' _ _ _ ?_
                    refine IH hc4 _ _ _ ⟨by simp [h0], by simp [h3], by simp, rfl, rfl, fun i hi hij => ?_⟩
                    rcases Nat.lt_or_ge i k with h | h
                    · exact hall i hi h
                    · have : i = k := by omega
                      subst this
                      exact hb3
                · have hc4 : ¬ k < b.sites.length := by simpa using hc4
                  have hke : k = b.sites.length := by omega
                  subst hke
                  have hsites := all_end (l := b.sites) (p := fun p => okParent sig b p b.nodes.length) fun i hi => hall i hi hi
                  refine Runs.exit rfl ?_
                  refine Runs.seq ?_
                  refine Runs.seqE Ty_ok (by decide) fun k' hk' => ?_
                  simp   -- R15
                  refine hk' _ _ _ ?_
                  clear IH hall h6
                  refine Runs.block (Runs.loopUp b.inner.length (fun k ρ' H3 n3 => ρ' 3 = .ptr (0, 3) 1 0 0 ∧ ρ' 7 = int k ∧ H3 = H2 ∧ n3 = n2 ∧ ∀ i (hi : i < b.inner.length), i < k → okLink b b.inner[i].link = true) ?_ ?_)
                  · exact ⟨by simp [h3], by simp, rfl, rfl, fun i hi h => by omega⟩
                  · clear h0 h3
                    rintro k ρ H3 n3 hk3 ⟨h3, h7, rfl, rfl, hall⟩ IH
                    refine Runs.seq ?_
                    refine Runs.seqE Ty_ok (by decide) fun k' hk' => ?_
                    simp [h3, h7, hm3']   -- R16
                    refine hk' _ _ _ ?_
                    refine Runs.ite rfl (fun hc6 => ?_) (fun hc6 => ?_)   -- t86
                    · have hc6 : k < b.inner.length := by simpa using hc6
                      refine Runs.skip ?_
                      refine Runs.seq ?_
                      refine Runs.block ?_
                      refine Runs.seqD Ty_ok kindOp_ok draws (by decide) (by kernel_rfl) fun k' hk' => ?_
                      simp [h3, h7, hm3', hc6, Wire.cells]   -- R18
                      refine RunDK.callA Ty_ok kindOp_ok (l2Link_ok b b.inner[k].link hed s5) e133 (.cons (ArgOk.encB false b) (.cons (.v _ _ _) .nil)) (by decide) rfl (by simp [encB, Big.cells, encN, encI, encS, encW, Wire.cells]) ?_
                      simp
                      refine hk' _ _ _ ?_
                      refine Runs.ite rfl (fun hc7 => ?_) (fun hc7 => ?_)   -- t97
                      · have hb3 : okLink b b.inner[k].link = false := by simpa using hc7
                        refine Runs.seqE Ty_ok (by decide) fun k' hk' => ?_
                        simp   -- R19
                        refine hk' _ _ _ ?_
                        exact Runs.ret Tryd.func66 (RetOk.one Tryd.results66) (no (by rw [goodB_eq, all_bad (l := b.inner) (p := fun w => okLink b w.link) hc6 hb3, Bool.and_false]) _ _)
                      · have hb3 : okLink b b.inner[k].link = true := by simpa using hc7
                        refine Runs.skip ?_
                        refine Runs.inBlock ?_
                        refine Runs.evalE Ty_ok (by decide) fun k' hk' => ?_
                        simp [h7, wrap_succ (show k < 4611686018427387904 by omega)]   -- R17
                        refine hk' _ _ _ ?_
                        refine IH hc6 _ _ _ ⟨by simp [h3], by simp, rfl, rfl, fun i hi hij => ?_⟩
                        rcases Nat.lt_or_ge i k with h | h
                        · exact hall i hi h
                        · have : i = k := by omega
                          subst this
                          exact hb3
                    · have hc6 : ¬ k < b.inner.length := by simpa using hc6
                      have hke : k = b.inner.length := by omega
                      subst hke
                      have hinner := all_end (l := b.inner) (p := fun w => okLink b w.link) fun i hi => hall i hi hi
                      refine Runs.exit rfl ?_
                      refine Runs.seqE Ty_ok (by decide) fun k' hk' => ?_
                      simp   -- R20
                      refine hk' _ _ _ ?_
                      exact Runs.ret Tryd.func66 (RetOk.one Tryd.results66) (hQ _ _ _ _ (.v _ _ _) (by rw [goodB_eq, hpre, hnodes, hsites, hinner]; rfl))
      simp [h3, hm3']   -- R3
      refine RunK.callA Ty_ok (l2Names_ok b.outer s5 s7) e129 (.cons (ArgOk.encS false b.outer) .nil) (by decide) (by decide) rfl (by simp [encS]) ?_
      rintro _ rfl
      cases p6 : goodNames b.outer
      · simp [guardOf]
        exact fin2 _ (by simp [h0]) (by simp [h3]) (by simp only [pre2, p6]; simp)
      by_cases p7 : (16 : Int) < b.inner.length
      · simp [h3, hm3', p7, guardOf]
        refine fin2 _ (by simp [h0]) (by simp [h3]) ?_
        have : goodNames (names b) = false := by
          rw [goodNames_eq, show decide ((names b).length ≤ 16) = false by simp [names]; omega, Bool.false_and]
        simp only [pre2, this]
        simp
      simp [h3, hm3', p7, guardOf]
      refine RunK.callA Ty_ok (l2Inner_ok b s6) e130 (.cons (ArgOk.encB false b) .nil) (by decide) (by decide) rfl (by simp [encB, Big.cells, encN, encI, encS, encW]) ?_
      rintro _ rfl
      simp
      refine RunK.callA Ty_ok (l2Names_ok (names b) hnl hnn) e129 (.cons (ArgOk.encS true (names b)) .nil) (by decide) (by decide) rfl (by simp [encS]) ?_
      rintro _ rfl
      simp
      exact fin2 _ (by simp [h0]) (by simp [h3]) (by simp only [pre2, p6]; simp)
  simp [h0]   -- R1
  refine RunK.callA Ty_ok (l2Sig_ok sig s1 s2) e128 (.cons (ArgOk.encSig false sig) .nil) (by decide) (by decide) rfl (by simp [encSig, h0]) ?_
  rintro _ rfl
  cases p1 : goodSig sig
  · simp [guardOf]
    exact fin _ (by simp [h0]) (by simp [h3]) (by simp only [pre1, p1]; simp)
  simp [h3, hm3', guardOf]
  refine RunK.callA Ty_ok (l1In_ok b.roots 0 4) e104 (.cons (.v _ _ _) (.cons (.v _ _ _) (.cons (.v _ _ _) .nil))) (by decide) (by decide) rfl (by simp) ?_
  rintro _ rfl
  cases p2 : within b.roots 0 4
  · simp [guardOf]
    exact fin _ (by simp [h0]) (by simp [h3]) (by simp only [pre1, p2]; simp)
  by_cases p3 : (8 : Int) < b.nodes.length
  · simp [h3, hm3', p3, guardOf]
    exact fin _ (by simp [h0]) (by simp [h3]) (by simp only [pre1, show ¬ b.nodes.length ≤ 8 by omega]; simp)
  by_cases p4 : (4 : Int) < b.sites.length
  · simp [h3, hm3', p3, p4, guardOf]
    exact fin _ (by simp [h0]) (by simp [h3]) (by simp only [pre1, show ¬ b.sites.length ≤ 4 by omega]; simp)
  simp [h3, hm3', p3, p4, guardOf]
  refine RunK.callA Ty_ok (l1In_ok b.edges 0 8) e104 (.cons (.v _ _ _) (.cons (.v _ _ _) (.cons (.v _ _ _) .nil))) (by decide) (by decide) rfl (by simp) ?_
  rintro _ rfl
  simp
  exact fin _ (by simp [h0]) (by simp [h3]) (by simp only [pre1, p1, p2, show b.nodes.length ≤ 8 by omega, show b.sites.length ≤ 4 by omega]; simp)
end Go.Ab
