/- Contracts of spec.l2Node and spec.l2Good. -/
import Derived.Test.YtgmjebjcomckaaaDoorAbGh
namespace Go.Ab
open Go.Proofs
set_option linter.unusedSimpArgs false
theorem e66 : Ent Tryd.prog 66 := Ent.of Tryd.func66 (by kernel_rfl) rfl
theorem e131 : Ent Tryd.prog 131 := Ent.of Tryd.func131 (by kernel_rfl) rfl

theorem all_bad {α : Type} {l : List α} {p : α → Bool} {k : Nat} (hk : k < l.length) (h : p l[k] = false) : l.all p = false := by
  rw [List.all_eq_false]
  exact ⟨l[k], List.getElem_mem hk, by simp [h]⟩
theorem all_end {α : Type} {l : List α} {p : α → Bool} (h : ∀ i (hi : i < l.length), p l[i] = true) : l.all p = true := by
  rw [List.all_eq_true]
  intro x hx
  obtain ⟨i, hi, rfl⟩ := List.getElem_of_mem hx
  exact h i hi

theorem l2Node_ok (sig : Sig) (b : Big) (hs : SmallB sig b) (k : Nat) (hk : k < b.nodes.length) (hr : 0 ≤ b.roots ∧ b.roots ≤ 4) (he : 0 ≤ b.edges ∧ b.edges ≤ 8) (hctl : CtlOk sig b k) :
    PureC Tryd.prog 131 [encSig false sig, encB false b, int k] (fun r => r = bool (okNodeB sig b k)) := by
  have hgk : b.nodes.getD k default = b.nodes[k] := by simp [hk]
  have hll := hs.linksLen _ (List.getElem_mem hk)
  have hpar := hs.parents _ (List.getElem_mem hk)
  have hol := hs.outerLen
  have hsl := hs.sigLen
  refine PureC.of Tryd.func131 rfl Tryd.ntmps131 (by simp) fun Q hQ => ?_
  refine Runs.seqE Ty_ok (by decide) fun k' hk' => ?_
  simp [encSig, encB, Big.cells]   -- R0
  refine hk' _ _ _ ?_
  refine Runs.seqE Ty_ok (by decide) fun k' hk' => ?_
  simp [encN, hk, GNode.cells]   -- R1
  refine hk' _ _ _ ?_
  refine Runs.cut (fun ρ H n => ρ 0 = .list false (sig.map Control.cells) ∧ ρ 2 = int k ∧ ρ 4 = .ptr (0, 4) 1 0 0 ∧ ρ 7 = .ptr (1, 7) 1 0 0 ∧ H (0, 4) = some ⟨6, [b.cells false]⟩ ∧ H (1, 7) = some ⟨3, [b.nodes[k].cells false]⟩) ⟨by simp, by simp, by simp, by simp, by simp [Big.cells, encN, GNode.cells], by simp [GNode.cells]⟩ ?_
  clear hk'
  rintro ρ H n ⟨h0, h2, h4, h7, hm4, hm7⟩
  have hm4' := hm4
  simp only [Big.cells, encN, encI, encS, encW] at hm4'
  have hm7' := hm7
  simp only [GNode.cells] at hm7'
  refine Runs.seq ?_
  refine Runs.seqD Ty_ok kindOp_ok draws (by decide) (by kernel_rfl) fun k' hk' => ?_
  have fin : ∀ (ρ : Env) (pre : Bool), ρ 4 = .ptr (0, 4) 1 0 0 → ρ 7 = .ptr (1, 7) 1 0 0 → ρ 41 = bool (!pre) → okNodeB sig b k = (pre && b.nodes[k].links.all (okLink b)) → Runs Tryd.prog 131 57 k' ρ H n Q := by
    intro ρ pre h4 h7 h41 hpre
    refine hk' _ _ _ ?_
    refine Runs.ite h41 (fun hc1 => ?_) (fun hc1 => ?_)   -- t41
    · have hb : pre = false := by simpa using hc1
      refine Runs.seqE Ty_ok (by decide) fun k' hk' => ?_
      simp   -- R3
      refine hk' _ _ _ ?_
      exact Runs.ret Tryd.func131 (RetOk.one Tryd.results131) (hQ _ _ _ _ (.v _ _ _) (by rw [hpre, hb]; rfl))
    · have hb : pre = true := by simpa using hc1
      rw [hb, Bool.true_and] at hpre
      refine Runs.skip ?_
      refine Runs.seq ?_
      refine Runs.seqE Ty_ok (by decide) fun k' hk' => ?_
      simp   -- R4
      refine hk' _ _ _ ?_
      refine Runs.block (Runs.loopUp b.nodes[k].links.length (fun j ρ' H' n' => ρ' 4 = .ptr (0, 4) 1 0 0 ∧ ρ' 7 = .ptr (1, 7) 1 0 0 ∧ ρ' 8 = int j ∧ H' = H ∧ n' = n ∧ ∀ i (hi : i < b.nodes[k].links.length), i < j → okLink b b.nodes[k].links[i] = true) ?_ ?_)
      · exact ⟨by simp [h4], by simp [h7], by simp, rfl, rfl, fun i hi h => by omega⟩
      · clear h4 h7
        rintro j ρ H' n' hj ⟨h4, h7, h8, rfl, rfl, hall⟩ IH
        refine Runs.seq ?_
        refine Runs.seqE Ty_ok (by decide) fun k' hk' => ?_
        simp [h7, h8, hm7']   -- R5
        refine hk' _ _ _ ?_
        refine Runs.ite rfl (fun hc2 => ?_) (fun hc2 => ?_)   -- t46
        · have hc2 : j < b.nodes[k].links.length := by simpa using hc2
          refine Runs.skip ?_
          refine Runs.seq ?_
          refine Runs.block ?_
          refine Runs.seqD Ty_ok kindOp_ok draws (by decide) (by kernel_rfl) fun k' hk' => ?_
          simp [h4, h7, h8, hm4', hm7', hc2, intC]   -- R7
          refine RunDK.callA Ty_ok kindOp_ok (l2Link_ok b b.nodes[k].links[j] he hol) e133 (.cons (ArgOk.encB false b) (.cons (.v _ _ _) .nil)) (by decide) rfl (by simp [encB, Big.cells, encN, encI, encS, encW, intC]) ?_
          simp
          refine hk' _ _ _ ?_
          refine Runs.ite rfl (fun hc3 => ?_) (fun hc3 => ?_)   -- t56
          · have hb3 : okLink b b.nodes[k].links[j] = false := by simpa using hc3
            refine Runs.seqE Ty_ok (by decide) fun k' hk' => ?_
            simp   -- R8
            refine hk' _ _ _ ?_
            exact Runs.ret Tryd.func131 (RetOk.one Tryd.results131) (hQ _ _ _ _ (.v _ _ _) (by rw [hpre, all_bad hc2 hb3]))
          · have hb3 : okLink b b.nodes[k].links[j] = true := by simpa using hc3
            refine Runs.skip ?_
            refine Runs.inBlock ?_
            refine Runs.evalE Ty_ok (by decide) fun k' hk' => ?_
            simp [h8, wrap_succ (show j < 4611686018427387904 by omega)]   -- R6
            refine hk' _ _ _ ?_
            refine IH hc2 _ _ _ ⟨by simp [h4], by simp [h7], by simp, rfl, rfl, fun i hi hij => ?_⟩
            rcases Nat.lt_or_ge i j with h | h
            · exact hall i hi h
            · have : i = j := by omega
              subst this
              exact hb3
        · have hc2 : ¬ j < b.nodes[k].links.length := by simpa using hc2
          have hje : j = b.nodes[k].links.length := by omega
          subst hje
          refine Runs.exit rfl ?_
          refine Runs.seqE Ty_ok (by decide) fun k' hk' => ?_
          simp   -- R9
          refine hk' _ _ _ ?_
          exact Runs.ret Tryd.func131 (RetOk.one Tryd.results131) (hQ _ _ _ _ (.v _ _ _) (by rw [hpre, all_end fun i hi => hall i hi hi]))
  have hw : IntKind.i64.wrap ((sig.length : Int) - 1) = (sig.length : Int) - 1 := by rw [wrap64] <;> omega
  simp [h0, h7, hm7', hw]   -- R2
  refine RunDK.callA Ty_ok kindOp_ok (l1In_ok b.nodes[k].control 0 ((sig.length : Int) - 1)) e104 (.cons (.v _ _ _) (.cons (.v _ _ _) (.cons (.v _ _ _) .nil))) (by decide) rfl (by simp) ?_
  cases q1 : within b.nodes[k].control 0 ((sig.length : Int) - 1)
  · simp [guardOf]
    exact fin _ false (by simp [h4]) (by simp [h7]) (by simp) (by simp only [okNodeB, hgk, q1]; simp)
  simp [h0, h2, h4, h7, hm4', hm7', guardOf]
  refine RunDK.callA Ty_ok kindOp_ok (l2Under_ok sig b b.nodes[k].parent k hpar hr (by omega) hctl) e132 (.cons (ArgOk.encSig false sig) (.cons (ArgOk.encB false b) (.cons (.v _ _ _) (.cons (.v _ _ _) .nil)))) (by decide) rfl (by simp [encB, Big.cells, encN, encI, encS, encW, encSig]) ?_
  cases q2 : okParent sig b b.nodes[k].parent k
  · simp [guardOf]
    exact fin _ false (by simp [h4]) (by simp [h7]) (by simp) (by simp only [okNodeB, hgk, q2]; simp)
  have q1' := q1
  simp only [within, Bool.and_eq_true, decide_eq_true_eq] at q1'
  obtain ⟨c, hc⟩ : ∃ c : Nat, b.nodes[k].control = c := ⟨b.nodes[k].control.toNat, by omega⟩
  have hcl : c < sig.length := by omega
  have q1c := q1
  rw [hc] at q1c
  have hgc : sig.getD c default = sig[c] := by simp [hcl]
  by_cases q3 : (b.nodes[k].links.length : Int) = sig[c].ports
  · have q3' : ((b.nodes[k].links.length : Int) != sig[c].ports) = false := by simpa using q3
    simp [h0, h7, hm7', hc, hcl, q3', Control.cells, guardOf]
    exact fin _ true (by simp [h4]) (by simp [h7]) (by simp) (by simp only [okNodeB, hgk, q1c, q2, hc, Int.toNat_natCast, hgc, q3]; simp)
  · have q3' : ((b.nodes[k].links.length : Int) != sig[c].ports) = true := by simpa using q3
    simp [h0, h7, hm7', hc, hcl, q3', Control.cells, guardOf]
    exact fin _ false (by simp [h4]) (by simp [h7]) (by simp) (by simp only [okNodeB, hgk, q1c, q2, hc, Int.toNat_natCast, hgc, q3]; simp)
end Go.Ab
