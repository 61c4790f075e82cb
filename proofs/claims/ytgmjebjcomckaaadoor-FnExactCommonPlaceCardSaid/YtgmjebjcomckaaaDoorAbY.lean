/- Contracts of laws.szAmbNode, laws.szAmbNodeS and laws.szProcess. -/
import Derived.Test.YtgmjebjcomckaaaDoorAbWc
namespace Go.Ab
open Go.Proofs
set_option linter.unusedSimpArgs false
theorem e9 : Ent Tryd.prog 9 := Ent.of Tryd.func9 (by kernel_rfl) rfl
theorem e11 : Ent Tryd.prog 11 := Ent.of Tryd.func11 (by kernel_rfl) rfl
theorem e13 : Ent Tryd.prog 13 := Ent.of Tryd.func13 (by kernel_rfl) rfl
theorem e45 : Ent Tryd.prog 45 := Ent.of Tryd.func45 (by kernel_rfl) rfl
theorem e48 : Ent Tryd.prog 48 := Ent.of Tryd.func48 (by kernel_rfl) rfl
theorem e51 : Ent Tryd.prog 51 := Ent.of Tryd.func51 (by kernel_rfl) rfl
theorem e103 : Ent Tryd.prog 103 := Ent.of Tryd.func103 (by kernel_rfl) rfl
theorem e108 : Ent Tryd.prog 108 := Ent.of Tryd.func108 (by kernel_rfl) rfl
theorem e113 : Ent Tryd.prog 113 := Ent.of Tryd.func113 (by kernel_rfl) rfl

def szStr (s : Str) (left : Int) : Int := if left - s.length < 0 then -1 else left - s.length
def szNodes : Proc → Int → Int
  | [], left => left
  | x :: r, left => if szStr x.name left < 0 then -1 else szNodes r (szStr x.name left)
def szProc (p : Proc) (left : Int) : Int := if left - p.length < 0 then -1 else szNodes p (left - p.length)
def Small (p : Proc) : Prop := p.length ≤ 9223372036854775807 ∧ ∀ x ∈ p, x.name.length ≤ 9223372036854775807

theorem szAmbNode_ok (x : AmbNode) (left : Int) (h0 : 0 ≤ left) (h1 : left ≤ 1048576) (hn : x.name.length ≤ 9223372036854775807) : PureC Tryd.prog 103 [.agg x.cells, int left] (fun r => r = int (szStr x.name left)) := by
  refine PureC.of Tryd.func103 rfl Tryd.ntmps103 (by simp) fun Q hQ => ?_
  refine Runs.seqE Ty_ok (by decide) fun k' hk' => ?_
  simp   -- R0
  refine hk' _ _ _ ?_
  refine Runs.seqE Ty_ok (by decide) fun k' hk' => ?_
  simp [AmbNode.cells, show -9223372036854775808 ≤ left - x.name.length by omega, show left - x.name.length ≤ 9223372036854775807 by omega]   -- R1
  refine hk' _ _ _ ?_
  refine Runs.seq ?_
  refine Runs.seqE Ty_ok (by decide) fun k' hk' => ?_
  simp   -- R2
  refine hk' _ _ _ ?_
  refine Runs.ite rfl (fun hc1 => ?_) (fun hc1 => ?_)   -- t11
  · simp only [decide_eq_true_eq] at hc1
    refine Runs.seqE Ty_ok (by decide) fun k' hk' => ?_
    simp   -- R3
    refine hk' _ _ _ ?_
    refine Runs.ret Tryd.func103 (RetOk.one Tryd.results103) (hQ _ _ _ _ (.v _ _ _) ?_)
    rw [szStr, if_pos hc1]
  · simp only [decide_eq_false_iff_not] at hc1
    refine Runs.skip ?_
    refine Runs.seqE Ty_ok (by decide) fun k' hk' => ?_
    simp   -- R4
    refine hk' _ _ _ ?_
    refine Runs.ret Tryd.func103 (RetOk.one Tryd.results103) (hQ _ _ _ _ (.v _ _ _) ?_)
    rw [szStr, if_neg hc1]

theorem szAmbNodeS_ok (p : Proc) (left : Int) (h0 : 0 ≤ left) (h1 : left ≤ 1048576) (hp : Small p) : PureC Tryd.prog 45 [.list false (p.map AmbNode.cells), int left] (fun r => r = int (szProc p left)) := by
  obtain ⟨hp1, hp2⟩ := hp
  refine PureC.of Tryd.func45 rfl Tryd.ntmps45 (by simp) fun Q hQ => ?_
  refine Runs.seqE Ty_ok (by decide) fun k' hk' => ?_
  simp   -- R0
  refine hk' _ _ _ ?_
  refine Runs.seqE Ty_ok (by decide) fun k' hk' => ?_
  simp [show -9223372036854775808 ≤ left - p.length by omega, show left - p.length ≤ 9223372036854775807 by omega]   -- R1
  refine hk' _ _ _ ?_
  refine Runs.seq ?_
  refine Runs.seqE Ty_ok (by decide) fun k' hk' => ?_
  simp   -- R2
  refine hk' _ _ _ ?_
  refine Runs.ite rfl (fun hc1 => ?_) (fun hc1 => ?_)   -- t11
  · simp only [decide_eq_true_eq] at hc1
    refine Runs.seqE Ty_ok (by decide) fun k' hk' => ?_
    simp   -- R3
    refine hk' _ _ _ ?_
    refine Runs.ret Tryd.func45 (RetOk.one Tryd.results45) (hQ _ _ _ _ (.v _ _ _) ?_)
    rw [szProc, if_pos hc1]
  · simp only [decide_eq_false_iff_not] at hc1
    refine Runs.skip ?_
    refine Runs.seq ?_
    refine Runs.seqE Ty_ok (by decide) fun k' hk' => ?_
    simp   -- R4
    refine hk' _ _ _ ?_
    refine Runs.block (Runs.loopUp p.length (fun k ρ H n => ρ 0 = .list false (p.map AmbNode.cells) ∧ ρ 5 = int k ∧ ∃ cur : Int, ρ 1 = int cur ∧ 0 ≤ cur ∧ cur ≤ left ∧ szNodes (p.drop k) cur = szProc p left) ?_ ?_)
    · simp [szProc, hc1]
      omega
    · rintro k ρ H n hk ⟨h0, h5, cur, h1', hcur, hcl, hsz⟩ IH
      refine Runs.seq ?_
      refine Runs.seqE Ty_ok (by decide) fun k' hk' => ?_
      simp [h0, h5]   -- R5
      refine hk' _ _ _ ?_
      refine Runs.ite rfl (fun hc2 => ?_) (fun hc2 => ?_)   -- t15
      · simp at hc2
        refine Runs.skip ?_
        refine Runs.seq ?_
        refine Runs.block ?_
        refine Runs.seqE Ty_ok (by decide) fun k' hk' => ?_
        simp [h0, h5, h1', hc2, AmbNode.cells]   -- R7
        refine RunK.callA Ty_ok (szAmbNode_ok p[k] cur hcur (by omega) (hp2 _ (List.getElem_mem hc2))) e103 (.cons (ArgOk.node _) (.cons (.v _ _ _) .nil)) (by decide) (by decide) rfl (by simp [AmbNode.cells, h1']) ?_
        rintro _ rfl
        simp
        refine hk' _ _ _ ?_
        rw [List.drop_eq_getElem_cons hc2, szNodes] at hsz
        refine Runs.seqE Ty_ok (by decide) fun k' hk' => ?_
        simp   -- R8
        refine hk' _ _ _ ?_
        refine Runs.ite rfl (fun hc3 => ?_) (fun hc3 => ?_)   -- t25
        · simp only [decide_eq_true_eq] at hc3
          rw [if_pos hc3] at hsz
          refine Runs.seqE Ty_ok (by decide) fun k' hk' => ?_
          simp   -- R9
          refine hk' _ _ _ ?_
          exact Runs.ret Tryd.func45 (RetOk.one Tryd.results45) (hQ _ _ _ _ (.v _ _ _) (by rw [← hsz]))
        · simp only [decide_eq_false_iff_not] at hc3
          rw [if_neg hc3] at hsz
          refine Runs.skip ?_
          refine Runs.inBlock ?_
          refine Runs.evalE Ty_ok (by decide) fun k' hk' => ?_
          simp [h5, wrap_succ (show k < 4611686018427387904 by omega)]   -- R6
          refine hk' _ _ _ ?_
          refine IH hc2 _ _ _ ?_
          have hle : szStr p[k].name cur ≤ left := by
            unfold szStr
            split <;> omega
          exact ⟨by simp [h0], by simp, szStr p[k].name cur, by simp, by omega, hle, hsz⟩
      · simp at hc2
        have hke : k = p.length := by omega
        subst hke
        rw [List.drop_length, szNodes] at hsz
        refine Runs.exit rfl ?_
        refine Runs.seqE Ty_ok (by decide) fun k' hk' => ?_
        simp [h1']   -- R10
        refine hk' _ _ _ ?_
        exact Runs.ret Tryd.func45 (RetOk.one Tryd.results45) (hQ _ _ _ _ (.v _ _ _) (by rw [hsz]))

theorem szProcess_ok (p : Proc) (left : Int) (h0 : 0 ≤ left) (h1 : left ≤ 1048576) (hp : Small p) : PureC Tryd.prog 9 [encP false p, int left] (fun r => r = int (if szProc p left < 0 then -1 else szProc p left)) := by
  refine PureC.of Tryd.func9 rfl Tryd.ntmps9 (by simp) fun Q hQ => ?_
  refine Runs.seqE Ty_ok (by decide) fun k' hk' => ?_
  simp [encP]   -- R0
  refine hk' _ _ _ ?_
  refine Runs.seqE Ty_ok (by decide) fun k' hk' => ?_
  simp   -- R1
  refine RunK.callA Ty_ok (szAmbNodeS_ok p left h0 h1 hp) e45 (.cons (.listF (fr := false) (by simp [AmbNode.cells])) (.cons (.v _ _ _) .nil)) (by decide) (by decide) rfl (by simp) ?_
  rintro _ rfl
  simp
  refine hk' _ _ _ ?_
  refine Runs.seq ?_
  refine Runs.seqE Ty_ok (by decide) fun k' hk' => ?_
  simp   -- R2
  refine hk' _ _ _ ?_
  refine Runs.ite rfl (fun hc1 => ?_) (fun hc1 => ?_)   -- t10
  · simp only [decide_eq_true_eq] at hc1
    refine Runs.seqE Ty_ok (by decide) fun k' hk' => ?_
    simp   -- R3
    refine hk' _ _ _ ?_
    exact Runs.ret Tryd.func9 (RetOk.one Tryd.results9) (hQ _ _ _ _ (.v _ _ _) (by rw [if_pos hc1]))
  · simp only [decide_eq_false_iff_not] at hc1
    refine Runs.skip ?_
    refine Runs.seqE Ty_ok (by decide) fun k' hk' => ?_
    simp   -- R4
    refine hk' _ _ _ ?_
    exact Runs.ret Tryd.func9 (RetOk.one Tryd.results9) (hQ _ _ _ _ (.v _ _ _) (by rw [if_neg hc1]))

theorem szNodes_le : ∀ (p : Proc) (left : Int), 0 ≤ szNodes p left → ∀ x ∈ p, (x.name.length : Int) ≤ left
  | [], _, _, x, hx => by simp at hx
  | y :: r, left, h, x, hx => by
    rw [szNodes] at h
    split at h
    · omega
    · rename_i h2
      have h3 : szStr y.name left = left - y.name.length := by
        unfold szStr at h2 ⊢
        split <;> rename_i h4
        · rw [if_pos h4] at h2; omega
        · rfl
      rcases List.mem_cons.1 hx with rfl | hx
      · rw [h3] at h2; omega
      · have := szNodes_le r _ h x hx
        rw [h3] at this
        omega

theorem szProc_le {p : Proc} {left : Int} (h : 0 ≤ szProc p left) : (p.length : Int) ≤ left ∧ ∀ x ∈ p, (x.name.length : Int) ≤ left := by
  unfold szProc at h
  split at h
  · omega
  · exact ⟨by omega, fun x hx => by have := szNodes_le p _ h x hx; omega⟩
end Go.Ab
