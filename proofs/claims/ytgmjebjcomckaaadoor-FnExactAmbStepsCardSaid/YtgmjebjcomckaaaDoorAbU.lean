/- Contracts of (impl.Proc).isNode, isIdleNode, spec.l12Has and spec.l12Idle, at valid processes. -/
import Derived.Test.YtgmjebjcomckaaaDoorAbWc
import Derived.Test.YtgmjebjcomckaaaDoorAbT
namespace Go.Ab
open Go.Proofs
set_option linter.unusedSimpArgs false
theorem e114 : Ent Tryd.prog 114 := Ent.of Tryd.func114 (by kernel_rfl) rfl
theorem e115 : Ent Tryd.prog 115 := Ent.of Tryd.func115 (by kernel_rfl) rfl
theorem e116 : Ent Tryd.prog 116 := Ent.of Tryd.func116 (by kernel_rfl) rfl
theorem e148 : Ent Tryd.prog 148 := Ent.of Tryd.func148 (by kernel_rfl) rfl
theorem e149 : Ent Tryd.prog 149 := Ent.of Tryd.func149 (by kernel_rfl) rfl
theorem e52 : Ent Tryd.prog 52 := Ent.of Tryd.func52 (by kernel_rfl) rfl
theorem e53 : Ent Tryd.prog 53 := Ent.of Tryd.func53 (by kernel_rfl) rfl

theorem isNode_ok (p : Proc) (k : Int) (hp : p.length ≤ 1048576) : PureC Tryd.prog 148 [encP false p, int k] (fun r => r = bool (within k 0 ((p.length : Int) - 1))) := by
  refine PureC.of Tryd.func148 rfl Tryd.ntmps148 (by simp) fun Q hQ => ?_
  refine Runs.seqE Ty_ok (by decide) fun k' hk' => ?_
  simp [encP]   -- R0
  refine hk' _ _ _ ?_
  refine Runs.seqE Ty_ok (by decide) fun k' hk' => ?_
  simp [show -9223372036854775808 ≤ (p.length : Int) - 1 by omega, show (p.length : Int) - 1 ≤ 9223372036854775807 by omega]   -- R1
  refine RunK.callA Ty_ok (within_ok k 0 ((p.length : Int) - 1)) e71 (.cons (.v _ _ _) (.cons (.v _ _ _) (.cons (.v _ _ _) .nil))) (by decide) (by decide) rfl (by simp) ?_
  rintro _ rfl
  simp
  refine hk' _ _ _ ?_
  exact Runs.ret Tryd.func148 (RetOk.one Tryd.results148) (hQ _ _ _ _ (.v _ _ _) rfl)

theorem l12Has_ok (p : Proc) (k : Int) (hp : p.length ≤ 1048576) : PureC Tryd.prog 114 [encP false p, int k] (fun r => r = bool (within k 0 ((p.length : Int) - 1))) := by
  refine PureC.of Tryd.func114 rfl Tryd.ntmps114 (by simp) fun Q hQ => ?_
  refine Runs.seqE Ty_ok (by decide) fun k' hk' => ?_
  simp [encP]   -- R0
  refine hk' _ _ _ ?_
  refine Runs.seqE Ty_ok (by decide) fun k' hk' => ?_
  simp [show -9223372036854775808 ≤ (p.length : Int) - 1 by omega, show (p.length : Int) - 1 ≤ 9223372036854775807 by omega]   -- R1
  refine RunK.callA Ty_ok (l1In_ok k 0 ((p.length : Int) - 1)) e104 (.cons (.v _ _ _) (.cons (.v _ _ _) (.cons (.v _ _ _) .nil))) (by decide) (by decide) rfl (by simp) ?_
  rintro _ rfl
  simp
  refine hk' _ _ _ ?_
  exact Runs.ret Tryd.func114 (RetOk.one Tryd.results114) (hQ _ _ _ _ (.v _ _ _) rfl)

def idleFrom (p : Proc) : Nat → Int → Bool
  | 0, _ => false
  | d + 1, k => if k < 0 then false else if (p.getD k.toNat default).kind ≠ 0 then true else idleFrom p d (p.getD k.toNat default).parent
def idle (p : Proc) (node : Nat) : Bool := idleFrom p 9 (p.getD node default).parent

theorem idleFrom_stop {p : Proc} {d : Nat} {k : Int} (hk : k < 0) : idleFrom p d k = false := by
  cases d <;> simp [idleFrom, hk]

theorem isIdleNode_ok {p : Proc} (hp : Valid p) (node : Nat) (hn : node < p.length) : PureC Tryd.prog 149 [encP false p, int node] (fun r => r = bool (idle p node)) := by
  have hp8 := hp.len
  have hx : p.getD node default = p[node] := by simp [hn]
  have hup := hp.up node hn
  rw [hx] at hup
  refine PureC.of Tryd.func149 rfl Tryd.ntmps149 (by simp) fun Q hQ => ?_
  refine Runs.seqE Ty_ok (by decide) fun k' hk' => ?_
  simp [encP]   -- R0
  refine hk' _ _ _ ?_
  refine Runs.seq ?_
  refine Runs.seqE Ty_ok (by decide) fun k' hk' => ?_
  simp [hn, AmbNode.cells]   -- R1
  refine hk' _ _ _ ?_
  refine Runs.block (Runs.loopM (fun m ρ H n => ρ 2 = .ptr (0, 2) 1 0 0 ∧ H (0, 2) = some ⟨1, [[.list false (p.map AmbNode.cells)]]⟩ ∧ ∃ k : Int, ρ 5 = int k ∧ -1 ≤ k ∧ k < p.length ∧ m = (k + 1).toNat ∧ ∃ d : Nat, k < d ∧ idleFrom p d k = idle p node) (p[node].parent + 1).toNat ?_ ?_)
  · refine ⟨by simp, by simp [AmbNode.cells], p[node].parent, by simp, hup.1, by omega, rfl, 9, by omega, ?_⟩
    rw [idle, hx]
  · rintro m ρ H n ⟨h2, hH, k, h5, hk0, hk1, hm, d, hd, hid⟩ IH
    refine Runs.seq ?_
    refine Runs.seqE Ty_ok (by decide) fun k' hk' => ?_
    simp [h5]   -- R2
    refine hk' _ _ _ ?_
    refine Runs.ite rfl (fun hc1 => ?_) (fun hc1 => ?_)   -- t13
    · simp only [decide_eq_true_eq] at hc1
      obtain ⟨j, rfl⟩ : ∃ j : Nat, k = j := ⟨k.toNat, by omega⟩
      have hj : j < p.length := by omega
      have hxj : p.getD j default = p[j] := by simp [hj]
      have hupj := hp.up j hj
      rw [hxj] at hupj
      obtain ⟨d', rfl⟩ : ∃ d', d = d' + 1 := ⟨d - 1, by omega⟩
      have hid2 := hid
      rw [idleFrom, if_neg (by omega), Int.toNat_natCast, hxj] at hid2
      refine Runs.skip ?_
      refine Runs.seq ?_
      refine Runs.block ?_
      refine Runs.seqE Ty_ok (by decide) fun k' hk' => ?_
      simp [h2, hH, h5, hj, AmbNode.cells]   -- R4
      refine hk' _ _ _ ?_
      refine Runs.ite rfl (fun hc2 => ?_) (fun hc2 => ?_)   -- t26
      · simp at hc2
        refine Runs.seqE Ty_ok (by decide) fun k' hk' => ?_
        simp   -- R5
        refine hk' _ _ _ ?_
        refine Runs.ret Tryd.func149 (RetOk.one Tryd.results149) (hQ _ _ _ _ (.v _ _ _) ?_)
        rw [if_pos hc2] at hid2
        rw [← hid2]
      · simp at hc2
        rw [if_neg (by simp [hc2])] at hid2
        refine Runs.skip ?_
        refine Runs.inBlock ?_
        refine Runs.evalE Ty_ok (by decide) fun k' hk' => ?_
        simp [h2, hH, h5, hj, AmbNode.cells]   -- R3
        refine hk' _ _ _ ?_
        refine IH (p[j].parent + 1).toNat _ _ _ (by omega) ?_
        exact ⟨by simp [h2], by simp [hH], p[j].parent, by simp, hupj.1, by omega, rfl, d', by omega, hid2⟩
    · simp only [decide_eq_false_iff_not] at hc1
      refine Runs.exit rfl ?_
      refine Runs.seqE Ty_ok (by decide) fun k' hk' => ?_
      simp   -- R6
      refine hk' _ _ _ ?_
      refine Runs.ret Tryd.func149 (RetOk.one Tryd.results149) (hQ _ _ _ _ (.v _ _ _) ?_)
      rw [← hid, idleFrom_stop (by omega)]

theorem l12Idle_ok {p : Proc} (hp : Valid p) (node : Nat) (hn : node < p.length) : PureC Tryd.prog 115 [encP false p, int node] (fun r => r = bool (idle p node)) := by
  have hp8 := hp.len
  have hx : p.getD node default = p[node] := by simp [hn]
  have hup := hp.up node hn
  rw [hx] at hup
  refine PureC.of Tryd.func115 rfl Tryd.ntmps115 (by simp) fun Q hQ => ?_
  refine Runs.seqE Ty_ok (by decide) fun k' hk' => ?_
  simp [encP]   -- R0
  refine hk' _ _ _ ?_
  refine Runs.seq ?_
  refine Runs.seqE Ty_ok (by decide) fun k' hk' => ?_
  simp [hn, AmbNode.cells]   -- R1
  refine hk' _ _ _ ?_
  refine Runs.block (Runs.loopM (fun m ρ H n => ρ 2 = .ptr (0, 2) 1 0 0 ∧ H (0, 2) = some ⟨1, [[.list false (p.map AmbNode.cells)]]⟩ ∧ ∃ k : Int, ρ 1 = int k ∧ -1 ≤ k ∧ k < p.length ∧ m = (k + 1).toNat ∧ ∃ d : Nat, k < d ∧ idleFrom p d k = idle p node) (p[node].parent + 1).toNat ?_ ?_)
  · refine ⟨by simp, by simp [AmbNode.cells], p[node].parent, by simp, hup.1, by omega, rfl, 9, by omega, ?_⟩
    rw [idle, hx]
  · rintro m ρ H n ⟨h2, hH, k, h5, hk0, hk1, hm, d, hd, hid⟩ IH
    refine Runs.seq ?_
    refine Runs.seqE Ty_ok (by decide) fun k' hk' => ?_
    simp [h5]   -- R2
    refine hk' _ _ _ ?_
    refine Runs.ite rfl (fun hc1 => ?_) (fun hc1 => ?_)   -- t13
    · simp only [decide_eq_true_eq] at hc1
      obtain ⟨j, rfl⟩ : ∃ j : Nat, k = j := ⟨k.toNat, by omega⟩
      have hj : j < p.length := by omega
      have hxj : p.getD j default = p[j] := by simp [hj]
      have hupj := hp.up j hj
      rw [hxj] at hupj
      obtain ⟨d', rfl⟩ : ∃ d', d = d' + 1 := ⟨d - 1, by omega⟩
      have hid2 := hid
      rw [idleFrom, if_neg (by omega), Int.toNat_natCast, hxj] at hid2
      refine Runs.skip ?_
      refine Runs.seq ?_
      refine Runs.block ?_
      refine Runs.seqE Ty_ok (by decide) fun k' hk' => ?_
      simp [h2, hH, h5, hj, AmbNode.cells]   -- R4
      refine hk' _ _ _ ?_
      refine Runs.ite rfl (fun hc2 => ?_) (fun hc2 => ?_)   -- t26
      · simp at hc2
        refine Runs.seqE Ty_ok (by decide) fun k' hk' => ?_
        simp   -- R5
        refine hk' _ _ _ ?_
        refine Runs.ret Tryd.func115 (RetOk.one Tryd.results115) (hQ _ _ _ _ (.v _ _ _) ?_)
        rw [if_pos hc2] at hid2
        rw [← hid2]
      · simp at hc2
        rw [if_neg (by simp [hc2])] at hid2
        refine Runs.skip ?_
        refine Runs.inBlock ?_
        refine Runs.evalE Ty_ok (by decide) fun k' hk' => ?_
        simp [h2, hH, h5, hj, AmbNode.cells]   -- R3
        refine hk' _ _ _ ?_
        refine IH (p[j].parent + 1).toNat _ _ _ (by omega) ?_
        exact ⟨by simp [h2], by simp [hH], p[j].parent, by simp, hupj.1, by omega, rfl, d', by omega, hid2⟩
    · simp only [decide_eq_false_iff_not] at hc1
      refine Runs.exit rfl ?_
      refine Runs.seqE Ty_ok (by decide) fun k' hk' => ?_
      simp   -- R6
      refine hk' _ _ _ ?_
      refine Runs.ret Tryd.func115 (RetOk.one Tryd.results115) (hQ _ _ _ _ (.v _ _ _) ?_)
      rw [← hid, idleFrom_stop (by omega)]

theorem draw116 : True := trivial
end Go.Ab
