/- The contract of spec.l12Can, at valid processes. -/
import Derived.Test.YtgmjebjcomckaaaDoorAbUb
namespace Go.Ab
open Go.Proofs
set_option linter.unusedSimpArgs false

theorem l12Can_ok {p : Proc} (hp : Valid p) (kind cap place : Nat) (hk : 1 ≤ kind ∧ kind ≤ 3) (hc : cap < p.length) (hpl : place < p.length) : PureC Tryd.prog 52 [encP false p, .agg (AmbStep.cells ⟨kind, cap, place⟩)] (fun r => r = bool (can p kind cap place)) := by
  have hp8 := hp.len
  have hxc : p.getD cap default = p[cap] := by simp [hc]
  have hxp : p.getD place default = p[place] := by simp [hpl]
  have hwc : within (cap : Int) 0 ((p.length : Int) - 1) = true := by simp [within]; omega
  have hwp : within (place : Int) 0 ((p.length : Int) - 1) = true := by simp [within]; omega
  have hcan : can p kind cap place = ((p[cap].kind == kind) && !idle p cap && (p[place].kind == 0) && (p[cap].name == p[place].name) &&
    (if kind = 1 then decide (0 ≤ p[cap].parent) && (p[cap].parent != place) && (p[place].parent == (p.getD p[cap].parent.toNat default).parent)
    else if kind = 2 then decide (0 ≤ p[cap].parent) && ((p.getD p[cap].parent.toNat default).parent == place)
    else p[place].parent == p[cap].parent)) := by
    rw [can, hxc, hxp]
  refine PureC.of Tryd.func52 rfl Tryd.ntmps52 (by simp) fun Q hQ => ?_
  refine Runs.seqE Ty_ok (by decide) fun k' hk' => ?_
  simp [encP, AmbStep.cells]   -- R0
  refine hk' _ _ _ ?_
  refine Runs.seq ?_
  refine Runs.seqE Ty_ok (by decide) fun k' hk' => ?_
  simp   -- R1
  refine RunK.callA Ty_ok (l12Has_ok p cap (by omega)) e114 (.cons (ArgOk.encP false p) (.cons (.v _ _ _) .nil)) (by decide) (by decide) rfl (by simp [encP]) ?_
  rintro _ rfl
  simp [hwc]
  refine RunK.callA Ty_ok (l12Has_ok p place (by omega)) e114 (.cons (ArgOk.encP false p) (.cons (.v _ _ _) .nil)) (by decide) (by decide) rfl (by simp [encP]) ?_
  rintro _ rfl
  simp [hwp]
  refine RunK.callA Ty_ok (l12Idle_ok hp cap hc) e115 (.cons (ArgOk.encP false p) (.cons (.v _ _ _) .nil)) (by decide) (by decide) rfl (by simp [encP]) ?_
  rintro _ rfl
  cases hid : idle p cap
  · simp [hid]
    refine hk' _ _ _ ?_
    refine Runs.ite rfl (fun h => by simp at h) (fun _ => ?_)
    refine Runs.skip ?_
    refine Runs.seqN Ty_ok draws (by decide) (by kernel_rfl) fun k' hk' => ?_
    simp [hc, hpl, AmbNode.cells, guardOf]   -- R3
    intro a ha hfa b hb hfb
    clear hfa hfb
    refine ⟨ha, hb, hk' _ _ _ ?_⟩
    refine Runs.seq ?_
    refine Runs.seqE Ty_ok (by decide) fun k' hk' => ?_
    simp   -- R4
    by_cases hk1 : p[cap].kind = kind
    · have hk0 : ((kind : Int) == 0) = false := by simp; omega
      simp [hk1, hk0]
      by_cases hk2 : p[place].kind = 0
      · simp [hk2]
        by_cases hk3 : p[cap].name = p[place].name
        · simp [hk3]
          refine hk' _ _ _ ?_
          refine Runs.ite rfl (fun h => by simp at h) (fun _ => ?_)
          refine Runs.skip ?_
          refine Runs.seq ?_
          refine Runs.seqE Ty_ok (by decide) fun k' hk' => ?_
          simp   -- R6
          refine hk' _ _ _ ?_
          refine Runs.block ?_
          refine Runs.seqE Ty_ok (by decide) fun k' hk' => ?_
          simp   -- R7
          refine hk' _ _ _ ?_
          have hup := hp.up cap hc
          rw [hxc] at hup
          have hacc : can p kind cap place = (if kind = 1 then decide (0 ≤ p[cap].parent) && (p[cap].parent != place) && (p[place].parent == (p.getD p[cap].parent.toNat default).parent)
              else if kind = 2 then decide (0 ≤ p[cap].parent) && ((p.getD p[cap].parent.toNat default).parent == place)
              else p[place].parent == p[cap].parent) := by
            rw [hcan]; simp [hk1, hid, hk2, hk3]
          refine Runs.ite rfl (fun hc3 => ?_) (fun hc3 => ?_)
          · have hk1' : kind = 1 := by simp at hc3; omega
            rw [if_pos hk1'] at hacc
            refine Runs.seqD Ty_ok kindOp_ok draws (by decide) (by kernel_rfl) fun k' hk' => ?_
            by_cases hpar : 0 ≤ p[cap].parent
            · obtain ⟨j, hj⟩ : ∃ j : Nat, p[cap].parent = j := ⟨p[cap].parent.toNat, by omega⟩
              have hjl : j < p.length := by omega
              have hgj : p.getD j default = p[j] := by simp [hjl]
              rw [hj, Int.toNat_natCast, hgj] at hacc
              by_cases hne : j = place
              · subst hne
                simp [hj]
                refine hk' _ _ _ ?_
                exact Runs.ret Tryd.func52 (RetOk.one Tryd.results52) (hQ _ _ _ _ (.v _ _ _) (by rw [hacc]; simp))
              · have hne' : ((j : Int) != (place : Int)) = true := by simp; omega
                simp [hj, hne', hjl, AmbNode.cells]
                refine hk' _ _ _ ?_
                exact Runs.ret Tryd.func52 (RetOk.one Tryd.results52) (hQ _ _ _ _ (.v _ _ _) (by rw [hacc]; simp [hne']; exact BEq.comm))
            · simp [hpar]
              refine hk' _ _ _ ?_
              exact Runs.ret Tryd.func52 (RetOk.one Tryd.results52) (hQ _ _ _ _ (.v _ _ _) (by rw [hacc]; simp [hpar]))
          · have hk1' : ¬ kind = 1 := by simp at hc3; omega
            rw [if_neg hk1'] at hacc
            refine Runs.seqE Ty_ok (by decide) fun k' hk' => ?_
            simp
            refine hk' _ _ _ ?_
            refine Runs.ite rfl (fun hc4 => ?_) (fun hc4 => ?_)
            · have hk2' : kind = 2 := by simp at hc4; omega
              rw [if_pos hk2'] at hacc
              refine Runs.seqD Ty_ok kindOp_ok draws (by decide) (by kernel_rfl) fun k' hk' => ?_
              by_cases hpar : 0 ≤ p[cap].parent
              · obtain ⟨j, hj⟩ : ∃ j : Nat, p[cap].parent = j := ⟨p[cap].parent.toNat, by omega⟩
                have hjl : j < p.length := by omega
                have hgj : p.getD j default = p[j] := by simp [hjl]
                rw [hj, Int.toNat_natCast, hgj] at hacc
                simp [hj, hjl, AmbNode.cells]
                refine hk' _ _ _ ?_
                exact Runs.ret Tryd.func52 (RetOk.one Tryd.results52) (hQ _ _ _ _ (.v _ _ _) (by rw [hacc]; simp))
              · simp [hpar]
                refine hk' _ _ _ ?_
                exact Runs.ret Tryd.func52 (RetOk.one Tryd.results52) (hQ _ _ _ _ (.v _ _ _) (by rw [hacc]; simp [hpar]))
            · have hk2' : ¬ kind = 2 := by simp at hc4; omega
              rw [if_neg hk2'] at hacc
              refine Runs.skip ?_
              refine Runs.inBlock ?_
              refine Runs.seqE Ty_ok (by decide) fun k' hk' => ?_
              simp
              refine hk' _ _ _ ?_
              exact Runs.ret Tryd.func52 (RetOk.one Tryd.results52) (hQ _ _ _ _ (.v _ _ _) (by rw [hacc]; simp; exact BEq.comm))
        · have hk3' : ¬ p[place].name = p[cap].name := fun h => hk3 h.symm
          refine hk' _ _ _ ?_
          refine Runs.ite rfl (fun _ => ?_) (fun h => by simp [hk3] at h)
          refine Runs.seqE Ty_ok (by decide) fun k' hk' => ?_
          simp   -- R5
          refine hk' _ _ _ ?_
          refine Runs.ret Tryd.func52 (RetOk.one Tryd.results52) (hQ _ _ _ _ (.v _ _ _) ?_)
          rw [hcan]; simp [hk1, hid, hk2, hk3]
      · have hb2 : (p[place].kind != 0) = true := by simp [hk2]
        simp [hb2]
        refine hk' _ _ _ ?_
        refine Runs.ite rfl (fun _ => ?_) (fun h => by simp at h)
        refine Runs.seqE Ty_ok (by decide) fun k' hk' => ?_
        simp   -- R5
        refine hk' _ _ _ ?_
        refine Runs.ret Tryd.func52 (RetOk.one Tryd.results52) (hQ _ _ _ _ (.v _ _ _) ?_)
        rw [hcan]; simp [hk1, hid, hk2]
    · have hb1 : (p[cap].kind != (kind : Int)) = true := by simp [hk1]
      by_cases hk0 : p[cap].kind = 0
      · simp [hk0]
        refine hk' _ _ _ ?_
        refine Runs.ite rfl (fun _ => ?_) (fun h => by simp at h)
        refine Runs.seqE Ty_ok (by decide) fun k' hk' => ?_
        simp   -- R5
        refine hk' _ _ _ ?_
        refine Runs.ret Tryd.func52 (RetOk.one Tryd.results52) (hQ _ _ _ _ (.v _ _ _) ?_)
        rw [hcan]; simp [hk1, hid]
      · have hb0 : (p[cap].kind == 0) = false := by simp [hk0]
        simp [hb0, hb1]
        refine hk' _ _ _ ?_
        refine Runs.ite rfl (fun _ => ?_) (fun h => by simp at h)
        refine Runs.seqE Ty_ok (by decide) fun k' hk' => ?_
        simp   -- R5
        refine hk' _ _ _ ?_
        refine Runs.ret Tryd.func52 (RetOk.one Tryd.results52) (hQ _ _ _ _ (.v _ _ _) ?_)
        rw [hcan]; simp [hk1, hid]
  · simp [hid]
    refine hk' _ _ _ ?_
    refine Runs.ite rfl (fun _ => ?_) (fun h => by simp at h)
    refine Runs.seqE Ty_ok (by decide) fun k' hk' => ?_
    simp   -- R5
    refine hk' _ _ _ ?_
    refine Runs.ret Tryd.func52 (RetOk.one Tryd.results52) (hQ _ _ _ _ (.v _ _ _) ?_)
    rw [hcan]; simp [hid]
end Go.Ab
