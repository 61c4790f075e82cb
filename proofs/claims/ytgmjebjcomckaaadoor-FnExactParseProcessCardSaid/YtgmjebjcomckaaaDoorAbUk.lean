/- Contract of laws.markText. -/
import Derived.Test.YtgmjebjcomckaaaDoorAbUj
import Derived.Test.YtgmjebjcomckaaaDoorAbTy
namespace Go.Ab
open Go.Proofs
set_option linter.unusedSimpArgs false

/-- The digits of a number ahead of a text. -/
def digs (k : Nat) (out : Str) : Str := if k = 0 then out else digs (k / 10) (UInt8.ofNat (48 + k % 10) :: out)
  termination_by k
  decreasing_by omega
def markTextL (k : Nat) : Str := if k = 0 then [109, 48] else 109 :: digs k []

theorem wrap_u8 {a : Int} (h : 0 ≤ a) (h2 : a < 256) : IntKind.u8.wrap a = a := by
  unfold IntKind.wrap
  simp [IntKind.min, IntKind.max, IntKind.bits, IntKind.signed]
  omega

theorem e99 : Ent Tryd.prog 99 := Ent.of Tryd.func99 (by kernel_rfl) rfl

set_option maxRecDepth 20000 in
theorem markText_ok (k : Nat) (hk : k ≤ 1152921504606846976) : PureC Tryd.prog 99 [int k] (fun r => r = str (markTextL k)) := by
  refine PureC.of Tryd.func99 rfl Tryd.ntmps99 (by simp) fun Q hQ => ?_
  refine Runs.seqE Ty_ok (by decide) fun k' hk' => ?_
  simp   -- R0
  refine hk' _ _ _ ?_
  refine Runs.seq ?_
  refine Runs.seqE Ty_ok (by decide) fun k' hk' => ?_
  simp   -- R1
  refine hk' _ _ _ ?_
  refine Runs.ite rfl (fun hc1 => ?_) (fun hc1 => ?_)   -- t5
  · simp at hc1
    refine Runs.seqE Ty_ok (by decide) fun k' hk' => ?_
    simp   -- R2
    refine hk' _ _ _ ?_
    refine Runs.ret Tryd.func99 (RetOk.one Tryd.results99) (hQ _ _ _ _ (.v _ _ _) ?_)
    simp [markTextL, hc1]
  · simp at hc1
    refine Runs.skip ?_
    refine Runs.seqE Ty_ok (by decide) fun k' hk' => ?_
    simp   -- R3
    refine hk' _ _ _ ?_
    refine Runs.seq ?_
    refine Runs.block (Runs.loopM (fun m ρ H n => ρ 0 = int m ∧ ∃ out : Str, ρ 3 = str out ∧ out.length + m ≤ k ∧ digs m out = digs k []) k ?_ ?_)
    · simp
    · rintro m ρ H n ⟨h0, out, h3, hlen, hd⟩ IH
      refine Runs.seq ?_
      refine Runs.seqE Ty_ok (by decide) fun k' hk' => ?_
      simp [h0]   -- R4
      refine hk' _ _ _ ?_
      refine Runs.ite rfl (fun hc2 => ?_) (fun hc2 => ?_)   -- t7
      · simp at hc2
        refine Runs.skip ?_
        refine Runs.block ?_
        refine Runs.seqE Ty_ok (by decide) fun k' hk' => ?_
        obtain ⟨g, hg⟩ : ∃ g : Nat, g = 48 + m % 10 := ⟨_, rfl⟩
        obtain ⟨q, hq'⟩ : ∃ q : Nat, q = m / 10 := ⟨_, rfl⟩
        have hq : ((m : Int).tdiv 10) = (q : Int) := by rw [Int.tdiv_eq_ediv_of_nonneg (by omega)]; omega
        have hw : IntKind.i64.wrap (48 + ((m : Int).tmod 10)) = (g : Int) := by
          rw [Int.tmod_eq_emod_of_nonneg (by omega), wrap64] <;> omega
        have hw2 : IntKind.i64.wrap (q : Int) = (q : Int) := by rw [wrap64] <;> omega
        have hw3 : IntKind.u8.wrap (g : Int) = (g : Int) := wrap_u8 (by omega) (by omega)
        simp [h0, h3, hw, hw3]   -- R5
        refine RunK.op Ty_ok (by decide) (by decide) rfl (step_convertBytes (ns := [(g : Int)]) (els := [[.v (.int .u8 g)]]) Ty_ok kd_43 (by kernel_rfl) kd_9 (by simp [srcOf]) rfl) ?_
        rintro v H' n' ⟨rfl, rfl, rfl⟩
        simp [h3, show 1 + out.length < 4611686018427387904 by omega]
        refine hk' _ _ _ ?_
        refine Runs.evalE Ty_ok (by decide) fun k' hk' => ?_
        simp [h0, hq, hw2]   -- R6
        refine hk' _ _ _ ?_
        refine Runs.inBlock ?_
        refine IH q _ _ _ (by omega) ⟨by simp, UInt8.ofNat g :: out, by simp, by simp; omega, ?_⟩
        rw [← hd, hg, hq']
        conv => rhs; rw [digs, if_neg (by omega)]
      · simp at hc2
        subst hc2
        rw [digs, if_pos rfl] at hd
        refine Runs.exit rfl ?_
        refine Runs.seqE Ty_ok (by decide) fun k' hk' => ?_
        simp [h3, show 1 + out.length < 4611686018427387904 by omega]   -- R7
        refine hk' _ _ _ ?_
        refine Runs.ret Tryd.func99 (RetOk.one Tryd.results99) (hQ _ _ _ _ (.v _ _ _) ?_)
        simp [markTextL, hc1, hd, show ¬ k = 0 by omega]
end Go.Ab
