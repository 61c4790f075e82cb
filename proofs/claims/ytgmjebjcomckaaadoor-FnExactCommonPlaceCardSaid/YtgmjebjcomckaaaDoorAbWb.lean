/- Contracts of spec.l12Kids, spec.l12Word and spec.l12Around. -/
import Derived.Test.YtgmjebjcomckaaaDoorAbW
namespace Go.Ab
open Go.Proofs
set_option linter.unusedSimpArgs false

theorem l12Kids_ok (p : Proc) (parent : Int) (hp : p.length ≤ 1048576) : PureC Tryd.prog 106 [encP false p, int parent] (fun r => r = encNats true (kidsFrom p parent p.length)) := by
  refine PureC.of Tryd.func106 rfl Tryd.ntmps106 (by simp) fun Q hQ => ?_
  refine Runs.seqE Ty_ok (by decide) fun k' hk' => ?_
  simp [encP]   -- R0
  refine hk' _ _ _ ?_
  refine Runs.seqE Ty_ok (by decide) fun k' hk' => ?_
  simp   -- R1
  refine hk' _ _ _ ?_
  refine Runs.seq ?_
  refine Runs.seqE Ty_ok (by decide) fun k' hk' => ?_
  simp   -- R2
  refine hk' _ _ _ ?_
  refine Runs.block (Runs.loopUp p.length (fun k ρ H n => ρ 1 = int parent ∧ ρ 2 = .ptr (0, 2) 1 0 0 ∧ H (0, 2) = some ⟨1, [[.list false (p.map AmbNode.cells)]]⟩ ∧ ρ 6 = int k ∧ ρ 5 = .arr (1, 7) (kidsFrom p parent k).length 0 (kidsFrom p parent k).length ∧ H (1, 7) = some ⟨1, (kidsFrom p parent k).map fun (i : Nat) => [int (i : Int)]⟩) ?_ ?_)
  · simp [kidsFrom]
  · rintro k ρ H n hk ⟨h1, h2, hH2, h6, h5, hH⟩ IH
    refine Runs.seq ?_
    refine Runs.seqE Ty_ok (by decide) fun k' hk' => ?_
    simp [h2, hH2, h6]   -- R3
    refine hk' _ _ _ ?_
    refine Runs.ite rfl (fun hc1 => ?_) (fun hc1 => ?_)   -- t12
    · simp at hc1
      refine Runs.skip ?_
      refine Runs.seq ?_
      refine Runs.block ?_
      refine Runs.seqE Ty_ok (by decide) fun k' hk' => ?_
      simp [h2, hH2, h6, hc1, h1, AmbNode.cells]   -- R5
      refine hk' _ _ _ ?_
      have hks := kids_succ p parent k
      have hkl := kids_len p parent k
      simp [hc1] at hks
      refine Runs.ite rfl (fun hc2 => ?_) (fun hc2 => ?_)   -- t22
      · simp at hc2
        refine Runs.evalE Ty_ok (by decide) fun k' hk' => ?_
        simp [h5, h6, hH, show (kidsFrom p parent k).length ≤ 1073741823 by omega]   -- R6
        refine hk' _ _ _ ?_
        refine Runs.inBlock ?_
        refine Runs.evalE Ty_ok (by decide) fun k' hk' => ?_
        simp [h6, wrap_succ (show k < 4611686018427387904 by omega)]   -- R4
        refine hk' _ _ _ ?_
        refine IH hc1 _ _ _ ?_
        simp [h1, h2, hH2, hks, hc2]
      · simp at hc2
        refine Runs.skip ?_
        refine Runs.inBlock ?_
        refine Runs.evalE Ty_ok (by decide) fun k' hk' => ?_
        simp [h6, wrap_succ (show k < 4611686018427387904 by omega)]   -- R4
        refine hk' _ _ _ ?_
        refine IH hc1 _ _ _ ?_
        simp [h1, h2, hH2, hks, hc2, h5, hH]
    · simp at hc1
      have hke : k = p.length := by omega
      subst hke
      refine Runs.exit rfl ?_
      refine Runs.seqE Ty_ok (by decide) fun k' hk' => ?_
      simp [h5]   -- R7
      refine hk' _ _ _ ?_
      exact Runs.ret Tryd.func106 (RetOk.one Tryd.results106) (hQ _ _ _ _ (.of (Ret.arrF (by simp [hH]; rfl) (by simp))) rfl)

theorem l12Word_ok (k : Int) (hk : 1 ≤ k ∧ k ≤ 3) : PureC Tryd.prog 144 [int k] (fun r => r = str (word (k - 1).toNat)) := by
  refine PureC.of Tryd.func144 rfl Tryd.ntmps144 (by simp) fun Q hQ => ?_
  refine Runs.seqE Ty_ok (by decide) fun k' hk' => ?_
  simp   -- R0
  refine hk' _ _ _ ?_
  refine Runs.seq ?_
  refine Runs.seqE Ty_ok (by decide) fun k' hk' => ?_
  simp   -- R1
  refine hk' _ _ _ ?_
  refine Runs.block ?_
  have : k = 1 ∨ k = 2 ∨ k = 3 := by omega
  refine Runs.seqE Ty_ok (by decide) fun k' hk' => ?_
  simp
  refine hk' _ _ _ ?_
  refine Runs.ite rfl (fun hc1 => ?_) (fun hc1 => ?_)
  · simp at hc1
    subst hc1
    refine Runs.seqE Ty_ok (by decide) fun k' hk' => ?_
    simp
    refine hk' _ _ _ ?_
    exact Runs.ret Tryd.func144 (RetOk.one Tryd.results144) (hQ _ _ _ _ (.v _ _ _) (by simp [word]))
  · simp at hc1
    refine Runs.seqE Ty_ok (by decide) fun k' hk' => ?_
    simp
    refine hk' _ _ _ ?_
    refine Runs.ite rfl (fun hc2 => ?_) (fun hc2 => ?_)
    · simp at hc2
      subst hc2
      refine Runs.seqE Ty_ok (by decide) fun k' hk' => ?_
      simp
      refine hk' _ _ _ ?_
      exact Runs.ret Tryd.func144 (RetOk.one Tryd.results144) (hQ _ _ _ _ (.v _ _ _) (by simp [word]))
    · simp at hc2
      have : k = 3 := by omega
      subst this
      refine Runs.seqE Ty_ok (by decide) fun k' hk' => ?_
      simp
      refine hk' _ _ _ ?_
      refine Runs.ite rfl (fun _ => ?_) (fun h => by simp at h)
      refine Runs.seqE Ty_ok (by decide) fun k' hk' => ?_
      simp
      refine hk' _ _ _ ?_
      exact Runs.ret Tryd.func144 (RetOk.one Tryd.results144) (hQ _ _ _ _ (.v _ _ _) (by simp [word]))

theorem l12Around_ok (x : AmbNode) (s : Str) (hk : 0 ≤ x.kind ∧ x.kind ≤ 3) (hn : x.name.length ≤ 1073741824) (hs : s.length ≤ 1152921504606846976) : PureC Tryd.prog 107 [.agg x.cells, str s] (fun r => r = str (nodeText x s)) := by
  have hwl := word_len (x.kind - 1).toNat
  refine PureC.of Tryd.func107 rfl Tryd.ntmps107 (by simp) fun Q hQ => ?_
  refine Runs.seqE Ty_ok (by decide) fun k' hk' => ?_
  simp   -- R0
  refine hk' _ _ _ ?_
  refine Runs.seq ?_
  refine Runs.seqE Ty_ok (by decide) fun k' hk' => ?_
  simp [AmbNode.cells]   -- R1
  refine hk' _ _ _ ?_
  refine Runs.ite rfl (fun hc1 => ?_) (fun hc1 => ?_)   -- t7
  · simp at hc1
    refine Runs.seqE Ty_ok (by decide) fun k' hk' => ?_
    simp (disch := first | omega | simp) [if_pos]   -- R2
    refine hk' _ _ _ ?_
    exact Runs.ret Tryd.func107 (RetOk.one Tryd.results107) (hQ _ _ _ _ (.v _ _ _) (by simp [nodeText, hc1]))
  · simp at hc1
    refine Runs.skip ?_
    refine Runs.seqD Ty_ok kindOp_ok draws (by decide) (by kernel_rfl) fun k' hk' => ?_
    simp   -- R3
    refine RunDK.callA Ty_ok kindOp_ok (l12Word_ok x.kind (by omega)) e144 (.cons (.v _ _ _) .nil) (by decide) rfl (by simp) ?_
    generalize hw : word (x.kind - 1).toNat = w at hwl
    simp (disch := first | omega | simp) [if_pos]
    refine hk' _ _ _ ?_
    refine Runs.ret Tryd.func107 (RetOk.one Tryd.results107) (hQ _ _ _ _ (.v _ _ _) ?_)
    unfold nodeText
    rw [if_neg hc1, hw]
    simp

theorem intercalate_snoc (l : List Str) (a : Str) (h : l ≠ []) : Lib.join (l ++ [a]) [124] = Lib.join l [124] ++ [124] ++ a := by
  induction l with
  | nil => exact absurd rfl h
  | cons b l ih =>
    cases l with
    | nil => simp [Lib.join, List.intercalate]
    | cons c l =>
      have := ih (by simp)
      simp [Lib.join, List.intercalate] at this ⊢
      rw [this]
end Go.Ab
