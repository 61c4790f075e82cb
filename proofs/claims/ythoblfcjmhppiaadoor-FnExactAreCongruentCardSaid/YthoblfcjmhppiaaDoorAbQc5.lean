/- Merged texts (5 of 7) of the proof that ends in Cy: W Wb Wc Y Yb So Co Cp Cq Cow Cpw Cqw Cz. -/
import Derived.Test.YthoblfcjmhppiaaDoorAbQc4
import Derived.Shelf.Sort.Plain
/- Contracts of spec.l1In, spec.l2Name and spec.l12Good. -/
namespace Go.Ab
open Go.Proofs
set_option linter.unusedSimpArgs false
theorem e47 : Ent Tryd.prog 47 := Ent.of Tryd.func47 (by kernel_rfl) rfl
theorem e70 : Ent Tryd.prog 70 := Ent.of Tryd.func70 (by kernel_rfl) rfl
theorem e71 : Ent Tryd.prog 71 := Ent.of Tryd.func71 (by kernel_rfl) rfl
theorem e100 : Ent Tryd.prog 100 := Ent.of Tryd.func100 (by kernel_rfl) rfl
theorem e101 : Ent Tryd.prog 101 := Ent.of Tryd.func101 (by kernel_rfl) rfl
theorem e113 : Ent Tryd.prog 113 := Ent.of Tryd.func113 (by kernel_rfl) rfl

theorem l1In_ok (n lo hi : Int) : PureC Tryd.prog 70 [int n, int lo, int hi] (fun r => r = bool (within n lo hi)) := by
  refine PureC.of Tryd.func70 rfl Tryd.ntmps70 (by simp) fun Q hQ => ?_
  refine Runs.seqE Ty_ok (by decide) fun k' hk' => ?_
  simp
  refine hk' _ _ _ (Runs.seqE Ty_ok (by decide) fun k' hk' => ?_)
  simp
  by_cases h : lo ≤ n
  all_goals
    simp [h]
    refine hk' _ _ _ (Runs.ret Tryd.func70 (RetOk.one Tryd.results70) (hQ _ _ _ _ (ResOk.v _ _ _) ?_))
    simp [within, h]

theorem isNm_bad {s : Str} {k : Nat} (hk : k < s.length) (h : lower s[k] = false) : isNm s = false := by
  have : s.all lower = false := by
    rw [List.all_eq_false]
    exact ⟨s[k], List.getElem_mem hk, by simp [h]⟩
  simp [isNm, this]

theorem l2Name_ok (s : Str) (hs : s.length ≤ 1048576) : PureC Tryd.prog 71 [str s] (fun r => r = bool (isNm s)) := by
  refine PureC.of Tryd.func71 rfl Tryd.ntmps71 (by simp) fun Q hQ => ?_
  refine Runs.seqE Ty_ok (by decide) fun k' hk' => ?_
  simp   -- R0
  refine hk' _ _ _ ?_
  refine Runs.seq ?_
  refine Runs.seqE Ty_ok (by decide) fun k' hk' => ?_
  simp   -- R1
  refine hk' _ _ _ ?_
  refine Runs.block (Runs.loopUp s.length (fun k ρ H n => ρ 0 = str s ∧ ρ 3 = int k ∧ (s.take k).all lower = true) ?_ ?_)
  · simp
  · rintro k ρ H n hk ⟨h0, h3, hall⟩ IH
    refine Runs.seq ?_
    refine Runs.seqE Ty_ok (by decide) fun k' hk' => ?_
    simp [h0, h3]   -- R2
    refine hk' _ _ _ ?_
    refine Runs.ite rfl (fun hc1 => ?_) (fun hc1 => ?_)   -- t7
    · simp at hc1
      refine Runs.skip ?_
      refine Runs.seq ?_
      refine Runs.block ?_
      refine Runs.seqE Ty_ok (by decide) fun k' hk' => ?_
      simp [h0, h3, hc1]   -- R4
      by_cases ha : (s[k].toNat : Int) < 97
      · simp [ha]
        refine hk' _ _ _ ?_
        refine Runs.ite rfl (fun _ => ?_) (fun h => by simp at h)
        refine Runs.seqE Ty_ok (by decide) fun k' hk' => ?_
        simp   -- R5
        refine hk' _ _ _ ?_
        refine Runs.ret Tryd.func71 (RetOk.one Tryd.results71) (hQ _ _ _ _ (.v _ _ _) ?_)
        rw [isNm_bad hc1 (by simp [lower]; omega)]
      · by_cases hz : (122 : Int) < s[k].toNat
        · simp [ha, hz, h0, h3, hc1]
          refine hk' _ _ _ ?_
          refine Runs.ite rfl (fun _ => ?_) (fun h => by simp at h)
          refine Runs.seqE Ty_ok (by decide) fun k' hk' => ?_
          simp   -- R5
          refine hk' _ _ _ ?_
          refine Runs.ret Tryd.func71 (RetOk.one Tryd.results71) (hQ _ _ _ _ (.v _ _ _) ?_)
          rw [isNm_bad hc1 (by simp [lower]; omega)]
        · simp [ha, hz, h0, h3, hc1]
          refine hk' _ _ _ ?_
          refine Runs.ite rfl (fun h => by simp at h) (fun _ => ?_)
          refine Runs.skip ?_
          refine Runs.inBlock ?_
          refine Runs.evalE Ty_ok (by decide) fun k' hk' => ?_
          simp [h3, wrap_succ (show k < 4611686018427387904 by omega)]   -- R3
          refine hk' _ _ _ ?_
          refine IH hc1 _ _ _ ?_
          rw [List.take_succ_eq_append_getElem hc1, List.all_append, hall]
          simp [h0, lower]
          omega
    · simp at hc1
      refine Runs.exit rfl ?_
      refine Runs.seqE Ty_ok (by decide) fun k' hk' => ?_
      simp [h0]   -- R6
      refine RunK.callA Ty_ok (l1In_ok s.length 1 4) e70 (.cons (.v _ _ _) (.cons (.v _ _ _) (.cons (.v _ _ _) .nil))) (by decide) (by decide) rfl (by simp) ?_
      rintro _ rfl
      simp
      refine hk' _ _ _ ?_
      refine Runs.ret Tryd.func71 (RetOk.one Tryd.results71) (hQ _ _ _ _ (.v _ _ _) ?_)
      rw [List.take_of_length_le hc1] at hall
      simp only [isNm, hall, Bool.and_true]

theorem l12Good_ok (p : Proc) (hp : p.length ≤ 1048576) (hn : ∀ i, i < p.length → (p.getD i default).name.length ≤ 1048576) : PureC Tryd.prog 47 [encP false p] (fun r => r = bool (goodP p)) := by
  refine PureC.of Tryd.func47 rfl Tryd.ntmps47 (by simp) fun Q hQ => ?_
  refine Runs.seqE Ty_ok (by decide) fun k' hk' => ?_
  simp [encP]   -- R0
  refine hk' _ _ _ ?_
  refine Runs.seq ?_
  refine Runs.seqE Ty_ok (by decide) fun k' hk' => ?_
  simp   -- R1
  refine hk' _ _ _ ?_
  refine Runs.block (Runs.loopUp p.length (fun k ρ H n => ρ 1 = .ptr (0, 1) 1 0 0 ∧ H (0, 1) = some ⟨1, [[.list false (p.map AmbNode.cells)]]⟩ ∧ ρ 3 = int k ∧ ∀ i, i < k → okNode p i = true) ?_ ?_)
  · simp
  · rintro k ρ H n hk ⟨h1, hH, h3, hall⟩ IH
    refine Runs.seq ?_
    refine Runs.seqE Ty_ok (by decide) fun k' hk' => ?_
    simp [h1, hH, h3]   -- R2
    refine hk' _ _ _ ?_
    refine Runs.ite rfl (fun hc1 => ?_) (fun hc1 => ?_)   -- t9
    · simp at hc1
      refine Runs.skip ?_
      refine Runs.seq ?_
      refine Runs.block ?_
      refine Runs.seqE Ty_ok (by decide) fun k' hk' => ?_
      simp [h1, hH, h3, hc1, AmbNode.cells]   -- R3
      refine hk' _ _ _ ?_
      refine Runs.seqE Ty_ok (by decide) fun k' hk' => ?_
      simp   -- R4
      have hx : p.getD k default = p[k] := by simp [hc1]
      have hok : okNode p k = (within p[k].kind 0 3 && isNm p[k].name && within p[k].parent (-1) ((k : Int) - 1)) := by rw [okNode, hx]
      have hnm := hn k hc1
      rw [hx] at hnm
      refine RunK.callA Ty_ok (l1In_ok p[k].kind 0 3) e70 (.cons (.v _ _ _) (.cons (.v _ _ _) (.cons (.v _ _ _) .nil))) (by decide) (by decide) rfl (by simp) ?_
      rintro _ rfl
      cases hw : within p[k].kind 0 3
      · simp [hw]
        refine hk' _ _ _ ?_
        refine Runs.ite rfl (fun _ => ?_) (fun h => by simp at h)
        refine Runs.seqE Ty_ok (by decide) fun k' hk' => ?_
        simp   -- R5
        refine hk' _ _ _ ?_
        refine Runs.ret Tryd.func47 (RetOk.one Tryd.results47) (hQ _ _ _ _ (.v _ _ _) ?_)
        rw [goodP_bad hc1 (by rw [hok]; simp [hw])]
      · simp [hw]
        refine RunK.callA Ty_ok (l2Name_ok p[k].name hnm) e71 (.cons (.v _ _ _) .nil) (by decide) (by decide) rfl (by simp) ?_
        rintro _ rfl
        cases hs : isNm p[k].name
        · simp [hs]
          refine hk' _ _ _ ?_
          refine Runs.ite rfl (fun _ => ?_) (fun h => by simp at h)
          refine Runs.seqE Ty_ok (by decide) fun k' hk' => ?_
          simp   -- R5
          refine hk' _ _ _ ?_
          refine Runs.ret Tryd.func47 (RetOk.one Tryd.results47) (hQ _ _ _ _ (.v _ _ _) ?_)
          rw [goodP_bad hc1 (by rw [hok]; simp [hw, hs])]
        · simp [hs, h3, show -9223372036854775808 ≤ (k : Int) - 1 by omega, show (k : Int) - 1 ≤ 9223372036854775807 by omega]
          refine RunK.callA Ty_ok (l1In_ok p[k].parent (-1) ((k : Int) - 1)) e70 (.cons (.v _ _ _) (.cons (.v _ _ _) (.cons (.v _ _ _) .nil))) (by decide) (by decide) rfl (by simp) ?_
          rintro _ rfl
          cases hu : within p[k].parent (-1) ((k : Int) - 1)
          · simp [hu]
            refine hk' _ _ _ ?_
            refine Runs.ite rfl (fun _ => ?_) (fun h => by simp at h)
            refine Runs.seqE Ty_ok (by decide) fun k' hk' => ?_
            simp   -- R5
            refine hk' _ _ _ ?_
            refine Runs.ret Tryd.func47 (RetOk.one Tryd.results47) (hQ _ _ _ _ (.v _ _ _) ?_)
            rw [goodP_bad hc1 (by rw [hok]; simp [hw, hs, hu])]
          · simp [hu]
            refine hk' _ _ _ ?_
            refine Runs.ite rfl (fun h => by simp at h) (fun _ => ?_)
            refine Runs.skip ?_
            refine Runs.inBlock ?_
            refine Runs.evalE Ty_ok (by decide) fun k' hk' => ?_
            simp [h3, wrap_succ (show k < 4611686018427387904 by omega)]   -- R6
            refine hk' _ _ _ ?_
            refine IH hc1 _ _ _ ?_
            simp [h1, hH]
            intro i hi
            by_cases hik : i = k
            · subst hik
              rw [hok]; simp [hw, hs, hu]
            · exact hall i (by omega)
    · simp at hc1
      refine Runs.exit rfl ?_
      refine Runs.seqE Ty_ok (by decide) fun k' hk' => ?_
      simp [h1, hH]   -- R7
      refine hk' _ _ _ ?_
      refine Runs.ret Tryd.func47 (RetOk.one Tryd.results47) (hQ _ _ _ _ (.v _ _ _) ?_)
      rw [goodP_end (by rwa [show k = p.length by omega] at hall)]
      simp
      omega
end Go.Ab

/- Contracts of spec.l12Kids, spec.l12Word and spec.l12Around. -/
namespace Go.Ab
open Go.Proofs
set_option linter.unusedSimpArgs false

theorem l12Kids_ok (p : Proc) (parent : Int) (hp : p.length ≤ 1048576) : PureC Tryd.prog 100 [encP false p, int parent] (fun r => r = encNats true (kidsFrom p parent p.length)) := by
  refine PureC.of Tryd.func100 rfl Tryd.ntmps100 (by simp) fun Q hQ => ?_
  refine Runs.seqE Ty_ok (by decide) fun k' hk' => ?_
  simp [encP]   -- R0
  refine hk' _ _ _ ?_
  refine Runs.seqE Ty_ok (by decide) fun k' hk' => ?_
  simp   -- R1
  refine hk' _ _ _ ?_
  refine Runs.seq ?_
  refine Runs.seqE Ty_ok (by decide) fun k' hk' => ?_
  simp   -- R2
  refine hk' _ _ _ ?_
  refine Runs.block (Runs.loopUp p.length (fun k ρ H n => ρ 1 = int parent ∧ ρ 2 = .ptr (0, 2) 1 0 0 ∧ H (0, 2) = some ⟨1, [[.list false (p.map AmbNode.cells)]]⟩ ∧ ρ 6 = int k ∧ ρ 5 = .arr (1, 7) (kidsFrom p parent k).length 0 (kidsFrom p parent k).length ∧ H (1, 7) = some ⟨1, (kidsFrom p parent k).map fun (i : Nat) => [int (i : Int)]⟩) ?_ ?_)
  · simp [kidsFrom]
  · rintro k ρ H n hk ⟨h1, h2, hH2, h6, h5, hH⟩ IH
    refine Runs.seq ?_
    refine Runs.seqE Ty_ok (by decide) fun k' hk' => ?_
    simp [h2, hH2, h6]   -- R3
    refine hk' _ _ _ ?_
    refine Runs.ite rfl (fun hc1 => ?_) (fun hc1 => ?_)   -- t12
    · simp at hc1
      refine Runs.skip ?_
      refine Runs.seq ?_
      refine Runs.block ?_
      refine Runs.seqE Ty_ok (by decide) fun k' hk' => ?_
      simp [h2, hH2, h6, hc1, h1, AmbNode.cells]   -- R5
      refine hk' _ _ _ ?_
      have hks := kids_succ p parent k
      have hkl := kids_len p parent k
      simp [hc1] at hks
      refine Runs.ite rfl (fun hc2 => ?_) (fun hc2 => ?_)   -- t22
      · simp at hc2
        refine Runs.evalE Ty_ok (by decide) fun k' hk' => ?_
        simp [h5, h6, hH, show (kidsFrom p parent k).length ≤ 1073741823 by omega]   -- R6
        refine hk' _ _ _ ?_
        refine Runs.inBlock ?_
        refine Runs.evalE Ty_ok (by decide) fun k' hk' => ?_
        simp [h6, wrap_succ (show k < 4611686018427387904 by omega)]   -- R4
        refine hk' _ _ _ ?_
        refine IH hc1 _ _ _ ?_
        simp [h1, h2, hH2, hks, hc2]
      · simp at hc2
        refine Runs.skip ?_
        refine Runs.inBlock ?_
        refine Runs.evalE Ty_ok (by decide) fun k' hk' => ?_
        simp [h6, wrap_succ (show k < 4611686018427387904 by omega)]   -- R4
        refine hk' _ _ _ ?_
        refine IH hc1 _ _ _ ?_
        simp [h1, h2, hH2, hks, hc2, h5, hH]
    · simp at hc1
      have hke : k = p.length := by omega
      subst hke
      refine Runs.exit rfl ?_
      refine Runs.seqE Ty_ok (by decide) fun k' hk' => ?_
      simp [h5]   -- R7
      refine hk' _ _ _ ?_
      exact Runs.ret Tryd.func100 (RetOk.one Tryd.results100) (hQ _ _ _ _ (.of (Ret.arrF (by simp [hH]; rfl) (by simp))) rfl)

theorem l12Word_ok (k : Int) (hk : 1 ≤ k ∧ k ≤ 3) : PureC Tryd.prog 113 [int k] (fun r => r = str (word (k - 1).toNat)) := by
  refine PureC.of Tryd.func113 rfl Tryd.ntmps113 (by simp) fun Q hQ => ?_
  refine Runs.seqE Ty_ok (by decide) fun k' hk' => ?_
  simp   -- R0
  refine hk' _ _ _ ?_
  refine Runs.seq ?_
  refine Runs.seqE Ty_ok (by decide) fun k' hk' => ?_
  simp   -- R1
  refine hk' _ _ _ ?_
  refine Runs.block ?_
  have : k = 1 ∨ k = 2 ∨ k = 3 := by omega
  refine Runs.seqE Ty_ok (by decide) fun k' hk' => ?_
  simp
  refine hk' _ _ _ ?_
  refine Runs.ite rfl (fun hc1 => ?_) (fun hc1 => ?_)
  · simp at hc1
    subst hc1
    refine Runs.seqE Ty_ok (by decide) fun k' hk' => ?_
    simp
    refine hk' _ _ _ ?_
    exact Runs.ret Tryd.func113 (RetOk.one Tryd.results113) (hQ _ _ _ _ (.v _ _ _) (by simp [word]))
  · simp at hc1
    refine Runs.seqE Ty_ok (by decide) fun k' hk' => ?_
    simp
    refine hk' _ _ _ ?_
    refine Runs.ite rfl (fun hc2 => ?_) (fun hc2 => ?_)
    · simp at hc2
      subst hc2
      refine Runs.seqE Ty_ok (by decide) fun k' hk' => ?_
      simp
      refine hk' _ _ _ ?_
      exact Runs.ret Tryd.func113 (RetOk.one Tryd.results113) (hQ _ _ _ _ (.v _ _ _) (by simp [word]))
    · simp at hc2
      have : k = 3 := by omega
      subst this
      refine Runs.seqE Ty_ok (by decide) fun k' hk' => ?_
      simp
      refine hk' _ _ _ ?_
      refine Runs.ite rfl (fun _ => ?_) (fun h => by simp at h)
      refine Runs.seqE Ty_ok (by decide) fun k' hk' => ?_
      simp
      refine hk' _ _ _ ?_
      exact Runs.ret Tryd.func113 (RetOk.one Tryd.results113) (hQ _ _ _ _ (.v _ _ _) (by simp [word]))

theorem l12Around_ok (x : AmbNode) (s : Str) (hk : 0 ≤ x.kind ∧ x.kind ≤ 3) (hn : x.name.length ≤ 1073741824) (hs : s.length ≤ 1152921504606846976) : PureC Tryd.prog 101 [.agg x.cells, str s] (fun r => r = str (nodeText x s)) := by
  have hwl := word_len (x.kind - 1).toNat
  refine PureC.of Tryd.func101 rfl Tryd.ntmps101 (by simp) fun Q hQ => ?_
  refine Runs.seqE Ty_ok (by decide) fun k' hk' => ?_
  simp   -- R0
  refine hk' _ _ _ ?_
  refine Runs.seq ?_
  refine Runs.seqE Ty_ok (by decide) fun k' hk' => ?_
  simp [AmbNode.cells]   -- R1
  refine hk' _ _ _ ?_
  refine Runs.ite rfl (fun hc1 => ?_) (fun hc1 => ?_)   -- t7
  · simp at hc1
    refine Runs.seqE Ty_ok (by decide) fun k' hk' => ?_
    simp (disch := first | omega | simp) [if_pos]   -- R2
    refine hk' _ _ _ ?_
    exact Runs.ret Tryd.func101 (RetOk.one Tryd.results101) (hQ _ _ _ _ (.v _ _ _) (by simp [nodeText, hc1]))
  · simp at hc1
    refine Runs.skip ?_
    refine Runs.seqD Ty_ok kindOp_ok draws (by decide) (by kernel_rfl) fun k' hk' => ?_
    simp   -- R3
    refine RunDK.callA Ty_ok kindOp_ok (l12Word_ok x.kind (by omega)) e113 (.cons (.v _ _ _) .nil) (by decide) rfl (by simp) ?_
    generalize hw : word (x.kind - 1).toNat = w at hwl
    simp (disch := first | omega | simp) [if_pos]
    refine hk' _ _ _ ?_
    refine Runs.ret Tryd.func101 (RetOk.one Tryd.results101) (hQ _ _ _ _ (.v _ _ _) ?_)
    unfold nodeText
    rw [if_neg hc1, hw]
    simp

theorem intercalate_snoc (l : List Str) (a : Str) (h : l ≠ []) : Lib.join (l ++ [a]) [124] = Lib.join l [124] ++ [124] ++ a := by
  induction l with
  | nil => exact absurd rfl h
  | cons b l ih =>
    cases l with
    | nil => simp [Lib.join, List.intercalate]
    | cons c l =>
      have := ih (by simp)
      simp [Lib.join, List.intercalate] at this ⊢
      rw [this]
end Go.Ab

/- Contracts of spec.l12In and spec.ProcessText. -/
namespace Go.Ab
open Go.Proofs
set_option linter.unusedSimpArgs false

end Go.Ab

/- Contracts of laws.szAmbNode, laws.szAmbNodeS and laws.szProcess. -/
namespace Go.Ab
open Go.Proofs
set_option linter.unusedSimpArgs false
theorem e15 : Ent Tryd.prog 15 := Ent.of Tryd.func15 (by kernel_rfl) rfl
theorem e17 : Ent Tryd.prog 17 := Ent.of Tryd.func17 (by kernel_rfl) rfl
theorem e10 : Ent Tryd.prog 10 := Ent.of Tryd.func10 (by kernel_rfl) rfl
theorem e46 : Ent Tryd.prog 46 := Ent.of Tryd.func46 (by kernel_rfl) rfl
theorem e49 : Ent Tryd.prog 49 := Ent.of Tryd.func49 (by kernel_rfl) rfl
theorem e35 : Ent Tryd.prog 35 := Ent.of Tryd.func35 (by kernel_rfl) rfl
theorem e69 : Ent Tryd.prog 69 := Ent.of Tryd.func69 (by kernel_rfl) rfl
theorem e73 : Ent Tryd.prog 73 := Ent.of Tryd.func73 (by kernel_rfl) rfl
theorem e65 : Ent Tryd.prog 65 := Ent.of Tryd.func65 (by kernel_rfl) rfl

def szStr (s : Str) (left : Int) : Int := if left - s.length < 0 then -1 else left - s.length
def szNodes : Proc → Int → Int
  | [], left => left
  | x :: r, left => if szStr x.name left < 0 then -1 else szNodes r (szStr x.name left)
def szProc (p : Proc) (left : Int) : Int := if left - p.length < 0 then -1 else szNodes p (left - p.length)
def Small (p : Proc) : Prop := p.length ≤ 9223372036854775807 ∧ ∀ x ∈ p, x.name.length ≤ 9223372036854775807

theorem szAmbNode_ok (x : AmbNode) (left : Int) (h0 : 0 ≤ left) (h1 : left ≤ 1048576) (hn : x.name.length ≤ 9223372036854775807) : PureC Tryd.prog 69 [.agg x.cells, int left] (fun r => r = int (szStr x.name left)) := by
  refine PureC.of Tryd.func69 rfl Tryd.ntmps69 (by simp) fun Q hQ => ?_
  refine Runs.seqE Ty_ok (by decide) fun k' hk' => ?_
  simp   -- R0
  refine hk' _ _ _ ?_
  refine Runs.seqE Ty_ok (by decide) fun k' hk' => ?_
  simp [AmbNode.cells, show -9223372036854775808 ≤ left - x.name.length by omega, show left - x.name.length ≤ 9223372036854775807 by omega]   -- R1
  refine hk' _ _ _ ?_
  refine Runs.seq ?_
  refine Runs.seqE Ty_ok (by decide) fun k' hk' => ?_
  simp   -- R2
  refine hk' _ _ _ ?_
  refine Runs.ite rfl (fun hc1 => ?_) (fun hc1 => ?_)   -- t11
  · simp only [decide_eq_true_eq] at hc1
    refine Runs.seqE Ty_ok (by decide) fun k' hk' => ?_
    simp   -- R3
    refine hk' _ _ _ ?_
    refine Runs.ret Tryd.func69 (RetOk.one Tryd.results69) (hQ _ _ _ _ (.v _ _ _) ?_)
    rw [szStr, if_pos hc1]
  · simp only [decide_eq_false_iff_not] at hc1
    refine Runs.skip ?_
    refine Runs.seqE Ty_ok (by decide) fun k' hk' => ?_
    simp   -- R4
    refine hk' _ _ _ ?_
    refine Runs.ret Tryd.func69 (RetOk.one Tryd.results69) (hQ _ _ _ _ (.v _ _ _) ?_)
    rw [szStr, if_neg hc1]

theorem szAmbNodeS_ok (p : Proc) (left : Int) (h0 : 0 ≤ left) (h1 : left ≤ 1048576) (hp : Small p) : PureC Tryd.prog 46 [.list false (p.map AmbNode.cells), int left] (fun r => r = int (szProc p left)) := by
  obtain ⟨hp1, hp2⟩ := hp
  refine PureC.of Tryd.func46 rfl Tryd.ntmps46 (by simp) fun Q hQ => ?_
  refine Runs.seqE Ty_ok (by decide) fun k' hk' => ?_
  simp   -- R0
  refine hk' _ _ _ ?_
  refine Runs.seqE Ty_ok (by decide) fun k' hk' => ?_
  simp [show -9223372036854775808 ≤ left - p.length by omega, show left - p.length ≤ 9223372036854775807 by omega]   -- R1
  refine hk' _ _ _ ?_
  refine Runs.seq ?_
  refine Runs.seqE Ty_ok (by decide) fun k' hk' => ?_
  simp   -- R2
  refine hk' _ _ _ ?_
  refine Runs.ite rfl (fun hc1 => ?_) (fun hc1 => ?_)   -- t11
  · simp only [decide_eq_true_eq] at hc1
    refine Runs.seqE Ty_ok (by decide) fun k' hk' => ?_
    simp   -- R3
    refine hk' _ _ _ ?_
    refine Runs.ret Tryd.func46 (RetOk.one Tryd.results46) (hQ _ _ _ _ (.v _ _ _) ?_)
    rw [szProc, if_pos hc1]
  · simp only [decide_eq_false_iff_not] at hc1
    refine Runs.skip ?_
    refine Runs.seq ?_
    refine Runs.seqE Ty_ok (by decide) fun k' hk' => ?_
    simp   -- R4
    refine hk' _ _ _ ?_
    refine Runs.block (Runs.loopUp p.length (fun k ρ H n => ρ 0 = .list false (p.map AmbNode.cells) ∧ ρ 5 = int k ∧ ∃ cur : Int, ρ 1 = int cur ∧ 0 ≤ cur ∧ cur ≤ left ∧ szNodes (p.drop k) cur = szProc p left) ?_ ?_)
    · simp [szProc, hc1]
      omega
    · rintro k ρ H n hk ⟨h0, h5, cur, h1', hcur, hcl, hsz⟩ IH
      refine Runs.seq ?_
      refine Runs.seqE Ty_ok (by decide) fun k' hk' => ?_
      simp [h0, h5]   -- R5
      refine hk' _ _ _ ?_
      refine Runs.ite rfl (fun hc2 => ?_) (fun hc2 => ?_)   -- t15
      · simp at hc2
        refine Runs.skip ?_
        refine Runs.seq ?_
        refine Runs.block ?_
        refine Runs.seqE Ty_ok (by decide) fun k' hk' => ?_
        simp [h0, h5, h1', hc2, AmbNode.cells]   -- R7
        refine RunK.callA Ty_ok (szAmbNode_ok p[k] cur hcur (by omega) (hp2 _ (List.getElem_mem hc2))) e69 (.cons (ArgOk.node _) (.cons (.v _ _ _) .nil)) (by decide) (by decide) rfl (by simp [AmbNode.cells, h1']) ?_
        rintro _ rfl
        simp
        refine hk' _ _ _ ?_
        rw [List.drop_eq_getElem_cons hc2, szNodes] at hsz
        refine Runs.seqE Ty_ok (by decide) fun k' hk' => ?_
        simp   -- R8
        refine hk' _ _ _ ?_
        refine Runs.ite rfl (fun hc3 => ?_) (fun hc3 => ?_)   -- t25
        · simp only [decide_eq_true_eq] at hc3
          rw [if_pos hc3] at hsz
          refine Runs.seqE Ty_ok (by decide) fun k' hk' => ?_
          simp   -- R9
          refine hk' _ _ _ ?_
          exact Runs.ret Tryd.func46 (RetOk.one Tryd.results46) (hQ _ _ _ _ (.v _ _ _) (by rw [← hsz]))
        · simp only [decide_eq_false_iff_not] at hc3
          rw [if_neg hc3] at hsz
          refine Runs.skip ?_
          refine Runs.inBlock ?_
          refine Runs.evalE Ty_ok (by decide) fun k' hk' => ?_
          simp [h5, wrap_succ (show k < 4611686018427387904 by omega)]   -- R6
          refine hk' _ _ _ ?_
          refine IH hc2 _ _ _ ?_
          have hle : szStr p[k].name cur ≤ left := by
            unfold szStr
            split <;> omega
          exact ⟨by simp [h0], by simp, szStr p[k].name cur, by simp, by omega, hle, hsz⟩
      · simp at hc2
        have hke : k = p.length := by omega
        subst hke
        rw [List.drop_length, szNodes] at hsz
        refine Runs.exit rfl ?_
        refine Runs.seqE Ty_ok (by decide) fun k' hk' => ?_
        simp [h1']   -- R10
        refine hk' _ _ _ ?_
        exact Runs.ret Tryd.func46 (RetOk.one Tryd.results46) (hQ _ _ _ _ (.v _ _ _) (by rw [hsz]))

theorem szProcess_ok (p : Proc) (left : Int) (h0 : 0 ≤ left) (h1 : left ≤ 1048576) (hp : Small p) : PureC Tryd.prog 15 [encP false p, int left] (fun r => r = int (if szProc p left < 0 then -1 else szProc p left)) := by
  refine PureC.of Tryd.func15 rfl Tryd.ntmps15 (by simp) fun Q hQ => ?_
  refine Runs.seqE Ty_ok (by decide) fun k' hk' => ?_
  simp [encP]   -- R0
  refine hk' _ _ _ ?_
  refine Runs.seqE Ty_ok (by decide) fun k' hk' => ?_
  simp   -- R1
  refine RunK.callA Ty_ok (szAmbNodeS_ok p left h0 h1 hp) e46 (.cons (.listF (fr := false) (by simp [AmbNode.cells])) (.cons (.v _ _ _) .nil)) (by decide) (by decide) rfl (by simp) ?_
  rintro _ rfl
  simp
  refine hk' _ _ _ ?_
  refine Runs.seq ?_
  refine Runs.seqE Ty_ok (by decide) fun k' hk' => ?_
  simp   -- R2
  refine hk' _ _ _ ?_
  refine Runs.ite rfl (fun hc1 => ?_) (fun hc1 => ?_)   -- t10
  · simp only [decide_eq_true_eq] at hc1
    refine Runs.seqE Ty_ok (by decide) fun k' hk' => ?_
    simp   -- R3
    refine hk' _ _ _ ?_
    exact Runs.ret Tryd.func15 (RetOk.one Tryd.results15) (hQ _ _ _ _ (.v _ _ _) (by rw [if_pos hc1]))
  · simp only [decide_eq_false_iff_not] at hc1
    refine Runs.skip ?_
    refine Runs.seqE Ty_ok (by decide) fun k' hk' => ?_
    simp   -- R4
    refine hk' _ _ _ ?_
    exact Runs.ret Tryd.func15 (RetOk.one Tryd.results15) (hQ _ _ _ _ (.v _ _ _) (by rw [if_neg hc1]))

theorem szNodes_le : ∀ (p : Proc) (left : Int), 0 ≤ szNodes p left → ∀ x ∈ p, (x.name.length : Int) ≤ left
  | [], _, _, x, hx => by simp at hx
  | y :: r, left, h, x, hx => by
    rw [szNodes] at h
    split at h
    · omega
    · rename_i h2
      have h3 : szStr y.name left = left - y.name.length := by
        unfold szStr at h2 ⊢
        split <;> rename_i h4
        · rw [if_pos h4] at h2; omega
        · rfl
      rcases List.mem_cons.1 hx with rfl | hx
      · rw [h3] at h2; omega
      · have := szNodes_le r _ h x hx
        rw [h3] at this
        omega

theorem szProc_le {p : Proc} {left : Int} (h : 0 ≤ szProc p left) : (p.length : Int) ≤ left ∧ ∀ x ∈ p, (x.name.length : Int) ≤ left := by
  unfold szProc at h
  split at h
  · omega
  · exact ⟨by omega, fun x hx => by have := szNodes_le p _ h x hx; omega⟩
end Go.Ab

/- Contracts of laws.toAmbNode, laws.toProcess, laws.eqAmbNode and laws.eqProcess. -/
namespace Go.Ab
open Go.Proofs
set_option linter.unusedSimpArgs false

theorem toAmbNode_ok (x : AmbNode) : PureC Tryd.prog 73 [.agg x.cells] (fun r => r = .agg x.cells) := by
  refine PureC.of Tryd.func73 rfl Tryd.ntmps73 (by simp) fun Q hQ => ?_
  refine Runs.seqE Ty_ok (by decide) fun k' hk' => ?_
  simp [AmbNode.cells]   -- R0
  refine hk' _ _ _ ?_
  refine Runs.seqE Ty_ok (by decide) fun k' hk' => ?_
  simp   -- R1
  refine hk' _ _ _ ?_
  refine Runs.seqE Ty_ok (by decide) fun k' hk' => ?_
  simp   -- R2
  refine hk' _ _ _ ?_
  refine Runs.seqE Ty_ok (by decide) fun k' hk' => ?_
  simp   -- R3
  refine hk' _ _ _ ?_
  refine Runs.seqE Ty_ok (by decide) fun k' hk' => ?_
  simp   -- R4
  refine hk' _ _ _ ?_
  refine Runs.seqE Ty_ok (by decide) fun k' hk' => ?_
  simp   -- R5
  refine hk' _ _ _ ?_
  exact Runs.ret Tryd.func73 (RetOk.cell (cs := x.cells) (v := .agg x.cells) Ty_ok Tryd.results73 Ty_70 (by simp [AmbNode.cells]) (by simp [loadA, AmbNode.cells])) (hQ _ _ _ _ (.of (Ret.fresh (by simp [AmbNode.cells]))) rfl)

theorem toAmbNodeS_ok (p : Proc) (hp : p.length ≤ 1048576) : PureC Tryd.prog 49 [.list false (p.map AmbNode.cells)] (fun r => r = .list true (p.map AmbNode.cells)) := by
  refine PureC.of Tryd.func49 rfl Tryd.ntmps49 (by simp) fun Q hQ => ?_
  refine Runs.seqE Ty_ok (by decide) fun k' hk' => ?_
  simp   -- R0
  refine hk' _ _ _ ?_
  refine Runs.seqE Ty_ok (by decide) fun k' hk' => ?_
  simp [show (p.length : Int) ≤ 1073741824 by omega]   -- R1
  refine hk' _ _ _ ?_
  refine Runs.seq ?_
  refine Runs.seqE Ty_ok (by decide) fun k' hk' => ?_
  simp   -- R2
  refine hk' _ _ _ ?_
  refine Runs.block (Runs.loopUp p.length (fun k ρ H n => ρ 0 = .list false (p.map AmbNode.cells) ∧ ρ 4 = int k ∧ ρ 3 = .arr (0, 7) p.length 0 p.length ∧ H (0, 7) = some ⟨3, part AmbNode.cells (AmbNode.cells ⟨0, [], 0⟩) p k⟩) ?_ ?_)
  · simp [AmbNode.cells, part_zero]
  · rintro k ρ H n hk ⟨h0, h4, h3, hH⟩ IH
    refine Runs.seq ?_
    refine Runs.seqE Ty_ok (by decide) fun k' hk' => ?_
    simp [h0, h4]   -- R3
    refine hk' _ _ _ ?_
    refine Runs.ite rfl (fun hc1 => ?_) (fun hc1 => ?_)   -- t11
    · simp at hc1
      refine Runs.skip ?_
      refine Runs.seq ?_
      refine Runs.block ?_
      refine Runs.evalE Ty_ok (by decide) fun k' hk' => ?_
      simp [h0, h3, h4, hc1, AmbNode.cells]   -- R5
      refine RunK.callA Ty_ok (toAmbNode_ok p[k]) e73 (.cons (ArgOk.node _) .nil) (by decide) (by decide) rfl (by simp [AmbNode.cells]) ?_
      rintro _ rfl
      simp [h3, h4, hH, hc1, part_len hk, part_get hc1, AmbNode.cells]
      refine hk' _ _ _ ?_
      refine Runs.inBlock ?_
      refine Runs.evalE Ty_ok (by decide) fun k' hk' => ?_
      simp [h4, wrap_succ (show k < 4611686018427387904 by omega)]   -- R4
      refine hk' _ _ _ ?_
      refine IH hc1 _ _ _ ?_
      rw [← part_set hc1]
      simp [h0, h3, AmbNode.cells, part_get' hc1]
    · simp at hc1
      have hke : k = p.length := by omega
      subst hke
      rw [part_end] at hH
      refine Runs.exit rfl ?_
      refine Runs.seqE Ty_ok (by decide) fun k' hk' => ?_
      simp [h3]   -- R6
      refine hk' _ _ _ ?_
      exact Runs.ret Tryd.func49 (RetOk.one Tryd.results49) (hQ _ _ _ _ (.of (Ret.arrF (by simp [hH]; rfl) (by simp [AmbNode.cells]))) rfl)

theorem toProcess_ok (p : Proc) (hp : p.length ≤ 1048576) : PureC Tryd.prog 17 [encP false p] (fun r => r = encP true p) := by
  refine PureC.of Tryd.func17 rfl Tryd.ntmps17 (by simp) fun Q hQ => ?_
  refine Runs.seqE Ty_ok (by decide) fun k' hk' => ?_
  simp [encP]   -- R0
  refine hk' _ _ _ ?_
  refine Runs.seqE Ty_ok (by decide) fun k' hk' => ?_
  simp   -- R1
  refine hk' _ _ _ ?_
  refine Runs.seqE Ty_ok (by decide) fun k' hk' => ?_
  simp   -- R2
  refine RunK.callA Ty_ok (toAmbNodeS_ok p hp) e49 (.cons (.listF (fr := false) (by simp [AmbNode.cells])) .nil) (by decide) (by decide) rfl (by simp) ?_
  rintro _ rfl
  simp
  refine hk' _ _ _ ?_
  refine Runs.seqE Ty_ok (by decide) fun k' hk' => ?_
  simp   -- R3
  refine hk' _ _ _ ?_
  exact Runs.ret Tryd.func17 (RetOk.cell (cs := [.list true (p.map AmbNode.cells)]) (v := encP true p) Ty_ok Tryd.results17 Ty_31 (by simp) (by simp [loadA, encP])) (hQ _ _ _ _ (.of (Ret.fresh (by simp [encP, AmbNode.cells]))) rfl)

theorem eqAmbNode_ok (x y : AmbNode) : PureC Tryd.prog 65 [.agg x.cells, .agg y.cells] (fun r => r = bool (decide (x = y))) := by
  obtain ⟨k1, n1, p1⟩ := x
  obtain ⟨k2, n2, p2⟩ := y
  refine PureC.of Tryd.func65 rfl Tryd.ntmps65 (by simp) fun Q hQ => ?_
  refine Runs.seqE Ty_ok (by decide) fun k' hk' => ?_
  simp [AmbNode.cells]   -- R0
  refine hk' _ _ _ ?_
  refine Runs.seq ?_
  refine Runs.seqE Ty_ok (by decide) fun k' hk' => ?_
  simp   -- R1
  refine hk' _ _ _ ?_
  refine Runs.ite rfl (fun hc1 => ?_) (fun hc1 => ?_)   -- t9
  · simp at hc1
    refine Runs.seqE Ty_ok (by decide) fun k' hk' => ?_
    simp   -- R2
    refine hk' _ _ _ ?_
    exact Runs.ret Tryd.func65 (RetOk.one Tryd.results65) (hQ _ _ _ _ (.v _ _ _) (by simp [hc1]))
  · simp at hc1
    refine Runs.skip ?_
    refine Runs.seq ?_
    refine Runs.seqE Ty_ok (by decide) fun k' hk' => ?_
    simp   -- R3
    refine hk' _ _ _ ?_
    refine Runs.ite rfl (fun hc2 => ?_) (fun hc2 => ?_)   -- t14
    · simp at hc2
      refine Runs.seqE Ty_ok (by decide) fun k' hk' => ?_
      simp   -- R4
      refine hk' _ _ _ ?_
      exact Runs.ret Tryd.func65 (RetOk.one Tryd.results65) (hQ _ _ _ _ (.v _ _ _) (by simp [hc2]))
    · simp at hc2
      refine Runs.skip ?_
      refine Runs.seq ?_
      refine Runs.seqE Ty_ok (by decide) fun k' hk' => ?_
      simp   -- R5
      refine hk' _ _ _ ?_
      refine Runs.ite rfl (fun hc3 => ?_) (fun hc3 => ?_)   -- t19
      · simp at hc3
        refine Runs.seqE Ty_ok (by decide) fun k' hk' => ?_
        simp   -- R6
        refine hk' _ _ _ ?_
        exact Runs.ret Tryd.func65 (RetOk.one Tryd.results65) (hQ _ _ _ _ (.v _ _ _) (by simp [hc3]))
      · simp at hc3
        refine Runs.skip ?_
        refine Runs.seqE Ty_ok (by decide) fun k' hk' => ?_
        simp   -- R7
        refine hk' _ _ _ ?_
        exact Runs.ret Tryd.func65 (RetOk.one Tryd.results65) (hQ _ _ _ _ (.v _ _ _) (by simp [hc1, hc2, hc3]))

theorem eqAmbNodeS_ok (p q : Proc) (hp : p.length ≤ 1048576) : PureC Tryd.prog 35 [.list false (p.map AmbNode.cells), .list false (q.map AmbNode.cells)] (fun r => r = bool (decide (p = q))) := by
  refine PureC.of Tryd.func35 rfl Tryd.ntmps35 (by simp) fun Q hQ => ?_
  refine Runs.seqE Ty_ok (by decide) fun k' hk' => ?_
  simp   -- R0
  refine hk' _ _ _ ?_
  refine Runs.seq ?_
  refine Runs.seqE Ty_ok (by decide) fun k' hk' => ?_
  simp   -- R1
  refine hk' _ _ _ ?_
  refine Runs.ite rfl (fun hc1 => ?_) (fun hc1 => ?_)   -- t10
  · simp at hc1
    refine Runs.seqE Ty_ok (by decide) fun k' hk' => ?_
    simp   -- R2
    refine hk' _ _ _ ?_
    refine Runs.ret Tryd.func35 (RetOk.one Tryd.results35) (hQ _ _ _ _ (.v _ _ _) ?_)
    have : p ≠ q := by intro h; subst h; omega
    simp [this]
  · simp at hc1
    have hlen : p.length = q.length := by omega
    refine Runs.skip ?_
    refine Runs.seq ?_
    refine Runs.seqE Ty_ok (by decide) fun k' hk' => ?_
    simp   -- R3
    refine hk' _ _ _ ?_
    refine Runs.block (Runs.loopUp p.length (fun k ρ H n => ρ 0 = .list false (p.map AmbNode.cells) ∧ ρ 1 = .list false (q.map AmbNode.cells) ∧ ρ 5 = int k ∧ p.take k = q.take k) ?_ ?_)
    · simp
    · rintro k ρ H n hk ⟨h0, h1, h5, heq⟩ IH
      refine Runs.seq ?_
      refine Runs.seqE Ty_ok (by decide) fun k' hk' => ?_
      simp [h0, h5]   -- R4
      refine hk' _ _ _ ?_
      refine Runs.ite rfl (fun hc2 => ?_) (fun hc2 => ?_)   -- t14
      · simp at hc2
        have hq2 : k < q.length := by omega
        refine Runs.skip ?_
        refine Runs.seq ?_
        refine Runs.block ?_
        refine Runs.seqD Ty_ok kindOp_ok draws (by decide) (by kernel_rfl) fun k' hk' => ?_
        simp [h0, h1, h5, hc2, hq2, AmbNode.cells]   -- R6
        refine RunDK.callA Ty_ok kindOp_ok (eqAmbNode_ok p[k] q[k]) e65 (.cons (ArgOk.node _) (.cons (ArgOk.node _) .nil)) (by decide) rfl (by simp [AmbNode.cells]) ?_
        simp
        refine hk' _ _ _ ?_
        refine Runs.ite rfl (fun hc3 => ?_) (fun hc3 => ?_)   -- t26
        · simp at hc3
          refine Runs.seqE Ty_ok (by decide) fun k' hk' => ?_
          simp   -- R7
          refine hk' _ _ _ ?_
          refine Runs.ret Tryd.func35 (RetOk.one Tryd.results35) (hQ _ _ _ _ (.v _ _ _) ?_)
          have : p ≠ q := by intro h; subst h; exact hc3 rfl
          simp [this]
        · simp at hc3
          refine Runs.skip ?_
          refine Runs.inBlock ?_
          refine Runs.evalE Ty_ok (by decide) fun k' hk' => ?_
          simp [h5, wrap_succ (show k < 4611686018427387904 by omega)]   -- R5
          refine hk' _ _ _ ?_
          refine IH hc2 _ _ _ ?_
          refine ⟨by simp [h0], by simp [h1], by simp, ?_⟩
          rw [List.take_succ_eq_append_getElem hc2, List.take_succ_eq_append_getElem hq2, heq, hc3]
      · simp at hc2
        refine Runs.exit rfl ?_
        refine Runs.seqE Ty_ok (by decide) fun k' hk' => ?_
        simp   -- R8
        refine hk' _ _ _ ?_
        refine Runs.ret Tryd.func35 (RetOk.one Tryd.results35) (hQ _ _ _ _ (.v _ _ _) ?_)
        rw [List.take_of_length_le hc2, List.take_of_length_le (by omega)] at heq
        simp [heq]

theorem eqProcess_ok (p q : Proc) (hp : p.length ≤ 1048576) : PureC Tryd.prog 10 [encP false p, encP false q] (fun r => r = bool (decide (p = q))) := by
  refine PureC.of Tryd.func10 rfl Tryd.ntmps10 (by simp) fun Q hQ => ?_
  refine Runs.seqE Ty_ok (by decide) fun k' hk' => ?_
  simp [encP]   -- R0
  refine hk' _ _ _ ?_
  refine Runs.seq ?_
  refine Runs.seqE Ty_ok (by decide) fun k' hk' => ?_
  simp   -- R1
  refine RunK.callA Ty_ok (eqAmbNodeS_ok p q hp) e35 (.cons (.listF (fr := false) (by simp [AmbNode.cells])) (.cons (.listF (fr := false) (by simp [AmbNode.cells])) .nil)) (by decide) (by decide) rfl (by simp) ?_
  rintro _ rfl
  simp
  refine hk' _ _ _ ?_
  refine Runs.ite rfl (fun hc1 => ?_) (fun hc1 => ?_)   -- t10
  · simp at hc1
    refine Runs.seqE Ty_ok (by decide) fun k' hk' => ?_
    simp   -- R2
    refine hk' _ _ _ ?_
    exact Runs.ret Tryd.func10 (RetOk.one Tryd.results10) (hQ _ _ _ _ (.v _ _ _) (by simp [hc1]))
  · simp at hc1
    refine Runs.skip ?_
    refine Runs.seqE Ty_ok (by decide) fun k' hk' => ?_
    simp   -- R3
    refine hk' _ _ _ ?_
    exact Runs.ret Tryd.func10 (RetOk.one Tryd.results10) (hQ _ _ _ _ (.v _ _ _) (by simp [hc1]))
end Go.Ab

/- The abstract machine, part So: the library's sort of strings, laid on a slice of the caller's own. -/
namespace Go.Ab
open Go.Proofs Go.RowKit
set_option linter.unusedSectionVars false

theorem putCells_get {α : Type} {enc : α → Value} [Inhabited α] {off : Nat} {d : Array α} {cl : Array Value} (k : Nat) :
    (Sort.putCells enc off d cl)[k]? = (cl[k]?).map fun x => if off ≤ k ∧ k < off + d.size then enc d[k - off]! else x := by
  simp only [Sort.putCells, Array.getElem?_mapIdx]

/-- The world behind a sort. -/
theorem sort_world {c : Ctx} (g : Good c) {id : Id} {ss ss' : List Str} (ho : c.H id = some ⟨1, ss.map fun s => [str s]⟩) (hl : ss'.length = ss.length) (off : Nat) (hoff : off = 0 ∨ ss' = []) (m : Nat) (os : Array Obj) :
    let c' : Ctx := { c with H := c.H.set id ⟨1, ss'.map fun s => [str s]⟩, w := Sort.grow (Sort.putRow encStr (Sort.ahead c.w m) (c.β id) off ss'.toArray) os }
    Keeps c c' ∧ Good c' := by
  intro c'
  obtain ⟨hB, cl, el, hh, hsz, hel⟩ := g.obj id _ ho
  simp only [List.length_map, Nat.mul_one] at hsz
  have hnew : (Sort.putRow encStr (Sort.ahead c.w m) (c.β id) off ss'.toArray).heap[c.β id]? = some (.cells (Sort.putCells encStr off ss'.toArray cl) el (0, 0)) := by
    simp only [Sort.putRow, Sort.mapBlock, Sort.ahead, Array.getElem?_modify, hh]
    simp [Sort.onCells]
  have hoth : ∀ k, k ≠ c.β id → (Sort.putRow encStr (Sort.ahead c.w m) (c.β id) off ss'.toArray).heap[k]? = c.w.heap[k]? := fun k hk => by
    simp only [Sort.putRow, Sort.mapBlock, Sort.ahead, Array.getElem?_modify]
    rw [if_neg (Ne.symm hk)]
  obtain ⟨k1, g1⟩ := upd_same g ho ⟨1, ss'.map fun s => [str s]⟩ (Sort.putRow encStr (Sort.ahead c.w m) (c.β id) off ss'.toArray) cl (Sort.putCells encStr off ss'.toArray cl) el el ⟨rfl, rfl, rfl⟩ (by simp [Sort.ahead]) hh hoth hnew
    (by simp [Sort.putCells]) rfl (by simp [hl]) (by
      refine ⟨by simp [Sort.putCells]; omega, fun i e he => ?_⟩
      rw [List.getElem?_map] at he
      obtain ⟨s, hs, rfl⟩ := Option.map_eq_some_iff.1 he
      refine ⟨rfl, fun j a ha => ?_⟩
      have hi : i < ss'.length := (List.getElem?_eq_some_iff.1 hs).1
      have ho0 : off = 0 := hoff.elim (fun h => h) fun h => by subst h; simp at hi
      subst ho0
      match j, ha with
      | 0, ha =>
        simp only [List.getElem?_cons_zero, Option.some.injEq] at ha
        subst ha
        refine ⟨encStr s, ?_, .v _⟩
        rw [putCells_get]
        have hic : i < cl.size := by omega
        simp only [Nat.mul_one, Nat.add_zero, Array.getElem?_eq_getElem hic, Option.map_some, Nat.zero_le, true_and, Nat.zero_add, Nat.sub_zero, List.size_toArray, hi, if_true, Option.some.injEq]
        have : ss'.toArray[i]! = s := by
          obtain ⟨h1, h2⟩ := List.getElem?_eq_some_iff.1 hs
          simp [h1, h2]
        rw [this]
      | j + 1, ha => simp at ha)
  obtain ⟨k2, g2⟩ := more_blocks g1 c'.w ⟨rfl, rfl, rfl⟩ (by simp [c']) fun k hk => Sort.heap_grow_old _ _ hk
  exact ⟨k1.trans k2, g2⟩

theorem rows_cells {H : Heap} {l : List Sh} (hf : ∀ t ∈ l, t = .c) : ∀ {as' bs : List (List AVal)} {S : List Id}, rowsP (Row H l) as' bs S → as' = bs ∧ S = [] := by
  intro as'
  induction as' with
  | nil => intro bs S hr; match bs, hr with
    | [], h => exact ⟨rfl, h⟩
    | _ :: _, hr => exact hr.elim
  | cons a _ ih =>
    intro bs S hr
    match bs, hr with
    | b :: bs, ⟨_, _, q1, q2, q3, _⟩ =>
      obtain ⟨rfl, rfl, _⟩ := q1.fill hf
      obtain ⟨rfl, rfl⟩ := ih q2
      exact ⟨rfl, q3⟩
    | [], hr => exact hr.elim

/-- A sort of strings, of a slice of the caller's own. 'hnil' is the call with a nil slice. -/
theorem MutS.sort {P : Program} {f : FuncId} {ss : List Str} (hlen : ss.length < 4611686018427387904)
    (hs : ∀ (blk off cap : Nat) (w : World), Sort.Holds encStr w blk off ss.toArray → blk < w.heap.size → Calls P f #[.slice (some ⟨blk, off, none⟩) ss.length cap] w fun e w' =>
      e = .returned (.tuple #[]) ∧ ∃ n os, w' = Sort.grow (Sort.putRow encStr (Sort.ahead w n) blk off (ss.mergeSort fun x y => decide (x ≤ y)).toArray) os)
    (hnil : ∀ w : World, Calls P f #[.slice none 0 0] w fun e w' => e = .returned (.tuple #[]) ∧ Below w.heap.size w w') :
    MutS P f (fun v => [v]) (.s [.c]) (encStrs true ss) (fun e r => e = encStrs true (ss.mergeSort fun x y => decide (x ≤ y)) ∧ r = .tup []) := by
  intro H n v K ids hsep c xs hH hn g r
  subst hH hn
  obtain ⟨x, rfl, hx⟩ : ∃ x, xs = [x] ∧ Rep c v x := by
    obtain ⟨hl, hr⟩ := r
    match xs, hl with
    | [x], _ => exact ⟨x, rfl, hr 0 v x rfl rfl⟩
  obtain ⟨h0, S, h1, h2⟩ := hsep
  simp only [List.map_cons, Row, Tr] at h1
  obtain ⟨S1, S2, h3, h4, rfl, h5⟩ := h1
  rcases h3 with ⟨rfl, e, rfl⟩ | ⟨id, els, es', T, rfl, he, q3, q4, q5, rfl⟩
  · have hss : ss = [] := by simpa [encStrs] using e
    subst hss
    rw [hx.v_inv]
    refine (hnil c.w).mono ?_
    rintro e w' ⟨rfl, hb⟩
    obtain ⟨hk, hg⟩ := more_blocks g w' ⟨hb.os, hb.tape, hb.output⟩ hb.size hb.block
    refine ⟨_, .tup [], { c with w := w' }, rfl, rfl, ⟨_, ⟨rfl, rfl⟩, ⟨h0, _, ?_, h2⟩, fun _ _ => rfl, Nat.le_refl _⟩, .tup [] [] rfl (by simp), hg, hk⟩
    simp only [List.map_cons, Row, Tr]
    exact ⟨[], S2, .inl (by simp [encStrs]), h4, rfl, by simp⟩
  · simp only [encStrs, AVal.list.injEq, true_and] at he
    subst he
    obtain ⟨rfl, rfl⟩ := rows_cells (by simp) q4
    have hm : (ss.mergeSort fun x y => decide (x ≤ y)).length = ss.length := List.length_mergeSort ss
    have q3' : c.H id = some ⟨1, ss.map fun s => [str s]⟩ := q3
    have hcell : ∀ i s, ss[i]? = some s → c.w.cell? ⟨c.β id, i, none⟩ = some (encStr s) := fun i s hi => by
      obtain ⟨x, h1, h2⟩ := g.cell q3' (i := i) (j := 0) (e := [str s]) (a := str s) (by rw [List.getElem?_map, hi]; rfl) rfl
      rw [h2.v_inv] at h1
      simpa using h1
    cases hx with
    | arr _ _ _ _ _ _ hn hg h =>
      obtain ⟨hle, a, cap, rfl, hab, hsp, hlc, hoff, hcl⟩ := h _ q3' (by simp)
      obtain ⟨bk, off, sp⟩ := a
      simp only at hab hsp
      subst hab hsp
      have hz : off = 0 ∨ ss = [] := by
        rcases hoff with h | h
        · left; simpa using h
        · right; simpa [h] using hlc
      have hz' : off = 0 ∨ (ss.mergeSort fun x y => decide (x ≤ y)) = [] := hz.imp_right fun h => by subst h; simp
      have hbk : c.β id < c.w.heap.size := g.lt q3'
      have key := hs (c.β id) off cap c.w (fun j hj => by
        have hj' : j < ss.length := by simpa using hj
        have h0 : off = 0 := hz.elim (fun h => h) fun h => by subst h; simp at hj'
        subst h0
        refine ⟨?_, g.frozen q3' _⟩
        rw [Nat.zero_add, hcell j ss[j] (List.getElem?_eq_getElem hj')]
        simp [hj']) hbk
      simp only [List.length_map] at *
      refine key.mono ?_
      rintro e w' ⟨rfl, m, os, rfl⟩
      obtain ⟨hk, hg'⟩ := sort_world g q3' hm off hz' m os
      refine ⟨_, .tup [], { c with H := c.H.set id ⟨1, (ss.mergeSort fun x y => decide (x ≤ y)).map fun s => [str s]⟩, w := Sort.grow (Sort.putRow encStr (Sort.ahead c.w m) (c.β id) off (ss.mergeSort fun x y => decide (x ≤ y)).toArray) os }, rfl, rfl, ⟨_, ⟨rfl, rfl⟩, ⟨h0, id :: S2, ?_, ?_⟩, fun i hi => ?_, Nat.le_refl _⟩, .tup [] [] rfl (by simp), hg', hk⟩
      · simp only [List.map_cons, Row, Tr]
        refine ⟨[id], S2, .inr ⟨id, (ss.mergeSort fun x y => decide (x ≤ y)).map fun s => [str s], (ss.mergeSort fun x y => decide (x ≤ y)).map fun s => [str s], [], by simp [hm], rfl, ?_, ?_, by simp, rfl⟩, h4.frame fun i hi => ?_, rfl, ?_⟩
        · exact Heap.get_set_self _ _ _
        · exact rowsP.flats (by simp [str, flat]) (by simp)
        · exact Heap.get_set_ne _ _ (by rintro rfl; exact h5 i (by simp) hi)
        · intro i hi; exact h5 i (by simpa using hi)
      · intro i hi; exact h2 i (by simpa using hi)
      · exact Heap.get_set_ne _ _ (by rintro rfl; exact (h2 i (by simp)).2 hi)
end Go.Ab

/- Congruence of processes (statement 9): pure conditions of the functions that sort texts. -/
namespace Go.Ab.Vg
set_option linter.unusedSimpArgs false
set_option linter.unusedVariables false
abbrev kids_pre (p : Proc) (_ : Int) : Prop := p.length ≤ 1048576
abbrev kids (p : Proc) (a : Int) : List Int := idxs p (fun x => decide (x.parent = a)) p.length
def kids_wp (p : Proc) (parent : Int) (Z : (List Int) → Prop) : Prop :=
  ∀ len7 : Int, len7 = (p.length : Int) → loopW (σ := Int × (List Int)) (fun (v16, l17) K21 => ∀ c22 : Bool, c22 = decide (v16 < len7) → ((c22 = true → (0 ≤ v16 ∧ v16 < p.length) ∧ ∀ x25 : AmbNode, x25 = at' p v16 → ∀ c30 : Bool, c30 = decide (x25.parent = parent) → ((c30 = true → (l17.length + 1 ≤ 1073741824) ∧ ∀ l33 : List Int, l33 = l17 ++ [v16] → (I64 (v16 + 1)) ∧ ∀ v43 : Int, v43 = v16 + 1 → K21 (v43, l33)) ∧ (c30 = false → (I64 (v16 + 1)) ∧ ∀ v46 : Int, v46 = v16 + 1 → K21 (v46, l17)))) ∧ (c22 = false → Z l17))) (0, ([] : List Int))
theorem kids_vc (p : Proc) (a : Int) (h : kids_pre p a) : kids_wp p a (fun y => y = kids p a) := by
  unfold kids_wp
  rintro _ rfl
  refine loopW.upL p.length (fun k out => out = idxs p (fun x => decide (x.parent = a)) k) [] rfl ?_
  rintro k out K hk rfl IH
  have hl := idxs_len p (fun x => decide (x.parent = a)) k
  simp only [kids_pre] at h
  simp only [forall_eq, decide_eq_true_eq, decide_eq_false_iff_not, I64]
  refine ⟨fun h1 => ⟨by omega, fun h2 => ⟨by omega, by omega, ?_⟩, fun h2 => ⟨by omega, ?_⟩⟩, fun h1 => ?_⟩
  · exact IH (by omega) _ (idxs_yes _ _ (by simpa using h2)).symm
  · exact IH (by omega) _ (idxs_no _ _ (by simpa using h2)).symm
  · rw [show k = p.length by omega]

abbrev nodeT_pre (x : AmbNode) (s : Str) : Prop := (0 ≤ x.kind ∧ x.kind ≤ 3) ∧ x.name.length ≤ 1073741824 ∧ s.length ≤ 1152921504606846976
abbrev joinT_pre (l : List Str) : Prop := l.length ≤ 1073741824 ∧ (Lib.join l [124]).length ≤ 140737488355328
abbrev sortT (l : List Str) : List Str × Unit := (l.mergeSort fun x y => decide (x ≤ y), ())
theorem kids_in {p : Proc} {a x : Int} (h : x ∈ kids p a) : ∃ i : Nat, x = i ∧ i < p.length ∧ (p.getD i default).parent = a := by
  simp only [kids, idxs, List.mem_map, List.mem_filter, List.mem_range, decide_eq_true_eq] at h
  obtain ⟨i, ⟨h1, h2⟩, rfl⟩ := h
  exact ⟨i, rfl, h1, by simpa [at'] using h2⟩
def sortedT (p : Proc) : Nat → Int → Str
  | 0, _ => []
  | d + 1, a => joinTexts (sortT ((kids p a).map fun x => nodeText (at' p x) (sortedT p d x))).1
theorem sortedT_fuel {p : Proc} (hp : Valid p) : ∀ (d e : Nat) (x : Int), x < p.length → (p.length : Int) - x ≤ d → (p.length : Int) - x ≤ e → sortedT p d x = sortedT p e x
  | 0, _, _, h1, h2, _ => by omega
  | d + 1, 0, _, h1, _, h3 => by omega
  | d + 1, e + 1, x, h1, h2, h3 => by
    simp only [sortedT]
    have : (kids p x).map (fun y => nodeText (at' p y) (sortedT p d y)) = (kids p x).map fun y => nodeText (at' p y) (sortedT p e y) := by
      refine List.map_congr_left fun y hy => ?_
      obtain ⟨i, rfl, hi, hx⟩ := kids_in hy
      have := hp.up i hi
      rw [sortedT_fuel hp d e i (by omega) (by omega) (by omega)]
    rw [this]
theorem sortedT_len {p : Proc} (hp : Valid p) : ∀ (d : Nat) (a : Int), (sortedT p d a).length + 15 ≤ 16 * 8 ^ d
  | 0, _ => by simp [sortedT]
  | d + 1, a => by
    simp only [sortedT]
    unfold joinTexts
    have h8 : 8 ^ (d + 1) = 8 * 8 ^ d := by rw [Nat.pow_succ, Nat.mul_comm]
    have h1 : 0 < 8 ^ d := Nat.pos_of_ne_zero (by simp)
    split
    · simp; omega
    · have := join_len (sortT ((kids p a).map fun x => nodeText (at' p x) (sortedT p d x))).1 [124] (16 * 8 ^ d - 15 + 12) (fun s hs => by
        simp only [sortT, List.mem_mergeSort, List.mem_map] at hs
        obtain ⟨k, hk, rfl⟩ := hs
        obtain ⟨i, rfl, hi, hx⟩ := kids_in hk
        have h1 := nodeText_len (at' p i) (sortedT p d i) (by simpa [at'] using hp.name i hi)
        have h2 := sortedT_len hp d i
        omega)
      have hl : (kids p a).length ≤ p.length := idxs_len _ _ _
      have h9 := hp.len
      simp only [sortT, List.length_mergeSort, List.length_map, List.length_singleton] at this ⊢
      have hm : (kids p a).length * (16 * 8 ^ d - 15 + 12 + 1) ≤ 8 * (16 * 8 ^ d - 15 + 12 + 1) := Nat.mul_le_mul_right _ (by omega)
      omega
abbrev sortedIn_pre (p : Proc) (a : Int) : Prop := Valid p ∧ -1 ≤ a ∧ a < p.length
abbrev sortedIn_ms (p : Proc) (a : Int) : Nat := ((p.length : Int) - a).toNat
abbrev sortedIn (p : Proc) (a : Int) : Str := sortedT p ((p.length : Int) - a).toNat a
def sortedIn_wp (p : Proc) (parent : Int) (Z : Str → Prop) : Prop :=
  (kids_pre p parent) ∧ ∀ r8 : List Int, r8 = kids p parent → ∀ len16 : Int, len16 = (r8.length : Int) → loopW (σ := Int × (List Str)) (fun (v30, l31) K36 => ∀ c37 : Bool, c37 = decide (v30 < len16) → ((c37 = true → (0 ≤ v30 ∧ v30 < r8.length) ∧ ∀ x44 : Int, x44 = at' r8 v30 → (0 ≤ x44 ∧ x44 < p.length) ∧ ∀ x48 : AmbNode, x48 = at' p x44 → (sortedIn_pre p x44 ∧ sortedIn_ms p x44 < sortedIn_ms p parent) ∧ ∀ r51 : Str, r51 = sortedIn p x44 → (nodeT_pre x48 r51) ∧ ∀ r53 : Str, r53 = nodeText x48 r51 → (l31.length + 1 ≤ 1073741824) ∧ ∀ l55 : List Str, l55 = l31 ++ [r53] → (I64 (v30 + 1)) ∧ ∀ v66 : Int, v66 = v30 + 1 → K36 (v66, l55)) ∧ (c37 = false → (l31.length ≤ 1073741824) ∧ ∀ r69 : (List Str) × Unit, r69 = sortT l31 → (joinT_pre r69.1) ∧ ∀ r80 : Str, r80 = joinTexts r69.1 → Z r80))) (0, ([] : List Str))
theorem sortedIn_vc (p : Proc) (a : Int) (h : sortedIn_pre p a) : sortedIn_wp p a (fun y => y = sortedIn p a) := by
  obtain ⟨hp, h1, h2⟩ := h
  have hp8 := hp.len
  unfold sortedIn_wp
  refine ⟨by omega, ?_⟩
  rintro _ rfl _ rfl
  have hkl : (kids p a).length ≤ p.length := idxs_len _ _ _
  obtain ⟨d, hd⟩ : ∃ d, ((p.length : Int) - a).toNat = d + 1 := ⟨((p.length : Int) - a).toNat - 1, by omega⟩
  have hd9 : d ≤ 8 := by omega
  have hpd : 8 ^ d ≤ 8 ^ 8 := Nat.pow_le_pow_right (by omega) (by omega)
  have hlen : ∀ y, (sortedT p d y).length ≤ 268435456 := fun y => by have := sortedT_len hp d y; omega
  refine loopW.upL (kids p a).length (fun k out => out = ((kids p a).take k).map fun x => nodeText (at' p x) (sortedT p d x)) [] (by simp) ?_
  rintro k out K hk rfl IH
  rintro _ rfl
  simp only [decide_eq_true_eq, decide_eq_false_iff_not]
  refine ⟨fun hc => ⟨by omega, ?_⟩, fun hc => ?_⟩
  · rintro _ rfl
    have hk1 : k < (kids p a).length := by omega
    have hat : at' (kids p a) (k : Int) = (kids p a)[k] := by simp [at', hk1]
    have hmem : (kids p a)[k] ∈ kids p a := List.getElem_mem hk1
    have htk : (kids p a).take (k + 1) = (kids p a).take k ++ [(kids p a)[k]] := List.take_succ_eq_append_getElem hk1
    rw [hat]
    generalize (kids p a)[k] = x at hmem htk ⊢
    obtain ⟨i, rfl, hi, hx⟩ := kids_in hmem
    have hup := hp.up i hi
    have hf : sortedIn p i = sortedT p d i := sortedT_fuel hp _ _ _ (by omega) (by omega) (by omega)
    have hpi : at' p (i : Int) = p.getD i default := by simp [at']
    refine ⟨by omega, ?_⟩
    rintro _ rfl
    refine ⟨⟨⟨hp, by omega, by omega⟩, by simp only [sortedIn_ms]; omega⟩, ?_⟩
    rintro _ rfl
    rw [hf]
    refine ⟨⟨by rw [hpi]; exact hp.kind i hi, by rw [hpi]; have := hp.name i hi; omega, by have := hlen i; omega⟩, ?_⟩
    rintro _ rfl
    refine ⟨by simp; omega, ?_⟩
    rintro _ rfl
    refine ⟨by simp only [I64]; omega, ?_⟩
    rintro _ rfl
    exact IH hk1 _ (by rw [htk]; simp)
  · have hke : k = (kids p a).length := by omega
    subst hke
    rw [List.take_length]
    refine ⟨by simp; omega, ?_⟩
    rintro _ rfl
    refine ⟨⟨by simp [sortT]; omega, ?_⟩, ?_⟩
    · have := join_len (sortT ((kids p a).map fun x => nodeText (at' p x) (sortedT p d x))).1 [124] (268435456 + 12) (fun s hs => by
        simp only [sortT, List.mem_mergeSort, List.mem_map] at hs
        obtain ⟨y, hy, rfl⟩ := hs
        obtain ⟨i, rfl, hi, hx⟩ := kids_in hy
        have h1 := nodeText_len (at' p i) (sortedT p d i) (by simpa [at'] using hp.name i hi)
        have := hlen i
        omega)
      simp only [sortT, List.length_mergeSort, List.length_map, List.length_singleton] at this ⊢
      have hm : (kids p a).length * (268435456 + 12 + 1) ≤ 8 * (268435456 + 12 + 1) := Nat.mul_le_mul_right _ (by omega)
      omega
    · rintro _ rfl
      simp only [sortedIn, hd, sortedT]

abbrev l12Kids_pre (p : Proc) (_ : Int) : Prop := p.length ≤ 1048576
abbrev l12Kids (p : Proc) (a : Int) : List Int := kids p a
def l12Kids_wp (p : Proc) (parent : Int) (Z : (List Int) → Prop) : Prop :=
  loopW (σ := Int × (List Int)) (fun (i14, l15) K19 => ∀ len20 : Int, len20 = (p.length : Int) → ∀ c22 : Bool, c22 = decide (i14 < len20) → ((c22 = true → (0 ≤ i14 ∧ i14 < p.length) ∧ ∀ x25 : AmbNode, x25 = at' p i14 → ∀ c27 : Bool, c27 = decide (x25.parent = parent) → ((c27 = true → (l15.length + 1 ≤ 1073741824) ∧ ∀ l30 : List Int, l30 = l15 ++ [i14] → (I64 (i14 + 1)) ∧ ∀ v40 : Int, v40 = i14 + 1 → K19 (v40, l30)) ∧ (c27 = false → (I64 (i14 + 1)) ∧ ∀ v43 : Int, v43 = i14 + 1 → K19 (v43, l15)))) ∧ (c22 = false → Z l15))) (0, ([] : List Int))
theorem l12Kids_vc (p : Proc) (a : Int) (h : l12Kids_pre p a) : l12Kids_wp p a (fun y => y = l12Kids p a) := by
  unfold l12Kids_wp
  refine loopW.upL p.length (fun k out => out = idxs p (fun x => decide (x.parent = a)) k) [] rfl ?_
  rintro k out K hk rfl IH
  have hl := idxs_len p (fun x => decide (x.parent = a)) k
  simp only [l12Kids_pre] at h
  simp only [forall_eq, decide_eq_true_eq, decide_eq_false_iff_not, I64]
  refine ⟨fun h1 => ⟨by omega, fun h2 => ⟨by omega, by omega, ?_⟩, fun h2 => ⟨by omega, ?_⟩⟩, fun h1 => ?_⟩
  · exact IH (by omega) _ (idxs_yes _ _ (by simpa using h2)).symm
  · exact IH (by omega) _ (idxs_no _ _ (by simpa using h2)).symm
  · rw [show k = p.length by omega]
abbrev procHuge (p : Proc) : Prop := p.length ≤ 1048576 ∧ ∀ i, i < p.length → (p.getD i default).name.length ≤ 1048576
abbrev AreCongruent_pre (p q : Proc) : Prop := procHuge p ∧ procHuge q
abbrev AreCongruent (p q : Proc) : Bool × Bool := if goodP p && goodP q then (decide (sortedIn p (-1) = sortedIn q (-1)), true) else (false, false)
def AreCongruent_wp (p : Proc) (q : Proc) (Z : (Bool × Bool) → Prop) : Prop :=
  joinW (fun (J5 : Bool → Prop) => (procHuge p) ∧ ∀ r18 : Bool, r18 = goodP p → ((r18 = true → (procHuge q) ∧ ∀ r20 : Bool, r20 = goodP q → J5 ((!r20))) ∧ (r18 = false → J5 (true)))) (fun b8 => ((b8 = true → Z (false, false)) ∧ (b8 = false → (sortedIn_pre p (-1)) ∧ ∀ r12 : Str, r12 = sortedIn p (-1) → (sortedIn_pre q (-1)) ∧ ∀ r14 : Str, r14 = sortedIn q (-1) → ∀ c15 : Bool, c15 = decide (r12 = r14) → Z (c15, true))))
theorem sortedIn_top {p : Proc} (h : goodP p = true) : sortedIn_pre p (-1) := ⟨goodP_valid h, by omega, by omega⟩
theorem AreCongruent_vc (p q : Proc) (h : AreCongruent_pre p q) : AreCongruent_wp p q (fun y => y = AreCongruent p q) := by
  unfold AreCongruent_wp
  refine ⟨fun c => c = !(goodP p && goodP q), ⟨h.1, ?_⟩, ?_⟩
  · rintro _ rfl
    refine ⟨fun hp => ⟨h.2, ?_⟩, fun hp => by simp [hp]⟩
    rintro _ rfl
    simp [hp]
  · rintro _ rfl
    refine ⟨fun hc => ?_, fun hc => ?_⟩
    · simp only [Bool.not_eq_true'] at hc
      simp [AreCongruent, hc]
    · simp only [Bool.not_eq_false'] at hc
      have h2 := hc
      simp only [Bool.and_eq_true] at h2
      refine ⟨sortedIn_top h2.1, ?_⟩
      rintro _ rfl
      refine ⟨sortedIn_top h2.2, ?_⟩
      rintro _ rfl _ rfl
      simp only [AreCongruent, hc, if_true]
def ins (s : Str) (l : List Str) : List Str := l.takeWhile (fun x => decide (x ≤ s)) ++ s :: l.dropWhile (fun x => decide (x ≤ s))
theorem ins_perm (s : Str) (l : List Str) : (ins s l).Perm (s :: l) := by
  have h := List.takeWhile_append_dropWhile (p := fun x => decide (x ≤ s)) (l := l)
  unfold ins
  exact List.perm_middle.trans (by rw [h])
theorem str_total (a b : Str) : a ≤ b ∨ b ≤ a := List.le_total a b
theorem ins_sorted (s : Str) : ∀ {l : List Str}, l.Pairwise (· ≤ ·) → (ins s l).Pairwise (· ≤ ·)
  | [], _ => by simp [ins]
  | a :: l, h => by
    obtain ⟨h1, h2⟩ := List.pairwise_cons.1 h
    by_cases ha : a ≤ s
    · have : ins s (a :: l) = a :: ins s l := by simp [ins, ha]
      rw [this]
      refine List.pairwise_cons.2 ⟨fun b hb => ?_, ins_sorted s h2⟩
      rcases List.mem_cons.1 ((ins_perm s l).mem_iff.1 hb) with rfl | hb
      · exact ha
      · exact h1 b hb
    · have : ins s (a :: l) = s :: a :: l := by simp [ins, ha]
      rw [this]
      have hsa : s ≤ a := (str_total a s).resolve_left ha
      refine List.pairwise_cons.2 ⟨fun b hb => ?_, h⟩
      rcases List.mem_cons.1 hb with rfl | hb
      · exact hsa
      · exact List.le_trans hsa (h1 b hb)
theorem foldl_ins (g : Int → Str) : ∀ (l : List Int) (out : List Str), out.Pairwise (· ≤ ·) → (l.foldl (fun out x => ins (g x) out) out).Pairwise (· ≤ ·) ∧ (l.foldl (fun out x => ins (g x) out) out).Perm (out ++ l.map g)
  | [], out, h => by simp [h]
  | x :: l, out, h => by
    obtain ⟨h1, h2⟩ := foldl_ins g l (ins (g x) out) (ins_sorted _ h)
    refine ⟨h1, h2.trans ?_⟩
    rw [List.map_cons]
    exact ((ins_perm (g x) out).append_right _).trans List.perm_middle.symm
theorem foldl_sort (g : Int → Str) (l : List Int) : l.foldl (fun out x => ins (g x) out) [] = (l.map g).mergeSort fun x y => decide (x ≤ y) := by
  obtain ⟨h1, h2⟩ := foldl_ins g l [] List.Pairwise.nil
  have h3 : ((l.map g).mergeSort fun x y => decide (x ≤ y)).Pairwise (· ≤ ·) := by
    have := List.pairwise_mergeSort (le := fun x y : Str => decide (x ≤ y)) (fun a b c h1 h2 => by simp only [decide_eq_true_eq] at *; exact List.le_trans h1 h2) (fun a b => by simpa using str_total a b) (l.map g)
    simpa using this
  exact (h2.trans (List.mergeSort_perm _ _).symm).eq_of_pairwise (fun a b _ _ h h' => List.le_antisymm h h') h1 h3
def bestT (p : Proc) : Nat → Int → Str
  | 0, _ => []
  | d + 1, a => joinTexts ((kids p a).foldl (fun out x => ins (nodeText (at' p x) (bestT p d x)) out) [])
theorem bestT_eq (p : Proc) : ∀ (d : Nat) (a : Int), bestT p d a = sortedT p d a
  | 0, _ => rfl
  | d + 1, a => by
    simp only [bestT, sortedT, sortT]
    rw [foldl_sort (fun x => nodeText (at' p x) (bestT p d x))]
    simp only [bestT_eq p d]
abbrev l12Best (p : Proc) (a : Int) : Str := bestT p ((p.length : Int) - a).toNat a
abbrev BestOk (p : Proc) (a : Int) : Prop := PureC Go.Proofs.Tryd.prog 48 [encP false p, int a] (fun r => r = str (l12Best p a))
end Go.Ab.Vg

/- Congruence of processes (statement 9): the spec's functions that sort texts. -/
namespace Go.Ab.Vg
set_option linter.unusedSimpArgs false
set_option linter.unusedVariables false
abbrev l12Sorted_pre (p : Proc) (a : Int) : Prop := Valid p ∧ -1 ≤ a ∧ a < p.length ∧ ∀ x ∈ kids p a, BestOk p x
abbrev l12Sorted (p : Proc) (a : Int) : List Str := (kids p a).foldl (fun out x => ins (nodeText (at' p x) (l12Best p x)) out) []
def l12Sorted_wp (p : Proc) (parent : Int) (Z : (List Str) → Prop) : Prop :=
  (l12Kids_pre p parent) ∧ ∀ r5 : List Int, r5 = l12Kids p parent → loopW (σ := Int × (List Str)) (fun (i26, l27) K32 => ∀ len33 : Int, len33 = (r5.length : Int) → ∀ c35 : Bool, c35 = decide (i26 < len33) → ((c35 = true → (0 ≤ i26 ∧ i26 < r5.length) ∧ ∀ x42 : Int, x42 = at' r5 i26 → (0 ≤ x42 ∧ x42 < p.length) ∧ ∀ x46 : AmbNode, x46 = at' p x42 → (0 ≤ i26 ∧ i26 < r5.length) ∧ ∀ x49 : Int, x49 = at' r5 i26 → (BestOk p x42) ∧ ∀ r54 : Str, r54 = l12Best p x42 → (nodeT_pre x46 r54) ∧ ∀ r56 : Str, r56 = nodeText x46 r54 → loopW (σ := Int) (fun k64 K69 => joinW (fun (J70 : Bool → Prop) => ∀ len125 : Int, len125 = (l27.length : Int) → ∀ c127 : Bool, c127 = decide (k64 < len125) → ((c127 = true → (0 ≤ k64 ∧ k64 < l27.length) ∧ ∀ x134 : Str, x134 = at' l27 k64 → ∀ c137 : Bool, c137 = (Op.bytesLess x134 r56 || x134 == r56) → J70 (c137)) ∧ (c127 = false → J70 (false)))) (fun b73 => ((b73 = true → (I64 (k64 + 1)) ∧ ∀ v79 : Int, v79 = k64 + 1 → K69 (v79)) ∧ (b73 = false → ((0 : Int) ≤ 0 ∧ (0 : Int) ≤ k64 ∧ k64 ≤ l27.length) ∧ ∀ l85 : List Str, l85 = (l27.take k64.toNat).drop 0 → (([] : List Str).length + l85.length ≤ 1073741824) ∧ ∀ l89 : List Str, l89 = ([] : List Str) ++ l85 → (l89.length + 1 ≤ 1073741824) ∧ ∀ l98 : List Str, l98 = l89 ++ [r56] → (0 ≤ k64 ∧ k64 ≤ (l27.length : Int) ∧ (l27.length : Int) ≤ l27.length) ∧ ∀ l107 : List Str, l107 = (l27.take (l27.length : Int).toNat).drop k64.toNat → (l98.length + l107.length ≤ 1073741824) ∧ ∀ l111 : List Str, l111 = l98 ++ l107 → (I64 (i26 + 1)) ∧ ∀ v123 : Int, v123 = i26 + 1 → K32 (v123, l111))))) (0)) ∧ (c35 = false → Z l27))) (0, ([] : List Str))
theorem leq_le (a b : Str) : (Op.bytesLess a b || a == b) = decide (a ≤ b) := by
  rw [Go.Proofs.bytesLess_eq]
  apply Bool.eq_iff_iff.2
  simp only [Bool.or_eq_true, decide_eq_true_eq, beq_iff_eq]
  constructor
  · rintro (h | rfl)
    · exact List.le_of_lt h
    · exact List.le_refl _
  · intro h
    by_cases h1 : a < b
    · exact .inl h1
    · exact .inr (List.le_antisymm h h1)
theorem ins_at (s : Str) : ∀ (l : List Str) (k : Nat), k ≤ l.length → (∀ j < k, at' l (j : Int) ≤ s) → (k < l.length → ¬ at' l (k : Int) ≤ s) → l.take k ++ s :: l.drop k = ins s l
  | [], k, _, _, _ => by simp [ins]
  | x :: l, 0, _, _, h => by
    have hx : ¬ x ≤ s := by simpa [at'] using h (by simp)
    simp [ins, hx]
  | x :: l, k + 1, h1, h2, h3 => by
    have hx : x ≤ s := by simpa [at'] using h2 0 (by omega)
    have hs : ∀ j : Nat, at' (x :: l) (((j + 1 : Nat)) : Int) = at' l (j : Int) := fun j => by rw [at_nat (x :: l) (j + 1), at_nat l j]; simp
    have := ins_at s l k (by simpa using h1) (fun j hj => by rw [← hs]; exact h2 (j + 1) (by omega)) (fun hk => by rw [← hs]; exact h3 (by simpa using hk))
    have hi : ins s (x :: l) = x :: ins s l := by simp [ins, hx]
    rw [hi, ← this]
    simp
theorem l12Sorted_vc (p : Proc) (a : Int) (h : l12Sorted_pre p a) : l12Sorted_wp p a (fun y => y = l12Sorted p a) := by
  obtain ⟨hp, h1, h2, hb⟩ := h
  have hp8 := hp.len
  unfold l12Sorted_wp
  refine ⟨by simp only [l12Kids_pre]; omega, ?_⟩
  rintro _ rfl
  have hkl : (kids p a).length ≤ p.length := idxs_len _ _ _
  refine loopW.upL (kids p a).length (fun k out => out = ((kids p a).take k).foldl (fun out x => ins (nodeText (at' p x) (l12Best p x)) out) []) [] (by simp) ?_
  rintro k out K hk hout IH
  have hol : out.length = k := by
    have := (foldl_ins (fun x => nodeText (at' p x) (l12Best p x)) ((kids p a).take k) [] List.Pairwise.nil).2.length_eq
    rw [← hout] at this
    rw [this]
    simp; omega
  rintro _ rfl _ rfl
  simp only [decide_eq_true_eq, decide_eq_false_iff_not]
  refine ⟨fun hc => ⟨by simp only [l12Kids] at hc ⊢; omega, ?_⟩, fun hc => ?_⟩
  · rintro _ rfl
    have hk1 : k < (kids p a).length := by simp only [l12Kids] at hc; omega
    have hat : at' (kids p a) (k : Int) = (kids p a)[k] := by simp [at', hk1]
    have hmem : (kids p a)[k] ∈ kids p a := List.getElem_mem hk1
    have htk : (kids p a).take (k + 1) = (kids p a).take k ++ [(kids p a)[k]] := List.take_succ_eq_append_getElem hk1
    simp only [l12Kids, hat]
    generalize (kids p a)[k] = x at hmem htk ⊢
    obtain ⟨i, rfl, hi, hx⟩ := kids_in hmem
    have hup := hp.up i hi
    refine ⟨by omega, ?_⟩
    rintro _ rfl
    refine ⟨by omega, ?_⟩
    rintro _ rfl
    refine ⟨hb _ hmem, ?_⟩
    rintro _ rfl
    have hpi : at' p (i : Int) = p.getD i default := by simp [at']
    have h4 : (l12Best p i).length + 15 ≤ 16 * 8 ^ ((p.length : Int) - i).toNat := by simp only [l12Best, bestT_eq]; exact sortedT_len hp _ _
    have hpd : 8 ^ ((p.length : Int) - i).toNat ≤ 8 ^ 8 := Nat.pow_le_pow_right (by omega) (by omega)
    refine ⟨⟨by rw [hpi]; exact hp.kind i hi, by rw [hpi]; have := hp.name i hi; omega, by omega⟩, ?_⟩
    rintro _ rfl
    have hnext := IH hk1
    rw [htk, List.foldl_append, ← hout] at hnext
    simp only [List.foldl_cons, List.foldl_nil] at hnext
    generalize nodeText (at' p (i : Int)) (l12Best p i) = s at hnext
    refine loopW.up1 out.length (fun j => ∀ m < j, at' out (m : Int) ≤ s) (by simp) ?_
    rintro j K' hj hI IH'
    refine ⟨fun b => b = (decide (j < out.length) && decide (at' out (j : Int) ≤ s)), ?_, ?_⟩
    · rintro _ rfl _ rfl
      simp only [decide_eq_true_eq, decide_eq_false_iff_not]
      refine ⟨fun hc => ⟨by omega, ?_⟩, fun hc => ?_⟩
      · rintro _ rfl _ rfl
        rw [leq_le]
        have : j < out.length := by omega
        simp [this]
      · have : ¬ j < out.length := by omega
        simp [this]
    · rintro _ rfl
      refine ⟨fun hc => ?_, fun hc => ?_⟩
      · simp only [Bool.and_eq_true, decide_eq_true_eq] at hc
        refine ⟨by simp only [I64]; omega, ?_⟩
        rintro _ rfl
        refine IH' hc.1 fun m hm => ?_
        rcases Nat.lt_or_ge m j with h5 | h5
        · exact hI m h5
        · rw [show m = j by omega]; exact hc.2
      · simp only [Bool.and_eq_false_iff, decide_eq_false_iff_not] at hc
        have hins := ins_at s out j hj hI (fun hl => hc.resolve_left (by simpa using hl))
        refine ⟨by omega, ?_⟩
        rintro _ rfl
        refine ⟨by simp; omega, ?_⟩
        rintro _ rfl
        refine ⟨by simp; omega, ?_⟩
        rintro _ rfl
        refine ⟨by omega, ?_⟩
        rintro _ rfl
        refine ⟨by simp; omega, ?_⟩
        rintro _ rfl
        refine ⟨by simp only [I64]; omega, ?_⟩
        rintro _ rfl
        refine hnext _ ?_
        rw [← hins]
        simp
  · have hke : k = (kids p a).length := by simp only [l12Kids] at hc; omega
    rw [hout, hke, List.take_length]
abbrev l12Best_pre (p : Proc) (a : Int) : Prop := l12Sorted_pre p a
def l12Best_wp (p : Proc) (parent : Int) (Z : Str → Prop) : Prop :=
  (l12Sorted_pre p parent) ∧ ∀ r5 : List Str, r5 = l12Sorted p parent → ∀ len6 : Int, len6 = (r5.length : Int) → ∀ c8 : Bool, c8 = decide (len6 = 0) → ((c8 = true → Z [48]) ∧ (c8 = false → ((0 : Int) ≤ 0 ∧ (0 : Int) < r5.length) ∧ ∀ x11 : Str, x11 = at' r5 0 → loopW (σ := Str × Int) (fun (s16, i17) K20 => ∀ len21 : Int, len21 = (r5.length : Int) → ∀ c23 : Bool, c23 = decide (i17 < len21) → ((c23 = true → (s16.length + [124].length < 4611686018427387904) ∧ ∀ v26 : Str, v26 = s16 ++ [124] → (0 ≤ i17 ∧ i17 < r5.length) ∧ ∀ x29 : Str, x29 = at' r5 i17 → (v26.length + x29.length < 4611686018427387904) ∧ ∀ v32 : Str, v32 = v26 ++ x29 → (I64 (i17 + 1)) ∧ ∀ v35 : Int, v35 = i17 + 1 → K20 (v32, v35)) ∧ (c23 = false → Z s16))) (x11, 1)))
theorem best_top {p : Proc} (h : goodP p = true) (hall : ∀ a : Int, -1 ≤ a → a < p.length → BestOk p a) : BestOk p (-1) := hall (-1) (by omega) (by omega)
theorem l12Sorted_eq {p : Proc} {a : Int} (h : sortedIn_pre p a) : l12Sorted p a = (sortT ((kids p a).map fun x => nodeText (at' p x) (l12Best p x))).1 := foldl_sort (fun x => nodeText (at' p x) (l12Best p x)) _
theorem l12Best_join {p : Proc} {a : Int} (h : sortedIn_pre p a) : joinTexts (l12Sorted p a) = l12Best p a := by
  obtain ⟨hp, h1, h2⟩ := h
  obtain ⟨d, hd⟩ : ∃ d, ((p.length : Int) - a).toNat = d + 1 := ⟨((p.length : Int) - a).toNat - 1, by omega⟩
  rw [l12Sorted_eq ⟨hp, h1, h2⟩]
  simp only [l12Best, bestT_eq]
  rw [hd]
  simp only [sortedT]
  have : (kids p a).map (fun y => nodeText (at' p y) (sortedT p ((p.length : Int) - y).toNat y)) = (kids p a).map fun y => nodeText (at' p y) (sortedT p d y) := by
    refine List.map_congr_left fun y hy => ?_
    obtain ⟨i, rfl, hi, hx⟩ := kids_in hy
    have := hp.up i hi
    rw [sortedT_fuel hp _ d i (by omega) (by omega) (by omega)]
  rw [this]
theorem l12Sorted_len {p : Proc} {a : Int} (h : sortedIn_pre p a) : (l12Sorted p a).length ≤ 8 ∧ ∀ s ∈ l12Sorted p a, s.length ≤ 2147483648 + 12 := by
  obtain ⟨hp, h1, h2⟩ := h
  have hp8 := hp.len
  rw [l12Sorted_eq ⟨hp, h1, h2⟩]
  have hl : (kids p a).length ≤ p.length := idxs_len _ _ _
  refine ⟨by simp [sortT]; omega, fun s hs => ?_⟩
  simp only [sortT, List.mem_mergeSort, List.mem_map] at hs
  obtain ⟨y, hy, rfl⟩ := hs
  obtain ⟨i, rfl, hi, hx⟩ := kids_in hy
  have h3 := nodeText_len (at' p i) (l12Best p i) (by simpa [at'] using hp.name i hi)
  have h4 : (l12Best p i).length + 15 ≤ 16 * 8 ^ ((p.length : Int) - i).toNat := by simp only [l12Best, bestT_eq]; exact sortedT_len hp _ _
  have hpd : 8 ^ ((p.length : Int) - i).toNat ≤ 8 ^ 8 := Nat.pow_le_pow_right (by omega) (by omega)
  omega
theorem l12Best_vc (p : Proc) (a : Int) (h : l12Best_pre p a) : l12Best_wp p a (fun y => y = l12Best p a) := by
  have hs : sortedIn_pre p a := ⟨h.1, h.2.1, h.2.2.1⟩
  obtain ⟨hl, hb⟩ := l12Sorted_len hs
  unfold l12Best_wp
  refine ⟨h, ?_⟩
  rw [← l12Best_join hs]
  generalize l12Sorted p a = r0 at hl hb
  rintro r rfl _ rfl _ rfl
  simp only [decide_eq_true_eq, decide_eq_false_iff_not]
  refine ⟨fun h0 => ?_, fun h0 => ⟨by omega, ?_⟩⟩
  · have : r = [] := List.eq_nil_of_length_eq_zero (by omega)
    simp [this, joinTexts]
  · rintro _ rfl
    refine loopW.up (r.length - 1) (fun s => s.2 - 1) (fun k s => (s, (k : Int) + 1)) (fun _ _ => by simp) (fun k s => s = Lib.join (r.take (k + 1)) [124]) (at' r 0) (by simp) ?_ ?_
    · cases r with
      | nil => simp at h0
      | cons s0 r' => simp [at', Lib.join]
    · rintro k t K hk rfl IH
      have hj := join_len (r.take (k + 1)) [124] (2147483648 + 12) (fun s hs => hb s (List.mem_of_mem_take hs))
      have hm : (r.take (k + 1)).length * (2147483648 + 12 + [124].length) ≤ 8 * (2147483648 + 12 + 1) := Nat.mul_le_mul (by simp; omega) (by simp)
      rintro _ rfl _ rfl
      simp only [decide_eq_true_eq, decide_eq_false_iff_not]
      refine ⟨fun hc => ⟨by simp only [List.length_singleton]; omega, ?_⟩, fun hc => ?_⟩
      · rintro _ rfl
        refine ⟨by omega, ?_⟩
        rintro _ rfl
        have hk1 : k + 1 < r.length := by omega
        have hat : at' r ((k : Int) + 1) = r[k + 1] := by
          have : ((k : Int) + 1).toNat = k + 1 := by omega
          simp [at', this, hk1]
        have h12 := hb _ (List.getElem_mem hk1)
        rw [hat]
        refine ⟨by simp only [List.length_append, List.length_singleton]; omega, ?_⟩
        rintro _ rfl
        refine ⟨by simp only [I64]; omega, ?_⟩
        rintro _ rfl
        refine IH (by omega) _ ?_
        rw [List.take_succ_eq_append_getElem hk1, intercalate_snoc _ _ (by intro h; have := congrArg List.length h; rw [List.length_take, List.length_nil] at this; omega)]
      · have : r.take (k + 1) = r := List.take_of_length_le (by omega)
        rw [this, joinTexts, if_neg (by rintro rfl; simp at h0)]
theorem l12Best_sorted (p : Proc) (a : Int) : l12Best p a = sortedIn p a := bestT_eq p _ a
abbrev sAreCongruent_pre (p q : Proc) : Prop := procHuge p ∧ procHuge q ∧ (goodP p = true → BestOk p (-1)) ∧ (goodP q = true → BestOk q (-1))
abbrev sAreCongruent (p q : Proc) : Bool × Bool := AreCongruent p q
def sAreCongruent_wp (p : Proc) (q : Proc) (Z : (Bool × Bool) → Prop) : Prop :=
  joinW (fun (J5 : Bool → Prop) => (procHuge p) ∧ ∀ r18 : Bool, r18 = goodP p → ((r18 = true → (procHuge q) ∧ ∀ r20 : Bool, r20 = goodP q → J5 ((!r20))) ∧ (r18 = false → J5 (true)))) (fun b8 => ((b8 = true → Z (false, false)) ∧ (b8 = false → (BestOk p (-1)) ∧ ∀ r12 : Str, r12 = l12Best p (-1) → (BestOk q (-1)) ∧ ∀ r14 : Str, r14 = l12Best q (-1) → ∀ c15 : Bool, c15 = decide (r12 = r14) → Z (c15, true))))
theorem sAreCongruent_vc (p q : Proc) (h : sAreCongruent_pre p q) : sAreCongruent_wp p q (fun y => y = sAreCongruent p q) := by
  unfold sAreCongruent_wp
  refine ⟨fun c => c = !(goodP p && goodP q), ⟨h.1, ?_⟩, ?_⟩
  · rintro _ rfl
    refine ⟨fun hp => ⟨h.2.1, ?_⟩, fun hp => by simp [hp]⟩
    rintro _ rfl
    simp [hp]
  · rintro _ rfl
    refine ⟨fun hc => ?_, fun hc => ?_⟩
    · simp only [Bool.not_eq_true'] at hc
      simp [sAreCongruent, AreCongruent, hc]
    · simp only [Bool.not_eq_false'] at hc
      have h2 := hc
      simp only [Bool.and_eq_true] at h2
      refine ⟨h.2.2.1 h2.1, ?_⟩
      rintro _ rfl
      refine ⟨h.2.2.2 h2.2, ?_⟩
      rintro _ rfl _ rfl
      simp only [sAreCongruent, AreCongruent, hc, if_true, l12Best_sorted]
end Go.Ab.Vg

/- Congruence of processes (statement 9): the law. -/
namespace Go.Ab.Vg
set_option linter.unusedSimpArgs false
set_option linter.unusedVariables false
abbrev szT (p : Proc) (left : Int) : Int := if szProc p left < 0 then -1 else szProc p left
abbrev idP (p : Proc) : Proc := p
abbrev eqP (p q : Proc) : Bool := decide (p = q)
abbrev lawCongr (_ _ : Proc) : Bool := true
abbrev lawCongr_pre (p q : Proc) : Prop := Small p ∧ Small q
def lawCongr_wp (aP : Proc) (aQ : Proc) (Z : Bool → Prop) : Prop :=
  (((0 : Int) ≤ 1048576 ∧ (1048576 : Int) ≤ 1048576) ∧ Small aP) ∧ ∀ r6 : Int, r6 = szT aP 1048576 → ∀ c7 : Bool, c7 = decide (r6 < 0) → ((c7 = true → Z true) ∧ (c7 = false → (((0 : Int) ≤ r6 ∧ (r6 : Int) ≤ 1048576) ∧ Small aQ) ∧ ∀ r10 : Int, r10 = szT aQ r6 → ∀ c11 : Bool, c11 = decide (r10 < 0) → ((c11 = true → Z true) ∧ (c11 = false → (aP.length ≤ 1048576) ∧ ∀ r14 : Proc, r14 = idP aP → (aQ.length ≤ 1048576) ∧ ∀ r16 : Proc, r16 = idP aQ → (AreCongruent_pre r14 r16) ∧ ∀ r18 : Bool × Bool, r18 = AreCongruent r14 r16 → (aP.length ≤ 1048576) ∧ ∀ r21 : Proc, r21 = idP aP → (aQ.length ≤ 1048576) ∧ ∀ r25 : Proc, r25 = idP aQ → (AreCongruent_pre r21 r25) ∧ ∀ r29 : Bool × Bool, r29 = AreCongruent r21 r25 → joinW (fun (J30 : Bool → Prop) => ∀ c44 : Bool, c44 = !(r29.1 == r18.1) → ((c44 = true → J30 (true)) ∧ (c44 = false → ∀ c46 : Bool, c46 = !(r29.2 == r18.2) → J30 (c46)))) (fun b33 => ((b33 = true → Z false) ∧ (b33 = false → (aP.length ≤ 1048576) ∧ ∀ r37 : Proc, r37 = idP aP → (r21.length ≤ 1048576) ∧ ∀ r39 : Bool, r39 = eqP r21 r37 → ((r39 = true → (aQ.length ≤ 1048576) ∧ ∀ r41 : Proc, r41 = idP aQ → (r25.length ≤ 1048576) ∧ ∀ r43 : Bool, r43 = eqP r25 r41 → ((r43 = true → Z true) ∧ (r43 = false → Z false))) ∧ (r39 = false → Z false)))))))))
theorem szNodes_down : ∀ (p : Proc) (left : Int), szNodes p left ≤ max left (-1)
  | [], left => by simp [szNodes]; omega
  | x :: r, left => by
    rw [szNodes]
    split
    · omega
    · have := szNodes_down r (szStr x.name left)
      have h2 : szStr x.name left ≤ max left (-1) := by unfold szStr; split <;> omega
      omega
theorem szT_le {p : Proc} {left : Int} (h : ¬ szT p left < 0) : 0 ≤ szT p left ∧ szT p left ≤ left ∧ (p.length : Int) ≤ left ∧ ∀ x ∈ p, (x.name.length : Int) ≤ left := by
  have h0 : 0 ≤ szProc p left := by
    rcases Int.lt_or_le (szProc p left) 0 with hl | hl
    · exact (h (by simp [szT, hl])).elim
    · exact hl
  have he : szT p left = szProc p left := if_neg (by omega)
  obtain ⟨h1, h2⟩ := szProc_le h0
  refine ⟨by omega, ?_, h1, h2⟩
  rw [he]
  unfold szProc at h0 ⊢
  split at h0
  · omega
  · rw [if_neg (by assumption)]
    have := szNodes_down p (left - p.length)
    omega
theorem huge_of {p : Proc} {left : Int} (h : ¬ szT p left < 0) (hl : left ≤ 1048576) : procHuge p := by
  obtain ⟨_, _, h1, h2⟩ := szT_le h
  refine ⟨by omega, fun i hi => ?_⟩
  have := h2 (p.getD i default) (by simp [hi])
  omega
theorem lawCongr_vc (p q : Proc) (h : lawCongr_pre p q) : lawCongr_wp p q (fun y => y = lawCongr p q) := by
  unfold lawCongr_wp
  refine ⟨⟨by omega, h.1⟩, ?_⟩
  rintro _ rfl _ rfl
  simp only [decide_eq_true_eq, decide_eq_false_iff_not]
  refine ⟨fun _ => trivial, fun h1 => ?_⟩
  obtain ⟨a1, a2, _, _⟩ := szT_le h1
  refine ⟨⟨by omega, h.2⟩, ?_⟩
  rintro _ rfl _ rfl
  simp only [decide_eq_true_eq, decide_eq_false_iff_not]
  refine ⟨fun _ => trivial, fun h2 => ?_⟩
  have hp := huge_of h1 (by omega)
  have hq := huge_of h2 (by omega)
  refine ⟨hp.1, ?_⟩
  rintro _ rfl
  refine ⟨hq.1, ?_⟩
  rintro _ rfl
  refine ⟨⟨hp, hq⟩, ?_⟩
  rintro _ rfl
  refine ⟨hp.1, ?_⟩
  rintro _ rfl
  refine ⟨hq.1, ?_⟩
  rintro _ rfl
  refine ⟨⟨hp, hq⟩, ?_⟩
  rintro _ rfl
  refine ⟨fun c => c = false, ?_, ?_⟩
  · rintro _ rfl
    refine ⟨fun hc => by simp at hc, fun _ => ?_⟩
    rintro _ rfl
    simp
  · rintro _ rfl
    refine ⟨fun hc => by simp at hc, fun _ => ⟨hp.1, ?_⟩⟩
    rintro _ rfl
    refine ⟨hp.1, ?_⟩
    rintro _ rfl
    refine ⟨fun _ => ⟨hq.1, ?_⟩, fun hc => by simp [eqP] at hc⟩
    rintro _ rfl
    refine ⟨hq.1, ?_⟩
    rintro _ rfl
    exact ⟨fun _ => trivial, fun hc => by simp [eqP] at hc⟩
end Go.Ab.Vg

/- Walks by program for YthoblfcjmhppiaaDoorAbCo. -/
namespace Go.Ab.Vg
open Go.Proofs
set_option linter.unusedSimpArgs false
set_option linter.unusedVariables false
theorem e76 : Ent Tryd.prog 76 := Ent.of Tryd.func76 (by kernel_rfl) rfl
theorem kids_walk (p : Proc) (parent : Int) (Z : (List Int) → Prop) (h : kids_wp p parent Z) : OwnS Tryd.prog 76 [.agg [.list false (p.map AmbNode.cells)], int parent] (.s [.c]) (fun r => ∃ y : List Int, Z y ∧ r = .list true (y.map intC)) := by
  unfold kids_wp at h
  have sp : Sep noHeap 0 [] [] := Sep.nil (by simp)
  refine OwnS.of Tryd.func76 rfl Tryd.ntmps76 (by simp) fun Q hQ => ?_
  refine Runs.cut (fun ρ H n => ρ 0 = .agg [.list false (p.map AmbNode.cells)] ∧ ρ 1 = int parent ∧ Sep H n [] []) (by refine ⟨?_, ?_, sp⟩ <;> simp [AmbNode.cells, intC, strC]) ?_
  rintro ρ H n1 ⟨h0, h1, sp⟩
  refine Runs.seqE Ty_ok (by decide) fun k' hk' => ?_
  simp [h0, h1, AmbNode.cells, intC, strC]
  refine hk' _ _ _ ?_
  refine Runs.cut (fun ρ H n => ρ 1 = int parent ∧ ρ 2 = .ptr (n1, 2) 1 0 0 ∧ H (n1, 2) = some ⟨1, [[.list false (p.map AmbNode.cells)]]⟩ ∧ Sep H n [] [(n1, 2)]) (by refine ⟨?_, ?_, ?_, (Sep.var sp)⟩ <;> simp [h0, h1, AmbNode.cells, intC, strC]) ?_
  clear h0 h1
  rintro ρ H n3 ⟨h1, h2, m2_1, sp⟩
  refine Runs.seqE Ty_ok (by decide) fun k' hk' => ?_
  simp [h1, h2, m2_1, AmbNode.cells, intC, strC]
  refine hk' _ _ _ ?_
  refine Runs.cut (fun ρ H n => ∃ (v5 : AVal), ρ 1 = int parent ∧ ρ 2 = .ptr (n1, 2) 1 0 0 ∧ ρ 5 = v5 ∧ H (n1, 2) = some ⟨1, [[.list false (p.map AmbNode.cells)]]⟩ ∧ Sep H n [(.s [.c], v5, .list true (([] : List Int).map intC))] [(n1, 2)]) (by refine ⟨.arr (n3, 8) 0 0 0, ?_, ?_, ?_, ?_, (Sep.addEmpty (l := [.c]) sp)⟩ <;> simp [h1, h2, m2_1, AmbNode.cells, intC, strC]) ?_
  clear h1 h2 m2_1
  rintro ρ H n6 ⟨v5, h1, h2, h5, m2_1, sp⟩
  refine Runs.seq ?_
  refine Runs.seqE Ty_ok (by decide) fun k' hk' => ?_
  obtain ⟨len7, elen7⟩ : ∃ v : Int, v = (p.length : Int) := ⟨_, rfl⟩
  replace h := h len7 elen7
  have f8 := fun H => len_list (H := H) (fr := false) (f := AmbNode.cells) kd_29 elen7
  simp [h1, h2, h5, m2_1, f8, AmbNode.cells, intC, strC, -lenF]
  refine hk' _ _ _ ?_
  refine Runs.block ?_
  refine Runs.loopW h (fun (s : Int × (List Int)) ρ H n => match s with | (v16, l17) => ∃ (v18 : AVal), ρ 1 = int parent ∧ ρ 5 = v18 ∧ ρ 10 = .list false (p.map AmbNode.cells) ∧ ρ 11 = int len7 ∧ ρ 12 = int v16 ∧ Sep H n [(.s [.c], v18, .list true (l17.map intC))] []) (by refine ⟨v5, ?_, ?_, ?_, ?_, ?_, (Sep.sub sp (by simp +contextual))⟩ <;> simp [h1, h2, h5, m2_1, AmbNode.cells, intC, strC]) ?_
  clear h1 h2 h5 m2_1
  rintro ⟨v16, l17⟩ ρ H n19 K h ⟨v18, h1, h5, h10, h11, h12, sp⟩ IH20
  refine Runs.seqE Ty_ok (by decide) fun k' hk' => ?_
  obtain ⟨c22, ec22⟩ : ∃ v : Bool, v = decide (v16 < len7) := ⟨_, rfl⟩
  replace h := h c22 ec22
  have f23 := ib_lss (k := .i64) ec22
  simp [h1, h5, h10, h11, h12, f23, AmbNode.cells, intC, strC, -intBin]
  refine hk' _ _ _ ?_
  refine Runs.seq ?_
  refine Runs.ite (b := c22) (by simp [h1, h5, h10, h11, h12, AmbNode.cells, intC, strC]) (fun dc22 => ?_) (fun dc22 => ?_)
  · replace h := h.1 dc22
    refine Runs.skip ?_
    refine Runs.seq ?_
    refine Runs.block ?_
    refine Runs.seqE Ty_ok (by decide) fun k' hk' => ?_
    obtain ⟨hb24, h⟩ := h
    obtain ⟨x25, ex25⟩ : ∃ v : AmbNode, v = at' p v16 := ⟨_, rfl⟩
    replace h := h x25 ex25
    have f26 := fun H => ix_list (H := H) (fr := false) (f := AmbNode.cells) (k := .i64) kd_29 (fun _ => rfl) hb24 ex25
    simp [h1, h5, h10, h11, h12, f26, dc22, AmbNode.cells, intC, strC, -indexAddrF]
    refine hk' _ _ _ ?_
    refine Runs.cut (fun ρ H n => ∃ (v28 : AVal), ρ 1 = int parent ∧ ρ 5 = v28 ∧ ρ 6 = int v16 ∧ ρ 7 = .ptr (n19, 7) 1 0 0 ∧ ρ 10 = .list false (p.map AmbNode.cells) ∧ ρ 11 = int len7 ∧ ρ 12 = int v16 ∧ H (n19, 7) = some ⟨3, [[int x25.kind, str x25.name, int x25.parent]]⟩ ∧ Sep H n [(.s [.c], v28, .list true (l17.map intC))] [(n19, 7)]) (by refine ⟨v18, ?_, ?_, ?_, ?_, ?_, ?_, ?_, ?_, (Sep.var sp)⟩ <;> simp [h1, h5, h10, h11, h12, f26, dc22, AmbNode.cells, intC, strC, -indexAddrF]) ?_
    clear h1 h5 h10 h11 h12
    rintro ρ H n29 ⟨v28, h1, h5, h6, h7, h10, h11, h12, m7_26, sp⟩
    refine Runs.seqE Ty_ok (by decide) fun k' hk' => ?_
    obtain ⟨c30, ec30⟩ : ∃ v : Bool, v = decide (x25.parent = parent) := ⟨_, rfl⟩
    replace h := h c30 ec30
    have f31 := ib_eql (k := .i64) ec30
    simp [h1, h5, h6, h7, h10, h11, h12, m7_26, f31, dc22, AmbNode.cells, intC, strC, -intBin]
    refine hk' _ _ _ ?_
    refine Runs.ite (b := c30) (by simp [h1, h5, h6, h7, h10, h11, h12, m7_26, dc22, AmbNode.cells, intC, strC]) (fun dc30 => ?_) (fun dc30 => ?_)
    · replace h := h.1 dc30
      refine Runs.evalE Ty_ok (by decide) fun k' hk' => ?_
      obtain ⟨hb32, h⟩ := h
      obtain ⟨l33, el33⟩ : ∃ v : List Int, v = l17 ++ [v16] := ⟨_, rfl⟩
      replace h := h l33 el33
      simp [h1, h5, h6, h7, h10, h11, h12, m7_26, dc22, dc30, AmbNode.cells, intC, strC, -appendF]
      refine bind_append [] [] [[int v16]] [intC v16] sp kd_23 (by simp) (by simp) (by simp [AmbNode.cells, intC, strC]) (by simp [-one1, o1_int, o1_bool, o1_str, o1_nil, o1_list, o1_arr, o1_ptr]) (rows_one (Fill.v _ Fill.nil)) (by simp) (by simpa using hb32) ?_
      rintro v34 H35 n36 sp hfr37 hle38
      replace sp : Sep H35 n36 [(.s [.c], v34, .list true (l33.map intC))] [(n19, 7)] := by rw [el33, List.map_append]; exact sp
      have m7_26 : H35 (n19, 7) = some ⟨3, [[int x25.kind, str x25.name, int x25.parent]]⟩ := (hfr37 _ (by simp)).trans (by simp [h1, h5, h6, h7, h10, h11, h12, m7_26, Heap.get_set])
      simp [h1, h5, h6, h7, h10, h11, h12, m7_26, dc22, dc30, AmbNode.cells, intC, strC]
      refine hk' _ _ _ ?_
      refine Runs.cut (fun ρ H n => ∃ (v40 : AVal), ρ 1 = int parent ∧ ρ 5 = v40 ∧ ρ 10 = .list false (p.map AmbNode.cells) ∧ ρ 11 = int len7 ∧ ρ 12 = int v16 ∧ Sep H n [(.s [.c], v40, .list true (l33.map intC))] []) (by refine ⟨v34, ?_, ?_, ?_, ?_, ?_, (Sep.sub sp (by simp +contextual))⟩ <;> simp [h1, h5, h6, h7, h10, h11, h12, m7_26, dc22, dc30, AmbNode.cells, intC, strC]) ?_
      clear h1 h5 h6 h7 h10 h11 h12 m7_26
      rintro ρ H n41 ⟨v40, h1, h5, h10, h11, h12, sp⟩
      refine Runs.inBlock ?_
      refine Runs.evalE Ty_ok (by decide) fun k' hk' => ?_
      obtain ⟨hb42, h⟩ := h
      obtain ⟨v43, ev43⟩ : ∃ v : Int, v = v16 + 1 := ⟨_, rfl⟩
      replace h := h v43 ev43
      have f44 := ib_add hb42 ev43
      simp [h1, h5, h10, h11, h12, f44, dc22, dc30, AmbNode.cells, intC, strC, -intBin]
      refine hk' _ _ _ ?_
      refine IH20 (v43, l33) _ _ _ h (by refine ⟨v40, ?_, ?_, ?_, ?_, ?_, sp⟩ <;> simp [h1, h5, h10, h11, h12, dc22, dc30, AmbNode.cells, intC, strC])
    · replace h := h.2 dc30
      refine Runs.skip ?_
      refine Runs.inBlock ?_
      refine Runs.evalE Ty_ok (by decide) fun k' hk' => ?_
      obtain ⟨hb45, h⟩ := h
      obtain ⟨v46, ev46⟩ : ∃ v : Int, v = v16 + 1 := ⟨_, rfl⟩
      replace h := h v46 ev46
      have f47 := ib_add hb45 ev46
      simp [h1, h5, h6, h7, h10, h11, h12, m7_26, f47, dc22, dc30, AmbNode.cells, intC, strC, -intBin]
      refine hk' _ _ _ ?_
      refine IH20 (v46, l17) _ _ _ h (by refine ⟨v28, ?_, ?_, ?_, ?_, ?_, (Sep.sub sp (by simp +contextual))⟩ <;> simp [h1, h5, h6, h7, h10, h11, h12, m7_26, dc22, dc30, AmbNode.cells, intC, strC])
  · replace h := h.2 dc22
    refine Runs.exit rfl ?_
    refine Runs.seqE Ty_ok (by decide) fun k' hk' => ?_
    simp [h1, h5, h10, h11, h12, dc22, AmbNode.cells, intC, strC]
    refine hk' _ _ _ ?_
    exact Runs.ret1 (v := v18) Tryd.func76 Tryd.results76 (by simp [h1, h5, h10, h11, h12, dc22, AmbNode.cells, intC, strC]) (hQ _ _ _ _ (Sep.sub (ids' := []) sp (by simp)) ⟨l17, h, rfl⟩)

theorem kids_ok (p : Proc) (parent : Int) (hp : kids_pre p parent) : OwnS Tryd.prog 76 [.agg [.list false (p.map AmbNode.cells)], int parent] (.s [.c]) (fun r => r = .list true ((kids p parent).map intC)) := (kids_walk p parent _ (kids_vc p parent hp)).mono (by rintro _ ⟨_, rfl, rfl⟩; rfl)

theorem e78 : Ent Tryd.prog 78 := Ent.of Tryd.func78 (by kernel_rfl) rfl

theorem sortStr_ok (l : List Str) (h : l.length ≤ 1073741824) : MutS Tryd.prog 78 (fun v => [v]) (.s [.c]) (.list true (l.map strC)) (fun e r => e = .list true ((sortT l).1.map strC) ∧ r = .tup []) := MutS.sort (by omega) (fun blk off cap w hH hb => Tryd.slices_Sort_string blk off cap l w hH hb (by omega)) (fun w => (Tryd.slices_Sort_string_none none 0 w).mono (by rintro e w' ⟨h1, h2⟩; exact ⟨h1, h2 ▸ Go.RowKit.Below.refl _ _⟩))

theorem e51 : Ent Tryd.prog 51 := Ent.of Tryd.func51 (by kernel_rfl) rfl
theorem sortedIn_walk (p : Proc) (parent : Int) (Z : Str → Prop) (ih : ∀ pr parentr, sortedIn_pre pr parentr → sortedIn_ms pr parentr < sortedIn_ms p parent → PureC Tryd.prog 51 [.agg [.list false (pr.map AmbNode.cells)], int parentr] (fun r => r = str (sortedIn pr parentr))) (h : sortedIn_wp p parent Z) : PureC Tryd.prog 51 [.agg [.list false (p.map AmbNode.cells)], int parent] (fun r => ∃ y : Str, Z y ∧ r = str y) := by
  unfold sortedIn_wp at h
  have sp : Sep noHeap 0 [] [] := Sep.nil (by simp)
  refine PureC.of Tryd.func51 rfl Tryd.ntmps51 (by simp) fun Q hQ => ?_
  refine Runs.cut (fun ρ H n => ρ 0 = .agg [.list false (p.map AmbNode.cells)] ∧ ρ 1 = int parent ∧ Sep H n [] []) (by refine ⟨?_, ?_, sp⟩ <;> simp [AmbNode.cells, intC, strC]) ?_
  rintro ρ H n1 ⟨h0, h1, sp⟩
  refine Runs.seqE Ty_ok (by decide) fun k' hk' => ?_
  simp [h0, h1, AmbNode.cells, intC, strC]
  refine hk' _ _ _ ?_
  refine Runs.cut (fun ρ H n => ρ 1 = int parent ∧ ρ 2 = .ptr (n1, 2) 1 0 0 ∧ H (n1, 2) = some ⟨1, [[.list false (p.map AmbNode.cells)]]⟩ ∧ Sep H n [] [(n1, 2)]) (by refine ⟨?_, ?_, ?_, (Sep.var sp)⟩ <;> simp [h0, h1, AmbNode.cells, intC, strC]) ?_
  clear h0 h1
  rintro ρ H n3 ⟨h1, h2, m2_1, sp⟩
  refine Runs.seqE Ty_ok (by decide) fun k' hk' => ?_
  simp [h1, h2, m2_1, AmbNode.cells, intC, strC]
  refine hk' _ _ _ ?_
  refine Runs.cut (fun ρ H n => ∃ (v5 : AVal), ρ 1 = int parent ∧ ρ 2 = .ptr (n1, 2) 1 0 0 ∧ ρ 5 = v5 ∧ H (n1, 2) = some ⟨1, [[.list false (p.map AmbNode.cells)]]⟩ ∧ Sep H n [(.s [.c], v5, .list true (([] : List Str).map strC))] [(n1, 2)]) (by refine ⟨.arr (n3, 8) 0 0 0, ?_, ?_, ?_, ?_, (Sep.addEmpty (l := [.c]) sp)⟩ <;> simp [h1, h2, m2_1, AmbNode.cells, intC, strC]) ?_
  clear h1 h2 m2_1
  rintro ρ H n6 ⟨v5, h1, h2, h5, m2_1, sp⟩
  refine Runs.seq ?_
  refine Runs.seqE Ty_ok (by decide) fun k' hk' => ?_
  obtain ⟨hb7, h⟩ := h
  obtain ⟨r8, er8⟩ : ∃ v : List Int, v = kids p parent := ⟨_, rfl⟩
  replace h := h r8 er8
  simp [h1, h2, h5, m2_1, AmbNode.cells, intC, strC]
  refine RunK.callW Ty_ok (kids_ok p parent hb7) e76 (.cons (ArgOk.agg (.cons (ArgOk.listF (fr := false) (els := p.map AmbNode.cells) (by simp [AmbNode.cells, intC, strC, intC])) .nil)) (.cons (.v _ _ _) .nil)) sp (by decide) (by decide) rfl (by simp [h1, h2, h5, m2_1, AmbNode.cells, intC, strC]) ?_
  rintro v9 H10 n11 _ sp rfl hle13 hfr12
  rw [← er8] at sp
  have m2_1 : H10 (n1, 2) = some ⟨1, [[.list false (p.map AmbNode.cells)]]⟩ := (hfr12 _ (by simp)).trans (by simp [h1, h2, h5, m2_1, Heap.get_set])
  obtain ⟨len16, elen16⟩ : ∃ v : Int, v = (r8.length : Int) := ⟨_, rfl⟩
  replace h := h len16 elen16
  have f17 := len_own (Sep.len (m := len16) sp kd_23 (by rw [elen16, List.length_map]))
  simp [h1, h2, h5, m2_1, f17, AmbNode.cells, intC, strC, -lenF]
  refine hk' _ _ _ ?_
  refine Runs.cut (fun ρ H n => ∃ (v18 : AVal) (v19 : AVal), ρ 2 = .ptr (n1, 2) 1 0 0 ∧ ρ 5 = v19 ∧ ρ 11 = v18 ∧ ρ 12 = int len16 ∧ ρ 13 = int 0 ∧ H (n1, 2) = some ⟨1, [[.list false (p.map AmbNode.cells)]]⟩ ∧ Sep H n [(.s [.c], v18, .list true (r8.map intC)), (.s [.c], v19, .list true (([] : List Str).map strC))] [(n1, 2)]) (by refine ⟨v9, v5, ?_, ?_, ?_, ?_, ?_, ?_, (Sep.front (K1 := [(.s [.c], v5, .list true (([] : List Str).map strC))]) (K2 := []) (Sep.front (K1 := [(.s [.c], v9, .list true (r8.map intC))]) (K2 := []) sp))⟩ <;> simp [h1, h2, h5, m2_1, f17, AmbNode.cells, intC, strC, -lenF]) ?_
  clear h1 h2 h5 m2_1
  rintro ρ H n20 ⟨v18, v19, h2, h5, h11, h12, h13, m2_1, sp⟩
  refine Runs.block ?_
  refine Runs.loopW h (fun (s : Int × (List Str)) ρ H n => match s with | (v30, l31) => ∃ (v32 : AVal) (v33 : AVal), ρ 2 = .ptr (n1, 2) 1 0 0 ∧ ρ 5 = v33 ∧ ρ 11 = v32 ∧ ρ 12 = int len16 ∧ ρ 13 = int v30 ∧ H (n1, 2) = some ⟨1, [[.list false (p.map AmbNode.cells)]]⟩ ∧ Sep H n [(.s [.c], v32, .list true (r8.map intC)), (.s [.c], v33, .list true (l31.map strC))] [(n1, 2)]) (by refine ⟨v18, v19, ?_, ?_, ?_, ?_, ?_, ?_, (Sep.front (K1 := [(.s [.c], v19, .list true (([] : List Str).map strC))]) (K2 := []) (Sep.front (K1 := [(.s [.c], v18, .list true (r8.map intC))]) (K2 := []) sp))⟩ <;> simp [h2, h5, h11, h12, h13, m2_1, AmbNode.cells, intC, strC]) ?_
  clear h2 h5 h11 h12 h13 m2_1
  rintro ⟨v30, l31⟩ ρ H n34 K h ⟨v32, v33, h2, h5, h11, h12, h13, m2_1, sp⟩ IH35
  refine Runs.seqE Ty_ok (by decide) fun k' hk' => ?_
  obtain ⟨c37, ec37⟩ : ∃ v : Bool, v = decide (v30 < len16) := ⟨_, rfl⟩
  replace h := h c37 ec37
  have f38 := ib_lss (k := .i64) ec37
  simp [h2, h5, h11, h12, h13, m2_1, f38, AmbNode.cells, intC, strC, -intBin]
  refine hk' _ _ _ ?_
  refine Runs.seq ?_
  refine Runs.ite (b := c37) (by simp [h2, h5, h11, h12, h13, m2_1, AmbNode.cells, intC, strC]) (fun dc37 => ?_) (fun dc37 => ?_)
  · replace h := h.1 dc37
    refine Runs.skip ?_
    refine Runs.seq ?_
    refine Runs.block ?_
    refine Runs.seqE Ty_ok (by decide) fun k' hk' => ?_
    obtain ⟨hb39, h⟩ := h
    obtain ⟨id40, hv, mo41, ln42, ni43⟩ := Sep.openF sp (by simp) hb39
    subst hv
    simp at ni43
    obtain ⟨x44, ex44⟩ : ∃ v : Int, v = at' r8 v30 := ⟨_, rfl⟩
    replace h := h x44 ex44
    have f45 := fun H (hm : H id40 = some ⟨1, r8.map intC⟩) => ix_arr (H := H) (k := .i64) (off := 0) (len := r8.length) (g := r8.length) kd_23 hm (by simp) rfl hb39
    have f46 := at_some (q := v30.toNat) hb39 ex44 rfl
    simp [h2, h5, h11, h12, h13, m2_1, mo41, ni43, f45, f46, dc37, AmbNode.cells, intC, strC, -indexAddrF]
    refine hk' _ _ _ ?_
    refine Runs.evalDE Ty_ok kindOp_ok draws (by decide) (by kernel_rfl) fun k' hk' => ?_
    obtain ⟨hb47, h⟩ := h
    obtain ⟨x48, ex48⟩ : ∃ v : AmbNode, v = at' p x44 := ⟨_, rfl⟩
    replace h := h x48 ex48
    have f49 := fun H => ix_list (H := H) (fr := false) (f := AmbNode.cells) (k := .i64) kd_29 (fun _ => rfl) hb47 ex48
    obtain ⟨hb50, h⟩ := h
    obtain ⟨r51, er51⟩ : ∃ v : Str, v = sortedIn p x44 := ⟨_, rfl⟩
    replace h := h r51 er51
    simp [h2, h5, h11, h12, h13, m2_1, mo41, ni43, f49, dc37, AmbNode.cells, intC, strC, -indexAddrF]
    refine RunDK.callA Ty_ok kindOp_ok (ih p x44 hb50.1 hb50.2) e51 (.cons (ArgOk.agg (.cons (ArgOk.listF (fr := false) (els := p.map AmbNode.cells) (by simp [AmbNode.cells, intC, strC, intC])) .nil)) (.cons (.v _ _ _) .nil)) (by decide) rfl (by simp [h2, h5, h11, h12, h13, m2_1, mo41, ni43, f49, dc37, AmbNode.cells, intC, strC, -indexAddrF]) ?_
    rw [← er51]
    obtain ⟨hb52, h⟩ := h
    obtain ⟨r53, er53⟩ : ∃ v : Str, v = nodeText x48 r51 := ⟨_, rfl⟩
    replace h := h r53 er53
    simp [h2, h5, h11, h12, h13, m2_1, mo41, ni43, f49, dc37, AmbNode.cells, intC, strC, -indexAddrF]
    refine RunDK.callA Ty_ok kindOp_ok (nodeText_ok x48 r51 hb52.1 hb52.2.1 hb52.2.2) e77 (.cons (ArgOk.agg (.cons (.v _ _ _) (.cons (.v _ _ _) (.cons (.v _ _ _) .nil)))) (.cons (.v _ _ _) .nil)) (by decide) rfl (by simp [h2, h5, h11, h12, h13, m2_1, mo41, ni43, f49, dc37, AmbNode.cells, intC, strC, -indexAddrF]) ?_
    rw [← er53]
    obtain ⟨hb54, h⟩ := h
    obtain ⟨l55, el55⟩ : ∃ v : List Str, v = l31 ++ [r53] := ⟨_, rfl⟩
    replace h := h l55 el55
    simp [h2, h5, h11, h12, h13, m2_1, mo41, ni43, f49, dc37, AmbNode.cells, intC, strC, -indexAddrF, -appendF]
    refine bindD_append [] [(.s [.c], .arr id40 r8.length 0 r8.length, .list true (r8.map intC))] [[str r53]] [strC r53] (Sep.front (K1 := [(.s [.c], .arr id40 r8.length 0 r8.length, .list true (r8.map intC))]) (K2 := []) sp) kd_24 (by simp) (by simp) (by simp [AmbNode.cells, intC, strC]) (by simp [-one1, o1_int, o1_bool, o1_str, o1_nil, o1_list, o1_arr, o1_ptr]) (rows_one (Fill.v _ Fill.nil)) (by simp) (by simpa using hb54) ?_
    rintro v56 H57 n58 sp hfr59 hle60
    replace sp : Sep H57 n58 [(.s [.c], v56, .list true (l55.map strC)), (.s [.c], .arr id40 r8.length 0 r8.length, .list true (r8.map intC))] [(n1, 2)] := by rw [el55, List.map_append]; exact sp
    have m2_1 : H57 (n1, 2) = some ⟨1, [[.list false (p.map AmbNode.cells)]]⟩ := (hfr59 _ (by simp)).trans (by simp [h2, h5, h11, h12, h13, m2_1, mo41, ni43, Heap.get_set])
    simp [h2, h5, h11, h12, h13, m2_1, ni43, f49, dc37, AmbNode.cells, intC, strC, -indexAddrF]
    refine hk' _ _ _ ?_
    refine Runs.cut (fun ρ H n => ∃ (v62 : AVal) (v63 : AVal), ρ 2 = .ptr (n1, 2) 1 0 0 ∧ ρ 5 = v62 ∧ ρ 11 = v63 ∧ ρ 12 = int len16 ∧ ρ 13 = int v30 ∧ H (n1, 2) = some ⟨1, [[.list false (p.map AmbNode.cells)]]⟩ ∧ Sep H n [(.s [.c], v62, .list true (l55.map strC)), (.s [.c], v63, .list true (r8.map intC))] [(n1, 2)]) (by refine ⟨v56, .arr id40 r8.length 0 r8.length, ?_, ?_, ?_, ?_, ?_, ?_, (Sep.front (K1 := [(.s [.c], .arr id40 r8.length 0 r8.length, .list true (r8.map intC))]) (K2 := []) (Sep.front (K1 := [(.s [.c], v56, .list true (l55.map strC))]) (K2 := []) sp))⟩ <;> simp [h2, h5, h11, h12, h13, m2_1, ni43, f49, dc37, AmbNode.cells, intC, strC, -indexAddrF]) ?_
    clear h2 h5 h11 h12 h13 m2_1 ni43
    rintro ρ H n64 ⟨v62, v63, h2, h5, h11, h12, h13, m2_1, sp⟩
    refine Runs.inBlock ?_
    refine Runs.evalE Ty_ok (by decide) fun k' hk' => ?_
    obtain ⟨hb65, h⟩ := h
    obtain ⟨v66, ev66⟩ : ∃ v : Int, v = v30 + 1 := ⟨_, rfl⟩
    replace h := h v66 ev66
    have f67 := ib_add hb65 ev66
    simp [h2, h5, h11, h12, h13, m2_1, f67, dc37, AmbNode.cells, intC, strC, -intBin]
    refine hk' _ _ _ ?_
    refine IH35 (v66, l55) _ _ _ h (by refine ⟨v63, v62, ?_, ?_, ?_, ?_, ?_, ?_, (Sep.front (K1 := [(.s [.c], v62, .list true (l55.map strC))]) (K2 := []) sp)⟩ <;> simp [h2, h5, h11, h12, h13, m2_1, dc37, AmbNode.cells, intC, strC])
  · replace h := h.2 dc37
    refine Runs.exit rfl ?_
    refine Runs.seqE Ty_ok (by decide) fun k' hk' => ?_
    obtain ⟨hb68, h⟩ := h
    obtain ⟨r69, er69⟩ : ∃ v : (List Str) × Unit, v = sortT l31 := ⟨_, rfl⟩
    replace h := h r69 er69
    have f70 := cell_own (Sep.cells (Sep.front (K1 := [(.s [.c], v32, .list true (r8.map intC))]) (K2 := []) sp))
    have f71 := cell_own (Sep.one1 (Sep.front (K1 := [(.s [.c], v32, .list true (r8.map intC))]) (K2 := []) sp))
    simp [h2, h5, h11, h12, h13, m2_1, f70, f71, dc37, AmbNode.cells, intC, strC, -cellsA, -one1, cA_int, cA_bool, cA_str, cA_nil, cA_agg, cA_list, cA_arr, cA_ptr, o1_int, o1_bool, o1_str, o1_nil, o1_list, o1_arr, o1_ptr]
    refine RunK.callM (v := v33) Ty_ok (sortStr_ok l31 hb68) e78 (Sep.front (K1 := [(.s [.c], v32, .list true (r8.map intC))]) (K2 := []) sp) (by decide) (by decide) rfl (by simp [h2, h5, h11, h12, h13, m2_1, f70, f71, dc37, AmbNode.cells, intC, strC, -cellsA, -one1, cA_int, cA_bool, cA_str, cA_nil, cA_agg, cA_list, cA_arr, cA_ptr, o1_int, o1_bool, o1_str, o1_nil, o1_list, o1_arr, o1_ptr]) ?_
    rintro _ H72 n73 _ ⟨rfl, rfl⟩ sp hle75 hfr74
    rw [← er69] at sp
    replace sp : Sep H72 n73 [(.s [.c], v33, .list true (r69.1.map strC)), (.s [.c], v32, .list true (r8.map intC))] [(n1, 2)] := sp
    have m2_1 : H72 (n1, 2) = some ⟨1, [[.list false (p.map AmbNode.cells)]]⟩ := (hfr74 _ (by simp)).trans (by simp [h2, h5, h11, h12, h13, m2_1, Heap.get_set])
    simp [h2, h5, h11, h12, h13, m2_1, f70, f71, dc37, AmbNode.cells, intC, strC, -cellsA, -one1, cA_int, cA_bool, cA_str, cA_nil, cA_agg, cA_list, cA_arr, cA_ptr, o1_int, o1_bool, o1_str, o1_nil, o1_list, o1_arr, o1_ptr]
    refine hk' _ _ _ ?_
    refine Runs.cut (fun ρ H n => ∃ (v77 : AVal), ρ 5 = v77 ∧ Sep H n [(.s [.c], v77, .list true (r69.1.map strC))] []) (by refine ⟨v33, ?_, (Sep.sub (Sep.right (K1 := [(.s [.c], v32, .list true (r8.map intC))]) (K2 := [(.s [.c], v33, .list true (r69.1.map strC))]) (Sep.front (K1 := [(.s [.c], v33, .list true (r69.1.map strC))]) (K2 := []) sp)) (by simp +contextual))⟩ <;> simp [h2, h5, h11, h12, h13, m2_1, f70, f71, dc37, AmbNode.cells, intC, strC, -cellsA, -one1, cA_int, cA_bool, cA_str, cA_nil, cA_agg, cA_list, cA_arr, cA_ptr, o1_int, o1_bool, o1_str, o1_nil, o1_list, o1_arr, o1_ptr]) ?_
    clear h2 h5 h11 h12 h13 m2_1
    rintro ρ H n78 ⟨v77, h5, sp⟩
    refine Runs.seqE Ty_ok (by decide) fun k' hk' => ?_
    obtain ⟨hb79, h⟩ := h
    obtain ⟨r80, er80⟩ : ∃ v : Str, v = joinTexts r69.1 := ⟨_, rfl⟩
    replace h := h r80 er80
    simp [h5, dc37, AmbNode.cells, intC, strC]
    refine RunK.callA Ty_ok (joinTexts_ok r69.1 hb79.1 hb79.2) e79 (.cons (Sep.argOk' sp (old_listF (by simp [strC]))) .nil) (by decide) (by decide) rfl (by simp [h5, dc37, AmbNode.cells, intC, strC]) ?_
    rintro _ rfl
    rw [← er80]
    simp [h5, dc37, AmbNode.cells, intC, strC]
    refine hk' _ _ _ ?_
    exact Runs.ret1 (v := str r80) Tryd.func51 Tryd.results51 (by simp [h5, dc37, AmbNode.cells, intC, strC]) (hQ _ _ _ _ (.of (.v _)) ⟨r80, h, rfl⟩)

theorem sortedIn_okm (m : Nat) : ∀ (p : Proc) (parent : Int), sortedIn_ms p parent = m → sortedIn_pre p parent → PureC Tryd.prog 51 [.agg [.list false (p.map AmbNode.cells)], int parent] (fun r => r = str (sortedIn p parent)) := by
  induction m using Nat.strongRecOn with
  | _ m ih =>
    rintro p parent rfl hp
    exact (sortedIn_walk p parent _ (fun pr parentr hp' hl => ih _ hl pr parentr rfl hp') (sortedIn_vc p parent hp)).mono (by rintro _ ⟨_, rfl, rfl⟩; rfl)
theorem sortedIn_ok (p : Proc) (parent : Int) (hp : sortedIn_pre p parent) : PureC Tryd.prog 51 [.agg [.list false (p.map AmbNode.cells)], int parent] (fun r => r = str (sortedIn p parent)) := sortedIn_okm _ p parent rfl hp

theorem e100 : Ent Tryd.prog 100 := Ent.of Tryd.func100 (by kernel_rfl) rfl
theorem l12Kids_walk (p : Proc) (parent : Int) (Z : (List Int) → Prop) (h : l12Kids_wp p parent Z) : OwnS Tryd.prog 100 [.agg [.list false (p.map AmbNode.cells)], int parent] (.s [.c]) (fun r => ∃ y : List Int, Z y ∧ r = .list true (y.map intC)) := by
  unfold l12Kids_wp at h
  have sp : Sep noHeap 0 [] [] := Sep.nil (by simp)
  refine OwnS.of Tryd.func100 rfl Tryd.ntmps100 (by simp) fun Q hQ => ?_
  refine Runs.cut (fun ρ H n => ρ 0 = .agg [.list false (p.map AmbNode.cells)] ∧ ρ 1 = int parent ∧ Sep H n [] []) (by refine ⟨?_, ?_, sp⟩ <;> simp [AmbNode.cells, intC, strC]) ?_
  rintro ρ H n1 ⟨h0, h1, sp⟩
  refine Runs.seqE Ty_ok (by decide) fun k' hk' => ?_
  simp [h0, h1, AmbNode.cells, intC, strC]
  refine hk' _ _ _ ?_
  refine Runs.cut (fun ρ H n => ρ 1 = int parent ∧ ρ 2 = .ptr (n1, 2) 1 0 0 ∧ H (n1, 2) = some ⟨1, [[.list false (p.map AmbNode.cells)]]⟩ ∧ Sep H n [] [(n1, 2)]) (by refine ⟨?_, ?_, ?_, (Sep.var sp)⟩ <;> simp [h0, h1, AmbNode.cells, intC, strC]) ?_
  clear h0 h1
  rintro ρ H n3 ⟨h1, h2, m2_1, sp⟩
  refine Runs.seqE Ty_ok (by decide) fun k' hk' => ?_
  simp [h1, h2, m2_1, AmbNode.cells, intC, strC]
  refine hk' _ _ _ ?_
  refine Runs.cut (fun ρ H n => ∃ (v5 : AVal), ρ 1 = int parent ∧ ρ 2 = .ptr (n1, 2) 1 0 0 ∧ ρ 5 = v5 ∧ H (n1, 2) = some ⟨1, [[.list false (p.map AmbNode.cells)]]⟩ ∧ Sep H n [(.s [.c], v5, .list true (([] : List Int).map intC))] [(n1, 2)]) (by refine ⟨.arr (n3, 7) 0 0 0, ?_, ?_, ?_, ?_, (Sep.addEmpty (l := [.c]) sp)⟩ <;> simp [h1, h2, m2_1, AmbNode.cells, intC, strC]) ?_
  clear h1 h2 m2_1
  rintro ρ H n6 ⟨v5, h1, h2, h5, m2_1, sp⟩
  refine Runs.seq ?_
  refine Runs.seqE Ty_ok (by decide) fun k' hk' => ?_
  simp [h1, h2, h5, m2_1, AmbNode.cells, intC, strC]
  refine hk' _ _ _ ?_
  refine Runs.block ?_
  refine Runs.loopW h (fun (s : Int × (List Int)) ρ H n => match s with | (i14, l15) => ∃ (v16 : AVal), ρ 1 = int parent ∧ ρ 2 = .ptr (n1, 2) 1 0 0 ∧ ρ 5 = v16 ∧ ρ 6 = int i14 ∧ H (n1, 2) = some ⟨1, [[.list false (p.map AmbNode.cells)]]⟩ ∧ Sep H n [(.s [.c], v16, .list true (l15.map intC))] [(n1, 2)]) (by refine ⟨v5, ?_, ?_, ?_, ?_, ?_, sp⟩ <;> simp [h1, h2, h5, m2_1, AmbNode.cells, intC, strC]) ?_
  clear h1 h2 h5 m2_1
  rintro ⟨i14, l15⟩ ρ H n17 K h ⟨v16, h1, h2, h5, h6, m2_1, sp⟩ IH18
  refine Runs.seq ?_
  refine Runs.seqE Ty_ok (by decide) fun k' hk' => ?_
  obtain ⟨len20, elen20⟩ : ∃ v : Int, v = (p.length : Int) := ⟨_, rfl⟩
  replace h := h len20 elen20
  have f21 := fun H => len_list (H := H) (fr := false) (f := AmbNode.cells) kd_29 elen20
  obtain ⟨c22, ec22⟩ : ∃ v : Bool, v = decide (i14 < len20) := ⟨_, rfl⟩
  replace h := h c22 ec22
  have f23 := ib_lss (k := .i64) ec22
  simp [h1, h2, h5, h6, m2_1, f21, f23, AmbNode.cells, intC, strC, -intBin, -lenF]
  refine hk' _ _ _ ?_
  refine Runs.ite (b := c22) (by simp [h1, h2, h5, h6, m2_1, AmbNode.cells, intC, strC]) (fun dc22 => ?_) (fun dc22 => ?_)
  · replace h := h.1 dc22
    refine Runs.skip ?_
    refine Runs.seq ?_
    refine Runs.block ?_
    refine Runs.seqE Ty_ok (by decide) fun k' hk' => ?_
    obtain ⟨hb24, h⟩ := h
    obtain ⟨x25, ex25⟩ : ∃ v : AmbNode, v = at' p i14 := ⟨_, rfl⟩
    replace h := h x25 ex25
    have f26 := fun H => ix_list (H := H) (fr := false) (f := AmbNode.cells) (k := .i64) kd_29 (fun _ => rfl) hb24 ex25
    obtain ⟨c27, ec27⟩ : ∃ v : Bool, v = decide (x25.parent = parent) := ⟨_, rfl⟩
    replace h := h c27 ec27
    have f28 := ib_eql (k := .i64) ec27
    simp [h1, h2, h5, h6, m2_1, f26, f28, dc22, AmbNode.cells, intC, strC, -indexAddrF, -intBin]
    refine hk' _ _ _ ?_
    refine Runs.ite (b := c27) (by simp [h1, h2, h5, h6, m2_1, dc22, AmbNode.cells, intC, strC]) (fun dc27 => ?_) (fun dc27 => ?_)
    · replace h := h.1 dc27
      refine Runs.evalE Ty_ok (by decide) fun k' hk' => ?_
      obtain ⟨hb29, h⟩ := h
      obtain ⟨l30, el30⟩ : ∃ v : List Int, v = l15 ++ [i14] := ⟨_, rfl⟩
      replace h := h l30 el30
      simp [h1, h2, h5, h6, m2_1, dc22, dc27, AmbNode.cells, intC, strC, -appendF]
      refine bind_append [] [] [[int i14]] [intC i14] sp kd_23 (by simp) (by simp) (by simp [AmbNode.cells, intC, strC]) (by simp [-one1, o1_int, o1_bool, o1_str, o1_nil, o1_list, o1_arr, o1_ptr]) (rows_one (Fill.v _ Fill.nil)) (by simp) (by simpa using hb29) ?_
      rintro v31 H32 n33 sp hfr34 hle35
      replace sp : Sep H32 n33 [(.s [.c], v31, .list true (l30.map intC))] [(n1, 2)] := by rw [el30, List.map_append]; exact sp
      have m2_1 : H32 (n1, 2) = some ⟨1, [[.list false (p.map AmbNode.cells)]]⟩ := (hfr34 _ (by simp)).trans (by simp [h1, h2, h5, h6, m2_1, Heap.get_set])
      simp [h1, h2, h5, h6, m2_1, dc22, dc27, AmbNode.cells, intC, strC]
      refine hk' _ _ _ ?_
      refine Runs.cut (fun ρ H n => ∃ (v37 : AVal), ρ 1 = int parent ∧ ρ 2 = .ptr (n1, 2) 1 0 0 ∧ ρ 5 = v37 ∧ ρ 6 = int i14 ∧ H (n1, 2) = some ⟨1, [[.list false (p.map AmbNode.cells)]]⟩ ∧ Sep H n [(.s [.c], v37, .list true (l30.map intC))] [(n1, 2)]) (by refine ⟨v31, ?_, ?_, ?_, ?_, ?_, sp⟩ <;> simp [h1, h2, h5, h6, m2_1, dc22, dc27, AmbNode.cells, intC, strC]) ?_
      clear h1 h2 h5 h6 m2_1
      rintro ρ H n38 ⟨v37, h1, h2, h5, h6, m2_1, sp⟩
      refine Runs.inBlock ?_
      refine Runs.evalE Ty_ok (by decide) fun k' hk' => ?_
      obtain ⟨hb39, h⟩ := h
      obtain ⟨v40, ev40⟩ : ∃ v : Int, v = i14 + 1 := ⟨_, rfl⟩
      replace h := h v40 ev40
      have f41 := ib_add hb39 ev40
      simp [h1, h2, h5, h6, m2_1, f41, dc22, dc27, AmbNode.cells, intC, strC, -intBin]
      refine hk' _ _ _ ?_
      refine IH18 (v40, l30) _ _ _ h (by refine ⟨v37, ?_, ?_, ?_, ?_, ?_, sp⟩ <;> simp [h1, h2, h5, h6, m2_1, dc22, dc27, AmbNode.cells, intC, strC])
    · replace h := h.2 dc27
      refine Runs.skip ?_
      refine Runs.inBlock ?_
      refine Runs.evalE Ty_ok (by decide) fun k' hk' => ?_
      obtain ⟨hb42, h⟩ := h
      obtain ⟨v43, ev43⟩ : ∃ v : Int, v = i14 + 1 := ⟨_, rfl⟩
      replace h := h v43 ev43
      have f44 := ib_add hb42 ev43
      simp [h1, h2, h5, h6, m2_1, f44, dc22, dc27, AmbNode.cells, intC, strC, -intBin]
      refine hk' _ _ _ ?_
      refine Runs.cut (fun ρ H n => ∃ (v45 : AVal), ρ 1 = int parent ∧ ρ 2 = .ptr (n1, 2) 1 0 0 ∧ ρ 5 = v45 ∧ ρ 6 = int v43 ∧ H (n1, 2) = some ⟨1, [[.list false (p.map AmbNode.cells)]]⟩ ∧ Sep H n [(.s [.c], v45, .list true (l15.map intC))] [(n1, 2)]) (by refine ⟨v16, ?_, ?_, ?_, ?_, ?_, sp⟩ <;> simp [h1, h2, h5, h6, m2_1, f44, dc22, dc27, AmbNode.cells, intC, strC, -intBin]) ?_
      clear h1 h2 h5 h6 m2_1
      rintro ρ H n46 ⟨v45, h1, h2, h5, h6, m2_1, sp⟩
      refine IH18 (v43, l15) _ _ _ h (by refine ⟨v45, ?_, ?_, ?_, ?_, ?_, sp⟩ <;> simp [h1, h2, h5, h6, m2_1, dc22, dc27, AmbNode.cells, intC, strC])
  · replace h := h.2 dc22
    refine Runs.exit rfl ?_
    refine Runs.seqE Ty_ok (by decide) fun k' hk' => ?_
    simp [h1, h2, h5, h6, m2_1, dc22, AmbNode.cells, intC, strC]
    refine hk' _ _ _ ?_
    exact Runs.ret1 (v := v16) Tryd.func100 Tryd.results100 (by simp [h1, h2, h5, h6, m2_1, dc22, AmbNode.cells, intC, strC]) (hQ _ _ _ _ (Sep.sub (ids' := []) sp (by simp)) ⟨l15, h, rfl⟩)

theorem l12Kids_ok (p : Proc) (parent : Int) (hp : l12Kids_pre p parent) : OwnS Tryd.prog 100 [.agg [.list false (p.map AmbNode.cells)], int parent] (.s [.c]) (fun r => r = .list true ((l12Kids p parent).map intC)) := (l12Kids_walk p parent _ (l12Kids_vc p parent hp)).mono (by rintro _ ⟨_, rfl, rfl⟩; rfl)

theorem e18 : Ent Tryd.prog 18 := Ent.of Tryd.func18 (by kernel_rfl) rfl
theorem AreCongruent_walk (p : Proc) (q : Proc) (Z : (Bool × Bool) → Prop) (h : AreCongruent_wp p q Z) : PureC Tryd.prog 18 [.agg [.list false (p.map AmbNode.cells)], .agg [.list false (q.map AmbNode.cells)]] (fun r => ∃ y : Bool × Bool, Z y ∧ r = .tup [bool y.1, bool y.2]) := by
  unfold AreCongruent_wp at h
  refine PureC.of Tryd.func18 rfl Tryd.ntmps18 (by simp) fun Q hQ => ?_
  refine Runs.cut (fun ρ H n => ρ 0 = .agg [.list false (p.map AmbNode.cells)] ∧ ρ 1 = .agg [.list false (q.map AmbNode.cells)]) (by refine ⟨?_, ?_⟩ <;> simp [AmbNode.cells, intC, strC]) ?_
  rintro ρ H n1 ⟨h0, h1⟩
  refine Runs.seqE Ty_ok (by decide) fun k' hk' => ?_
  simp [h0, h1, AmbNode.cells, intC, strC]
  refine hk' _ _ _ ?_
  refine Runs.cut (fun ρ H n => ρ 2 = .ptr (n1, 2) 1 0 0 ∧ ρ 3 = .ptr (n1 + 1, 3) 1 0 0 ∧ H (n1, 2) = some ⟨1, [[.list false (p.map AmbNode.cells)]]⟩ ∧ H (n1 + 1, 3) = some ⟨1, [[.list false (q.map AmbNode.cells)]]⟩) (by refine ⟨?_, ?_, ?_, ?_⟩ <;> simp [h0, h1, AmbNode.cells, intC, strC]) ?_
  clear h0 h1
  rintro ρ H n4 ⟨h2, h3, m2_1, m3_2⟩
  refine Runs.seq ?_
  refine Runs.seqE Ty_ok (by decide) fun k' hk' => ?_
  obtain ⟨J5, hJ6, hr7⟩ := h
  have fin9 : ∀ (s : Bool) (ρ : Env) (H : Heap) (n : Nat), J5 s → (match s with | b8 => ρ 2 = .ptr (n1, 2) 1 0 0 ∧ ρ 3 = .ptr (n1 + 1, 3) 1 0 0 ∧ ρ 13 = bool b8 ∧ H (n1, 2) = some ⟨1, [[.list false (p.map AmbNode.cells)]]⟩ ∧ H (n1 + 1, 3) = some ⟨1, [[.list false (q.map AmbNode.cells)]]⟩) → Runs Tryd.prog 18 19 k' ρ H n Q := by
    rintro b8 ρ H n10 h ⟨h2, h3, h13, m2_1, m3_2⟩
    replace h := hr7 _ h
    refine hk' _ _ _ ?_
    refine Runs.ite (b := b8) (by simp [h2, h3, h13, m2_1, m3_2, AmbNode.cells, intC, strC]) (fun db8 => ?_) (fun db8 => ?_)
    · replace h := h.1 db8
      refine Runs.seqE Ty_ok (by decide) fun k' hk' => ?_
      simp [h2, h3, h13, m2_1, m3_2, db8, AmbNode.cells, intC, strC]
      refine hk' _ _ _ ?_
      exact Runs.ret2 (v := bool false) (w := bool false) Tryd.func18 Tryd.results18 (by simp [h2, h3, h13, m2_1, m3_2, db8, AmbNode.cells, intC, strC]) (by simp [h2, h3, h13, m2_1, m3_2, db8, AmbNode.cells, intC, strC]) (hQ _ _ _ _ (.of (.tupL (.cons (.v _) (.cons (.v _) .nil)))) ⟨(false, false), h, rfl⟩)
    · replace h := h.2 db8
      refine Runs.skip ?_
      refine Runs.seqD Ty_ok kindOp_ok draws (by decide) (by kernel_rfl) fun k' hk' => ?_
      obtain ⟨hb11, h⟩ := h
      obtain ⟨r12, er12⟩ : ∃ v : Str, v = sortedIn p (-1) := ⟨_, rfl⟩
      replace h := h r12 er12
      simp [h2, h3, h13, m2_1, m3_2, db8, AmbNode.cells, intC, strC]
      refine RunDK.callA Ty_ok kindOp_ok (sortedIn_ok p (-1) hb11) e51 (.cons (ArgOk.agg (.cons (ArgOk.listF (fr := false) (els := p.map AmbNode.cells) (by simp [AmbNode.cells, intC, strC, intC])) .nil)) (.cons (.v _ _ _) .nil)) (by decide) rfl (by simp [h2, h3, h13, m2_1, m3_2, db8, AmbNode.cells, intC, strC]) ?_
      rw [← er12]
      obtain ⟨hb13, h⟩ := h
      obtain ⟨r14, er14⟩ : ∃ v : Str, v = sortedIn q (-1) := ⟨_, rfl⟩
      replace h := h r14 er14
      simp [h2, h3, h13, m2_1, m3_2, db8, AmbNode.cells, intC, strC]
      refine RunDK.callA Ty_ok kindOp_ok (sortedIn_ok q (-1) hb13) e51 (.cons (ArgOk.agg (.cons (ArgOk.listF (fr := false) (els := q.map AmbNode.cells) (by simp [AmbNode.cells, intC, strC, intC])) .nil)) (.cons (.v _ _ _) .nil)) (by decide) rfl (by simp [h2, h3, h13, m2_1, m3_2, db8, AmbNode.cells, intC, strC]) ?_
      rw [← er14]
      obtain ⟨c15, ec15⟩ : ∃ v : Bool, v = decide (r12 = r14) := ⟨_, rfl⟩
      replace h := h c15 ec15
      have f16 := sb_eql ec15
      simp [h2, h3, h13, m2_1, m3_2, f16, db8, AmbNode.cells, intC, strC, -strBin]
      refine hk' _ _ _ ?_
      exact Runs.ret2 (v := bool c15) (w := bool true) Tryd.func18 Tryd.results18 (by simp [h2, h3, h13, m2_1, m3_2, db8, AmbNode.cells, intC, strC]) (by simp [h2, h3, h13, m2_1, m3_2, db8, AmbNode.cells, intC, strC]) (hQ _ _ _ _ (.of (.tupL (.cons (.v _) (.cons (.v _) .nil)))) ⟨(c15, true), h, rfl⟩)
  replace h := hJ6
  obtain ⟨hb17, h⟩ := h
  obtain ⟨r18, er18⟩ : ∃ v : Bool, v = goodP p := ⟨_, rfl⟩
  replace h := h r18 er18
  simp [h2, h3, m2_1, m3_2, AmbNode.cells, intC, strC]
  refine RunK.callA Ty_ok (IsProcess_ok p hb17.1 hb17.2) e50 (.cons (ArgOk.agg (.cons (ArgOk.listF (fr := false) (els := p.map AmbNode.cells) (by simp [AmbNode.cells, intC, strC, intC])) .nil)) .nil) (by decide) (by decide) rfl (by simp [h2, h3, m2_1, m3_2, AmbNode.cells, intC, strC]) ?_
  rintro _ rfl
  rw [← er18]
  rcases Bool.eq_false_or_eq_true r18 with dr18 | dr18
  · replace h := h.1 dr18
    obtain ⟨hb19, h⟩ := h
    obtain ⟨r20, er20⟩ : ∃ v : Bool, v = goodP q := ⟨_, rfl⟩
    replace h := h r20 er20
    simp [h2, h3, m2_1, m3_2, dr18, AmbNode.cells, intC, strC]
    refine RunK.callA Ty_ok (IsProcess_ok q hb19.1 hb19.2) e50 (.cons (ArgOk.agg (.cons (ArgOk.listF (fr := false) (els := q.map AmbNode.cells) (by simp [AmbNode.cells, intC, strC, intC])) .nil)) .nil) (by decide) (by decide) rfl (by simp [h2, h3, m2_1, m3_2, dr18, AmbNode.cells, intC, strC]) ?_
    rintro _ rfl
    rw [← er20]
    simp [h2, h3, m2_1, m3_2, dr18, AmbNode.cells, intC, strC]
    exact fin9 ((!r20)) _ _ _ h (by refine ⟨?_, ?_, ?_, ?_, ?_⟩ <;> simp [h2, h3, m2_1, m3_2, dr18, AmbNode.cells, intC, strC])
  · replace h := h.2 dr18
    simp [h2, h3, m2_1, m3_2, dr18, AmbNode.cells, intC, strC]
    exact fin9 (true) _ _ _ h (by refine ⟨?_, ?_, ?_, ?_, ?_⟩ <;> simp [h2, h3, m2_1, m3_2, dr18, AmbNode.cells, intC, strC])

theorem AreCongruent_ok (p : Proc) (q : Proc) (hp : AreCongruent_pre p q) : PureC Tryd.prog 18 [.agg [.list false (p.map AmbNode.cells)], .agg [.list false (q.map AmbNode.cells)]] (fun r => r = .tup [bool ((AreCongruent p q).1), bool ((AreCongruent p q).2)]) := (AreCongruent_walk p q _ (AreCongruent_vc p q hp)).mono (by rintro _ ⟨_, rfl, rfl⟩; rfl)
end Go.Ab.Vg

/- Walks by program for YthoblfcjmhppiaaDoorAbCp. -/
namespace Go.Ab.Vg
open Go.Proofs
set_option maxRecDepth 100000
set_option linter.unusedSimpArgs false
set_option linter.unusedVariables false
theorem e48 : Ent Tryd.prog 48 := Ent.of Tryd.func48 (by kernel_rfl) rfl

theorem e72 : Ent Tryd.prog 72 := Ent.of Tryd.func72 (by kernel_rfl) rfl
theorem l12Sorted_walk (p : Proc) (parent : Int) (Z : (List Str) → Prop) (h : l12Sorted_wp p parent Z) : OwnS Tryd.prog 72 [.agg [.list false (p.map AmbNode.cells)], int parent] (.s [.c]) (fun r => ∃ y : List Str, Z y ∧ r = .list true (y.map strC)) := by
  unfold l12Sorted_wp at h
  have sp : Sep noHeap 0 [] [] := Sep.nil (by simp)
  refine OwnS.of Tryd.func72 rfl Tryd.ntmps72 (by simp) fun Q hQ => ?_
  refine Runs.cut (fun ρ H n => ρ 0 = .agg [.list false (p.map AmbNode.cells)] ∧ ρ 1 = int parent ∧ Sep H n [] []) (by refine ⟨?_, ?_, sp⟩ <;> simp [AmbNode.cells, intC, strC]) ?_
  rintro ρ H n1 ⟨h0, h1, sp⟩
  refine Runs.seqE Ty_ok (by decide) fun k' hk' => ?_
  simp [h0, h1, AmbNode.cells, intC, strC]
  refine hk' _ _ _ ?_
  refine Runs.cut (fun ρ H n => ρ 1 = int parent ∧ ρ 2 = .ptr (n1, 2) 1 0 0 ∧ H (n1, 2) = some ⟨1, [[.list false (p.map AmbNode.cells)]]⟩ ∧ Sep H n [] [(n1, 2)]) (by refine ⟨?_, ?_, ?_, (Sep.var sp)⟩ <;> simp [h0, h1, AmbNode.cells, intC, strC]) ?_
  clear h0 h1
  rintro ρ H n3 ⟨h1, h2, m2_1, sp⟩
  refine Runs.seqE Ty_ok (by decide) fun k' hk' => ?_
  obtain ⟨hb4, h⟩ := h
  obtain ⟨r5, er5⟩ : ∃ v : List Int, v = l12Kids p parent := ⟨_, rfl⟩
  replace h := h r5 er5
  simp [h1, h2, m2_1, AmbNode.cells, intC, strC]
  refine RunK.callW Ty_ok (l12Kids_ok p parent hb4) e100 (.cons (ArgOk.agg (.cons (ArgOk.listF (fr := false) (els := p.map AmbNode.cells) (by simp [AmbNode.cells, intC, strC, intC])) .nil)) (.cons (.v _ _ _) .nil)) sp (by decide) (by decide) rfl (by simp [h1, h2, m2_1, AmbNode.cells, intC, strC]) ?_
  rintro v6 H7 n8 _ sp rfl hle10 hfr9
  rw [← er5] at sp
  have m2_1 : H7 (n1, 2) = some ⟨1, [[.list false (p.map AmbNode.cells)]]⟩ := (hfr9 _ (by simp)).trans (by simp [h1, h2, m2_1, Heap.get_set])
  simp [h1, h2, m2_1, AmbNode.cells, intC, strC]
  refine hk' _ _ _ ?_
  refine Runs.cut (fun ρ H n => ∃ (v14 : AVal) (v15 : AVal), ρ 2 = .ptr (n1, 2) 1 0 0 ∧ ρ 5 = v15 ∧ ρ 6 = v14 ∧ H (n1, 2) = some ⟨1, [[.list false (p.map AmbNode.cells)]]⟩ ∧ Sep H n [(.s [.c], v14, .list true (([] : List Str).map strC)), (.s [.c], v15, .list true (r5.map intC))] [(n1, 2)]) (by refine ⟨.arr (n8, 13) 0 0 0, v6, ?_, ?_, ?_, ?_, (Sep.front (K1 := [(.s [.c], v6, .list true (r5.map intC))]) (K2 := []) (Sep.front (K1 := [(.s [.c], .arr (n8, 13) 0 0 0, .list true (([] : List Str).map strC))]) (K2 := []) (Sep.addEmpty (l := [.c]) sp)))⟩ <;> simp [h1, h2, m2_1, AmbNode.cells, intC, strC]) ?_
  clear h1 h2 m2_1
  rintro ρ H n16 ⟨v14, v15, h2, h5, h6, m2_1, sp⟩
  refine Runs.seq ?_
  refine Runs.seqE Ty_ok (by decide) fun k' hk' => ?_
  simp [h2, h5, h6, m2_1, AmbNode.cells, intC, strC]
  refine hk' _ _ _ ?_
  refine Runs.block ?_
  refine Runs.loopW h (fun (s : Int × (List Str)) ρ H n => match s with | (i26, l27) => ∃ (v28 : AVal) (v29 : AVal), ρ 2 = .ptr (n1, 2) 1 0 0 ∧ ρ 5 = v29 ∧ ρ 6 = v28 ∧ ρ 7 = int i26 ∧ H (n1, 2) = some ⟨1, [[.list false (p.map AmbNode.cells)]]⟩ ∧ Sep H n [(.s [.c], v28, .list true (l27.map strC)), (.s [.c], v29, .list true (r5.map intC))] [(n1, 2)]) (by refine ⟨v14, v15, ?_, ?_, ?_, ?_, ?_, (Sep.front (K1 := [(.s [.c], v15, .list true (r5.map intC))]) (K2 := []) (Sep.front (K1 := [(.s [.c], v14, .list true (([] : List Str).map strC))]) (K2 := []) sp))⟩ <;> simp [h2, h5, h6, m2_1, AmbNode.cells, intC, strC]) ?_
  clear h2 h5 h6 m2_1
  rintro ⟨i26, l27⟩ ρ H n30 K h ⟨v28, v29, h2, h5, h6, h7, m2_1, sp⟩ IH31
  refine Runs.seq ?_
  refine Runs.seqE Ty_ok (by decide) fun k' hk' => ?_
  obtain ⟨len33, elen33⟩ : ∃ v : Int, v = (r5.length : Int) := ⟨_, rfl⟩
  replace h := h len33 elen33
  have f34 := len_own (Sep.len (m := len33) (Sep.front (K1 := [(.s [.c], v28, .list true (l27.map strC))]) (K2 := []) sp) kd_23 (by rw [elen33, List.length_map]))
  obtain ⟨c35, ec35⟩ : ∃ v : Bool, v = decide (i26 < len33) := ⟨_, rfl⟩
  replace h := h c35 ec35
  have f36 := ib_lss (k := .i64) ec35
  simp [h2, h5, h6, h7, m2_1, f34, f36, AmbNode.cells, intC, strC, -intBin, -lenF]
  refine hk' _ _ _ ?_
  refine Runs.ite (b := c35) (by simp [h2, h5, h6, h7, m2_1, AmbNode.cells, intC, strC]) (fun dc35 => ?_) (fun dc35 => ?_)
  · replace h := h.1 dc35
    refine Runs.skip ?_
    refine Runs.seq ?_
    refine Runs.block ?_
    refine Runs.seqD Ty_ok kindOp_ok draws (by decide) (by kernel_rfl) fun k' hk' => ?_
    obtain ⟨hb37, h⟩ := h
    obtain ⟨id38, hv, mo39, ln40, ni41⟩ := Sep.openF (Sep.front (K1 := [(.s [.c], v28, .list true (l27.map strC))]) (K2 := []) sp) (by simp) hb37
    subst hv
    simp at ni41
    obtain ⟨x42, ex42⟩ : ∃ v : Int, v = at' r5 i26 := ⟨_, rfl⟩
    replace h := h x42 ex42
    have f43 := fun H (hm : H id38 = some ⟨1, r5.map intC⟩) => ix_arr (H := H) (k := .i64) (off := 0) (len := r5.length) (g := r5.length) kd_23 hm (by simp) rfl hb37
    have f44 := at_some (q := i26.toNat) hb37 ex42 rfl
    obtain ⟨hb45, h⟩ := h
    obtain ⟨x46, ex46⟩ : ∃ v : AmbNode, v = at' p x42 := ⟨_, rfl⟩
    replace h := h x46 ex46
    have f47 := fun H => ix_list (H := H) (fr := false) (f := AmbNode.cells) (k := .i64) kd_29 (fun _ => rfl) hb45 ex46
    obtain ⟨hb48, h⟩ := h
    obtain ⟨x49, ex49⟩ : ∃ v : Int, v = at' r5 i26 := ⟨_, rfl⟩
    replace h := h x49 ex49
    have hq50 := ex42.trans ex49.symm
    subst hq50
    have f51 := fun H (hm : H id38 = some ⟨1, r5.map intC⟩) => ix_arr (H := H) (k := .i64) (off := 0) (len := r5.length) (g := r5.length) kd_23 hm (by simp) rfl hb48
    have f52 := at_some (q := i26.toNat) hb48 ex42 rfl
    obtain ⟨hb53, h⟩ := h
    obtain ⟨r54, er54⟩ : ∃ v : Str, v = l12Best p x42 := ⟨_, rfl⟩
    replace h := h r54 er54
    simp [h2, h5, h6, h7, m2_1, mo39, ni41, f43, f44, f47, f51, f52, dc35, AmbNode.cells, intC, strC, -indexAddrF]
    refine RunDK.callA Ty_ok kindOp_ok (hb53) e48 (.cons (ArgOk.agg (.cons (ArgOk.listF (fr := false) (els := p.map AmbNode.cells) (by simp [AmbNode.cells, intC, strC, intC])) .nil)) (.cons (.v _ _ _) .nil)) (by decide) rfl (by simp [h2, h5, h6, h7, m2_1, mo39, ni41, f43, f44, f47, f51, f52, dc35, AmbNode.cells, intC, strC, -indexAddrF]) ?_
    rw [← er54]
    obtain ⟨hb55, h⟩ := h
    obtain ⟨r56, er56⟩ : ∃ v : Str, v = nodeText x46 r54 := ⟨_, rfl⟩
    replace h := h r56 er56
    simp [h2, h5, h6, h7, m2_1, mo39, ni41, f43, f44, f47, f51, f52, dc35, AmbNode.cells, intC, strC, -indexAddrF]
    refine RunDK.callA Ty_ok kindOp_ok (l12Around_ok x46 r54 hb55.1 hb55.2.1 hb55.2.2) e101 (.cons (ArgOk.agg (.cons (.v _ _ _) (.cons (.v _ _ _) (.cons (.v _ _ _) .nil)))) (.cons (.v _ _ _) .nil)) (by decide) rfl (by simp [h2, h5, h6, h7, m2_1, mo39, ni41, f43, f44, f47, f51, f52, dc35, AmbNode.cells, intC, strC, -indexAddrF]) ?_
    rw [← er56]
    simp [h2, h5, h6, h7, m2_1, mo39, ni41, f43, f44, f47, f51, f52, dc35, AmbNode.cells, intC, strC, -indexAddrF]
    refine hk' _ _ _ ?_
    refine Runs.cut (fun ρ H n => ∃ (v57 : AVal) (v58 : AVal), ρ 2 = .ptr (n1, 2) 1 0 0 ∧ ρ 5 = v58 ∧ ρ 6 = v57 ∧ ρ 7 = int i26 ∧ ρ 8 = str r56 ∧ ρ 9 = int 0 ∧ H (n1, 2) = some ⟨1, [[.list false (p.map AmbNode.cells)]]⟩ ∧ Sep H n [(.s [.c], v57, .list true (l27.map strC)), (.s [.c], v58, .list true (r5.map intC))] [(n1, 2)]) (by refine ⟨v28, .arr id38 r5.length 0 r5.length, ?_, ?_, ?_, ?_, ?_, ?_, ?_, (Sep.front (K1 := [(.s [.c], .arr id38 r5.length 0 r5.length, .list true (r5.map intC))]) (K2 := []) (Sep.front (K1 := [(.s [.c], v28, .list true (l27.map strC))]) (K2 := []) sp))⟩ <;> simp [h2, h5, h6, h7, m2_1, mo39, ni41, f43, f44, f47, f51, f52, dc35, AmbNode.cells, intC, strC, -indexAddrF]) ?_
    clear h2 h5 h6 h7 m2_1 mo39 ni41
    rintro ρ H n59 ⟨v57, v58, h2, h5, h6, h7, h8, h9, m2_1, sp⟩
    refine Runs.seq ?_
    refine Runs.block ?_
    refine Runs.loopW h (fun (s : Int) ρ H n => match s with | k64 => ∃ (v65 : AVal) (v66 : AVal), ρ 2 = .ptr (n1, 2) 1 0 0 ∧ ρ 5 = v66 ∧ ρ 6 = v65 ∧ ρ 7 = int i26 ∧ ρ 8 = str r56 ∧ ρ 9 = int k64 ∧ H (n1, 2) = some ⟨1, [[.list false (p.map AmbNode.cells)]]⟩ ∧ Sep H n [(.s [.c], v65, .list true (l27.map strC)), (.s [.c], v66, .list true (r5.map intC))] [(n1, 2)]) (by refine ⟨v57, v58, ?_, ?_, ?_, ?_, ?_, ?_, ?_, (Sep.front (K1 := [(.s [.c], v58, .list true (r5.map intC))]) (K2 := []) (Sep.front (K1 := [(.s [.c], v57, .list true (l27.map strC))]) (K2 := []) sp))⟩ <;> simp [h2, h5, h6, h7, h8, h9, m2_1, dc35, AmbNode.cells, intC, strC]) ?_
    clear h2 h5 h6 h7 h8 h9 m2_1
    rintro k64 ρ H n67 K h ⟨v65, v66, h2, h5, h6, h7, h8, h9, m2_1, sp⟩ IH68
    refine Runs.seq ?_
    refine Runs.seqE Ty_ok (by decide) fun k' hk' => ?_
    obtain ⟨J70, hJ71, hr72⟩ := h
    have fin76 : ∀ (s : Bool) (ρ : Env) (H : Heap) (n : Nat), J70 s → (match s with | b73 => ∃ (v74 : AVal) (v75 : AVal), ρ 2 = .ptr (n1, 2) 1 0 0 ∧ ρ 5 = v75 ∧ ρ 6 = v74 ∧ ρ 7 = int i26 ∧ ρ 8 = str r56 ∧ ρ 9 = int k64 ∧ ρ 46 = bool b73 ∧ H (n1, 2) = some ⟨1, [[.list false (p.map AmbNode.cells)]]⟩ ∧ Sep H n [(.s [.c], v74, .list true (l27.map strC)), (.s [.c], v75, .list true (r5.map intC))] [(n1, 2)]) → Runs Tryd.prog 72 62 k' ρ H n Q := by
      rintro b73 ρ H n77 h ⟨v74, v75, h2, h5, h6, h7, h8, h9, h46, m2_1, sp⟩
      replace h := hr72 _ h
      refine hk' _ _ _ ?_
      refine Runs.ite (b := b73) (by simp [h2, h5, h6, h7, h8, h9, h46, m2_1, dc35, AmbNode.cells, intC, strC]) (fun db73 => ?_) (fun db73 => ?_)
      · replace h := h.1 db73
        refine Runs.skip ?_
        refine Runs.block ?_
        refine Runs.evalE Ty_ok (by decide) fun k' hk' => ?_
        obtain ⟨hb78, h⟩ := h
        obtain ⟨v79, ev79⟩ : ∃ v : Int, v = k64 + 1 := ⟨_, rfl⟩
        replace h := h v79 ev79
        have f80 := ib_add hb78 ev79
        simp [h2, h5, h6, h7, h8, h9, h46, m2_1, f80, dc35, db73, AmbNode.cells, intC, strC, -intBin]
        refine hk' _ _ _ ?_
        refine Runs.inBlock ?_
        refine IH68 (v79) _ _ _ h (by refine ⟨v74, v75, ?_, ?_, ?_, ?_, ?_, ?_, ?_, (Sep.front (K1 := [(.s [.c], v75, .list true (r5.map intC))]) (K2 := []) (Sep.front (K1 := [(.s [.c], v74, .list true (l27.map strC))]) (K2 := []) sp))⟩ <;> simp [h2, h5, h6, h7, h8, h9, h46, m2_1, dc35, db73, AmbNode.cells, intC, strC])
      · replace h := h.2 db73
        refine Runs.exit rfl ?_
        have hA81 := Sep.at sp (by simp)
        refine Runs.evalVE Ty_ok (watchOf v74) draws (by decide) (by kernel_rfl) fun k' hk' => ?_
        simp [h2, h5, h6, h7, h8, h9, h46, m2_1, dc35, db73, AmbNode.cells, intC, strC]
        have hA83 := (watch_set (d := 49) (o' := ⟨1, []⟩) hA81).1
        refine bindV_new (watch_set hA81).2 (by simp) ?_
        obtain ⟨hb84, h⟩ := h
        obtain ⟨l85, el85⟩ : ∃ v : List Str, v = (l27.take k64.toNat).drop 0 := ⟨_, rfl⟩
        replace h := h l85 el85
        simp [h2, h5, h6, h7, h8, h9, h46, m2_1, dc35, db73, AmbNode.cells, intC, strC, -sliceF]
        refine bindV_view (g := strC) (xs := l27) 0 k64 (fun _ h => h) (by simp [h2, h5, h6, h7, h8, h9, h46, m2_1, dc35, db73, AmbNode.cells, intC, strC]) (Sep.front (K1 := [(.s [.c], .arr (n77, 49) 0 0 0, .list true (([] : List Str).map strC))]) (K2 := [(.s [.c], v75, .list true (r5.map intC))]) (Sep.addEmpty (l := [.c]) sp)) (by simp) kd_24 (by simp) (by simp [boundOf]) (by simp [boundOf]) hb84 ?_
        rintro w86 hw87
        replace hw87 := hw87.trans (show _ = some (l85.map strC) by simp [el85])
        obtain ⟨hb88, h⟩ := h
        obtain ⟨l89, el89⟩ : ∃ v : List Str, v = ([] : List Str) ++ l85 := ⟨_, rfl⟩
        replace h := h l89 el89
        simp [h2, h5, h6, h7, h8, h9, h46, m2_1, dc35, db73, AmbNode.cells, intC, strC, -appendF]
        refine bindV_append0 (l85.map strC) (by simp) (Sep.addEmpty (l := [.c]) sp) (by simp) kd_24 (by simp) (by simp) hw87 (by simp [-one1, o1_int, o1_bool, o1_str, o1_nil, o1_list, o1_arr, o1_ptr, flat, AmbNode.cells, intC, strC]) (by simpa using hb88) ?_
        rintro v90 H91 n92 sp hfr93 hle94
        replace sp : Sep H91 n92 [(.s [.c], v90, .list true (l89.map strC)), (.s [.c], v74, .list true (l27.map strC)), (.s [.c], v75, .list true (r5.map intC))] [(n1, 2)] := by rw [el89, List.map_append]; exact sp
        have hA95 := Sep.at (Sep.front (K1 := [(.s [.c], v90, .list true (l89.map strC))]) (K2 := [(.s [.c], v75, .list true (r5.map intC))]) sp) (by simp)
        refine ⟨fun i hi => ((hA95 i hi).1).trans ((hA83 i hi).1).symm, ?_⟩
        have m2_1 : H91 (n1, 2) = some ⟨1, [[.list false (p.map AmbNode.cells)]]⟩ := (hfr93 _ (by simp)).trans (by simp [h2, h5, h6, h7, h8, h9, h46, m2_1, Heap.get_set])
        obtain ⟨hb97, h⟩ := h
        obtain ⟨l98, el98⟩ : ∃ v : List Str, v = l89 ++ [r56] := ⟨_, rfl⟩
        replace h := h l98 el98
        simp [h2, h5, h6, h7, h8, h9, h46, m2_1, dc35, db73, AmbNode.cells, intC, strC, -appendF]
        refine bindV_append [] [(.s [.c], v74, .list true (l27.map strC)), (.s [.c], v75, .list true (r5.map intC))] [[str r56]] [strC r56] (by simp) sp kd_24 (by simp) (by simp) (by simp [AmbNode.cells, intC, strC]) (by simp [-one1, o1_int, o1_bool, o1_str, o1_nil, o1_list, o1_arr, o1_ptr]) (rows_one (Fill.v _ Fill.nil)) (by simp) (by simpa using hb97) ?_
        rintro v99 H100 n101 sp hfr102 hle103
        replace sp : Sep H100 n101 [(.s [.c], v99, .list true (l98.map strC)), (.s [.c], v74, .list true (l27.map strC)), (.s [.c], v75, .list true (r5.map intC))] [(n1, 2)] := by rw [el98, List.map_append]; exact sp
        have hA104 := Sep.at (Sep.front (K1 := [(.s [.c], v99, .list true (l98.map strC))]) (K2 := [(.s [.c], v75, .list true (r5.map intC))]) sp) (by simp)
        refine ⟨fun i hi => ((hA104 i hi).1).trans ((hA95 i hi).1).symm, ?_⟩
        have m2_1 : H100 (n1, 2) = some ⟨1, [[.list false (p.map AmbNode.cells)]]⟩ := (hfr102 _ (by simp)).trans (by simp [h2, h5, h6, h7, h8, h9, h46, m2_1, Heap.get_set])
        obtain ⟨hb106, h⟩ := h
        obtain ⟨l107, el107⟩ : ∃ v : List Str, v = (l27.take (l27.length : Int).toNat).drop k64.toNat := ⟨_, rfl⟩
        replace h := h l107 el107
        simp [h2, h5, h6, h7, h8, h9, h46, m2_1, dc35, db73, AmbNode.cells, intC, strC, -sliceF]
        refine bindV_view (g := strC) (xs := l27) k64 (l27.length : Int) (fun _ h => h) (by simp [h2, h5, h6, h7, h8, h9, h46, m2_1, dc35, db73, AmbNode.cells, intC, strC]) (Sep.front (K1 := [(.s [.c], v99, .list true (l98.map strC))]) (K2 := [(.s [.c], v75, .list true (r5.map intC))]) sp) (by simp) kd_24 (by simp) (by simp [boundOf]) (by simp [boundOf]) hb106 ?_
        rintro w108 hw109
        replace hw109 := hw109.trans (show _ = some (l107.map strC) by simp [el107])
        obtain ⟨hb110, h⟩ := h
        obtain ⟨l111, el111⟩ : ∃ v : List Str, v = l98 ++ l107 := ⟨_, rfl⟩
        replace h := h l111 el111
        simp [h2, h5, h6, h7, h8, h9, h46, m2_1, dc35, db73, AmbNode.cells, intC, strC, -appendF]
        refine bindV_append0 (l107.map strC) (by simp) sp (by simp) kd_24 (by simp) (by simp) hw109 (by simp [-one1, o1_int, o1_bool, o1_str, o1_nil, o1_list, o1_arr, o1_ptr, flat, AmbNode.cells, intC, strC]) (by simpa using hb110) ?_
        rintro v112 H113 n114 sp hfr115 hle116
        replace sp : Sep H113 n114 [(.s [.c], v112, .list true (l111.map strC)), (.s [.c], v74, .list true (l27.map strC)), (.s [.c], v75, .list true (r5.map intC))] [(n1, 2)] := by rw [el111, List.map_append]; exact sp
        have hA117 := Sep.at (Sep.front (K1 := [(.s [.c], v112, .list true (l111.map strC))]) (K2 := [(.s [.c], v75, .list true (r5.map intC))]) sp) (by simp)
        refine ⟨fun i hi => ((hA117 i hi).1).trans ((hA104 i hi).1).symm, ?_⟩
        have m2_1 : H113 (n1, 2) = some ⟨1, [[.list false (p.map AmbNode.cells)]]⟩ := (hfr115 _ (by simp)).trans (by simp [h2, h5, h6, h7, h8, h9, h46, m2_1, Heap.get_set])
        simp [h2, h5, h6, h7, h8, h9, h46, m2_1, dc35, db73, AmbNode.cells, intC, strC]
        refine hk' _ _ _ ?_
        refine Runs.cut (fun ρ H n => ∃ (v119 : AVal) (v120 : AVal), ρ 2 = .ptr (n1, 2) 1 0 0 ∧ ρ 5 = v120 ∧ ρ 6 = v119 ∧ ρ 7 = int i26 ∧ H (n1, 2) = some ⟨1, [[.list false (p.map AmbNode.cells)]]⟩ ∧ Sep H n [(.s [.c], v119, .list true (l111.map strC)), (.s [.c], v120, .list true (r5.map intC))] [(n1, 2)]) (by refine ⟨v112, v75, ?_, ?_, ?_, ?_, ?_, (Sep.front (K1 := [(.s [.c], v75, .list true (r5.map intC))]) (K2 := []) (Sep.front (K1 := [(.s [.c], v112, .list true (l111.map strC))]) (K2 := []) (Sep.right (K1 := [(.s [.c], v74, .list true (l27.map strC))]) (K2 := [(.s [.c], v112, .list true (l111.map strC)), (.s [.c], v75, .list true (r5.map intC))]) (Sep.front (K1 := [(.s [.c], v112, .list true (l111.map strC))]) (K2 := [(.s [.c], v75, .list true (r5.map intC))]) sp))))⟩ <;> simp [h2, h5, h6, h7, h8, h9, h46, m2_1, dc35, db73, AmbNode.cells, intC, strC]) ?_
        clear h2 h5 h6 h7 h8 h9 h46 m2_1
        rintro ρ H n121 ⟨v119, v120, h2, h5, h6, h7, m2_1, sp⟩
        refine Runs.inBlock ?_
        refine Runs.evalE Ty_ok (by decide) fun k' hk' => ?_
        obtain ⟨hb122, h⟩ := h
        obtain ⟨v123, ev123⟩ : ∃ v : Int, v = i26 + 1 := ⟨_, rfl⟩
        replace h := h v123 ev123
        have f124 := ib_add hb122 ev123
        simp [h2, h5, h6, h7, m2_1, f124, dc35, db73, AmbNode.cells, intC, strC, -intBin]
        refine hk' _ _ _ ?_
        refine IH31 (v123, l111) _ _ _ h (by refine ⟨v119, v120, ?_, ?_, ?_, ?_, ?_, (Sep.front (K1 := [(.s [.c], v120, .list true (r5.map intC))]) (K2 := []) (Sep.front (K1 := [(.s [.c], v119, .list true (l111.map strC))]) (K2 := []) sp))⟩ <;> simp [h2, h5, h6, h7, m2_1, dc35, db73, AmbNode.cells, intC, strC])
    replace h := hJ71
    obtain ⟨len125, elen125⟩ : ∃ v : Int, v = (l27.length : Int) := ⟨_, rfl⟩
    replace h := h len125 elen125
    have f126 := len_own (Sep.len (m := len125) sp kd_24 (by rw [elen125, List.length_map]))
    obtain ⟨c127, ec127⟩ : ∃ v : Bool, v = decide (k64 < len125) := ⟨_, rfl⟩
    replace h := h c127 ec127
    have f128 := ib_lss (k := .i64) ec127
    rcases Bool.eq_false_or_eq_true c127 with dc127 | dc127
    · replace h := h.1 dc127
      obtain ⟨hb129, h⟩ := h
      obtain ⟨id130, hv, mo131, ln132, ni133⟩ := Sep.openF sp (by simp) hb129
      subst hv
      simp at ni133
      obtain ⟨x134, ex134⟩ : ∃ v : Str, v = at' l27 k64 := ⟨_, rfl⟩
      replace h := h x134 ex134
      have f135 := fun H (hm : H id130 = some ⟨1, l27.map strC⟩) => ix_arr (H := H) (k := .i64) (off := 0) (len := l27.length) (g := l27.length) kd_24 hm (by simp) rfl hb129
      have f136 := at_some (q := k64.toNat) hb129 ex134 rfl
      obtain ⟨c137, ec137⟩ : ∃ v : Bool, v = (Op.bytesLess x134 r56 || x134 == r56) := ⟨_, rfl⟩
      replace h := h c137 ec137
      have f138 := sb_leq ec137
      simp [h2, h5, h6, h7, h8, h9, m2_1, mo131, ni133, f126, f128, f135, f136, f138, dc35, dc127, AmbNode.cells, intC, strC, -indexAddrF, -intBin, -lenF, -strBin]
      exact fin76 (c137) _ _ _ h (by refine ⟨.arr id130 l27.length 0 l27.length, v66, ?_, ?_, ?_, ?_, ?_, ?_, ?_, ?_, (Sep.front (K1 := [(.s [.c], v66, .list true (r5.map intC))]) (K2 := []) (Sep.front (K1 := [(.s [.c], .arr id130 l27.length 0 l27.length, .list true (l27.map strC))]) (K2 := []) sp))⟩ <;> simp [h2, h5, h6, h7, h8, h9, m2_1, mo131, ni133, f126, f128, f135, f136, f138, dc35, dc127, AmbNode.cells, intC, strC, -indexAddrF, -intBin, -lenF, -strBin])
    · replace h := h.2 dc127
      simp [h2, h5, h6, h7, h8, h9, m2_1, f126, f128, dc35, dc127, AmbNode.cells, intC, strC, -intBin, -lenF]
      exact fin76 (false) _ _ _ h (by refine ⟨v65, v66, ?_, ?_, ?_, ?_, ?_, ?_, ?_, ?_, (Sep.front (K1 := [(.s [.c], v66, .list true (r5.map intC))]) (K2 := []) (Sep.front (K1 := [(.s [.c], v65, .list true (l27.map strC))]) (K2 := []) sp))⟩ <;> simp [h2, h5, h6, h7, h8, h9, m2_1, f126, f128, dc35, dc127, AmbNode.cells, intC, strC, -intBin, -lenF])
  · replace h := h.2 dc35
    refine Runs.exit rfl ?_
    refine Runs.seqE Ty_ok (by decide) fun k' hk' => ?_
    simp [h2, h5, h6, h7, m2_1, dc35, AmbNode.cells, intC, strC]
    refine hk' _ _ _ ?_
    exact Runs.ret1 (v := v28) Tryd.func72 Tryd.results72 (by simp [h2, h5, h6, h7, m2_1, dc35, AmbNode.cells, intC, strC]) (hQ _ _ _ _ (Sep.sub (ids' := []) (Sep.left (K1 := [(.s [.c], v28, .list true (l27.map strC))]) (K2 := [(.s [.c], v29, .list true (r5.map intC))]) sp) (by simp)) ⟨l27, h, rfl⟩)

theorem l12Sorted_ok (p : Proc) (parent : Int) (hp : l12Sorted_pre p parent) : OwnS Tryd.prog 72 [.agg [.list false (p.map AmbNode.cells)], int parent] (.s [.c]) (fun r => r = .list true ((l12Sorted p parent).map strC)) := (l12Sorted_walk p parent _ (l12Sorted_vc p parent hp)).mono (by rintro _ ⟨_, rfl, rfl⟩; rfl)

theorem l12Best_walk (p : Proc) (parent : Int) (Z : Str → Prop) (h : l12Best_wp p parent Z) : PureC Tryd.prog 48 [.agg [.list false (p.map AmbNode.cells)], int parent] (fun r => ∃ y : Str, Z y ∧ r = str y) := by
  unfold l12Best_wp at h
  refine PureC.of Tryd.func48 rfl Tryd.ntmps48 (by simp) fun Q hQ => ?_
  refine Runs.cut (fun ρ H n => ρ 0 = .agg [.list false (p.map AmbNode.cells)] ∧ ρ 1 = int parent) (by refine ⟨?_, ?_⟩ <;> simp [AmbNode.cells, intC, strC]) ?_
  rintro ρ H n1 ⟨h0, h1⟩
  refine Runs.seqE Ty_ok (by decide) fun k' hk' => ?_
  simp [h0, h1, AmbNode.cells, intC, strC]
  refine hk' _ _ _ ?_
  refine Runs.cut (fun ρ H n => ρ 1 = int parent ∧ ρ 2 = .ptr (n1, 2) 1 0 0 ∧ H (n1, 2) = some ⟨1, [[.list false (p.map AmbNode.cells)]]⟩) (by refine ⟨?_, ?_, ?_⟩ <;> simp [h0, h1, AmbNode.cells, intC, strC]) ?_
  clear h0 h1
  rintro ρ H n3 ⟨h1, h2, m2_1⟩
  refine Runs.seqE Ty_ok (by decide) fun k' hk' => ?_
  obtain ⟨hb4, h⟩ := h
  obtain ⟨r5, er5⟩ : ∃ v : List Str, v = l12Sorted p parent := ⟨_, rfl⟩
  replace h := h r5 er5
  simp [h1, h2, m2_1, AmbNode.cells, intC, strC]
  refine RunK.callA Ty_ok ((l12Sorted_ok p parent hb4).pure) e72 (.cons (ArgOk.agg (.cons (ArgOk.listF (fr := false) (els := p.map AmbNode.cells) (by simp [AmbNode.cells, intC, strC, intC])) .nil)) (.cons (.v _ _ _) .nil)) (by decide) (by decide) rfl (by simp [h1, h2, m2_1, AmbNode.cells, intC, strC]) ?_
  rintro _ rfl
  rw [← er5]
  simp [h1, h2, m2_1, AmbNode.cells, intC, strC]
  refine hk' _ _ _ ?_
  refine Runs.seq ?_
  refine Runs.seqE Ty_ok (by decide) fun k' hk' => ?_
  obtain ⟨len6, elen6⟩ : ∃ v : Int, v = (r5.length : Int) := ⟨_, rfl⟩
  replace h := h len6 elen6
  have f7 := fun H => len_list (H := H) (fr := true) (f := strC) kd_24 elen6
  obtain ⟨c8, ec8⟩ : ∃ v : Bool, v = decide (len6 = 0) := ⟨_, rfl⟩
  replace h := h c8 ec8
  have f9 := ib_eql (k := .i64) ec8
  simp [h1, h2, m2_1, f7, f9, AmbNode.cells, intC, strC, -intBin, -lenF]
  refine hk' _ _ _ ?_
  refine Runs.ite (b := c8) (by simp [h1, h2, m2_1, AmbNode.cells, intC, strC]) (fun dc8 => ?_) (fun dc8 => ?_)
  · replace h := h.1 dc8
    refine Runs.seqE Ty_ok (by decide) fun k' hk' => ?_
    simp [h1, h2, m2_1, dc8, AmbNode.cells, intC, strC]
    refine hk' _ _ _ ?_
    exact Runs.ret1 (v := str [48]) Tryd.func48 Tryd.results48 (by simp [h1, h2, m2_1, dc8, AmbNode.cells, intC, strC]) (hQ _ _ _ _ (.of (.v _)) ⟨[48], h, rfl⟩)
  · replace h := h.2 dc8
    refine Runs.skip ?_
    refine Runs.seqE Ty_ok (by decide) fun k' hk' => ?_
    obtain ⟨hb10, h⟩ := h
    obtain ⟨x11, ex11⟩ : ∃ v : Str, v = at' r5 0 := ⟨_, rfl⟩
    replace h := h x11 ex11
    have f12 := fun H => ix_list (H := H) (fr := true) (f := strC) (k := .i64) kd_24 (fun _ => rfl) hb10 ex11
    simp [h1, h2, m2_1, f12, dc8, AmbNode.cells, intC, strC, -indexAddrF]
    refine hk' _ _ _ ?_
    refine Runs.seq ?_
    refine Runs.seqE Ty_ok (by decide) fun k' hk' => ?_
    simp [h1, h2, m2_1, dc8, AmbNode.cells, intC, strC]
    refine hk' _ _ _ ?_
    refine Runs.block ?_
    refine Runs.loopW h (fun (s : Str × Int) ρ H n => match s with | (s16, i17) => ρ 5 = .list true (r5.map strC) ∧ ρ 6 = str s16 ∧ ρ 7 = int i17) (by refine ⟨?_, ?_, ?_⟩ <;> simp [h1, h2, m2_1, dc8, AmbNode.cells, intC, strC]) ?_
    clear h1 h2 m2_1
    rintro ⟨s16, i17⟩ ρ H n18 K h ⟨h5, h6, h7⟩ IH19
    refine Runs.seq ?_
    refine Runs.seqE Ty_ok (by decide) fun k' hk' => ?_
    obtain ⟨len21, elen21⟩ : ∃ v : Int, v = (r5.length : Int) := ⟨_, rfl⟩
    replace h := h len21 elen21
    have f22 := fun H => len_list (H := H) (fr := true) (f := strC) kd_24 elen21
    obtain ⟨c23, ec23⟩ : ∃ v : Bool, v = decide (i17 < len21) := ⟨_, rfl⟩
    replace h := h c23 ec23
    have f24 := ib_lss (k := .i64) ec23
    simp [h5, h6, h7, f22, f24, dc8, AmbNode.cells, intC, strC, -intBin, -lenF]
    refine hk' _ _ _ ?_
    refine Runs.ite (b := c23) (by simp [h5, h6, h7, dc8, AmbNode.cells, intC, strC]) (fun dc23 => ?_) (fun dc23 => ?_)
    · replace h := h.1 dc23
      refine Runs.skip ?_
      refine Runs.seq ?_
      refine Runs.block ?_
      refine Runs.evalE Ty_ok (by decide) fun k' hk' => ?_
      obtain ⟨hb25, h⟩ := h
      obtain ⟨v26, ev26⟩ : ∃ v : Str, v = s16 ++ [124] := ⟨_, rfl⟩
      replace h := h v26 ev26
      have f27 := sb_add hb25 ev26
      obtain ⟨hb28, h⟩ := h
      obtain ⟨x29, ex29⟩ : ∃ v : Str, v = at' r5 i17 := ⟨_, rfl⟩
      replace h := h x29 ex29
      have f30 := fun H => ix_list (H := H) (fr := true) (f := strC) (k := .i64) kd_24 (fun _ => rfl) hb28 ex29
      obtain ⟨hb31, h⟩ := h
      obtain ⟨v32, ev32⟩ : ∃ v : Str, v = v26 ++ x29 := ⟨_, rfl⟩
      replace h := h v32 ev32
      have f33 := sb_add hb31 ev32
      simp [h5, h6, h7, f27, f30, f33, dc8, dc23, AmbNode.cells, intC, strC, -indexAddrF, -strBin]
      refine hk' _ _ _ ?_
      refine Runs.inBlock ?_
      refine Runs.evalE Ty_ok (by decide) fun k' hk' => ?_
      obtain ⟨hb34, h⟩ := h
      obtain ⟨v35, ev35⟩ : ∃ v : Int, v = i17 + 1 := ⟨_, rfl⟩
      replace h := h v35 ev35
      have f36 := ib_add hb34 ev35
      simp [h5, h6, h7, f36, dc8, dc23, AmbNode.cells, intC, strC, -intBin]
      refine hk' _ _ _ ?_
      refine Runs.cut (fun ρ H n => ρ 5 = .list true (r5.map strC) ∧ ρ 6 = str v32 ∧ ρ 7 = int v35) (by refine ⟨?_, ?_, ?_⟩ <;> simp [h5, h6, h7, f36, dc8, dc23, AmbNode.cells, intC, strC, -intBin]) ?_
      clear h5 h6 h7
      rintro ρ H n37 ⟨h5, h6, h7⟩
      refine IH19 (v32, v35) _ _ _ h (by refine ⟨?_, ?_, ?_⟩ <;> simp [h5, h6, h7, dc8, dc23, AmbNode.cells, intC, strC])
    · replace h := h.2 dc23
      refine Runs.exit rfl ?_
      refine Runs.seqE Ty_ok (by decide) fun k' hk' => ?_
      simp [h5, h6, h7, dc8, dc23, AmbNode.cells, intC, strC]
      refine hk' _ _ _ ?_
      exact Runs.ret1 (v := str s16) Tryd.func48 Tryd.results48 (by simp [h5, h6, h7, dc8, dc23, AmbNode.cells, intC, strC]) (hQ _ _ _ _ (.of (.v _)) ⟨s16, h, rfl⟩)

theorem l12Best_ok (p : Proc) (parent : Int) (hp : l12Best_pre p parent) : PureC Tryd.prog 48 [.agg [.list false (p.map AmbNode.cells)], int parent] (fun r => r = str (l12Best p parent)) := (l12Best_walk p parent _ (l12Best_vc p parent hp)).mono (by rintro _ ⟨_, rfl, rfl⟩; rfl)

theorem e16 : Ent Tryd.prog 16 := Ent.of Tryd.func16 (by kernel_rfl) rfl
theorem sAreCongruent_walk (p : Proc) (q : Proc) (Z : (Bool × Bool) → Prop) (h : sAreCongruent_wp p q Z) : PureC Tryd.prog 16 [.agg [.list false (p.map AmbNode.cells)], .agg [.list false (q.map AmbNode.cells)]] (fun r => ∃ y : Bool × Bool, Z y ∧ r = .tup [bool y.1, bool y.2]) := by
  unfold sAreCongruent_wp at h
  refine PureC.of Tryd.func16 rfl Tryd.ntmps16 (by simp) fun Q hQ => ?_
  refine Runs.cut (fun ρ H n => ρ 0 = .agg [.list false (p.map AmbNode.cells)] ∧ ρ 1 = .agg [.list false (q.map AmbNode.cells)]) (by refine ⟨?_, ?_⟩ <;> simp [AmbNode.cells, intC, strC]) ?_
  rintro ρ H n1 ⟨h0, h1⟩
  refine Runs.seqE Ty_ok (by decide) fun k' hk' => ?_
  simp [h0, h1, AmbNode.cells, intC, strC]
  refine hk' _ _ _ ?_
  refine Runs.cut (fun ρ H n => ρ 2 = .ptr (n1, 2) 1 0 0 ∧ ρ 3 = .ptr (n1 + 1, 3) 1 0 0 ∧ H (n1, 2) = some ⟨1, [[.list false (p.map AmbNode.cells)]]⟩ ∧ H (n1 + 1, 3) = some ⟨1, [[.list false (q.map AmbNode.cells)]]⟩) (by refine ⟨?_, ?_, ?_, ?_⟩ <;> simp [h0, h1, AmbNode.cells, intC, strC]) ?_
  clear h0 h1
  rintro ρ H n4 ⟨h2, h3, m2_1, m3_2⟩
  refine Runs.seq ?_
  refine Runs.seqE Ty_ok (by decide) fun k' hk' => ?_
  obtain ⟨J5, hJ6, hr7⟩ := h
  have fin9 : ∀ (s : Bool) (ρ : Env) (H : Heap) (n : Nat), J5 s → (match s with | b8 => ρ 2 = .ptr (n1, 2) 1 0 0 ∧ ρ 3 = .ptr (n1 + 1, 3) 1 0 0 ∧ ρ 13 = bool b8 ∧ H (n1, 2) = some ⟨1, [[.list false (p.map AmbNode.cells)]]⟩ ∧ H (n1 + 1, 3) = some ⟨1, [[.list false (q.map AmbNode.cells)]]⟩) → Runs Tryd.prog 16 19 k' ρ H n Q := by
    rintro b8 ρ H n10 h ⟨h2, h3, h13, m2_1, m3_2⟩
    replace h := hr7 _ h
    refine hk' _ _ _ ?_
    refine Runs.ite (b := b8) (by simp [h2, h3, h13, m2_1, m3_2, AmbNode.cells, intC, strC]) (fun db8 => ?_) (fun db8 => ?_)
    · replace h := h.1 db8
      refine Runs.seqE Ty_ok (by decide) fun k' hk' => ?_
      simp [h2, h3, h13, m2_1, m3_2, db8, AmbNode.cells, intC, strC]
      refine hk' _ _ _ ?_
      exact Runs.ret2 (v := bool false) (w := bool false) Tryd.func16 Tryd.results16 (by simp [h2, h3, h13, m2_1, m3_2, db8, AmbNode.cells, intC, strC]) (by simp [h2, h3, h13, m2_1, m3_2, db8, AmbNode.cells, intC, strC]) (hQ _ _ _ _ (.of (.tupL (.cons (.v _) (.cons (.v _) .nil)))) ⟨(false, false), h, rfl⟩)
    · replace h := h.2 db8
      refine Runs.skip ?_
      refine Runs.seqD Ty_ok kindOp_ok draws (by decide) (by kernel_rfl) fun k' hk' => ?_
      obtain ⟨hb11, h⟩ := h
      obtain ⟨r12, er12⟩ : ∃ v : Str, v = l12Best p (-1) := ⟨_, rfl⟩
      replace h := h r12 er12
      simp [h2, h3, h13, m2_1, m3_2, db8, AmbNode.cells, intC, strC]
      refine RunDK.callA Ty_ok kindOp_ok (hb11) e48 (.cons (ArgOk.agg (.cons (ArgOk.listF (fr := false) (els := p.map AmbNode.cells) (by simp [AmbNode.cells, intC, strC, intC])) .nil)) (.cons (.v _ _ _) .nil)) (by decide) rfl (by simp [h2, h3, h13, m2_1, m3_2, db8, AmbNode.cells, intC, strC]) ?_
      rw [← er12]
      obtain ⟨hb13, h⟩ := h
      obtain ⟨r14, er14⟩ : ∃ v : Str, v = l12Best q (-1) := ⟨_, rfl⟩
      replace h := h r14 er14
      simp [h2, h3, h13, m2_1, m3_2, db8, AmbNode.cells, intC, strC]
      refine RunDK.callA Ty_ok kindOp_ok (hb13) e48 (.cons (ArgOk.agg (.cons (ArgOk.listF (fr := false) (els := q.map AmbNode.cells) (by simp [AmbNode.cells, intC, strC, intC])) .nil)) (.cons (.v _ _ _) .nil)) (by decide) rfl (by simp [h2, h3, h13, m2_1, m3_2, db8, AmbNode.cells, intC, strC]) ?_
      rw [← er14]
      obtain ⟨c15, ec15⟩ : ∃ v : Bool, v = decide (r12 = r14) := ⟨_, rfl⟩
      replace h := h c15 ec15
      have f16 := sb_eql ec15
      simp [h2, h3, h13, m2_1, m3_2, f16, db8, AmbNode.cells, intC, strC, -strBin]
      refine hk' _ _ _ ?_
      exact Runs.ret2 (v := bool c15) (w := bool true) Tryd.func16 Tryd.results16 (by simp [h2, h3, h13, m2_1, m3_2, db8, AmbNode.cells, intC, strC]) (by simp [h2, h3, h13, m2_1, m3_2, db8, AmbNode.cells, intC, strC]) (hQ _ _ _ _ (.of (.tupL (.cons (.v _) (.cons (.v _) .nil)))) ⟨(c15, true), h, rfl⟩)
  replace h := hJ6
  obtain ⟨hb17, h⟩ := h
  obtain ⟨r18, er18⟩ : ∃ v : Bool, v = goodP p := ⟨_, rfl⟩
  replace h := h r18 er18
  simp [h2, h3, m2_1, m3_2, AmbNode.cells, intC, strC]
  refine RunK.callA Ty_ok (l12Good_ok p hb17.1 hb17.2) e47 (.cons (ArgOk.agg (.cons (ArgOk.listF (fr := false) (els := p.map AmbNode.cells) (by simp [AmbNode.cells, intC, strC, intC])) .nil)) .nil) (by decide) (by decide) rfl (by simp [h2, h3, m2_1, m3_2, AmbNode.cells, intC, strC]) ?_
  rintro _ rfl
  rw [← er18]
  rcases Bool.eq_false_or_eq_true r18 with dr18 | dr18
  · replace h := h.1 dr18
    obtain ⟨hb19, h⟩ := h
    obtain ⟨r20, er20⟩ : ∃ v : Bool, v = goodP q := ⟨_, rfl⟩
    replace h := h r20 er20
    simp [h2, h3, m2_1, m3_2, dr18, AmbNode.cells, intC, strC]
    refine RunK.callA Ty_ok (l12Good_ok q hb19.1 hb19.2) e47 (.cons (ArgOk.agg (.cons (ArgOk.listF (fr := false) (els := q.map AmbNode.cells) (by simp [AmbNode.cells, intC, strC, intC])) .nil)) .nil) (by decide) (by decide) rfl (by simp [h2, h3, m2_1, m3_2, dr18, AmbNode.cells, intC, strC]) ?_
    rintro _ rfl
    rw [← er20]
    simp [h2, h3, m2_1, m3_2, dr18, AmbNode.cells, intC, strC]
    exact fin9 ((!r20)) _ _ _ h (by refine ⟨?_, ?_, ?_, ?_, ?_⟩ <;> simp [h2, h3, m2_1, m3_2, dr18, AmbNode.cells, intC, strC])
  · replace h := h.2 dr18
    simp [h2, h3, m2_1, m3_2, dr18, AmbNode.cells, intC, strC]
    exact fin9 (true) _ _ _ h (by refine ⟨?_, ?_, ?_, ?_, ?_⟩ <;> simp [h2, h3, m2_1, m3_2, dr18, AmbNode.cells, intC, strC])

theorem sAreCongruent_ok (p : Proc) (q : Proc) (hp : sAreCongruent_pre p q) : PureC Tryd.prog 16 [.agg [.list false (p.map AmbNode.cells)], .agg [.list false (q.map AmbNode.cells)]] (fun r => r = .tup [bool ((sAreCongruent p q).1), bool ((sAreCongruent p q).2)]) := (sAreCongruent_walk p q _ (sAreCongruent_vc p q hp)).mono (by rintro _ ⟨_, rfl, rfl⟩; rfl)
end Go.Ab.Vg

/- Walks by program for YthoblfcjmhppiaaDoorAbCq. -/
namespace Go.Ab.Vg
open Go.Proofs
set_option maxRecDepth 100000
set_option linter.unusedSimpArgs false
set_option linter.unusedVariables false
theorem szT_ok (p : Proc) (left : Int) (h0 : 0 ≤ left) (h1 : left ≤ 1048576) (hp : Small p) : PureC Tryd.prog 15 [encP false p, int left] (fun r => r = int (szT p left)) := szProcess_ok p left h0 h1 hp

theorem toP_ok (p : Proc) (h : p.length ≤ 1048576) : PureC Tryd.prog 17 [encP false p] (fun r => r = .agg [.list true ((idP p).map AmbNode.cells)]) := toProcess_ok p h

theorem eqP_ok (p q : Proc) (h : p.length ≤ 1048576) : PureC Tryd.prog 10 [encP false p, encP false q] (fun r => r = bool (eqP p q)) := eqProcess_ok p q h

theorem bestAll {p : Proc} (hp : Valid p) : ∀ (m : Nat) (a : Int), ((p.length : Int) - a).toNat = m → -1 ≤ a → a < p.length → BestOk p a := fun m => by induction m using Nat.strongRecOn with | _ m ih => exact fun a hm h1 h2 => l12Best_ok p a ⟨hp, h1, h2, fun x hx => by obtain ⟨i, rfl, hi, hpx⟩ := kids_in hx; have := hp.up i hi; exact ih _ (by omega) i rfl (by omega) (by omega)⟩

theorem sAC_ok (p q : Proc) (h : AreCongruent_pre p q) : PureC Tryd.prog 16 [encP false p, encP false q] (fun r => r = .tup [bool (AreCongruent p q).1, bool (AreCongruent p q).2]) := sAreCongruent_ok p q ⟨h.1, h.2, fun hg => bestAll (goodP_valid hg) _ (-1) rfl (by omega) (by omega), fun hg => bestAll (goodP_valid hg) _ (-1) rfl (by omega) (by omega)⟩

theorem e4 : Ent Tryd.prog 4 := Ent.of Tryd.func4 (by kernel_rfl) rfl
theorem lawCongr_walk (aP : Proc) (aQ : Proc) (Z : Bool → Prop) (h : lawCongr_wp aP aQ Z) : PureC Tryd.prog 4 [.agg [.list false (aP.map AmbNode.cells)], .agg [.list false (aQ.map AmbNode.cells)]] (fun r => ∃ y : Bool, Z y ∧ r = bool y) := by
  unfold lawCongr_wp at h
  refine PureC.of Tryd.func4 rfl Tryd.ntmps4 (by simp) fun Q hQ => ?_
  refine Runs.cut (fun ρ H n => ρ 0 = .agg [.list false (aP.map AmbNode.cells)] ∧ ρ 1 = .agg [.list false (aQ.map AmbNode.cells)]) (by refine ⟨?_, ?_⟩ <;> simp [AmbNode.cells, intC, strC]) ?_
  rintro ρ H n1 ⟨h0, h1⟩
  refine Runs.seqE Ty_ok (by decide) fun k' hk' => ?_
  simp [h0, h1, AmbNode.cells, intC, strC]
  refine hk' _ _ _ ?_
  refine Runs.cut (fun ρ H n => ρ 2 = .ptr (n1, 2) 1 0 0 ∧ ρ 3 = .ptr (n1 + 1, 3) 1 0 0 ∧ H (n1, 2) = some ⟨1, [[.list false (aP.map AmbNode.cells)]]⟩ ∧ H (n1 + 1, 3) = some ⟨1, [[.list false (aQ.map AmbNode.cells)]]⟩) (by refine ⟨?_, ?_, ?_, ?_⟩ <;> simp [h0, h1, AmbNode.cells, intC, strC]) ?_
  clear h0 h1
  rintro ρ H n4 ⟨h2, h3, m2_1, m3_2⟩
  refine Runs.seqE Ty_ok (by decide) fun k' hk' => ?_
  simp [h2, h3, m2_1, m3_2, AmbNode.cells, intC, strC]
  refine hk' _ _ _ ?_
  refine Runs.seqE Ty_ok (by decide) fun k' hk' => ?_
  obtain ⟨hb5, h⟩ := h
  obtain ⟨r6, er6⟩ : ∃ v : Int, v = szT aP 1048576 := ⟨_, rfl⟩
  replace h := h r6 er6
  simp [h2, h3, m2_1, m3_2, AmbNode.cells, intC, strC]
  refine RunK.callA Ty_ok (szT_ok aP 1048576 hb5.1.1 hb5.1.2 hb5.2) e15 (.cons (ArgOk.agg (.cons (ArgOk.listF (fr := false) (els := aP.map AmbNode.cells) (by simp [AmbNode.cells, intC, strC, intC])) .nil)) (.cons (.v _ _ _) .nil)) (by decide) (by decide) rfl (by simp [h2, h3, m2_1, m3_2, AmbNode.cells, intC, strC]) ?_
  rintro _ rfl
  rw [← er6]
  simp [h2, h3, m2_1, m3_2, AmbNode.cells, intC, strC]
  refine hk' _ _ _ ?_
  refine Runs.seq ?_
  refine Runs.seqE Ty_ok (by decide) fun k' hk' => ?_
  obtain ⟨c7, ec7⟩ : ∃ v : Bool, v = decide (r6 < 0) := ⟨_, rfl⟩
  replace h := h c7 ec7
  have f8 := ib_lss (k := .i64) ec7
  simp [h2, h3, m2_1, m3_2, f8, AmbNode.cells, intC, strC, -intBin]
  refine hk' _ _ _ ?_
  refine Runs.ite (b := c7) (by simp [h2, h3, m2_1, m3_2, AmbNode.cells, intC, strC]) (fun dc7 => ?_) (fun dc7 => ?_)
  · replace h := h.1 dc7
    refine Runs.seqE Ty_ok (by decide) fun k' hk' => ?_
    simp [h2, h3, m2_1, m3_2, dc7, AmbNode.cells, intC, strC]
    refine hk' _ _ _ ?_
    exact Runs.ret1 (v := bool true) Tryd.func4 Tryd.results4 (by simp [h2, h3, m2_1, m3_2, dc7, AmbNode.cells, intC, strC]) (hQ _ _ _ _ (.of (.v _)) ⟨true, h, rfl⟩)
  · replace h := h.2 dc7
    refine Runs.skip ?_
    refine Runs.seqE Ty_ok (by decide) fun k' hk' => ?_
    obtain ⟨hb9, h⟩ := h
    obtain ⟨r10, er10⟩ : ∃ v : Int, v = szT aQ r6 := ⟨_, rfl⟩
    replace h := h r10 er10
    simp [h2, h3, m2_1, m3_2, dc7, AmbNode.cells, intC, strC]
    refine RunK.callA Ty_ok (szT_ok aQ r6 hb9.1.1 hb9.1.2 hb9.2) e15 (.cons (ArgOk.agg (.cons (ArgOk.listF (fr := false) (els := aQ.map AmbNode.cells) (by simp [AmbNode.cells, intC, strC, intC])) .nil)) (.cons (.v _ _ _) .nil)) (by decide) (by decide) rfl (by simp [h2, h3, m2_1, m3_2, dc7, AmbNode.cells, intC, strC]) ?_
    rintro _ rfl
    rw [← er10]
    simp [h2, h3, m2_1, m3_2, dc7, AmbNode.cells, intC, strC]
    refine hk' _ _ _ ?_
    refine Runs.seq ?_
    refine Runs.seqE Ty_ok (by decide) fun k' hk' => ?_
    obtain ⟨c11, ec11⟩ : ∃ v : Bool, v = decide (r10 < 0) := ⟨_, rfl⟩
    replace h := h c11 ec11
    have f12 := ib_lss (k := .i64) ec11
    simp [h2, h3, m2_1, m3_2, f12, dc7, AmbNode.cells, intC, strC, -intBin]
    refine hk' _ _ _ ?_
    refine Runs.ite (b := c11) (by simp [h2, h3, m2_1, m3_2, dc7, AmbNode.cells, intC, strC]) (fun dc11 => ?_) (fun dc11 => ?_)
    · replace h := h.1 dc11
      refine Runs.seqE Ty_ok (by decide) fun k' hk' => ?_
      simp [h2, h3, m2_1, m3_2, dc7, dc11, AmbNode.cells, intC, strC]
      refine hk' _ _ _ ?_
      exact Runs.ret1 (v := bool true) Tryd.func4 Tryd.results4 (by simp [h2, h3, m2_1, m3_2, dc7, dc11, AmbNode.cells, intC, strC]) (hQ _ _ _ _ (.of (.v _)) ⟨true, h, rfl⟩)
    · replace h := h.2 dc11
      refine Runs.skip ?_
      refine Runs.seqD Ty_ok kindOp_ok draws (by decide) (by kernel_rfl) fun k' hk' => ?_
      obtain ⟨hb13, h⟩ := h
      obtain ⟨r14, er14⟩ : ∃ v : Proc, v = idP aP := ⟨_, rfl⟩
      replace h := h r14 er14
      simp [h2, h3, m2_1, m3_2, dc7, dc11, AmbNode.cells, intC, strC]
      refine RunDK.callA Ty_ok kindOp_ok (toP_ok aP hb13) e17 (.cons (ArgOk.agg (.cons (ArgOk.listF (fr := false) (els := aP.map AmbNode.cells) (by simp [AmbNode.cells, intC, strC, intC])) .nil)) .nil) (by decide) rfl (by simp [h2, h3, m2_1, m3_2, dc7, dc11, AmbNode.cells, intC, strC]) ?_
      rw [← er14]
      obtain ⟨hb15, h⟩ := h
      obtain ⟨r16, er16⟩ : ∃ v : Proc, v = idP aQ := ⟨_, rfl⟩
      replace h := h r16 er16
      simp [h2, h3, m2_1, m3_2, dc7, dc11, AmbNode.cells, intC, strC]
      refine RunDK.callA Ty_ok kindOp_ok (toP_ok aQ hb15) e17 (.cons (ArgOk.agg (.cons (ArgOk.listF (fr := false) (els := aQ.map AmbNode.cells) (by simp [AmbNode.cells, intC, strC, intC])) .nil)) .nil) (by decide) rfl (by simp [h2, h3, m2_1, m3_2, dc7, dc11, AmbNode.cells, intC, strC]) ?_
      rw [← er16]
      obtain ⟨hb17, h⟩ := h
      obtain ⟨r18, er18⟩ : ∃ v : Bool × Bool, v = AreCongruent r14 r16 := ⟨_, rfl⟩
      replace h := h r18 er18
      simp [h2, h3, m2_1, m3_2, dc7, dc11, AmbNode.cells, intC, strC]
      refine RunDK.callA Ty_ok kindOp_ok (sAC_ok r14 r16 hb17) e16 (.cons (ArgOk.agg (.cons (ArgOk.listF (fr := true) (els := r14.map AmbNode.cells) (by simp [AmbNode.cells, intC, strC, intC])) .nil)) (.cons (ArgOk.agg (.cons (ArgOk.listF (fr := true) (els := r16.map AmbNode.cells) (by simp [AmbNode.cells, intC, strC, intC])) .nil)) .nil)) (by decide) rfl (by simp [h2, h3, m2_1, m3_2, dc7, dc11, AmbNode.cells, intC, strC]) ?_
      rw [← er18]
      simp [h2, h3, m2_1, m3_2, dc7, dc11, AmbNode.cells, intC, strC]
      refine hk' _ _ _ ?_
      refine Runs.cut (fun ρ H n => ρ 2 = .ptr (n1, 2) 1 0 0 ∧ ρ 3 = .ptr (n1 + 1, 3) 1 0 0 ∧ ρ 6 = bool r18.1 ∧ ρ 7 = bool r18.2 ∧ H (n1, 2) = some ⟨1, [[.list false (aP.map AmbNode.cells)]]⟩ ∧ H (n1 + 1, 3) = some ⟨1, [[.list false (aQ.map AmbNode.cells)]]⟩) (by refine ⟨?_, ?_, ?_, ?_, ?_, ?_⟩ <;> simp [h2, h3, m2_1, m3_2, dc7, dc11, AmbNode.cells, intC, strC]) ?_
      clear h2 h3 m2_1 m3_2
      rintro ρ H n19 ⟨h2, h3, h6, h7, m2_1, m3_2⟩
      refine Runs.seqE Ty_ok (by decide) fun k' hk' => ?_
      obtain ⟨hb20, h⟩ := h
      obtain ⟨r21, er21⟩ : ∃ v : Proc, v = idP aP := ⟨_, rfl⟩
      replace h := h r21 er21
      simp [h2, h3, h6, h7, m2_1, m3_2, dc7, dc11, AmbNode.cells, intC, strC]
      refine RunK.callA Ty_ok (toP_ok aP hb20) e17 (.cons (ArgOk.agg (.cons (ArgOk.listF (fr := false) (els := aP.map AmbNode.cells) (by simp [AmbNode.cells, intC, strC, intC])) .nil)) .nil) (by decide) (by decide) rfl (by simp [h2, h3, h6, h7, m2_1, m3_2, dc7, dc11, AmbNode.cells, intC, strC]) ?_
      rintro _ rfl
      rw [← er21]
      simp [h2, h3, h6, h7, m2_1, m3_2, dc7, dc11, AmbNode.cells, intC, strC]
      refine hk' _ _ _ ?_
      refine Runs.cut (fun ρ H n => ρ 2 = .ptr (n1, 2) 1 0 0 ∧ ρ 3 = .ptr (n1 + 1, 3) 1 0 0 ∧ ρ 6 = bool r18.1 ∧ ρ 7 = bool r18.2 ∧ ρ 8 = .ptr (n19, 8) 1 0 0 ∧ H (n1, 2) = some ⟨1, [[.list false (aP.map AmbNode.cells)]]⟩ ∧ H (n1 + 1, 3) = some ⟨1, [[.list false (aQ.map AmbNode.cells)]]⟩ ∧ H (n19, 8) = some ⟨1, [[.list true (r21.map AmbNode.cells)]]⟩) (by refine ⟨?_, ?_, ?_, ?_, ?_, ?_, ?_, ?_⟩ <;> simp [h2, h3, h6, h7, m2_1, m3_2, dc7, dc11, AmbNode.cells, intC, strC]) ?_
      clear h2 h3 h6 h7 m2_1 m3_2
      rintro ρ H n23 ⟨h2, h3, h6, h7, h8, m2_1, m3_2, m8_21⟩
      refine Runs.seqE Ty_ok (by decide) fun k' hk' => ?_
      obtain ⟨hb24, h⟩ := h
      obtain ⟨r25, er25⟩ : ∃ v : Proc, v = idP aQ := ⟨_, rfl⟩
      replace h := h r25 er25
      simp [h2, h3, h6, h7, h8, m2_1, m3_2, m8_21, dc7, dc11, AmbNode.cells, intC, strC]
      refine RunK.callA Ty_ok (toP_ok aQ hb24) e17 (.cons (ArgOk.agg (.cons (ArgOk.listF (fr := false) (els := aQ.map AmbNode.cells) (by simp [AmbNode.cells, intC, strC, intC])) .nil)) .nil) (by decide) (by decide) rfl (by simp [h2, h3, h6, h7, h8, m2_1, m3_2, m8_21, dc7, dc11, AmbNode.cells, intC, strC]) ?_
      rintro _ rfl
      rw [← er25]
      simp [h2, h3, h6, h7, h8, m2_1, m3_2, m8_21, dc7, dc11, AmbNode.cells, intC, strC]
      refine hk' _ _ _ ?_
      refine Runs.cut (fun ρ H n => ρ 2 = .ptr (n1, 2) 1 0 0 ∧ ρ 3 = .ptr (n1 + 1, 3) 1 0 0 ∧ ρ 6 = bool r18.1 ∧ ρ 7 = bool r18.2 ∧ ρ 8 = .ptr (n19, 8) 1 0 0 ∧ ρ 9 = .ptr (n23, 9) 1 0 0 ∧ H (n1, 2) = some ⟨1, [[.list false (aP.map AmbNode.cells)]]⟩ ∧ H (n1 + 1, 3) = some ⟨1, [[.list false (aQ.map AmbNode.cells)]]⟩ ∧ H (n19, 8) = some ⟨1, [[.list true (r21.map AmbNode.cells)]]⟩ ∧ H (n23, 9) = some ⟨1, [[.list true (r25.map AmbNode.cells)]]⟩) (by refine ⟨?_, ?_, ?_, ?_, ?_, ?_, ?_, ?_, ?_, ?_⟩ <;> simp [h2, h3, h6, h7, h8, m2_1, m3_2, m8_21, dc7, dc11, AmbNode.cells, intC, strC]) ?_
      clear h2 h3 h6 h7 h8 m2_1 m3_2 m8_21
      rintro ρ H n27 ⟨h2, h3, h6, h7, h8, h9, m2_1, m3_2, m8_21, m9_25⟩
      refine Runs.seqE Ty_ok (by decide) fun k' hk' => ?_
      obtain ⟨hb28, h⟩ := h
      obtain ⟨r29, er29⟩ : ∃ v : Bool × Bool, v = AreCongruent r21 r25 := ⟨_, rfl⟩
      replace h := h r29 er29
      simp [h2, h3, h6, h7, h8, h9, m2_1, m3_2, m8_21, m9_25, dc7, dc11, AmbNode.cells, intC, strC]
      refine RunK.callA Ty_ok (AreCongruent_ok r21 r25 hb28) e18 (.cons (ArgOk.agg (.cons (ArgOk.listF (fr := true) (els := r21.map AmbNode.cells) (by simp [AmbNode.cells, intC, strC, intC])) .nil)) (.cons (ArgOk.agg (.cons (ArgOk.listF (fr := true) (els := r25.map AmbNode.cells) (by simp [AmbNode.cells, intC, strC, intC])) .nil)) .nil)) (by decide) (by decide) rfl (by simp [h2, h3, h6, h7, h8, h9, m2_1, m3_2, m8_21, m9_25, dc7, dc11, AmbNode.cells, intC, strC]) ?_
      rintro _ rfl
      rw [← er29]
      simp [h2, h3, h6, h7, h8, h9, m2_1, m3_2, m8_21, m9_25, dc7, dc11, AmbNode.cells, intC, strC]
      refine hk' _ _ _ ?_
      refine Runs.seq ?_
      refine Runs.seqE Ty_ok (by decide) fun k' hk' => ?_
      obtain ⟨J30, hJ31, hr32⟩ := h
      have fin34 : ∀ (s : Bool) (ρ : Env) (H : Heap) (n : Nat), J30 s → (match s with | b33 => ρ 2 = .ptr (n1, 2) 1 0 0 ∧ ρ 3 = .ptr (n1 + 1, 3) 1 0 0 ∧ ρ 8 = .ptr (n19, 8) 1 0 0 ∧ ρ 9 = .ptr (n23, 9) 1 0 0 ∧ ρ 47 = bool b33 ∧ H (n1, 2) = some ⟨1, [[.list false (aP.map AmbNode.cells)]]⟩ ∧ H (n1 + 1, 3) = some ⟨1, [[.list false (aQ.map AmbNode.cells)]]⟩ ∧ H (n19, 8) = some ⟨1, [[.list true (r21.map AmbNode.cells)]]⟩ ∧ H (n23, 9) = some ⟨1, [[.list true (r25.map AmbNode.cells)]]⟩) → Runs Tryd.prog 4 58 k' ρ H n Q := by
        rintro b33 ρ H n35 h ⟨h2, h3, h8, h9, h47, m2_1, m3_2, m8_21, m9_25⟩
        replace h := hr32 _ h
        refine hk' _ _ _ ?_
        refine Runs.ite (b := b33) (by simp [h2, h3, h8, h9, h47, m2_1, m3_2, m8_21, m9_25, dc7, dc11, AmbNode.cells, intC, strC]) (fun db33 => ?_) (fun db33 => ?_)
        · replace h := h.1 db33
          refine Runs.seqE Ty_ok (by decide) fun k' hk' => ?_
          simp [h2, h3, h8, h9, h47, m2_1, m3_2, m8_21, m9_25, dc7, dc11, db33, AmbNode.cells, intC, strC]
          refine hk' _ _ _ ?_
          exact Runs.ret1 (v := bool false) Tryd.func4 Tryd.results4 (by simp [h2, h3, h8, h9, h47, m2_1, m3_2, m8_21, m9_25, dc7, dc11, db33, AmbNode.cells, intC, strC]) (hQ _ _ _ _ (.of (.v _)) ⟨false, h, rfl⟩)
        · replace h := h.2 db33
          refine Runs.skip ?_
          refine Runs.seq ?_
          refine Runs.seqD Ty_ok kindOp_ok draws (by decide) (by kernel_rfl) fun k' hk' => ?_
          obtain ⟨hb36, h⟩ := h
          obtain ⟨r37, er37⟩ : ∃ v : Proc, v = idP aP := ⟨_, rfl⟩
          replace h := h r37 er37
          simp [h2, h3, h8, h9, h47, m2_1, m3_2, m8_21, m9_25, dc7, dc11, db33, AmbNode.cells, intC, strC]
          refine RunDK.callA Ty_ok kindOp_ok (toP_ok aP hb36) e17 (.cons (ArgOk.agg (.cons (ArgOk.listF (fr := false) (els := aP.map AmbNode.cells) (by simp [AmbNode.cells, intC, strC, intC])) .nil)) .nil) (by decide) rfl (by simp [h2, h3, h8, h9, h47, m2_1, m3_2, m8_21, m9_25, dc7, dc11, db33, AmbNode.cells, intC, strC]) ?_
          rw [← er37]
          obtain ⟨hb38, h⟩ := h
          obtain ⟨r39, er39⟩ : ∃ v : Bool, v = eqP r21 r37 := ⟨_, rfl⟩
          replace h := h r39 er39
          simp [h2, h3, h8, h9, h47, m2_1, m3_2, m8_21, m9_25, dc7, dc11, db33, AmbNode.cells, intC, strC]
          refine RunDK.callA Ty_ok kindOp_ok (eqP_ok r21 r37 hb38) e10 (.cons (ArgOk.agg (.cons (ArgOk.listF (fr := true) (els := r21.map AmbNode.cells) (by simp [AmbNode.cells, intC, strC, intC])) .nil)) (.cons (ArgOk.agg (.cons (ArgOk.listF (fr := true) (els := r37.map AmbNode.cells) (by simp [AmbNode.cells, intC, strC, intC])) .nil)) .nil)) (by decide) rfl (by simp [h2, h3, h8, h9, h47, m2_1, m3_2, m8_21, m9_25, dc7, dc11, db33, AmbNode.cells, intC, strC]) ?_
          rw [← er39]
          simp [h2, h3, h8, h9, h47, m2_1, m3_2, m8_21, m9_25, dc7, dc11, db33, AmbNode.cells, intC, strC]
          refine hk' _ _ _ ?_
          refine Runs.ite (b := (!r39)) (by simp [h2, h3, h8, h9, h47, m2_1, m3_2, m8_21, m9_25, dc7, dc11, db33, AmbNode.cells, intC, strC]) (fun dr39 => ?_) (fun dr39 => ?_)
          · have dr39 : r39 = false := by simpa using dr39
            replace h := h.2 dr39
            refine Runs.seqE Ty_ok (by decide) fun k' hk' => ?_
            simp [h2, h3, h8, h9, h47, m2_1, m3_2, m8_21, m9_25, dc7, dc11, db33, dr39, AmbNode.cells, intC, strC]
            refine hk' _ _ _ ?_
            exact Runs.ret1 (v := bool false) Tryd.func4 Tryd.results4 (by simp [h2, h3, h8, h9, h47, m2_1, m3_2, m8_21, m9_25, dc7, dc11, db33, dr39, AmbNode.cells, intC, strC]) (hQ _ _ _ _ (.of (.v _)) ⟨false, h, rfl⟩)
          · have dr39 : r39 = true := by simpa using dr39
            replace h := h.1 dr39
            refine Runs.skip ?_
            refine Runs.seq ?_
            refine Runs.seqD Ty_ok kindOp_ok draws (by decide) (by kernel_rfl) fun k' hk' => ?_
            obtain ⟨hb40, h⟩ := h
            obtain ⟨r41, er41⟩ : ∃ v : Proc, v = idP aQ := ⟨_, rfl⟩
            replace h := h r41 er41
            simp [h2, h3, h8, h9, h47, m2_1, m3_2, m8_21, m9_25, dc7, dc11, db33, dr39, AmbNode.cells, intC, strC]
            refine RunDK.callA Ty_ok kindOp_ok (toP_ok aQ hb40) e17 (.cons (ArgOk.agg (.cons (ArgOk.listF (fr := false) (els := aQ.map AmbNode.cells) (by simp [AmbNode.cells, intC, strC, intC])) .nil)) .nil) (by decide) rfl (by simp [h2, h3, h8, h9, h47, m2_1, m3_2, m8_21, m9_25, dc7, dc11, db33, dr39, AmbNode.cells, intC, strC]) ?_
            rw [← er41]
            obtain ⟨hb42, h⟩ := h
            obtain ⟨r43, er43⟩ : ∃ v : Bool, v = eqP r25 r41 := ⟨_, rfl⟩
            replace h := h r43 er43
            simp [h2, h3, h8, h9, h47, m2_1, m3_2, m8_21, m9_25, dc7, dc11, db33, dr39, AmbNode.cells, intC, strC]
            refine RunDK.callA Ty_ok kindOp_ok (eqP_ok r25 r41 hb42) e10 (.cons (ArgOk.agg (.cons (ArgOk.listF (fr := true) (els := r25.map AmbNode.cells) (by simp [AmbNode.cells, intC, strC, intC])) .nil)) (.cons (ArgOk.agg (.cons (ArgOk.listF (fr := true) (els := r41.map AmbNode.cells) (by simp [AmbNode.cells, intC, strC, intC])) .nil)) .nil)) (by decide) rfl (by simp [h2, h3, h8, h9, h47, m2_1, m3_2, m8_21, m9_25, dc7, dc11, db33, dr39, AmbNode.cells, intC, strC]) ?_
            rw [← er43]
            simp [h2, h3, h8, h9, h47, m2_1, m3_2, m8_21, m9_25, dc7, dc11, db33, dr39, AmbNode.cells, intC, strC]
            refine hk' _ _ _ ?_
            refine Runs.ite (b := (!r43)) (by simp [h2, h3, h8, h9, h47, m2_1, m3_2, m8_21, m9_25, dc7, dc11, db33, dr39, AmbNode.cells, intC, strC]) (fun dr43 => ?_) (fun dr43 => ?_)
            · have dr43 : r43 = false := by simpa using dr43
              replace h := h.2 dr43
              refine Runs.seqE Ty_ok (by decide) fun k' hk' => ?_
              simp [h2, h3, h8, h9, h47, m2_1, m3_2, m8_21, m9_25, dc7, dc11, db33, dr39, dr43, AmbNode.cells, intC, strC]
              refine hk' _ _ _ ?_
              exact Runs.ret1 (v := bool false) Tryd.func4 Tryd.results4 (by simp [h2, h3, h8, h9, h47, m2_1, m3_2, m8_21, m9_25, dc7, dc11, db33, dr39, dr43, AmbNode.cells, intC, strC]) (hQ _ _ _ _ (.of (.v _)) ⟨false, h, rfl⟩)
            · have dr43 : r43 = true := by simpa using dr43
              replace h := h.1 dr43
              refine Runs.skip ?_
              refine Runs.seqE Ty_ok (by decide) fun k' hk' => ?_
              simp [h2, h3, h8, h9, h47, m2_1, m3_2, m8_21, m9_25, dc7, dc11, db33, dr39, dr43, AmbNode.cells, intC, strC]
              refine hk' _ _ _ ?_
              exact Runs.ret1 (v := bool true) Tryd.func4 Tryd.results4 (by simp [h2, h3, h8, h9, h47, m2_1, m3_2, m8_21, m9_25, dc7, dc11, db33, dr39, dr43, AmbNode.cells, intC, strC]) (hQ _ _ _ _ (.of (.v _)) ⟨true, h, rfl⟩)
      replace h := hJ31
      obtain ⟨c44, ec44⟩ : ∃ v : Bool, v = !(r29.1 == r18.1) := ⟨_, rfl⟩
      replace h := h c44 ec44
      have f45 := bb_neq ec44
      rcases Bool.eq_false_or_eq_true c44 with dc44 | dc44
      · replace h := h.1 dc44
        simp [h2, h3, h6, h7, h8, h9, m2_1, m3_2, m8_21, m9_25, f45, dc7, dc11, dc44, AmbNode.cells, intC, strC, -boolBin]
        exact fin34 (true) _ _ _ h (by refine ⟨?_, ?_, ?_, ?_, ?_, ?_, ?_, ?_, ?_⟩ <;> simp [h2, h3, h6, h7, h8, h9, m2_1, m3_2, m8_21, m9_25, f45, dc7, dc11, dc44, AmbNode.cells, intC, strC, -boolBin])
      · replace h := h.2 dc44
        obtain ⟨c46, ec46⟩ : ∃ v : Bool, v = !(r29.2 == r18.2) := ⟨_, rfl⟩
        replace h := h c46 ec46
        have f47 := bb_neq ec46
        simp [h2, h3, h6, h7, h8, h9, m2_1, m3_2, m8_21, m9_25, f45, f47, dc7, dc11, dc44, AmbNode.cells, intC, strC, -boolBin]
        exact fin34 (c46) _ _ _ h (by refine ⟨?_, ?_, ?_, ?_, ?_, ?_, ?_, ?_, ?_⟩ <;> simp [h2, h3, h6, h7, h8, h9, m2_1, m3_2, m8_21, m9_25, f45, f47, dc7, dc11, dc44, AmbNode.cells, intC, strC, -boolBin])

theorem lawCongr_ok (aP : Proc) (aQ : Proc) (hp : lawCongr_pre aP aQ) : PureC Tryd.prog 4 [.agg [.list false (aP.map AmbNode.cells)], .agg [.list false (aQ.map AmbNode.cells)]] (fun r => r = bool (lawCongr aP aQ)) := (lawCongr_walk aP aQ _ (lawCongr_vc aP aQ hp)).mono (by rintro _ ⟨_, rfl, rfl⟩; rfl)
end Go.Ab.Vg

/- The contract of laws.FnExactAreCongruent: it answers true. -/
namespace Go.Ab
open Go.Proofs
theorem exactAreCongruent_ok (p q : Proc) (hp : Small p) (hq : Small q) : PureC Tryd.prog 4 [encP false p, encP false q] (fun r => r = bool true) := Vg.lawCongr_ok p q ⟨hp, hq⟩
end Go.Ab
