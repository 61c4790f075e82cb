/- Merged texts (6 of 10) of the proof that ends in Dy: Wb Wc Y Gp Gq Gr Gs Gt Lmx Yb Dc. -/
import Derived.Test.YthoblfcjmhppiaaDoorAbQd5
/- Contracts of spec.l12Kids, spec.l12Word and spec.l12Around. -/
namespace Go.Ab
open Go.Proofs
set_option linter.unusedSimpArgs false

theorem l12Kids_ok (p : Proc) (parent : Int) (hp : p.length ≤ 1048576) : PureC Tryd.prog 100 [encP false p, int parent] (fun r => r = encNats true (kidsFrom p parent p.length)) := by
  refine PureC.of Tryd.func100 rfl Tryd.ntmps100 (by simp) fun Q hQ => ?_
  refine Runs.seqE Ty_ok (by decide) fun k' hk' => ?_
  simp [encP]   -- R0
  refine hk' _ _ _ ?_
  refine Runs.seqE Ty_ok (by decide) fun k' hk' => ?_
  simp   -- R1
  refine hk' _ _ _ ?_
  refine Runs.seq ?_
  refine Runs.seqE Ty_ok (by decide) fun k' hk' => ?_
  simp   -- R2
  refine hk' _ _ _ ?_
  refine Runs.block (Runs.loopUp p.length (fun k ρ H n => ρ 1 = int parent ∧ ρ 2 = .ptr (0, 2) 1 0 0 ∧ H (0, 2) = some ⟨1, [[.list false (p.map AmbNode.cells)]]⟩ ∧ ρ 6 = int k ∧ ρ 5 = .arr (1, 7) (kidsFrom p parent k).length 0 (kidsFrom p parent k).length ∧ H (1, 7) = some ⟨1, (kidsFrom p parent k).map fun (i : Nat) => [int (i : Int)]⟩) ?_ ?_)
  · simp [kidsFrom]
  · rintro k ρ H n hk ⟨h1, h2, hH2, h6, h5, hH⟩ IH
    refine Runs.seq ?_
    refine Runs.seqE Ty_ok (by decide) fun k' hk' => ?_
    simp [h2, hH2, h6]   -- R3
    refine hk' _ _ _ ?_
    refine Runs.ite rfl (fun hc1 => ?_) (fun hc1 => ?_)   -- t12
    · simp at hc1
      refine Runs.skip ?_
      refine Runs.seq ?_
      refine Runs.block ?_
      refine Runs.seqE Ty_ok (by decide) fun k' hk' => ?_
      simp [h2, hH2, h6, hc1, h1, AmbNode.cells]   -- R5
      refine hk' _ _ _ ?_
      have hks := kids_succ p parent k
      have hkl := kids_len p parent k
      simp [hc1] at hks
      refine Runs.ite rfl (fun hc2 => ?_) (fun hc2 => ?_)   -- t22
      · simp at hc2
        refine Runs.evalE Ty_ok (by decide) fun k' hk' => ?_
        simp [h5, h6, hH, show (kidsFrom p parent k).length ≤ 1073741823 by omega]   -- R6
        refine hk' _ _ _ ?_
        refine Runs.inBlock ?_
        refine Runs.evalE Ty_ok (by decide) fun k' hk' => ?_
        simp [h6, wrap_succ (show k < 4611686018427387904 by omega)]   -- R4
        refine hk' _ _ _ ?_
        refine IH hc1 _ _ _ ?_
        simp [h1, h2, hH2, hks, hc2]
      · simp at hc2
        refine Runs.skip ?_
        refine Runs.inBlock ?_
        refine Runs.evalE Ty_ok (by decide) fun k' hk' => ?_
        simp [h6, wrap_succ (show k < 4611686018427387904 by omega)]   -- R4
        refine hk' _ _ _ ?_
        refine IH hc1 _ _ _ ?_
        simp [h1, h2, hH2, hks, hc2, h5, hH]
    · simp at hc1
      have hke : k = p.length := by omega
      subst hke
      refine Runs.exit rfl ?_
      refine Runs.seqE Ty_ok (by decide) fun k' hk' => ?_
      simp [h5]   -- R7
      refine hk' _ _ _ ?_
      exact Runs.ret Tryd.func100 (RetOk.one Tryd.results100) (hQ _ _ _ _ (.of (Ret.arrF (by simp [hH]; rfl) (by simp))) rfl)

theorem l12Word_ok (k : Int) (hk : 1 ≤ k ∧ k ≤ 3) : PureC Tryd.prog 113 [int k] (fun r => r = str (word (k - 1).toNat)) := by
  refine PureC.of Tryd.func113 rfl Tryd.ntmps113 (by simp) fun Q hQ => ?_
  refine Runs.seqE Ty_ok (by decide) fun k' hk' => ?_
  simp   -- R0
  refine hk' _ _ _ ?_
  refine Runs.seq ?_
  refine Runs.seqE Ty_ok (by decide) fun k' hk' => ?_
  simp   -- R1
  refine hk' _ _ _ ?_
  refine Runs.block ?_
  have : k = 1 ∨ k = 2 ∨ k = 3 := by omega
  refine Runs.seqE Ty_ok (by decide) fun k' hk' => ?_
  simp
  refine hk' _ _ _ ?_
  refine Runs.ite rfl (fun hc1 => ?_) (fun hc1 => ?_)
  · simp at hc1
    subst hc1
    refine Runs.seqE Ty_ok (by decide) fun k' hk' => ?_
    simp
    refine hk' _ _ _ ?_
    exact Runs.ret Tryd.func113 (RetOk.one Tryd.results113) (hQ _ _ _ _ (.v _ _ _) (by simp [word]))
  · simp at hc1
    refine Runs.seqE Ty_ok (by decide) fun k' hk' => ?_
    simp
    refine hk' _ _ _ ?_
    refine Runs.ite rfl (fun hc2 => ?_) (fun hc2 => ?_)
    · simp at hc2
      subst hc2
      refine Runs.seqE Ty_ok (by decide) fun k' hk' => ?_
      simp
      refine hk' _ _ _ ?_
      exact Runs.ret Tryd.func113 (RetOk.one Tryd.results113) (hQ _ _ _ _ (.v _ _ _) (by simp [word]))
    · simp at hc2
      have : k = 3 := by omega
      subst this
      refine Runs.seqE Ty_ok (by decide) fun k' hk' => ?_
      simp
      refine hk' _ _ _ ?_
      refine Runs.ite rfl (fun _ => ?_) (fun h => by simp at h)
      refine Runs.seqE Ty_ok (by decide) fun k' hk' => ?_
      simp
      refine hk' _ _ _ ?_
      exact Runs.ret Tryd.func113 (RetOk.one Tryd.results113) (hQ _ _ _ _ (.v _ _ _) (by simp [word]))

theorem l12Around_ok (x : AmbNode) (s : Str) (hk : 0 ≤ x.kind ∧ x.kind ≤ 3) (hn : x.name.length ≤ 1073741824) (hs : s.length ≤ 1152921504606846976) : PureC Tryd.prog 101 [.agg x.cells, str s] (fun r => r = str (nodeText x s)) := by
  have hwl := word_len (x.kind - 1).toNat
  refine PureC.of Tryd.func101 rfl Tryd.ntmps101 (by simp) fun Q hQ => ?_
  refine Runs.seqE Ty_ok (by decide) fun k' hk' => ?_
  simp   -- R0
  refine hk' _ _ _ ?_
  refine Runs.seq ?_
  refine Runs.seqE Ty_ok (by decide) fun k' hk' => ?_
  simp [AmbNode.cells]   -- R1
  refine hk' _ _ _ ?_
  refine Runs.ite rfl (fun hc1 => ?_) (fun hc1 => ?_)   -- t7
  · simp at hc1
    refine Runs.seqE Ty_ok (by decide) fun k' hk' => ?_
    simp (disch := first | omega | simp) [if_pos]   -- R2
    refine hk' _ _ _ ?_
    exact Runs.ret Tryd.func101 (RetOk.one Tryd.results101) (hQ _ _ _ _ (.v _ _ _) (by simp [nodeText, hc1]))
  · simp at hc1
    refine Runs.skip ?_
    refine Runs.seqD Ty_ok kindOp_ok draws (by decide) (by kernel_rfl) fun k' hk' => ?_
    simp   -- R3
    refine RunDK.callA Ty_ok kindOp_ok (l12Word_ok x.kind (by omega)) e113 (.cons (.v _ _ _) .nil) (by decide) rfl (by simp) ?_
    generalize hw : word (x.kind - 1).toNat = w at hwl
    simp (disch := first | omega | simp) [if_pos]
    refine hk' _ _ _ ?_
    refine Runs.ret Tryd.func101 (RetOk.one Tryd.results101) (hQ _ _ _ _ (.v _ _ _) ?_)
    unfold nodeText
    rw [if_neg hc1, hw]
    simp

theorem intercalate_snoc (l : List Str) (a : Str) (h : l ≠ []) : Lib.join (l ++ [a]) [124] = Lib.join l [124] ++ [124] ++ a := by
  induction l with
  | nil => exact absurd rfl h
  | cons b l ih =>
    cases l with
    | nil => simp [Lib.join, List.intercalate]
    | cons c l =>
      have := ih (by simp)
      simp [Lib.join, List.intercalate] at this ⊢
      rw [this]
end Go.Ab

/- Contracts of spec.l12In and spec.ProcessText. -/
namespace Go.Ab
open Go.Proofs
set_option linter.unusedSimpArgs false

end Go.Ab

/- Contracts of laws.szAmbNode, laws.szAmbNodeS and laws.szProcess. -/
namespace Go.Ab
open Go.Proofs
set_option linter.unusedSimpArgs false
theorem e15 : Ent Tryd.prog 15 := Ent.of Tryd.func15 (by kernel_rfl) rfl
theorem e17 : Ent Tryd.prog 17 := Ent.of Tryd.func17 (by kernel_rfl) rfl
theorem e10 : Ent Tryd.prog 10 := Ent.of Tryd.func10 (by kernel_rfl) rfl
theorem e46 : Ent Tryd.prog 46 := Ent.of Tryd.func46 (by kernel_rfl) rfl
theorem e49 : Ent Tryd.prog 49 := Ent.of Tryd.func49 (by kernel_rfl) rfl
theorem e35 : Ent Tryd.prog 35 := Ent.of Tryd.func35 (by kernel_rfl) rfl
theorem e69 : Ent Tryd.prog 69 := Ent.of Tryd.func69 (by kernel_rfl) rfl
theorem e73 : Ent Tryd.prog 73 := Ent.of Tryd.func73 (by kernel_rfl) rfl
theorem e65 : Ent Tryd.prog 65 := Ent.of Tryd.func65 (by kernel_rfl) rfl

def szStr (s : Str) (left : Int) : Int := if left - s.length < 0 then -1 else left - s.length
def szNodes : Proc → Int → Int
  | [], left => left
  | x :: r, left => if szStr x.name left < 0 then -1 else szNodes r (szStr x.name left)
def szProc (p : Proc) (left : Int) : Int := if left - p.length < 0 then -1 else szNodes p (left - p.length)
def Small (p : Proc) : Prop := p.length ≤ 9223372036854775807 ∧ ∀ x ∈ p, x.name.length ≤ 9223372036854775807

theorem szAmbNode_ok (x : AmbNode) (left : Int) (h0 : 0 ≤ left) (h1 : left ≤ 1048576) (hn : x.name.length ≤ 9223372036854775807) : PureC Tryd.prog 69 [.agg x.cells, int left] (fun r => r = int (szStr x.name left)) := by
  refine PureC.of Tryd.func69 rfl Tryd.ntmps69 (by simp) fun Q hQ => ?_
  refine Runs.seqE Ty_ok (by decide) fun k' hk' => ?_
  simp   -- R0
  refine hk' _ _ _ ?_
  refine Runs.seqE Ty_ok (by decide) fun k' hk' => ?_
  simp [AmbNode.cells, show -9223372036854775808 ≤ left - x.name.length by omega, show left - x.name.length ≤ 9223372036854775807 by omega]   -- R1
  refine hk' _ _ _ ?_
  refine Runs.seq ?_
  refine Runs.seqE Ty_ok (by decide) fun k' hk' => ?_
  simp   -- R2
  refine hk' _ _ _ ?_
  refine Runs.ite rfl (fun hc1 => ?_) (fun hc1 => ?_)   -- t11
  · simp only [decide_eq_true_eq] at hc1
    refine Runs.seqE Ty_ok (by decide) fun k' hk' => ?_
    simp   -- R3
    refine hk' _ _ _ ?_
    refine Runs.ret Tryd.func69 (RetOk.one Tryd.results69) (hQ _ _ _ _ (.v _ _ _) ?_)
    rw [szStr, if_pos hc1]
  · simp only [decide_eq_false_iff_not] at hc1
    refine Runs.skip ?_
    refine Runs.seqE Ty_ok (by decide) fun k' hk' => ?_
    simp   -- R4
    refine hk' _ _ _ ?_
    refine Runs.ret Tryd.func69 (RetOk.one Tryd.results69) (hQ _ _ _ _ (.v _ _ _) ?_)
    rw [szStr, if_neg hc1]

theorem szAmbNodeS_ok (p : Proc) (left : Int) (h0 : 0 ≤ left) (h1 : left ≤ 1048576) (hp : Small p) : PureC Tryd.prog 46 [.list false (p.map AmbNode.cells), int left] (fun r => r = int (szProc p left)) := by
  obtain ⟨hp1, hp2⟩ := hp
  refine PureC.of Tryd.func46 rfl Tryd.ntmps46 (by simp) fun Q hQ => ?_
  refine Runs.seqE Ty_ok (by decide) fun k' hk' => ?_
  simp   -- R0
  refine hk' _ _ _ ?_
  refine Runs.seqE Ty_ok (by decide) fun k' hk' => ?_
  simp [show -9223372036854775808 ≤ left - p.length by omega, show left - p.length ≤ 9223372036854775807 by omega]   -- R1
  refine hk' _ _ _ ?_
  refine Runs.seq ?_
  refine Runs.seqE Ty_ok (by decide) fun k' hk' => ?_
  simp   -- R2
  refine hk' _ _ _ ?_
  refine Runs.ite rfl (fun hc1 => ?_) (fun hc1 => ?_)   -- t11
  · simp only [decide_eq_true_eq] at hc1
    refine Runs.seqE Ty_ok (by decide) fun k' hk' => ?_
    simp   -- R3
    refine hk' _ _ _ ?_
    refine Runs.ret Tryd.func46 (RetOk.one Tryd.results46) (hQ _ _ _ _ (.v _ _ _) ?_)
    rw [szProc, if_pos hc1]
  · simp only [decide_eq_false_iff_not] at hc1
    refine Runs.skip ?_
    refine Runs.seq ?_
    refine Runs.seqE Ty_ok (by decide) fun k' hk' => ?_
    simp   -- R4
    refine hk' _ _ _ ?_
    refine Runs.block (Runs.loopUp p.length (fun k ρ H n => ρ 0 = .list false (p.map AmbNode.cells) ∧ ρ 5 = int k ∧ ∃ cur : Int, ρ 1 = int cur ∧ 0 ≤ cur ∧ cur ≤ left ∧ szNodes (p.drop k) cur = szProc p left) ?_ ?_)
    · simp [szProc, hc1]
      omega
    · rintro k ρ H n hk ⟨h0, h5, cur, h1', hcur, hcl, hsz⟩ IH
      refine Runs.seq ?_
      refine Runs.seqE Ty_ok (by decide) fun k' hk' => ?_
      simp [h0, h5]   -- R5
      refine hk' _ _ _ ?_
      refine Runs.ite rfl (fun hc2 => ?_) (fun hc2 => ?_)   -- t15
      · simp at hc2
        refine Runs.skip ?_
        refine Runs.seq ?_
        refine Runs.block ?_
        refine Runs.seqE Ty_ok (by decide) fun k' hk' => ?_
        simp [h0, h5, h1', hc2, AmbNode.cells]   -- R7
        refine RunK.callA Ty_ok (szAmbNode_ok p[k] cur hcur (by omega) (hp2 _ (List.getElem_mem hc2))) e69 (.cons (ArgOk.node _) (.cons (.v _ _ _) .nil)) (by decide) (by decide) rfl (by simp [AmbNode.cells, h1']) ?_
        rintro _ rfl
        simp
        refine hk' _ _ _ ?_
        rw [List.drop_eq_getElem_cons hc2, szNodes] at hsz
        refine Runs.seqE Ty_ok (by decide) fun k' hk' => ?_
        simp   -- R8
        refine hk' _ _ _ ?_
        refine Runs.ite rfl (fun hc3 => ?_) (fun hc3 => ?_)   -- t25
        · simp only [decide_eq_true_eq] at hc3
          rw [if_pos hc3] at hsz
          refine Runs.seqE Ty_ok (by decide) fun k' hk' => ?_
          simp   -- R9
          refine hk' _ _ _ ?_
          exact Runs.ret Tryd.func46 (RetOk.one Tryd.results46) (hQ _ _ _ _ (.v _ _ _) (by rw [← hsz]))
        · simp only [decide_eq_false_iff_not] at hc3
          rw [if_neg hc3] at hsz
          refine Runs.skip ?_
          refine Runs.inBlock ?_
          refine Runs.evalE Ty_ok (by decide) fun k' hk' => ?_
          simp [h5, wrap_succ (show k < 4611686018427387904 by omega)]   -- R6
          refine hk' _ _ _ ?_
          refine IH hc2 _ _ _ ?_
          have hle : szStr p[k].name cur ≤ left := by
            unfold szStr
            split <;> omega
          exact ⟨by simp [h0], by simp, szStr p[k].name cur, by simp, by omega, hle, hsz⟩
      · simp at hc2
        have hke : k = p.length := by omega
        subst hke
        rw [List.drop_length, szNodes] at hsz
        refine Runs.exit rfl ?_
        refine Runs.seqE Ty_ok (by decide) fun k' hk' => ?_
        simp [h1']   -- R10
        refine hk' _ _ _ ?_
        exact Runs.ret Tryd.func46 (RetOk.one Tryd.results46) (hQ _ _ _ _ (.v _ _ _) (by rw [hsz]))

theorem szProcess_ok (p : Proc) (left : Int) (h0 : 0 ≤ left) (h1 : left ≤ 1048576) (hp : Small p) : PureC Tryd.prog 15 [encP false p, int left] (fun r => r = int (if szProc p left < 0 then -1 else szProc p left)) := by
  refine PureC.of Tryd.func15 rfl Tryd.ntmps15 (by simp) fun Q hQ => ?_
  refine Runs.seqE Ty_ok (by decide) fun k' hk' => ?_
  simp [encP]   -- R0
  refine hk' _ _ _ ?_
  refine Runs.seqE Ty_ok (by decide) fun k' hk' => ?_
  simp   -- R1
  refine RunK.callA Ty_ok (szAmbNodeS_ok p left h0 h1 hp) e46 (.cons (.listF (fr := false) (by simp [AmbNode.cells])) (.cons (.v _ _ _) .nil)) (by decide) (by decide) rfl (by simp) ?_
  rintro _ rfl
  simp
  refine hk' _ _ _ ?_
  refine Runs.seq ?_
  refine Runs.seqE Ty_ok (by decide) fun k' hk' => ?_
  simp   -- R2
  refine hk' _ _ _ ?_
  refine Runs.ite rfl (fun hc1 => ?_) (fun hc1 => ?_)   -- t10
  · simp only [decide_eq_true_eq] at hc1
    refine Runs.seqE Ty_ok (by decide) fun k' hk' => ?_
    simp   -- R3
    refine hk' _ _ _ ?_
    exact Runs.ret Tryd.func15 (RetOk.one Tryd.results15) (hQ _ _ _ _ (.v _ _ _) (by rw [if_pos hc1]))
  · simp only [decide_eq_false_iff_not] at hc1
    refine Runs.skip ?_
    refine Runs.seqE Ty_ok (by decide) fun k' hk' => ?_
    simp   -- R4
    refine hk' _ _ _ ?_
    exact Runs.ret Tryd.func15 (RetOk.one Tryd.results15) (hQ _ _ _ _ (.v _ _ _) (by rw [if_neg hc1]))

theorem szNodes_le : ∀ (p : Proc) (left : Int), 0 ≤ szNodes p left → ∀ x ∈ p, (x.name.length : Int) ≤ left
  | [], _, _, x, hx => by simp at hx
  | y :: r, left, h, x, hx => by
    rw [szNodes] at h
    split at h
    · omega
    · rename_i h2
      have h3 : szStr y.name left = left - y.name.length := by
        unfold szStr at h2 ⊢
        split <;> rename_i h4
        · rw [if_pos h4] at h2; omega
        · rfl
      rcases List.mem_cons.1 hx with rfl | hx
      · rw [h3] at h2; omega
      · have := szNodes_le r _ h x hx
        rw [h3] at this
        omega

theorem szProc_le {p : Proc} {left : Int} (h : 0 ≤ szProc p left) : (p.length : Int) ≤ left ∧ ∀ x ∈ p, (x.name.length : Int) ≤ left := by
  unfold szProc at h
  split at h
  · omega
  · exact ⟨by omega, fun x hx => by have := szNodes_le p _ h x hx; omega⟩
end Go.Ab

/- Contracts of the laws' sz.. functions of bigraphs. By program. -/
namespace Go.Ab
open Go.Proofs
set_option linter.unusedSimpArgs false

def szL {α : Type} (f : α → Int → Int) : List α → Int → Int
  | [], left => left
  | x :: r, left => if f x left < 0 then -1 else szL f r (f x left)
def szS {α : Type} (f : α → Int → Int) (l : List α) (left : Int) : Int := if left - l.length < 0 then -1 else szL f l (left - l.length)
def szI (l : List Int) (left : Int) : Int := if left - l.length < 0 then -1 else left - l.length
def szC (x : Control) (left : Int) : Int := szStr x.name left
def szW (x : Wire) (left : Int) : Int := szStr x.name left
def szN (x : GNode) (left : Int) : Int := szI x.links left
class SzF {α : Type} (f : α → Int → Int) : Prop where
  le : ∀ x left, 0 ≤ left → f x left ≤ left
theorem f_le {α : Type} (f : α → Int → Int) [SzF f] (x : α) (left : Int) (h : 0 ≤ left) : f x left ≤ left := SzF.le x left h
instance : SzF szStr := ⟨fun x left h => by unfold szStr; split <;> omega⟩
instance : SzF szI := ⟨fun x left h => by unfold szI; split <;> omega⟩
instance : SzF szC := ⟨fun x left h => by unfold szC szStr; split <;> omega⟩
instance : SzF szW := ⟨fun x left h => by unfold szW szStr; split <;> omega⟩
instance : SzF szN := ⟨fun x left h => by unfold szN szI; split <;> omega⟩

theorem e59 : Ent Tryd.prog 59 := Ent.of Tryd.func59 (by kernel_rfl) rfl
theorem szWire_ok (x : Wire) (left : Int) (h0 : 0 ≤ left) (h1 : left ≤ 1048576) (hn : x.name.length ≤ 9223372036854775807) : PureC Tryd.prog 59 [.agg x.cells, int left] (fun r => r = int (szW x left)) := by
  refine PureC.of Tryd.func59 rfl Tryd.ntmps59 (by simp) fun Q hQ => ?_
  refine Runs.seqE Ty_ok (by decide) fun k' hk' => ?_
  simp [Wire.cells]   -- R0
  refine hk' _ _ _ ?_
  refine Runs.seqE Ty_ok (by decide) fun k' hk' => ?_
  simp [show -9223372036854775808 ≤ left - (x.name.length : Int) by omega, show left - (x.name.length : Int) ≤ 9223372036854775807 by omega]
  refine hk' _ _ _ ?_
  refine Runs.seq ?_
  refine Runs.seqE Ty_ok (by decide) fun k' hk' => ?_
  simp   -- R2
  refine hk' _ _ _ ?_
  refine Runs.ite rfl (fun hc1 => ?_) (fun hc1 => ?_)
  · simp only [decide_eq_true_eq] at hc1
    refine Runs.seqE Ty_ok (by decide) fun k' hk' => ?_
    simp   -- R3
    refine hk' _ _ _ ?_
    refine Runs.ret Tryd.func59 (RetOk.one Tryd.results59) (hQ _ _ _ _ (.v _ _ _) ?_)
    rw [szW, szStr, if_pos hc1]
  · simp only [decide_eq_false_iff_not] at hc1
    refine Runs.skip ?_
    refine Runs.seqE Ty_ok (by decide) fun k' hk' => ?_
    simp   -- R4
    refine hk' _ _ _ ?_
    refine Runs.ret Tryd.func59 (RetOk.one Tryd.results59) (hQ _ _ _ _ (.v _ _ _) ?_)
    rw [szW, szStr, if_neg hc1]

theorem e23 : Ent Tryd.prog 23 := Ent.of Tryd.func23 (by kernel_rfl) rfl
theorem szIntS_ok (x : List Int) (left : Int) (h0 : 0 ≤ left) (h1 : left ≤ 1048576) (hn : x.length ≤ 9223372036854775807) : PureC Tryd.prog 23 [encI false x, int left] (fun r => r = int (szI x left)) := by
  refine PureC.of Tryd.func23 rfl Tryd.ntmps23 (by simp) fun Q hQ => ?_
  refine Runs.seqE Ty_ok (by decide) fun k' hk' => ?_
  simp [encI]   -- R0
  refine hk' _ _ _ ?_
  refine Runs.seqE Ty_ok (by decide) fun k' hk' => ?_
  simp [show -9223372036854775808 ≤ left - (x.length : Int) by omega, show left - (x.length : Int) ≤ 9223372036854775807 by omega]
  refine hk' _ _ _ ?_
  refine Runs.seq ?_
  refine Runs.seqE Ty_ok (by decide) fun k' hk' => ?_
  simp   -- R2
  refine hk' _ _ _ ?_
  refine Runs.ite rfl (fun hc1 => ?_) (fun hc1 => ?_)
  · simp only [decide_eq_true_eq] at hc1
    refine Runs.seqE Ty_ok (by decide) fun k' hk' => ?_
    simp   -- R3
    refine hk' _ _ _ ?_
    refine Runs.ret Tryd.func23 (RetOk.one Tryd.results23) (hQ _ _ _ _ (.v _ _ _) ?_)
    rw [szI, if_pos hc1]
  · simp only [decide_eq_false_iff_not] at hc1
    refine Runs.skip ?_
    refine Runs.seqE Ty_ok (by decide) fun k' hk' => ?_
    simp   -- R4
    refine hk' _ _ _ ?_
    refine Runs.ret Tryd.func23 (RetOk.one Tryd.results23) (hQ _ _ _ _ (.v _ _ _) ?_)
    rw [szI, if_neg hc1]

theorem e58 : Ent Tryd.prog 58 := Ent.of Tryd.func58 (by kernel_rfl) rfl
theorem szNode_ok (x : GNode) (left : Int) (h0 : 0 ≤ left) (h1 : left ≤ 1048576) (hn : x.links.length ≤ 9223372036854775807) : PureC Tryd.prog 58 [.agg (x.cells false), int left] (fun r => r = int (szN x left)) := by
  refine PureC.of Tryd.func58 rfl Tryd.ntmps58 (by simp) fun Q hQ => ?_
  refine Runs.seqE Ty_ok (by decide) fun k' hk' => ?_
  simp [GNode.cells]   -- R0
  refine hk' _ _ _ ?_
  refine Runs.seqE Ty_ok (by decide) fun k' hk' => ?_
  simp
  refine RunK.callA Ty_ok (szIntS_ok x.links left h0 h1 hn) e23 (.cons (ArgOk.encI false x.links) (.cons (.v _ _ _) .nil)) (by decide) (by decide) rfl (by simp [encI]) ?_
  rintro _ rfl
  simp
  refine hk' _ _ _ ?_
  refine Runs.seq ?_
  refine Runs.seqE Ty_ok (by decide) fun k' hk' => ?_
  simp   -- R2
  refine hk' _ _ _ ?_
  refine Runs.ite rfl (fun hc1 => ?_) (fun hc1 => ?_)
  · simp only [decide_eq_true_eq] at hc1
    refine Runs.seqE Ty_ok (by decide) fun k' hk' => ?_
    simp   -- R3
    refine hk' _ _ _ ?_
    refine Runs.ret Tryd.func58 (RetOk.one Tryd.results58) (hQ _ _ _ _ (.v _ _ _) ?_)
    simp only [Env.put]
    have : szI x.links left = -1 := by
      unfold szI at hc1 ⊢
      split <;> rename_i h
      · rfl
      · rw [if_neg h] at hc1; omega
    simp [szN, this]
  · simp only [decide_eq_false_iff_not] at hc1
    refine Runs.skip ?_
    refine Runs.seqE Ty_ok (by decide) fun k' hk' => ?_
    simp   -- R4
    refine hk' _ _ _ ?_
    refine Runs.ret Tryd.func58 (RetOk.one Tryd.results58) (hQ _ _ _ _ (.v _ _ _) ?_)
    rfl

theorem e25 : Ent Tryd.prog 25 := Ent.of Tryd.func25 (by kernel_rfl) rfl
theorem szWireS_ok (p : List (Wire)) (left : Int) (h0 : 0 ≤ left) (h1 : left ≤ 1048576) (hp1 : p.length ≤ 9223372036854775807) (hp2 : ∀ x ∈ p, x.name.length ≤ 9223372036854775807) : PureC Tryd.prog 25 [.list false (p.map Wire.cells), int left] (fun r => r = int (szS szW p left)) := by
  refine PureC.of Tryd.func25 rfl Tryd.ntmps25 (by simp) fun Q hQ => ?_
  refine Runs.seqE Ty_ok (by decide) fun k' hk' => ?_
  simp   -- R0
  refine hk' _ _ _ ?_
  refine Runs.seqE Ty_ok (by decide) fun k' hk' => ?_
  simp [show -9223372036854775808 ≤ left - p.length by omega, show left - p.length ≤ 9223372036854775807 by omega]   -- R1
  refine hk' _ _ _ ?_
  refine Runs.seq ?_
  refine Runs.seqE Ty_ok (by decide) fun k' hk' => ?_
  simp   -- R2
  refine hk' _ _ _ ?_
  refine Runs.ite rfl (fun hc1 => ?_) (fun hc1 => ?_)
  · simp only [decide_eq_true_eq] at hc1
    refine Runs.seqE Ty_ok (by decide) fun k' hk' => ?_
    simp   -- R3
    refine hk' _ _ _ ?_
    refine Runs.ret Tryd.func25 (RetOk.one Tryd.results25) (hQ _ _ _ _ (.v _ _ _) ?_)
    rw [szS, if_pos hc1]
  · simp only [decide_eq_false_iff_not] at hc1
    refine Runs.skip ?_
    refine Runs.seq ?_
    refine Runs.seqE Ty_ok (by decide) fun k' hk' => ?_
    simp   -- R4
    refine hk' _ _ _ ?_
    refine Runs.block (Runs.loopUp p.length (fun k ρ H n => ρ 0 = .list false (p.map Wire.cells) ∧ ρ 5 = int k ∧ ∃ cur : Int, ρ 1 = int cur ∧ 0 ≤ cur ∧ cur ≤ left ∧ szL szW (p.drop k) cur = szS szW p left) ?_ ?_)
    · refine ⟨by simp, by simp, left - p.length, by simp, by omega, by omega, ?_⟩
      rw [szS, if_neg hc1, List.drop_zero]
    · rintro k ρ H n hk ⟨h0, h5, cur, h1', hcur, hcl, hsz⟩ IH
      refine Runs.seq ?_
      refine Runs.seqE Ty_ok (by decide) fun k' hk' => ?_
      simp [h0, h5]   -- R5
      refine hk' _ _ _ ?_
      refine Runs.ite rfl (fun hc2 => ?_) (fun hc2 => ?_)
      · simp at hc2
        have hel := hp2 _ (List.getElem_mem hc2)
        refine Runs.skip ?_
        refine Runs.seq ?_
        refine Runs.block ?_
        refine Runs.seqE Ty_ok (by decide) fun k' hk' => ?_
        simp [h0, h5, h1', hc2, Wire.cells]   -- R7
        refine RunK.callA Ty_ok (szWire_ok p[k] cur hcur (by omega) hel) e59 (.cons (ArgOk.wireB _) (.cons (.v _ _ _) .nil)) (by decide) (by decide) rfl (by simp [Wire.cells, h1']) ?_
        rintro _ rfl
        simp
        refine hk' _ _ _ ?_
        rw [List.drop_eq_getElem_cons hc2, szL] at hsz
        refine Runs.seqE Ty_ok (by decide) fun k' hk' => ?_
        simp   -- R8
        refine hk' _ _ _ ?_
        refine Runs.ite rfl (fun hc3 => ?_) (fun hc3 => ?_)
        · simp only [decide_eq_true_eq] at hc3
          refine Runs.seqE Ty_ok (by decide) fun k' hk' => ?_
          simp   -- R9
          refine hk' _ _ _ ?_
          refine Runs.ret Tryd.func25 (RetOk.one Tryd.results25) (hQ _ _ _ _ (.v _ _ _) ?_)
          rw [← hsz]
          rw [if_pos hc3]
        · simp only [decide_eq_false_iff_not] at hc3
          refine Runs.skip ?_
          refine Runs.inBlock ?_
          refine Runs.evalE Ty_ok (by decide) fun k' hk' => ?_
          simp [h5, wrap_succ (show k < 4611686018427387904 by omega)]   -- R6
          refine hk' _ _ _ ?_
          refine IH hc2 _ _ _ ?_
          have hle := f_le szW p[k] cur hcur
          rw [if_neg hc3] at hsz
          exact ⟨by simp [h0, Wire.cells], by simp, szW p[k] cur, by simp, by omega, by omega, hsz⟩
      · simp at hc2
        have hke : k = p.length := by omega
        subst hke
        rw [List.drop_length, szL] at hsz
        refine Runs.exit rfl ?_
        refine Runs.seqE Ty_ok (by decide) fun k' hk' => ?_
        simp [h1']   -- R10
        refine hk' _ _ _ ?_
        exact Runs.ret Tryd.func25 (RetOk.one Tryd.results25) (hQ _ _ _ _ (.v _ _ _) (by rw [hsz]))

theorem e22 : Ent Tryd.prog 22 := Ent.of Tryd.func22 (by kernel_rfl) rfl
theorem szNodeS_ok (p : List (GNode)) (left : Int) (h0 : 0 ≤ left) (h1 : left ≤ 1048576) (hp1 : p.length ≤ 9223372036854775807) (hp2 : ∀ x ∈ p, x.links.length ≤ 9223372036854775807) : PureC Tryd.prog 22 [.list false (p.map (GNode.cells false)), int left] (fun r => r = int (szS szN p left)) := by
  refine PureC.of Tryd.func22 rfl Tryd.ntmps22 (by simp) fun Q hQ => ?_
  refine Runs.seqE Ty_ok (by decide) fun k' hk' => ?_
  simp   -- R0
  refine hk' _ _ _ ?_
  refine Runs.seqE Ty_ok (by decide) fun k' hk' => ?_
  simp [show -9223372036854775808 ≤ left - p.length by omega, show left - p.length ≤ 9223372036854775807 by omega]   -- R1
  refine hk' _ _ _ ?_
  refine Runs.seq ?_
  refine Runs.seqE Ty_ok (by decide) fun k' hk' => ?_
  simp   -- R2
  refine hk' _ _ _ ?_
  refine Runs.ite rfl (fun hc1 => ?_) (fun hc1 => ?_)
  · simp only [decide_eq_true_eq] at hc1
    refine Runs.seqE Ty_ok (by decide) fun k' hk' => ?_
    simp   -- R3
    refine hk' _ _ _ ?_
    refine Runs.ret Tryd.func22 (RetOk.one Tryd.results22) (hQ _ _ _ _ (.v _ _ _) ?_)
    rw [szS, if_pos hc1]
  · simp only [decide_eq_false_iff_not] at hc1
    refine Runs.skip ?_
    refine Runs.seq ?_
    refine Runs.seqE Ty_ok (by decide) fun k' hk' => ?_
    simp   -- R4
    refine hk' _ _ _ ?_
    refine Runs.block (Runs.loopUp p.length (fun k ρ H n => ρ 0 = .list false (p.map (GNode.cells false)) ∧ ρ 5 = int k ∧ ∃ cur : Int, ρ 1 = int cur ∧ 0 ≤ cur ∧ cur ≤ left ∧ szL szN (p.drop k) cur = szS szN p left) ?_ ?_)
    · refine ⟨by simp, by simp, left - p.length, by simp, by omega, by omega, ?_⟩
      rw [szS, if_neg hc1, List.drop_zero]
    · rintro k ρ H n hk ⟨h0, h5, cur, h1', hcur, hcl, hsz⟩ IH
      refine Runs.seq ?_
      refine Runs.seqE Ty_ok (by decide) fun k' hk' => ?_
      simp [h0, h5]   -- R5
      refine hk' _ _ _ ?_
      refine Runs.ite rfl (fun hc2 => ?_) (fun hc2 => ?_)
      · simp at hc2
        have hel := hp2 _ (List.getElem_mem hc2)
        refine Runs.skip ?_
        refine Runs.seq ?_
        refine Runs.block ?_
        refine Runs.seqE Ty_ok (by decide) fun k' hk' => ?_
        simp [h0, h5, h1', hc2, GNode.cells]   -- R7
        refine RunK.callA Ty_ok (szNode_ok p[k] cur hcur (by omega) hel) e58 (.cons (ArgOk.nodeB false _) (.cons (.v _ _ _) .nil)) (by decide) (by decide) rfl (by simp [GNode.cells, h1']) ?_
        rintro _ rfl
        simp
        refine hk' _ _ _ ?_
        rw [List.drop_eq_getElem_cons hc2, szL] at hsz
        refine Runs.seqE Ty_ok (by decide) fun k' hk' => ?_
        simp   -- R8
        refine hk' _ _ _ ?_
        refine Runs.ite rfl (fun hc3 => ?_) (fun hc3 => ?_)
        · simp only [decide_eq_true_eq] at hc3
          refine Runs.seqE Ty_ok (by decide) fun k' hk' => ?_
          simp   -- R9
          refine hk' _ _ _ ?_
          refine Runs.ret Tryd.func22 (RetOk.one Tryd.results22) (hQ _ _ _ _ (.v _ _ _) ?_)
          rw [← hsz]
          rw [if_pos hc3]
        · simp only [decide_eq_false_iff_not] at hc3
          refine Runs.skip ?_
          refine Runs.inBlock ?_
          refine Runs.evalE Ty_ok (by decide) fun k' hk' => ?_
          simp [h5, wrap_succ (show k < 4611686018427387904 by omega)]   -- R6
          refine hk' _ _ _ ?_
          refine IH hc2 _ _ _ ?_
          have hle := f_le szN p[k] cur hcur
          rw [if_neg hc3] at hsz
          exact ⟨by simp [h0, GNode.cells], by simp, szN p[k] cur, by simp, by omega, by omega, hsz⟩
      · simp at hc2
        have hke : k = p.length := by omega
        subst hke
        rw [List.drop_length, szL] at hsz
        refine Runs.exit rfl ?_
        refine Runs.seqE Ty_ok (by decide) fun k' hk' => ?_
        simp [h1']   -- R10
        refine hk' _ _ _ ?_
        exact Runs.ret Tryd.func22 (RetOk.one Tryd.results22) (hQ _ _ _ _ (.v _ _ _) (by rw [hsz]))

theorem e24 : Ent Tryd.prog 24 := Ent.of Tryd.func24 (by kernel_rfl) rfl
theorem szStringS_ok (p : List (Str)) (left : Int) (h0 : 0 ≤ left) (h1 : left ≤ 1048576) (hp1 : p.length ≤ 9223372036854775807) (hp2 : ∀ x ∈ p, x.length ≤ 9223372036854775807) : PureC Tryd.prog 24 [.list false (p.map strC), int left] (fun r => r = int (szS szStr p left)) := by
  refine PureC.of Tryd.func24 rfl Tryd.ntmps24 (by simp) fun Q hQ => ?_
  refine Runs.seqE Ty_ok (by decide) fun k' hk' => ?_
  simp   -- R0
  refine hk' _ _ _ ?_
  refine Runs.seqE Ty_ok (by decide) fun k' hk' => ?_
  simp [show -9223372036854775808 ≤ left - p.length by omega, show left - p.length ≤ 9223372036854775807 by omega]   -- R1
  refine hk' _ _ _ ?_
  refine Runs.seq ?_
  refine Runs.seqE Ty_ok (by decide) fun k' hk' => ?_
  simp   -- R2
  refine hk' _ _ _ ?_
  refine Runs.ite rfl (fun hc1 => ?_) (fun hc1 => ?_)
  · simp only [decide_eq_true_eq] at hc1
    refine Runs.seqE Ty_ok (by decide) fun k' hk' => ?_
    simp   -- R3
    refine hk' _ _ _ ?_
    refine Runs.ret Tryd.func24 (RetOk.one Tryd.results24) (hQ _ _ _ _ (.v _ _ _) ?_)
    rw [szS, if_pos hc1]
  · simp only [decide_eq_false_iff_not] at hc1
    refine Runs.skip ?_
    refine Runs.seq ?_
    refine Runs.seqE Ty_ok (by decide) fun k' hk' => ?_
    simp   -- R4
    refine hk' _ _ _ ?_
    refine Runs.block (Runs.loopUp p.length (fun k ρ H n => ρ 0 = .list false (p.map strC) ∧ ρ 5 = int k ∧ ∃ cur : Int, ρ 1 = int cur ∧ 0 ≤ cur ∧ cur ≤ left ∧ szL szStr (p.drop k) cur = szS szStr p left) ?_ ?_)
    · refine ⟨by simp, by simp, left - p.length, by simp, by omega, by omega, ?_⟩
      rw [szS, if_neg hc1, List.drop_zero]
    · rintro k ρ H n hk ⟨h0, h5, cur, h1', hcur, hcl, hsz⟩ IH
      refine Runs.seq ?_
      refine Runs.seqE Ty_ok (by decide) fun k' hk' => ?_
      simp [h0, h5]   -- R5
      refine hk' _ _ _ ?_
      refine Runs.ite rfl (fun hc2 => ?_) (fun hc2 => ?_)
      · simp at hc2
        have hel := hp2 _ (List.getElem_mem hc2)
        refine Runs.skip ?_
        refine Runs.seq ?_
        refine Runs.block ?_
        refine Runs.seqE Ty_ok (by decide) fun k' hk' => ?_
        simp [h0, h5, h1', hc2, strC, show -9223372036854775808 ≤ cur - (p[k].length : Int) by omega, show cur - (p[k].length : Int) ≤ 9223372036854775807 by omega]   -- R7
        refine hk' _ _ _ ?_
        rw [List.drop_eq_getElem_cons hc2, szL] at hsz
        refine Runs.seqE Ty_ok (by decide) fun k' hk' => ?_
        simp   -- R8
        refine hk' _ _ _ ?_
        refine Runs.ite rfl (fun hc3 => ?_) (fun hc3 => ?_)
        · simp only [decide_eq_true_eq] at hc3
          refine Runs.seqE Ty_ok (by decide) fun k' hk' => ?_
          simp   -- R9
          refine hk' _ _ _ ?_
          refine Runs.ret Tryd.func24 (RetOk.one Tryd.results24) (hQ _ _ _ _ (.v _ _ _) ?_)
          rw [← hsz]
          rw [if_pos (by unfold szStr; rw [if_pos hc3]; omega)]
        · simp only [decide_eq_false_iff_not] at hc3
          refine Runs.skip ?_
          refine Runs.inBlock ?_
          refine Runs.evalE Ty_ok (by decide) fun k' hk' => ?_
          simp [h5, wrap_succ (show k < 4611686018427387904 by omega)]   -- R6
          refine hk' _ _ _ ?_
          refine IH hc2 _ _ _ ?_
          have hse : szStr p[k] cur = cur - p[k].length := by unfold szStr; rw [if_neg hc3]
          rw [if_neg (by rw [hse]; exact hc3), hse] at hsz
          exact ⟨by simp [h0, strC], by simp, cur - p[k].length, by simp, by omega, by omega, hsz⟩
      · simp at hc2
        have hke : k = p.length := by omega
        subst hke
        rw [List.drop_length, szL] at hsz
        refine Runs.exit rfl ?_
        refine Runs.seqE Ty_ok (by decide) fun k' hk' => ?_
        simp [h1']   -- R10
        refine hk' _ _ _ ?_
        exact Runs.ret Tryd.func24 (RetOk.one Tryd.results24) (hQ _ _ _ _ (.v _ _ _) (by rw [hsz]))

end Go.Ab

/- Contract of laws.szBigraph; what the sizes bound. -/
namespace Go.Ab
open Go.Proofs
set_option linter.unusedSimpArgs false
theorem e6 : Ent Tryd.prog 6 := Ent.of Tryd.func6 (by kernel_rfl) rfl

def szB (b : Big) (left : Int) : Int :=
  if szS szN b.nodes left < 0 then -1 else if szI b.sites (szS szN b.nodes left) < 0 then -1 else
  if szS szStr b.outer (szI b.sites (szS szN b.nodes left)) < 0 then -1 else
  if szS szW b.inner (szS szStr b.outer (szI b.sites (szS szN b.nodes left))) < 0 then -1 else szS szW b.inner (szS szStr b.outer (szI b.sites (szS szN b.nodes left)))

/-- What a reader tells of a bigraph. -/
structure HugeB (b : Big) : Prop where
  nodes : b.nodes.length ≤ 9223372036854775807
  links : ∀ x ∈ b.nodes, x.links.length ≤ 9223372036854775807
  sites : b.sites.length ≤ 9223372036854775807
  outer : b.outer.length ≤ 9223372036854775807
  names : ∀ x ∈ b.outer, x.length ≤ 9223372036854775807
  inner : b.inner.length ≤ 9223372036854775807
  wnames : ∀ x ∈ b.inner, x.name.length ≤ 9223372036854775807
  parents : ∀ x ∈ b.nodes, I64 x.parent
  sites64 : ∀ p ∈ b.sites, I64 p

theorem szL_le {α : Type} (f : α → Int → Int) [SzF f] : ∀ (l : List α) (left : Int), 0 ≤ left → szL f l left ≤ left
  | [], _, _ => Int.le_refl _
  | x :: r, left, h => by
    rw [szL]
    have := f_le f x left h
    split
    · omega
    · have := szL_le f r (f x left) (by omega)
      omega
theorem szS_le {α : Type} (f : α → Int → Int) [SzF f] (l : List α) (left : Int) (h : 0 ≤ left) : szS f l left ≤ left := by
  unfold szS
  split
  · omega
  · have := szL_le f l (left - l.length) (by omega)
    omega
theorem szL_mem {α : Type} (f : α → Int → Int) [SzF f] : ∀ (l : List α) (left : Int), 0 ≤ left → 0 ≤ szL f l left → ∀ x ∈ l, ∃ c, 0 ≤ c ∧ c ≤ left ∧ 0 ≤ f x c
  | [], _, _, _, x, hx => by cases hx
  | y :: r, left, h, h2, x, hx => by
    rw [szL] at h2
    have hle := f_le f y left h
    split at h2
    · omega
    · rcases List.mem_cons.1 hx with rfl | hx
      · exact ⟨left, h, Int.le_refl _, by omega⟩
      · obtain ⟨c, h3, h4, h5⟩ := szL_mem f r (f y left) (by omega) h2 x hx
        exact ⟨c, h3, by omega, h5⟩
theorem szS_mem {α : Type} (f : α → Int → Int) [SzF f] (l : List α) (left : Int) (h : 0 ≤ left) (h2 : 0 ≤ szS f l left) : (l.length : Int) ≤ left ∧ ∀ x ∈ l, ∃ c, 0 ≤ c ∧ c ≤ left ∧ 0 ≤ f x c := by
  unfold szS at h2
  split at h2
  · omega
  · refine ⟨by omega, fun x hx => ?_⟩
    obtain ⟨c, h3, h4, h5⟩ := szL_mem f l _ (by omega) h2 x hx
    exact ⟨c, h3, by omega, h5⟩
theorem szStr_len {s : Str} {c : Int} (h : 0 ≤ szStr s c) : (s.length : Int) ≤ c := by
  unfold szStr at h
  split at h <;> omega
theorem szI_len {s : List Int} {c : Int} (h : 0 ≤ szI s c) : (s.length : Int) ≤ c := by
  unfold szI at h
  split at h <;> omega

theorem szBigraph_ok (b : Big) (left : Int) (h0 : 0 ≤ left) (h1 : left ≤ 1048576) (hb : HugeB b) : PureC Tryd.prog 6 [encB false b, int left] (fun r => r = int (szB b left)) := by
  have le1 := szS_le szN b.nodes left h0
  refine PureC.of Tryd.func6 rfl Tryd.ntmps6 (by simp) fun Q hQ => ?_
  refine Runs.seqE Ty_ok (by decide) fun k' hk' => ?_
  simp [encB, Big.cells, encN, encI, encS, encW]   -- R0
  refine hk' _ _ _ ?_
  refine Runs.seqE Ty_ok (by decide) fun k' hk' => ?_
  simp
  refine RunK.callA Ty_ok (szNodeS_ok b.nodes left h0 h1 hb.nodes hb.links) e22 (.cons (ArgOk.encN false b.nodes) (.cons (.v _ _ _) .nil)) (by decide) (by decide) rfl (by simp [encN, encI, encS, encW]) ?_
  rintro _ rfl
  simp
  refine hk' _ _ _ ?_
  refine Runs.seq ?_
  refine Runs.seqE Ty_ok (by decide) fun k' hk' => ?_
  simp
  refine hk' _ _ _ ?_
  refine Runs.ite rfl (fun hc => ?_) (fun hd0 => ?_)
  · simp only [decide_eq_true_eq] at hc
    refine Runs.seqE Ty_ok (by decide) fun k' hk' => ?_
    simp
    refine hk' _ _ _ ?_
    exact Runs.ret Tryd.func6 (RetOk.one Tryd.results6) (hQ _ _ _ _ (.v _ _ _) (by rw [szB, if_pos hc]))
  simp only [decide_eq_false_iff_not] at hd0
  have le2 := f_le szI b.sites (szS szN b.nodes left) (by omega)
  refine Runs.skip ?_
  refine Runs.seqE Ty_ok (by decide) fun k' hk' => ?_
  simp
  refine RunK.callA Ty_ok (szIntS_ok b.sites (szS szN b.nodes left) (by omega) (by omega) hb.sites) e23 (.cons (ArgOk.encI false b.sites) (.cons (.v _ _ _) .nil)) (by decide) (by decide) rfl (by simp [encN, encI, encS, encW]) ?_
  rintro _ rfl
  simp
  refine hk' _ _ _ ?_
  refine Runs.seq ?_
  refine Runs.seqE Ty_ok (by decide) fun k' hk' => ?_
  simp
  refine hk' _ _ _ ?_
  refine Runs.ite rfl (fun hc => ?_) (fun hd1 => ?_)
  · simp only [decide_eq_true_eq] at hc
    refine Runs.seqE Ty_ok (by decide) fun k' hk' => ?_
    simp
    refine hk' _ _ _ ?_
    exact Runs.ret Tryd.func6 (RetOk.one Tryd.results6) (hQ _ _ _ _ (.v _ _ _) (by rw [szB, if_neg hd0, if_pos hc]))
  simp only [decide_eq_false_iff_not] at hd1
  have le3 := szS_le szStr b.outer (szI b.sites (szS szN b.nodes left)) (by omega)
  refine Runs.skip ?_
  refine Runs.seqE Ty_ok (by decide) fun k' hk' => ?_
  simp
  refine RunK.callA Ty_ok (szStringS_ok b.outer (szI b.sites (szS szN b.nodes left)) (by omega) (by omega) hb.outer hb.names) e24 (.cons (ArgOk.encS false b.outer) (.cons (.v _ _ _) .nil)) (by decide) (by decide) rfl (by simp [encN, encI, encS, encW]) ?_
  rintro _ rfl
  simp
  refine hk' _ _ _ ?_
  refine Runs.seq ?_
  refine Runs.seqE Ty_ok (by decide) fun k' hk' => ?_
  simp
  refine hk' _ _ _ ?_
  refine Runs.ite rfl (fun hc => ?_) (fun hd2 => ?_)
  · simp only [decide_eq_true_eq] at hc
    refine Runs.seqE Ty_ok (by decide) fun k' hk' => ?_
    simp
    refine hk' _ _ _ ?_
    exact Runs.ret Tryd.func6 (RetOk.one Tryd.results6) (hQ _ _ _ _ (.v _ _ _) (by rw [szB, if_neg hd0, if_neg hd1, if_pos hc]))
  simp only [decide_eq_false_iff_not] at hd2
  refine Runs.skip ?_
  refine Runs.seqE Ty_ok (by decide) fun k' hk' => ?_
  simp
  refine RunK.callA Ty_ok (szWireS_ok b.inner (szS szStr b.outer (szI b.sites (szS szN b.nodes left))) (by omega) (by omega) hb.inner hb.wnames) e25 (.cons (ArgOk.encW false b.inner) (.cons (.v _ _ _) .nil)) (by decide) (by decide) rfl (by simp [encN, encI, encS, encW]) ?_
  rintro _ rfl
  simp
  refine hk' _ _ _ ?_
  refine Runs.seq ?_
  refine Runs.seqE Ty_ok (by decide) fun k' hk' => ?_
  simp
  refine hk' _ _ _ ?_
  refine Runs.ite rfl (fun hc => ?_) (fun hd3 => ?_)
  · simp only [decide_eq_true_eq] at hc
    refine Runs.seqE Ty_ok (by decide) fun k' hk' => ?_
    simp
    refine hk' _ _ _ ?_
    exact Runs.ret Tryd.func6 (RetOk.one Tryd.results6) (hQ _ _ _ _ (.v _ _ _) (by rw [szB, if_neg hd0, if_neg hd1, if_neg hd2, if_pos hc]))
  simp only [decide_eq_false_iff_not] at hd3
  refine Runs.skip ?_
  refine Runs.seqE Ty_ok (by decide) fun k' hk' => ?_
  simp
  refine hk' _ _ _ ?_
  exact Runs.ret Tryd.func6 (RetOk.one Tryd.results6) (hQ _ _ _ _ (.v _ _ _) (by rw [szB, if_neg hd0, if_neg hd1, if_neg hd2, if_neg hd3]))

theorem smallB {sig : Sig} {b : Big} {left : Int} (h0 : 0 ≤ left) (h1 : left ≤ 1048576) (hs : 0 ≤ szS szC sig left) (hb : 0 ≤ szB b (szS szC sig left)) (hh : HugeB b) : SmallB sig b := by
  have hle := szS_le szC sig left h0
  obtain ⟨a1, a2⟩ := szS_mem szC sig left h0 hs
  generalize szS szC sig left = l0 at *
  unfold szB at hb
  split at hb
  · omega
  split at hb
  · omega
  split at hb
  · omega
  split at hb
  · omega
  rename_i n1 n2 n3 n4
  have le1 := szS_le szN b.nodes l0 hs
  obtain ⟨b1, b2⟩ := szS_mem szN b.nodes l0 hs (by omega)
  generalize szS szN b.nodes l0 = l1 at *
  have le2 := f_le szI b.sites l1 (by omega)
  have c1 := szI_len (s := b.sites) (c := l1) (by omega)
  generalize szI b.sites l1 = l2 at *
  have le3 := szS_le szStr b.outer l2 (by omega)
  obtain ⟨d1, d2⟩ := szS_mem szStr b.outer l2 (by omega) (by omega)
  generalize szS szStr b.outer l2 = l3 at *
  obtain ⟨f1, f2⟩ := szS_mem szW b.inner l3 (by omega) (by omega)
  refine ⟨by omega, fun c hc => ?_, by omega, by omega, by omega, by omega, fun s hs => ?_, fun w hw => ?_, fun x hx => ?_, hh.parents, hh.sites64⟩
  · obtain ⟨q, _, q2, q3⟩ := a2 c hc
    have := szStr_len q3
    omega
  · obtain ⟨q, _, q2, q3⟩ := d2 s hs
    have := szStr_len q3
    omega
  · obtain ⟨q, _, q2, q3⟩ := f2 w hw
    have := szStr_len q3
    omega
  · obtain ⟨q, _, q2, q3⟩ := b2 x hx
    have := szI_len q3
    omega
end Go.Ab

/- The contract of laws.FnExactCommonPlace: it answers true. -/
namespace Go.Ab
open Go.Proofs
set_option linter.unusedSimpArgs false

structure HugeS (sig : Sig) : Prop where
  len : sig.length ≤ 9223372036854775807
  names : ∀ c ∈ sig, c.name.length ≤ 9223372036854775807

end Go.Ab

/- Contracts of the laws' mark.. and held.. functions of bigraphs' flat slices. By program. -/
namespace Go.Ab
open Go.Proofs
set_option linter.unusedSimpArgs false
def markInt (k i : Nat) : Int := ((k + i : Nat) : Int)
def markInts (k c : Nat) : List (Int) := (List.range c).map (markInt k)
def markStr (k i : Nat) : Str := markTextL (k + i)
def markStrs (k c : Nat) : List (Str) := (List.range c).map (markStr k)
def markWire (k i : Nat) : Wire := ⟨markTextL (k + 2 * i), ((k + 2 * i + 1 : Nat) : Int)⟩
def markWires (k c : Nat) : List (Wire) := (List.range c).map (markWire k)
def markCtl (k i : Nat) : Control := ⟨markTextL (k + 3 * i), ((k + 3 * i + 1 : Nat) : Int), ((k + 3 * i + 2 : Nat) : Int)⟩
def markCtls (k c : Nat) : List (Control) := (List.range c).map (markCtl k)
theorem e41 : Ent Tryd.prog 41 := Ent.of Tryd.func41 (by kernel_rfl) rfl

theorem markIntS_ok {H : Heap} {n : Nat} {v : AVal} {S : List Id} (p : List (Int)) (hO : Own H 1 v (.list true (p.map intC)) S) (k : Nat) (hk : k + p.length ≤ 1152921504606846976) :
    CallsA Tryd.prog 41 [v, int k] H n (fun r H1 n1 => r = int ((k + p.length : Nat) : Int) ∧ n1 = n ∧ Own H1 1 v (.list true ((markInts k p.length).map intC)) S ∧ ∀ i, i ∉ S → H1 i = H i) := by
  refine CallsA.sized fun hsz => ?_
  rcases hO.flatS with ⟨rfl, hp, rfl⟩ | ⟨id, sz, rfl, hid, rfl⟩
  · have hp0 : p = [] := by simpa using hp
    subst hp0
    refine CallsA.of Tryd.func41 rfl Tryd.ntmps41 (by simp) fun Q hQ => ?_
    refine Runs.seqE Ty_ok (by decide) fun k' hk' => ?_
    simp   -- R0
    refine hk' _ _ _ ?_
    refine Runs.seq ?_
    refine Runs.seqE Ty_ok (by decide) fun k' hk' => ?_
    simp   -- R1
    refine hk' _ _ _ ?_
    refine Runs.block (Runs.loop ?_)
    refine Runs.seq ?_
    refine Runs.seqE Ty_ok (by decide) fun k' hk' => ?_
    simp   -- R2
    refine hk' _ _ _ ?_
    refine Runs.ite rfl (fun hc1 => by simp at hc1) (fun hc1 => ?_)
    refine Runs.exit rfl ?_
    refine Runs.seqE Ty_ok (by decide) fun k' hk' => ?_
    simp
    refine hk' _ _ _ ?_
    refine Runs.ret Tryd.func41 (RetOk.one Tryd.results41) (hQ _ _ _ ⟨by simp, rfl, ?_, fun _ _ => rfl⟩)
    simpa [markInts] using Own.nilS
  · have hs3 : p ≠ [] → sz = 1 := by
      intro hne
      obtain ⟨x, r, rfl⟩ := List.exists_cons_of_ne_nil hne
      have := (hsz id _ hid).2 (intC x) (by simp)
      simpa [intC] using this.symm
    simp only [List.length_map]
    have hlen : ∀ j, j ≤ p.length → (partm (fun i => intC (markInt k i)) (p.map intC) j).length = p.length := fun j hj => by rw [partm_len (by simpa using hj)]; simp
    refine CallsA.of Tryd.func41 rfl Tryd.ntmps41 (by simp) fun Q hQ => ?_
    refine Runs.seqE Ty_ok (by decide) fun k' hk' => ?_
    simp   -- R0
    refine hk' _ _ _ ?_
    refine Runs.seq ?_
    refine Runs.seqE Ty_ok (by decide) fun k' hk' => ?_
    simp   -- R1
    refine hk' _ _ _ ?_
    refine Runs.block (Runs.loopUp p.length (fun j ρ H' n' => ρ 0 = .arr id p.length 0 p.length ∧ ρ 5 = int j ∧ ρ 1 = int ((k + j : Nat) : Int) ∧ n' = n ∧ H' = H.set id ⟨sz, partm (fun i => intC (markInt k i)) (p.map intC) j⟩) ?_ ?_)
    · refine ⟨by simp, by simp, by simp, rfl, ?_⟩
      rw [partm_zero]
      exact (Heap.set_same hid).symm
    · rintro j ρ H' n' hj ⟨h0, h5, h1, rfl, rfl⟩ IH
      refine Runs.seq ?_
      refine Runs.seqE Ty_ok (by decide) fun k' hk' => ?_
      simp [h0, h5, live, Heap.get_set_self, hlen j hj]   -- R2
      refine hk' _ _ _ ?_
      refine Runs.ite rfl (fun hc1 => ?_) (fun hc1 => ?_)
      · simp at hc1
        obtain rfl := hs3 (by intro h; subst h; simp at hc1)
        obtain ⟨els, hels, hl, hgj, hset⟩ := partm_step (row := fun i => intC (markInt k i)) (els := p.map intC) (k := j) (by simpa using hc1)
        rw [hels]
        simp only [List.length_map] at hl
        simp [hl, hc1, intC] at hgj
        have w1 := wrap_one (a := k + j) rfl (by omega)
        refine Runs.skip ?_
        refine Runs.seq ?_
        refine Runs.block ?_
        refine Runs.seqE Ty_ok (by decide) fun k' hk' => ?_
        simp [h0, h5, h1, live, Heap.get_set_self, hl, hc1, hgj, -Int.natCast_add]
        refine hk' _ _ _ ?_
        refine Runs.evalE Ty_ok (by decide) fun k' hk' => ?_
        simp [h1, w1, -Int.natCast_add]
        refine hk' _ _ _ ?_
        refine Runs.inBlock ?_
        refine Runs.evalE Ty_ok (by decide) fun k' hk' => ?_
        simp [h5, wrap_succ (show j < 4611686018427387904 by omega), -Int.natCast_add]
        refine hk' _ _ _ ?_
        refine IH hc1 _ _ _ ?_
        rw [← hset]
        simp [h0, markInt, intC,  Heap.set_set, -Int.natCast_add]
        omega
      · simp at hc1
        have hje : j = p.length := by omega
        subst hje
        refine Runs.exit rfl ?_
        refine Runs.seqE Ty_ok (by decide) fun k' hk' => ?_
        simp [h1, -Int.natCast_add]
        refine hk' _ _ _ ?_
        refine Runs.ret Tryd.func41 (RetOk.one Tryd.results41) (hQ _ _ _ ⟨by simp, rfl, ?_, fun i hi => ?_⟩)
        · refine Own.arrF (sz := sz) ?_ (by simp [markInts]) (by simp [intC])
          have he := partm_end (row := fun i => intC (markInt k i)) (els := p.map intC)
          simp only [List.length_map] at he
          rw [Heap.get_set_self, he]
          simp [markInts]
        · exact Heap.get_set_ne _ _ (by simpa using hi)

theorem e55 : Ent Tryd.prog 55 := Ent.of Tryd.func55 (by kernel_rfl) rfl

theorem heldIntS_ok (k c : Nat) (hk : k + c ≤ 1152921504606846976) : PureC Tryd.prog 55 [.list false ((markInts k c).map intC), int k] (fun r => r = int ((k + c : Nat) : Int)) := by
  have hlen : (markInts k c).length = c := by simp [markInts]
  refine PureC.of Tryd.func55 rfl Tryd.ntmps55 (by simp) fun Q hQ => ?_
  refine Runs.seqE Ty_ok (by decide) fun k' hk' => ?_
  simp   -- R0
  refine hk' _ _ _ ?_
  refine Runs.seq ?_
  refine Runs.seqE Ty_ok (by decide) fun k' hk' => ?_
  simp   -- R1
  refine hk' _ _ _ ?_
  refine Runs.block (Runs.loopUp c (fun j ρ H n => ρ 0 = .list false ((markInts k c).map intC) ∧ ρ 5 = int j ∧ ρ 1 = int ((k + j : Nat) : Int)) ?_ ?_)
  · simp
  · rintro j ρ H n hj ⟨h0, h5, h1⟩ IH
    refine Runs.seq ?_
    refine Runs.seqE Ty_ok (by decide) fun k' hk' => ?_
    simp [h0, h5, hlen]   -- R2
    refine hk' _ _ _ ?_
    refine Runs.ite rfl (fun hc1 => ?_) (fun hc1 => ?_)
    · simp at hc1
      have hg : (markInts k c)[j]? = some (markInt k j) := by simp [markInts, hc1]
      have hg' : ∀ h : j < (markInts k c).length, (markInts k c)[j] = markInt k j := fun h => by simp [markInts]
      have w1 := wrap_one (a := k + j) rfl (by omega)
      refine Runs.skip ?_
      refine Runs.seq ?_
      refine Runs.block ?_
      refine Runs.seq ?_
      refine Runs.seqE Ty_ok (by decide) fun k' hk' => ?_
      simp [h0, h5, h1, hlen, hc1, hg, hg', intC, markInt, -Int.natCast_add]
      refine hk' _ _ _ ?_
      refine Runs.ite rfl (fun hc => by simp at hc) (fun _ => ?_)
      refine Runs.skip ?_
      refine Runs.evalE Ty_ok (by decide) fun k' hk' => ?_
      simp [h1, w1, -Int.natCast_add]
      refine hk' _ _ _ ?_
      refine Runs.inBlock ?_
      refine Runs.evalE Ty_ok (by decide) fun k' hk' => ?_
      simp [h5, wrap_succ (show j < 4611686018427387904 by omega), -Int.natCast_add]
      refine hk' _ _ _ ?_
      refine IH hc1 _ _ _ ?_
      simp [h0, -Int.natCast_add]
      omega
    · simp at hc1
      have hje : j = c := by omega
      subst hje
      refine Runs.exit rfl ?_
      refine Runs.seqE Ty_ok (by decide) fun k' hk' => ?_
      simp [h1, -Int.natCast_add]
      refine hk' _ _ _ ?_
      exact Runs.ret Tryd.func55 (RetOk.one Tryd.results55) (hQ _ _ _ _ (.v _ _ _) rfl)

theorem e42 : Ent Tryd.prog 42 := Ent.of Tryd.func42 (by kernel_rfl) rfl

theorem markStringS_ok {H : Heap} {n : Nat} {v : AVal} {S : List Id} (p : List (Str)) (hO : Own H 1 v (.list true (p.map strC)) S) (k : Nat) (hk : k + p.length ≤ 1152921504606846976) :
    CallsA Tryd.prog 42 [v, int k] H n (fun r H1 n1 => r = int ((k + p.length : Nat) : Int) ∧ n1 = n ∧ Own H1 1 v (.list true ((markStrs k p.length).map strC)) S ∧ ∀ i, i ∉ S → H1 i = H i) := by
  refine CallsA.sized fun hsz => ?_
  rcases hO.flatS with ⟨rfl, hp, rfl⟩ | ⟨id, sz, rfl, hid, rfl⟩
  · have hp0 : p = [] := by simpa using hp
    subst hp0
    refine CallsA.of Tryd.func42 rfl Tryd.ntmps42 (by simp) fun Q hQ => ?_
    refine Runs.seqE Ty_ok (by decide) fun k' hk' => ?_
    simp   -- R0
    refine hk' _ _ _ ?_
    refine Runs.seq ?_
    refine Runs.seqE Ty_ok (by decide) fun k' hk' => ?_
    simp   -- R1
    refine hk' _ _ _ ?_
    refine Runs.block (Runs.loop ?_)
    refine Runs.seq ?_
    refine Runs.seqE Ty_ok (by decide) fun k' hk' => ?_
    simp   -- R2
    refine hk' _ _ _ ?_
    refine Runs.ite rfl (fun hc1 => by simp at hc1) (fun hc1 => ?_)
    refine Runs.exit rfl ?_
    refine Runs.seqE Ty_ok (by decide) fun k' hk' => ?_
    simp
    refine hk' _ _ _ ?_
    refine Runs.ret Tryd.func42 (RetOk.one Tryd.results42) (hQ _ _ _ ⟨by simp, rfl, ?_, fun _ _ => rfl⟩)
    simpa [markStrs] using Own.nilS
  · have hs3 : p ≠ [] → sz = 1 := by
      intro hne
      obtain ⟨x, r, rfl⟩ := List.exists_cons_of_ne_nil hne
      have := (hsz id _ hid).2 (strC x) (by simp)
      simpa [strC] using this.symm
    simp only [List.length_map]
    have hlen : ∀ j, j ≤ p.length → (partm (fun i => strC (markStr k i)) (p.map strC) j).length = p.length := fun j hj => by rw [partm_len (by simpa using hj)]; simp
    refine CallsA.of Tryd.func42 rfl Tryd.ntmps42 (by simp) fun Q hQ => ?_
    refine Runs.seqE Ty_ok (by decide) fun k' hk' => ?_
    simp   -- R0
    refine hk' _ _ _ ?_
    refine Runs.seq ?_
    refine Runs.seqE Ty_ok (by decide) fun k' hk' => ?_
    simp   -- R1
    refine hk' _ _ _ ?_
    refine Runs.block (Runs.loopUp p.length (fun j ρ H' n' => ρ 0 = .arr id p.length 0 p.length ∧ ρ 5 = int j ∧ ρ 1 = int ((k + j : Nat) : Int) ∧ n' = n ∧ H' = H.set id ⟨sz, partm (fun i => strC (markStr k i)) (p.map strC) j⟩) ?_ ?_)
    · refine ⟨by simp, by simp, by simp, rfl, ?_⟩
      rw [partm_zero]
      exact (Heap.set_same hid).symm
    · rintro j ρ H' n' hj ⟨h0, h5, h1, rfl, rfl⟩ IH
      refine Runs.seq ?_
      refine Runs.seqE Ty_ok (by decide) fun k' hk' => ?_
      simp [h0, h5, live, Heap.get_set_self, hlen j hj]   -- R2
      refine hk' _ _ _ ?_
      refine Runs.ite rfl (fun hc1 => ?_) (fun hc1 => ?_)
      · simp at hc1
        obtain rfl := hs3 (by intro h; subst h; simp at hc1)
        obtain ⟨els, hels, hl, hgj, hset⟩ := partm_step (row := fun i => strC (markStr k i)) (els := p.map strC) (k := j) (by simpa using hc1)
        rw [hels]
        simp only [List.length_map] at hl
        simp [hl, hc1, strC] at hgj
        have w1 := wrap_one (a := k + j) rfl (by omega)
        refine Runs.skip ?_
        refine Runs.seq ?_
        refine Runs.block ?_
        refine Runs.seqE Ty_ok (by decide) fun k' hk' => ?_
        simp [h0, h5, h1, live, Heap.get_set_self, hl, hc1, hgj, -Int.natCast_add]
        refine RunK.callA Ty_ok (markText_ok (k + j) (by omega)) e68 (.cons (.v _ _ _) .nil) (by decide) (by decide) rfl (by simp [h1, -Int.natCast_add]) ?_
        rintro _ rfl
        simp [h0, h5, h1, live, Heap.get_set_self, hl, hc1, hgj, -Int.natCast_add]
        refine hk' _ _ _ ?_
        refine Runs.evalE Ty_ok (by decide) fun k' hk' => ?_
        simp [h1, w1, -Int.natCast_add]
        refine hk' _ _ _ ?_
        refine Runs.inBlock ?_
        refine Runs.evalE Ty_ok (by decide) fun k' hk' => ?_
        simp [h5, wrap_succ (show j < 4611686018427387904 by omega), -Int.natCast_add]
        refine hk' _ _ _ ?_
        refine IH hc1 _ _ _ ?_
        rw [← hset]
        simp [h0, markStr, strC,  Heap.set_set, -Int.natCast_add]
        omega
      · simp at hc1
        have hje : j = p.length := by omega
        subst hje
        refine Runs.exit rfl ?_
        refine Runs.seqE Ty_ok (by decide) fun k' hk' => ?_
        simp [h1, -Int.natCast_add]
        refine hk' _ _ _ ?_
        refine Runs.ret Tryd.func42 (RetOk.one Tryd.results42) (hQ _ _ _ ⟨by simp, rfl, ?_, fun i hi => ?_⟩)
        · refine Own.arrF (sz := sz) ?_ (by simp [markStrs]) (by simp [strC])
          have he := partm_end (row := fun i => strC (markStr k i)) (els := p.map strC)
          simp only [List.length_map] at he
          rw [Heap.get_set_self, he]
          simp [markStrs]
        · exact Heap.get_set_ne _ _ (by simpa using hi)

theorem e43 : Ent Tryd.prog 43 := Ent.of Tryd.func43 (by kernel_rfl) rfl

theorem markWireS_ok {H : Heap} {n : Nat} {v : AVal} {S : List Id} (p : List (Wire)) (hO : Own H 1 v (.list true (p.map Wire.cells)) S) (k : Nat) (hk : k + 2 * p.length ≤ 1152921504606846976) :
    CallsA Tryd.prog 43 [v, int k] H n (fun r H1 n1 => r = int ((k + 2 * p.length : Nat) : Int) ∧ n1 = n ∧ Own H1 1 v (.list true ((markWires k p.length).map Wire.cells)) S ∧ ∀ i, i ∉ S → H1 i = H i) := by
  refine CallsA.sized fun hsz => ?_
  rcases hO.flatS with ⟨rfl, hp, rfl⟩ | ⟨id, sz, rfl, hid, rfl⟩
  · have hp0 : p = [] := by simpa using hp
    subst hp0
    refine CallsA.of Tryd.func43 rfl Tryd.ntmps43 (by simp) fun Q hQ => ?_
    refine Runs.seqE Ty_ok (by decide) fun k' hk' => ?_
    simp   -- R0
    refine hk' _ _ _ ?_
    refine Runs.seq ?_
    refine Runs.seqE Ty_ok (by decide) fun k' hk' => ?_
    simp   -- R1
    refine hk' _ _ _ ?_
    refine Runs.block (Runs.loop ?_)
    refine Runs.seq ?_
    refine Runs.seqE Ty_ok (by decide) fun k' hk' => ?_
    simp   -- R2
    refine hk' _ _ _ ?_
    refine Runs.ite rfl (fun hc1 => by simp at hc1) (fun hc1 => ?_)
    refine Runs.exit rfl ?_
    refine Runs.seqE Ty_ok (by decide) fun k' hk' => ?_
    simp
    refine hk' _ _ _ ?_
    refine Runs.ret Tryd.func43 (RetOk.one Tryd.results43) (hQ _ _ _ ⟨by simp, rfl, ?_, fun _ _ => rfl⟩)
    simpa [markWires] using Own.nilS
  · have hs3 : p ≠ [] → sz = 2 := by
      intro hne
      obtain ⟨x, r, rfl⟩ := List.exists_cons_of_ne_nil hne
      have := (hsz id _ hid).2 (Wire.cells x) (by simp)
      simpa [Wire.cells] using this.symm
    simp only [List.length_map]
    have hlen : ∀ j, j ≤ p.length → (partm (fun i => Wire.cells (markWire k i)) (p.map Wire.cells) j).length = p.length := fun j hj => by rw [partm_len (by simpa using hj)]; simp
    refine CallsA.of Tryd.func43 rfl Tryd.ntmps43 (by simp) fun Q hQ => ?_
    refine Runs.seqE Ty_ok (by decide) fun k' hk' => ?_
    simp   -- R0
    refine hk' _ _ _ ?_
    refine Runs.seq ?_
    refine Runs.seqE Ty_ok (by decide) fun k' hk' => ?_
    simp   -- R1
    refine hk' _ _ _ ?_
    refine Runs.block (Runs.loopUp p.length (fun j ρ H' n' => ρ 0 = .arr id p.length 0 p.length ∧ ρ 5 = int j ∧ ρ 1 = int ((k + 2 * j : Nat) : Int) ∧ n' = n ∧ H' = H.set id ⟨sz, partm (fun i => Wire.cells (markWire k i)) (p.map Wire.cells) j⟩) ?_ ?_)
    · refine ⟨by simp, by simp, by simp, rfl, ?_⟩
      rw [partm_zero]
      exact (Heap.set_same hid).symm
    · rintro j ρ H' n' hj ⟨h0, h5, h1, rfl, rfl⟩ IH
      refine Runs.seq ?_
      refine Runs.seqE Ty_ok (by decide) fun k' hk' => ?_
      simp [h0, h5, live, Heap.get_set_self, hlen j hj]   -- R2
      refine hk' _ _ _ ?_
      refine Runs.ite rfl (fun hc1 => ?_) (fun hc1 => ?_)
      · simp at hc1
        obtain rfl := hs3 (by intro h; subst h; simp at hc1)
        obtain ⟨els, hels, hl, hgj, hset⟩ := partm_step (row := fun i => Wire.cells (markWire k i)) (els := p.map Wire.cells) (k := j) (by simpa using hc1)
        rw [hels]
        simp only [List.length_map] at hl
        simp [hl, hc1, Wire.cells] at hgj
        have w1 := wrap_one (a := k + 2 * j) rfl (by omega)
        have w2 := wrap_one (a := k + 2 * j + 1) rfl (by omega)
        refine Runs.skip ?_
        refine Runs.seq ?_
        refine Runs.block ?_
        refine Runs.seqE Ty_ok (by decide) fun k' hk' => ?_
        simp [h0, h5, h1, live, Heap.get_set_self, hl, hc1, hgj, -Int.natCast_add]
        refine RunK.callA Ty_ok (markText_ok (k + 2 * j) (by omega)) e68 (.cons (.v _ _ _) .nil) (by decide) (by decide) rfl (by simp [h1, -Int.natCast_add]) ?_
        rintro _ rfl
        simp [h0, h5, h1, live, Heap.get_set_self, hl, hc1, hgj, -Int.natCast_add]
        refine hk' _ _ _ ?_
        refine Runs.seqE Ty_ok (by decide) fun k' hk' => ?_
        simp [h1, w1, -Int.natCast_add]
        refine hk' _ _ _ ?_
        refine Runs.seqE Ty_ok (by decide) fun k' hk' => ?_
        simp [h0, h5, h1, live, Heap.get_set_self, hl, hc1, hgj, -Int.natCast_add]
        refine hk' _ _ _ ?_
        refine Runs.evalE Ty_ok (by decide) fun k' hk' => ?_
        simp [h1, w2, -Int.natCast_add]
        refine hk' _ _ _ ?_
        refine Runs.inBlock ?_
        refine Runs.evalE Ty_ok (by decide) fun k' hk' => ?_
        simp [h5, wrap_succ (show j < 4611686018427387904 by omega), -Int.natCast_add]
        refine hk' _ _ _ ?_
        refine IH hc1 _ _ _ ?_
        rw [← hset]
        simp [h0, markWire, Wire.cells,  Heap.set_set, -Int.natCast_add]
        omega
      · simp at hc1
        have hje : j = p.length := by omega
        subst hje
        refine Runs.exit rfl ?_
        refine Runs.seqE Ty_ok (by decide) fun k' hk' => ?_
        simp [h1, -Int.natCast_add]
        refine hk' _ _ _ ?_
        refine Runs.ret Tryd.func43 (RetOk.one Tryd.results43) (hQ _ _ _ ⟨by simp, rfl, ?_, fun i hi => ?_⟩)
        · refine Own.arrF (sz := sz) ?_ (by simp [markWires]) (by simp [Wire.cells])
          have he := partm_end (row := fun i => Wire.cells (markWire k i)) (els := p.map Wire.cells)
          simp only [List.length_map] at he
          rw [Heap.get_set_self, he]
          simp [markWires]
        · exact Heap.get_set_ne _ _ (by simpa using hi)

end Go.Ab

/- Contracts of laws.markNodeS and laws.markBigraph. -/
namespace Go.Ab
open Go.Proofs
set_option linter.unusedSimpArgs false
theorem e40 : Ent Tryd.prog 40 := Ent.of Tryd.func40 (by kernel_rfl) rfl
theorem e12 : Ent Tryd.prog 12 := Ent.of Tryd.func12 (by kernel_rfl) rfl

/-- Nodes in memory. -/
def NodesOwn (H : Heap) : List GNode → List (List AVal) → List Id → Prop
  | [], [], T => T = []
  | x :: l, e :: els, T => ∃ (a b : Int) (lv : AVal) (T1 T2 : List Id), e = [int a, int b, lv] ∧ Own H 1 lv (encI true x.links) T1 ∧ NodesOwn H l els T2 ∧ T = T1 ++ T2 ∧ ∀ i ∈ T1, i ∉ T2
  | _, _, _ => False

theorem NodesOwn.len {H : Heap} : ∀ {l : List GNode} {els : List (List AVal)} {T : List Id}, NodesOwn H l els T → els.length = l.length
  | [], [], _, _ => rfl
  | _ :: _, _ :: _, _, ⟨_, _, _, _, _, _, _, h, _⟩ => by simp [h.len]
  | [], _ :: _, _, h => h.elim
  | _ :: _, [], _, h => h.elim

theorem NodesOwn.frame {H H' : Heap} : ∀ {l : List GNode} {els : List (List AVal)} {T : List Id}, NodesOwn H l els T → (∀ i ∈ T, H' i = H i) → NodesOwn H' l els T
  | [], [], _, h, _ => h
  | _ :: _, _ :: _, _, ⟨a, b, lv, T1, T2, h1, h2, h3, h4, h5⟩, hf => ⟨a, b, lv, T1, T2, h1, h2.frame fun i hi => hf i (by simp [h4, hi]), h3.frame fun i hi => hf i (by simp [h4, hi]), h4, h5⟩
  | [], _ :: _, _, h, _ => h.elim
  | _ :: _, [], _, h, _ => h.elim

theorem Own.vInv {H : Heap} {d : Nat} {v : AVal} {x : Value} {S : List Id} (h : Own H d v (.v x) S) : v = .v x ∧ S = [] := by
  cases d with
  | zero => obtain ⟨⟨y, h1, h2⟩, h3⟩ := h; cases h2; exact ⟨h1, h3⟩
  | succ d =>
    rcases h with ⟨⟨y, h1, h2⟩, h3⟩ | ⟨cs, ds, _, h2, _⟩ | ⟨cs, ds, _, h2, _⟩ | ⟨_, h2, _⟩ | ⟨id, o, els', T, _, h2, _⟩
    · cases h2; exact ⟨h1, h3⟩
    all_goals cases h2

theorem NodesOwn.of {H : Heap} : ∀ {l : List GNode} {els : List (List AVal)} {T : List Id}, OwnLL (Own H 1) els (l.map (GNode.cells true)) T → NodesOwn H l els T
  | [], [], _, h => h
  | x :: l, e :: els, T, h => by
    obtain ⟨S1, S2, h1, h2, h3, h4⟩ := h
    match e, h1 with
    | [a, b, lv], ⟨A1, A2, p1, ⟨B1, B2, q1, ⟨C1, C2, r1, r2, r3, _⟩, q3, _⟩, p3, _⟩ =>
      obtain ⟨rfl, rfl⟩ := p1.vInv
      obtain ⟨rfl, rfl⟩ := q1.vInv
      have r2' : C2 = [] := r2
      subst r2' r3 q3 p3
      exact ⟨x.control, x.parent, lv, C1, S2, rfl, r1, NodesOwn.of h2, by simpa using h3, fun i hi => h4 i (by simpa using hi)⟩
  | [], _ :: _, _, h => h.elim
  | _ :: _, [], _, h => h.elim

/-- A slice of nodes: nil, or an array. -/
theorem Own.nodes {H : Heap} {v : AVal} {l : List GNode} {S : List Id} (h : Own H 2 v (encN true l) S) :
    (v = .v (.slice none 0 0) ∧ l = [] ∧ S = []) ∨ ∃ id sz els T, v = .arr id l.length 0 l.length ∧ H id = some ⟨sz, els⟩ ∧ NodesOwn H l els T ∧ id ∉ T ∧ S = id :: T := by
  rcases h with ⟨⟨x, _, hx⟩, _⟩ | ⟨cs, ds, _, hx, _⟩ | ⟨cs, ds, _, hx, _⟩ | ⟨rfl, h2, rfl⟩ | ⟨id, o, els', T, rfl, hx, ho, h, hn, rfl⟩
  · cases hx
  · cases hx
  · cases hx
  · simp only [encN] at h2
    injection h2 with _ h2
    exact .inl ⟨rfl, by simpa using h2, rfl⟩
  · simp only [encN] at hx
    injection hx with _ hx
    subst hx
    have h2 := NodesOwn.of h
    obtain ⟨sz, els⟩ := o
    exact .inr ⟨id, sz, els, T, by rw [h2.len], ho, h2, hn, rfl⟩

def cntN (l : List GNode) : Nat := (l.map fun x => 2 + x.links.length).sum

theorem markNodeS_ok {H : Heap} {n : Nat} {v : AVal} {S : List Id} (l : List GNode) (hO : Own H 2 v (encN true l) S) (k : Nat) (hl : l.length ≤ 1048576) (hk : k + cntN l ≤ 1152921504606846976) :
    CallsA Tryd.prog 40 [v, int k] H n (fun r H1 n1 => r = int ((k + cntN l : Nat) : Int) ∧ n1 = n ∧ ∀ i, i ∉ S → H1 i = H i) := by
  refine CallsA.sized fun hsz => ?_
  rcases hO.nodes with ⟨rfl, rfl, rfl⟩ | ⟨id, sz, els, T, rfl, hid, hN, hnT, rfl⟩
  · refine CallsA.of Tryd.func40 rfl Tryd.ntmps40 (by simp) fun Q hQ => ?_
    refine Runs.seqE Ty_ok (by decide) fun k' hk' => ?_
    simp   -- R0
    refine hk' _ _ _ ?_
    refine Runs.seq ?_
    refine Runs.seqE Ty_ok (by decide) fun k' hk' => ?_
    simp   -- R1
    refine hk' _ _ _ ?_
    refine Runs.block (Runs.loop ?_)
    refine Runs.seq ?_
    refine Runs.seqE Ty_ok (by decide) fun k' hk' => ?_
    simp   -- R2
    refine hk' _ _ _ ?_
    refine Runs.ite rfl (fun hc1 => by simp at hc1) (fun hc1 => ?_)
    refine Runs.exit rfl ?_
    refine Runs.seqE Ty_ok (by decide) fun k' hk' => ?_
    simp
    refine hk' _ _ _ ?_
    exact Runs.ret Tryd.func40 (RetOk.one Tryd.results40) (hQ _ _ _ ⟨by simp [cntN], rfl, fun _ _ => rfl⟩)
  · have hels := hN.len
    have hs3 : l ≠ [] → sz = 3 := by
      intro hne
      obtain ⟨x, r, rfl⟩ := List.exists_cons_of_ne_nil hne
      match els, hN with
      | e :: es, ⟨a, b, lv, T1, T2, he, _⟩ =>
        have := (hsz id _ hid).2 e (by simp)
        rw [he] at this
        simpa using this.symm
    refine CallsA.of Tryd.func40 rfl Tryd.ntmps40 (by simp) fun Q hQ => ?_
    refine Runs.seqE Ty_ok (by decide) fun k' hk' => ?_
    simp   -- R0
    refine hk' _ _ _ ?_
    refine Runs.seq ?_
    refine Runs.seqE Ty_ok (by decide) fun k' hk' => ?_
    simp   -- R1
    refine hk' _ _ _ ?_
    refine Runs.block (Runs.loopUp l.length (fun j ρ H' n' => ρ 0 = .arr id l.length 0 l.length ∧ ρ 5 = int j ∧ n' = n ∧ (∀ i, i ≠ id → i ∉ T → H' i = H i) ∧
      ∃ (pre suf : List (List AVal)) (Tj : List Id) (c : Nat), ρ 1 = int ((k + c : Nat) : Int) ∧ c + cntN (l.drop j) = cntN l ∧ H' id = some ⟨sz, pre ++ suf⟩ ∧ pre.length = j ∧ NodesOwn H' (l.drop j) suf Tj ∧ (∀ i ∈ Tj, i ∈ T)) ?_ ?_)
    · exact ⟨by simp, by simp, rfl, fun i h1 h2 => rfl, [], els, T, 0, by simp, by simp, by simpa using hid, rfl, by simpa using hN, fun i hi => hi⟩
    · rintro j ρ H' n' hj ⟨h0, h5, rfl, hfr, pre, suf, Tj, c, h1, hcnt, hid', hpre, hN', hTj⟩ IH
      have hlen : (pre ++ suf).length = l.length := by
        have := hN'.len
        simp at this
        simp
        omega
      refine Runs.seq ?_
      refine Runs.seqE Ty_ok (by decide) fun k' hk' => ?_
      simp only [List.length_append] at hlen
      simp [h0, h5, live, hid', hlen]   -- R2
      refine hk' _ _ _ ?_
      refine Runs.ite rfl (fun hc1 => ?_) (fun hc1 => ?_)
      · have hc1 : j < l.length := by simpa using hc1
        obtain rfl := hs3 (by intro h; subst h; simp at hc1)
        rw [List.drop_eq_getElem_cons hc1] at hN' hcnt
        match suf, hN' with
        | e :: suf', ⟨a, b, lv, T1, T2, he, hO1, hN2, hT, hdis⟩ =>
        subst he hT
        have hc3 : cntN (l[j] :: l.drop (j + 1)) = 2 + l[j].links.length + cntN (l.drop (j + 1)) := by simp only [cntN, List.map_cons, List.sum_cons]
        rw [hc3] at hcnt
        have w1 := wrap_one (a := k + c) rfl (by omega)
        have w2 := wrap_one (a := k + c + 1) rfl (by omega)
        have hone := hO1.one1
        refine Runs.skip ?_
        refine Runs.seq ?_
        refine Runs.block ?_
        have hidT1 : id ∉ T1 := fun h => hnT (hTj id (by simp [h]))
        have hidT2 : id ∉ T2 := fun h => hnT (hTj id (by simp [h]))
        have hset : ∀ e' : List AVal, (pre ++ [int a, int b, lv] :: suf').set j e' = pre ++ e' :: suf' := fun e' => by
          rw [List.set_append_right _ _ (by omega), hpre, Nat.sub_self]
          rfl
        have hget : ∀ h : j < (pre ++ [int a, int b, lv] :: suf').length, (pre ++ [int a, int b, lv] :: suf')[j] = [int a, int b, lv] := fun h => by
          rw [List.getElem_append_right (by omega)]
          simp [hpre]
        have hll : (pre ++ [int a, int b, lv] :: suf').length = l.length := by rw [List.length_append]; exact hlen
        have hl2 : pre.length + (suf'.length + 1) = l.length := by simpa using hlen
        have hgetX : ∀ (X : List AVal) (h : j < (pre ++ X :: suf').length), (pre ++ X :: suf')[j] = X := fun X h => by
          rw [List.getElem_append_right (by omega)]
          simp [hpre]
        generalize hels' : pre ++ [int a, int b, lv] :: suf' = es at hid' hset hget hll
        refine Runs.seqE Ty_ok (by decide) fun k' hk' => ?_
        simp [h0, h5, h1, live, hid', hll, hc1, hget, -Int.natCast_add]   -- R4
        refine hk' _ _ _ ?_
        refine Runs.seqE Ty_ok (by decide) fun k' hk' => ?_
        simp [h1, w1, -Int.natCast_add]   -- R5
        refine hk' _ _ _ ?_
        refine Runs.seqE Ty_ok (by decide) fun k' hk' => ?_
        simp [h0, h5, live, hll, hc1, hget, -Int.natCast_add]   -- R6
        refine hk' _ _ _ ?_
        refine Runs.seqE Ty_ok (by decide) fun k' hk' => ?_
        simp [w2, -Int.natCast_add]   -- R7
        refine hk' _ _ _ ?_
        refine Runs.evalE Ty_ok (by decide) fun k' hk' => ?_
        simp [h0, h5, live, hll, hc1, hget, hset, hl2, hgetX, -Int.natCast_add]   -- R8
        have hO1' : Own (H'.set id ⟨3, pre ++ [int ((k + c : Nat) : Int), int ((k + c + 1 : Nat) : Int), lv] :: suf'⟩) 1 lv (encI true l[j].links) T1 := hO1.frame fun i hi => Heap.get_set_ne _ _ (fun h => hidT1 (h ▸ hi))
        refine RunK.callS Ty_ok (markIntS_ok l[j].links hO1' (k + c + 1 + 1) (by omega)) e41 (by decide) (by decide) rfl (by simp) ?_
        rintro v H1 n1 ⟨rfl, rfl, _, hfr1⟩
        simp [-Int.natCast_add]
        refine hk' _ _ _ ?_
        refine Runs.inBlock ?_
        refine Runs.evalE Ty_ok (by decide) fun k' hk' => ?_
        simp [h5, wrap_succ (show j < 4611686018427387904 by omega), -Int.natCast_add]
        refine hk' _ _ _ ?_
        refine IH hc1 _ _ _ ⟨by simp [h0], by simp, rfl, fun i hi hiT => ?_, pre ++ [[int ((k + c : Nat) : Int), int ((k + c + 1 : Nat) : Int), lv]], suf', T2, c + 2 + l[j].links.length, ?_, by omega, ?_, by simp [hpre], hN2.frame fun i hi => ?_, fun i hi => hTj i (by simp [hi])⟩
        · rw [hfr1 i (fun h => hiT (hTj i (by simp [h]))), Heap.get_set_ne _ _ hi, hfr i hi hiT]
        · simp [-Int.natCast_add]
          omega
        · rw [hfr1 id hidT1]
          simp
        · rw [hfr1 i (fun h => hdis i h hi), Heap.get_set_ne _ _ (by rintro rfl; exact hidT2 hi)]
      · have hc1 : ¬ j < l.length := by simpa using hc1
        have hje : j = l.length := by omega
        subst hje
        rw [List.drop_length] at hcnt
        have hc0 : c = cntN l := by simpa [cntN] using hcnt
        subst hc0
        refine Runs.exit rfl ?_
        refine Runs.seqE Ty_ok (by decide) fun k' hk' => ?_
        simp [h1, -Int.natCast_add]
        refine hk' _ _ _ ?_
        exact Runs.ret Tryd.func40 (RetOk.one Tryd.results40) (hQ _ _ _ ⟨by simp, rfl, fun i hi => hfr i (fun h => hi (by simp [h])) (fun h => hi (by simp [h]))⟩)
end Go.Ab

/- What walks by program lean on: the text of a mark, nested slices handed over, and marks of nodes that are left for lost. -/
namespace Go.Ab.Vg
open Go.Proofs
theorem markTxt_ok (k : Int) (h : markTxt_pre k) : PureC Tryd.prog 68 [int k] (fun r => r = str (markTxt k)) := by
  have := markText_ok k.toNat (by omega)
  rwa [Int.toNat_of_nonneg h.1] at this
theorem ArgOk.nest_Node {H : Heap} {n : Nat} (t : Bool) (l : List GNode) : ArgOk H n (.list t (l.map (GNode.cells t))) (.list false (l.map (GNode.cells false))) := Go.Ab.ArgOk.encN t l
theorem old_nest_Node (t : Bool) (l : List GNode) : old (.list t (l.map (GNode.cells t))) = .list false (l.map (GNode.cells false)) := old_encN t l
def markNn (l : List GNode) (k : Int) : Int := k + (cntN l : Int)
abbrev markNn_pre (l : List GNode) (k : Int) : Prop := 0 ≤ k ∧ l.length ≤ 1048576 ∧ k + cntN l ≤ 1152921504606846976
theorem markNodeS_eat (l : List GNode) (k : Int) (h : markNn_pre l k) : EatS Tryd.prog 40 (fun v => [v, int k]) (.s [.c, .c, .s [.c]]) (.list true (l.map (GNode.cells true))) (fun r => r = int (markNn l k)) := by
  refine EatS.ofOwn (d := 2) (by simp [Sh.dep, Sh.depL]) fun H n v S hO => ?_
  obtain ⟨q, rfl⟩ : ∃ q : Nat, k = q := ⟨k.toNat, by omega⟩
  refine CallsA.mono (markNodeS_ok l hO q h.2.1 (by omega)) ?_
  rintro r H1 n1 ⟨rfl, rfl, h3⟩
  exact ⟨by simp [markNn], rfl, h3⟩
end Go.Ab.Vg

/- Contracts of laws.toAmbNode, laws.toProcess, laws.eqAmbNode and laws.eqProcess. -/
namespace Go.Ab
open Go.Proofs
set_option linter.unusedSimpArgs false

theorem toAmbNode_ok (x : AmbNode) : PureC Tryd.prog 73 [.agg x.cells] (fun r => r = .agg x.cells) := by
  refine PureC.of Tryd.func73 rfl Tryd.ntmps73 (by simp) fun Q hQ => ?_
  refine Runs.seqE Ty_ok (by decide) fun k' hk' => ?_
  simp [AmbNode.cells]   -- R0
  refine hk' _ _ _ ?_
  refine Runs.seqE Ty_ok (by decide) fun k' hk' => ?_
  simp   -- R1
  refine hk' _ _ _ ?_
  refine Runs.seqE Ty_ok (by decide) fun k' hk' => ?_
  simp   -- R2
  refine hk' _ _ _ ?_
  refine Runs.seqE Ty_ok (by decide) fun k' hk' => ?_
  simp   -- R3
  refine hk' _ _ _ ?_
  refine Runs.seqE Ty_ok (by decide) fun k' hk' => ?_
  simp   -- R4
  refine hk' _ _ _ ?_
  refine Runs.seqE Ty_ok (by decide) fun k' hk' => ?_
  simp   -- R5
  refine hk' _ _ _ ?_
  exact Runs.ret Tryd.func73 (RetOk.cell (cs := x.cells) (v := .agg x.cells) Ty_ok Tryd.results73 Ty_70 (by simp [AmbNode.cells]) (by simp [loadA, AmbNode.cells])) (hQ _ _ _ _ (.of (Ret.fresh (by simp [AmbNode.cells]))) rfl)

theorem toAmbNodeS_ok (p : Proc) (hp : p.length ≤ 1048576) : PureC Tryd.prog 49 [.list false (p.map AmbNode.cells)] (fun r => r = .list true (p.map AmbNode.cells)) := by
  refine PureC.of Tryd.func49 rfl Tryd.ntmps49 (by simp) fun Q hQ => ?_
  refine Runs.seqE Ty_ok (by decide) fun k' hk' => ?_
  simp   -- R0
  refine hk' _ _ _ ?_
  refine Runs.seqE Ty_ok (by decide) fun k' hk' => ?_
  simp [show (p.length : Int) ≤ 1073741824 by omega]   -- R1
  refine hk' _ _ _ ?_
  refine Runs.seq ?_
  refine Runs.seqE Ty_ok (by decide) fun k' hk' => ?_
  simp   -- R2
  refine hk' _ _ _ ?_
  refine Runs.block (Runs.loopUp p.length (fun k ρ H n => ρ 0 = .list false (p.map AmbNode.cells) ∧ ρ 4 = int k ∧ ρ 3 = .arr (0, 7) p.length 0 p.length ∧ H (0, 7) = some ⟨3, part AmbNode.cells (AmbNode.cells ⟨0, [], 0⟩) p k⟩) ?_ ?_)
  · simp [AmbNode.cells, part_zero]
  · rintro k ρ H n hk ⟨h0, h4, h3, hH⟩ IH
    refine Runs.seq ?_
    refine Runs.seqE Ty_ok (by decide) fun k' hk' => ?_
    simp [h0, h4]   -- R3
    refine hk' _ _ _ ?_
    refine Runs.ite rfl (fun hc1 => ?_) (fun hc1 => ?_)   -- t11
    · simp at hc1
      refine Runs.skip ?_
      refine Runs.seq ?_
      refine Runs.block ?_
      refine Runs.evalE Ty_ok (by decide) fun k' hk' => ?_
      simp [h0, h3, h4, hc1, AmbNode.cells]   -- R5
      refine RunK.callA Ty_ok (toAmbNode_ok p[k]) e73 (.cons (ArgOk.node _) .nil) (by decide) (by decide) rfl (by simp [AmbNode.cells]) ?_
      rintro _ rfl
      simp [h3, h4, hH, hc1, part_len hk, part_get hc1, AmbNode.cells]
      refine hk' _ _ _ ?_
      refine Runs.inBlock ?_
      refine Runs.evalE Ty_ok (by decide) fun k' hk' => ?_
      simp [h4, wrap_succ (show k < 4611686018427387904 by omega)]   -- R4
      refine hk' _ _ _ ?_
      refine IH hc1 _ _ _ ?_
      rw [← part_set hc1]
      simp [h0, h3, AmbNode.cells, part_get' hc1]
    · simp at hc1
      have hke : k = p.length := by omega
      subst hke
      rw [part_end] at hH
      refine Runs.exit rfl ?_
      refine Runs.seqE Ty_ok (by decide) fun k' hk' => ?_
      simp [h3]   -- R6
      refine hk' _ _ _ ?_
      exact Runs.ret Tryd.func49 (RetOk.one Tryd.results49) (hQ _ _ _ _ (.of (Ret.arrF (by simp [hH]; rfl) (by simp [AmbNode.cells]))) rfl)

theorem toProcess_ok (p : Proc) (hp : p.length ≤ 1048576) : PureC Tryd.prog 17 [encP false p] (fun r => r = encP true p) := by
  refine PureC.of Tryd.func17 rfl Tryd.ntmps17 (by simp) fun Q hQ => ?_
  refine Runs.seqE Ty_ok (by decide) fun k' hk' => ?_
  simp [encP]   -- R0
  refine hk' _ _ _ ?_
  refine Runs.seqE Ty_ok (by decide) fun k' hk' => ?_
  simp   -- R1
  refine hk' _ _ _ ?_
  refine Runs.seqE Ty_ok (by decide) fun k' hk' => ?_
  simp   -- R2
  refine RunK.callA Ty_ok (toAmbNodeS_ok p hp) e49 (.cons (.listF (fr := false) (by simp [AmbNode.cells])) .nil) (by decide) (by decide) rfl (by simp) ?_
  rintro _ rfl
  simp
  refine hk' _ _ _ ?_
  refine Runs.seqE Ty_ok (by decide) fun k' hk' => ?_
  simp   -- R3
  refine hk' _ _ _ ?_
  exact Runs.ret Tryd.func17 (RetOk.cell (cs := [.list true (p.map AmbNode.cells)]) (v := encP true p) Ty_ok Tryd.results17 Ty_31 (by simp) (by simp [loadA, encP])) (hQ _ _ _ _ (.of (Ret.fresh (by simp [encP, AmbNode.cells]))) rfl)

theorem eqAmbNode_ok (x y : AmbNode) : PureC Tryd.prog 65 [.agg x.cells, .agg y.cells] (fun r => r = bool (decide (x = y))) := by
  obtain ⟨k1, n1, p1⟩ := x
  obtain ⟨k2, n2, p2⟩ := y
  refine PureC.of Tryd.func65 rfl Tryd.ntmps65 (by simp) fun Q hQ => ?_
  refine Runs.seqE Ty_ok (by decide) fun k' hk' => ?_
  simp [AmbNode.cells]   -- R0
  refine hk' _ _ _ ?_
  refine Runs.seq ?_
  refine Runs.seqE Ty_ok (by decide) fun k' hk' => ?_
  simp   -- R1
  refine hk' _ _ _ ?_
  refine Runs.ite rfl (fun hc1 => ?_) (fun hc1 => ?_)   -- t9
  · simp at hc1
    refine Runs.seqE Ty_ok (by decide) fun k' hk' => ?_
    simp   -- R2
    refine hk' _ _ _ ?_
    exact Runs.ret Tryd.func65 (RetOk.one Tryd.results65) (hQ _ _ _ _ (.v _ _ _) (by simp [hc1]))
  · simp at hc1
    refine Runs.skip ?_
    refine Runs.seq ?_
    refine Runs.seqE Ty_ok (by decide) fun k' hk' => ?_
    simp   -- R3
    refine hk' _ _ _ ?_
    refine Runs.ite rfl (fun hc2 => ?_) (fun hc2 => ?_)   -- t14
    · simp at hc2
      refine Runs.seqE Ty_ok (by decide) fun k' hk' => ?_
      simp   -- R4
      refine hk' _ _ _ ?_
      exact Runs.ret Tryd.func65 (RetOk.one Tryd.results65) (hQ _ _ _ _ (.v _ _ _) (by simp [hc2]))
    · simp at hc2
      refine Runs.skip ?_
      refine Runs.seq ?_
      refine Runs.seqE Ty_ok (by decide) fun k' hk' => ?_
      simp   -- R5
      refine hk' _ _ _ ?_
      refine Runs.ite rfl (fun hc3 => ?_) (fun hc3 => ?_)   -- t19
      · simp at hc3
        refine Runs.seqE Ty_ok (by decide) fun k' hk' => ?_
        simp   -- R6
        refine hk' _ _ _ ?_
        exact Runs.ret Tryd.func65 (RetOk.one Tryd.results65) (hQ _ _ _ _ (.v _ _ _) (by simp [hc3]))
      · simp at hc3
        refine Runs.skip ?_
        refine Runs.seqE Ty_ok (by decide) fun k' hk' => ?_
        simp   -- R7
        refine hk' _ _ _ ?_
        exact Runs.ret Tryd.func65 (RetOk.one Tryd.results65) (hQ _ _ _ _ (.v _ _ _) (by simp [hc1, hc2, hc3]))

theorem eqAmbNodeS_ok (p q : Proc) (hp : p.length ≤ 1048576) : PureC Tryd.prog 35 [.list false (p.map AmbNode.cells), .list false (q.map AmbNode.cells)] (fun r => r = bool (decide (p = q))) := by
  refine PureC.of Tryd.func35 rfl Tryd.ntmps35 (by simp) fun Q hQ => ?_
  refine Runs.seqE Ty_ok (by decide) fun k' hk' => ?_
  simp   -- R0
  refine hk' _ _ _ ?_
  refine Runs.seq ?_
  refine Runs.seqE Ty_ok (by decide) fun k' hk' => ?_
  simp   -- R1
  refine hk' _ _ _ ?_
  refine Runs.ite rfl (fun hc1 => ?_) (fun hc1 => ?_)   -- t10
  · simp at hc1
    refine Runs.seqE Ty_ok (by decide) fun k' hk' => ?_
    simp   -- R2
    refine hk' _ _ _ ?_
    refine Runs.ret Tryd.func35 (RetOk.one Tryd.results35) (hQ _ _ _ _ (.v _ _ _) ?_)
    have : p ≠ q := by intro h; subst h; omega
    simp [this]
  · simp at hc1
    have hlen : p.length = q.length := by omega
    refine Runs.skip ?_
    refine Runs.seq ?_
    refine Runs.seqE Ty_ok (by decide) fun k' hk' => ?_
    simp   -- R3
    refine hk' _ _ _ ?_
    refine Runs.block (Runs.loopUp p.length (fun k ρ H n => ρ 0 = .list false (p.map AmbNode.cells) ∧ ρ 1 = .list false (q.map AmbNode.cells) ∧ ρ 5 = int k ∧ p.take k = q.take k) ?_ ?_)
    · simp
    · rintro k ρ H n hk ⟨h0, h1, h5, heq⟩ IH
      refine Runs.seq ?_
      refine Runs.seqE Ty_ok (by decide) fun k' hk' => ?_
      simp [h0, h5]   -- R4
      refine hk' _ _ _ ?_
      refine Runs.ite rfl (fun hc2 => ?_) (fun hc2 => ?_)   -- t14
      · simp at hc2
        have hq2 : k < q.length := by omega
        refine Runs.skip ?_
        refine Runs.seq ?_
        refine Runs.block ?_
        refine Runs.seqD Ty_ok kindOp_ok draws (by decide) (by kernel_rfl) fun k' hk' => ?_
        simp [h0, h1, h5, hc2, hq2, AmbNode.cells]   -- R6
        refine RunDK.callA Ty_ok kindOp_ok (eqAmbNode_ok p[k] q[k]) e65 (.cons (ArgOk.node _) (.cons (ArgOk.node _) .nil)) (by decide) rfl (by simp [AmbNode.cells]) ?_
        simp
        refine hk' _ _ _ ?_
        refine Runs.ite rfl (fun hc3 => ?_) (fun hc3 => ?_)   -- t26
        · simp at hc3
          refine Runs.seqE Ty_ok (by decide) fun k' hk' => ?_
          simp   -- R7
          refine hk' _ _ _ ?_
          refine Runs.ret Tryd.func35 (RetOk.one Tryd.results35) (hQ _ _ _ _ (.v _ _ _) ?_)
          have : p ≠ q := by intro h; subst h; exact hc3 rfl
          simp [this]
        · simp at hc3
          refine Runs.skip ?_
          refine Runs.inBlock ?_
          refine Runs.evalE Ty_ok (by decide) fun k' hk' => ?_
          simp [h5, wrap_succ (show k < 4611686018427387904 by omega)]   -- R5
          refine hk' _ _ _ ?_
          refine IH hc2 _ _ _ ?_
          refine ⟨by simp [h0], by simp [h1], by simp, ?_⟩
          rw [List.take_succ_eq_append_getElem hc2, List.take_succ_eq_append_getElem hq2, heq, hc3]
      · simp at hc2
        refine Runs.exit rfl ?_
        refine Runs.seqE Ty_ok (by decide) fun k' hk' => ?_
        simp   -- R8
        refine hk' _ _ _ ?_
        refine Runs.ret Tryd.func35 (RetOk.one Tryd.results35) (hQ _ _ _ _ (.v _ _ _) ?_)
        rw [List.take_of_length_le hc2, List.take_of_length_le (by omega)] at heq
        simp [heq]

theorem eqProcess_ok (p q : Proc) (hp : p.length ≤ 1048576) : PureC Tryd.prog 10 [encP false p, encP false q] (fun r => r = bool (decide (p = q))) := by
  refine PureC.of Tryd.func10 rfl Tryd.ntmps10 (by simp) fun Q hQ => ?_
  refine Runs.seqE Ty_ok (by decide) fun k' hk' => ?_
  simp [encP]   -- R0
  refine hk' _ _ _ ?_
  refine Runs.seq ?_
  refine Runs.seqE Ty_ok (by decide) fun k' hk' => ?_
  simp   -- R1
  refine RunK.callA Ty_ok (eqAmbNodeS_ok p q hp) e35 (.cons (.listF (fr := false) (by simp [AmbNode.cells])) (.cons (.listF (fr := false) (by simp [AmbNode.cells])) .nil)) (by decide) (by decide) rfl (by simp) ?_
  rintro _ rfl
  simp
  refine hk' _ _ _ ?_
  refine Runs.ite rfl (fun hc1 => ?_) (fun hc1 => ?_)   -- t10
  · simp at hc1
    refine Runs.seqE Ty_ok (by decide) fun k' hk' => ?_
    simp   -- R2
    refine hk' _ _ _ ?_
    exact Runs.ret Tryd.func10 (RetOk.one Tryd.results10) (hQ _ _ _ _ (.v _ _ _) (by simp [hc1]))
  · simp at hc1
    refine Runs.skip ?_
    refine Runs.seqE Ty_ok (by decide) fun k' hk' => ?_
    simp   -- R3
    refine hk' _ _ _ ?_
    exact Runs.ret Tryd.func10 (RetOk.one Tryd.results10) (hQ _ _ _ _ (.v _ _ _) (by simp [hc1]))
end Go.Ab

/- DecodeProcess (statement 8): pure conditions of the program's and the reference's functions, and of the law. -/
namespace Go.Ab.Vg
set_option linter.unusedSimpArgs false
set_option linter.unusedVariables false
abbrev ambSig : Sig := [⟨[97, 109, 98], 1, 0⟩, ⟨[105, 110], 1, 1⟩, ⟨[111, 117, 116], 1, 1⟩, ⟨[111, 112, 101, 110], 1, 1⟩]
abbrev ambientSig : Sig := ambSig
def ambientSig_wp  (Z : (List Control) → Prop) : Prop :=
  Z [(Control.mk [97, 109, 98] 1 0), (Control.mk [105, 110] 1 1), (Control.mk [111, 117, 116] 1 1), (Control.mk [111, 112, 101, 110] 1 1)]
theorem ambientSig_vc : ambientSig_wp (fun y => y = ambientSig) := rfl
abbrev l12Sig : Sig := ambSig
def l12Sig_wp  (Z : (List Control) → Prop) : Prop :=
  Z [(Control.mk [97, 109, 98] 1 0), (Control.mk [105, 110] 1 1), (Control.mk [111, 117, 116] 1 1), (Control.mk [111, 112, 101, 110] 1 1)]
theorem l12Sig_vc : l12Sig_wp (fun y => y = l12Sig) := rfl
abbrev isClosed (b : Big) : Bool := decide (b.sites.length = 0) && decide (b.inner.length = 0)
def isClosed_wp (b : Big) (Z : Bool → Prop) : Prop :=
  joinW (fun (J4 : Bool → Prop) => ∀ len10 : Int, len10 = (b.sites.length : Int) → ∀ c12 : Bool, c12 = decide (len10 = 0) → ((c12 = true → ∀ len14 : Int, len14 = (b.inner.length : Int) → ∀ c16 : Bool, c16 = decide (len14 = 0) → J4 (c16)) ∧ (c12 = false → J4 (false)))) (fun b7 => Z b7)
theorem isClosed_vc (b : Big) : isClosed_wp b (fun y => y = isClosed b) := by
  unfold isClosed_wp
  refine ⟨fun c => c = isClosed b, ?_, fun _ h => h⟩
  simp only [forall_eq, decide_eq_true_eq, decide_eq_false_iff_not]
  refine ⟨fun h => ?_, fun h => ?_⟩
  · rw [Bool.eq_iff_iff]; simp only [isClosed, Bool.and_eq_true, decide_eq_true_eq]; omega
  · rw [Bool.eq_iff_iff]; simp only [isClosed, Bool.and_eq_true, decide_eq_true_eq, Bool.false_eq_true, false_iff]; omega
abbrev isAgent (sig : Sig) (b : Big) : Bool := goodB sig b && isClosed b
abbrev isAgent_pre (sig : Sig) (b : Big) : Prop := SmallB sig b
def isAgent_wp (sig : List Control) (b : Big) (Z : Bool → Prop) : Prop :=
  joinW (fun (J4 : Bool → Prop) => (SmallB sig b) ∧ ∀ r11 : Bool, r11 = goodB sig b → ((r11 = true → ∀ r12 : Bool, r12 = isClosed b → J4 (r12)) ∧ (r11 = false → J4 (false)))) (fun b7 => Z b7)
theorem isAgent_vc (sig : Sig) (b : Big) (h : isAgent_pre sig b) : isAgent_wp sig b (fun y => y = isAgent sig b) := by
  unfold isAgent_wp
  refine ⟨fun c => c = isAgent sig b, ⟨h, ?_⟩, fun _ h => h⟩
  simp only [forall_eq]
  exact ⟨fun h => by simp only [isAgent, h, Bool.true_and], fun h => by simp only [isAgent, h, Bool.false_and]⟩
abbrev l2Agent (sig : Sig) (b : Big) : Bool := isAgent sig b
abbrev l2Agent_pre (sig : Sig) (b : Big) : Prop := SmallB sig b
def l2Agent_wp (sig : List Control) (b : Big) (Z : Bool → Prop) : Prop :=
  joinW (fun (J4 : Bool → Prop) => (SmallB sig b) ∧ ∀ r11 : Bool, r11 = goodB sig b → ((r11 = true → ∀ len12 : Int, len12 = (b.sites.length : Int) → ∀ c14 : Bool, c14 = decide (len12 = 0) → ((c14 = true → ∀ len16 : Int, len16 = (b.inner.length : Int) → ∀ c18 : Bool, c18 = decide (len16 = 0) → J4 (c18)) ∧ (c14 = false → J4 (false)))) ∧ (r11 = false → J4 (false)))) (fun b7 => Z b7)
theorem l2Agent_vc (sig : Sig) (b : Big) (h : l2Agent_pre sig b) : l2Agent_wp sig b (fun y => y = l2Agent sig b) := by
  unfold l2Agent_wp
  refine ⟨fun c => c = l2Agent sig b, ⟨h, ?_⟩, fun _ h => h⟩
  simp only [forall_eq, decide_eq_true_eq, decide_eq_false_iff_not]
  refine ⟨fun h => ⟨fun h1 => ?_, fun h1 => ?_⟩, fun h => by simp only [l2Agent, isAgent, h, Bool.false_and]⟩
  · rw [Bool.eq_iff_iff]; simp only [l2Agent, isAgent, isClosed, h, Bool.true_and, Bool.and_eq_true, decide_eq_true_eq]; omega
  · rw [Bool.eq_iff_iff]; simp only [l2Agent, isAgent, isClosed, h, Bool.true_and, Bool.and_eq_true, decide_eq_true_eq, Bool.false_eq_true, false_iff]; omega
def decodeN (b : Big) (n : GNode) : AmbNode := ⟨n.control, at' b.outer (at' n.links 0), n.parent⟩
def decoded (b : Big) : Proc := b.nodes.map (decodeN b)
abbrev l12Decode (b : Big) : Proc := decoded b
abbrev Decodes (b : Big) : Prop := b.nodes.length ≤ 8 ∧ ∀ x ∈ b.nodes, (0 ≤ x.control ∧ x.control ≤ 3) ∧ 0 < x.links.length ∧ 0 ≤ at' x.links 0 ∧ at' x.links 0 < b.outer.length
abbrev l12Decode_pre (b : Big) : Prop := Decodes b
def l12Decode_wp (b : Big) (Z : Proc → Prop) : Prop :=
  loopW (σ := Int × (List AmbNode)) (fun (i19, l20) K25 => ∀ len26 : Int, len26 = (b.nodes.length : Int) → ∀ c28 : Bool, c28 = decide (i19 < len26) → ((c28 = true → (0 ≤ i19 ∧ i19 < b.nodes.length) ∧ ∀ x31 : GNode, x31 = at' b.nodes i19 → (0 ≤ i19 ∧ i19 < b.nodes.length) ∧ ∀ x34 : GNode, x34 = at' b.nodes i19 → ((0 : Int) ≤ 0 ∧ (0 : Int) < x31.links.length) ∧ ∀ x38 : Int, x38 = at' x31.links 0 → (0 ≤ x38 ∧ x38 < b.outer.length) ∧ ∀ x41 : Str, x41 = at' b.outer x38 → (0 ≤ i19 ∧ i19 < b.nodes.length) ∧ ∀ x44 : GNode, x44 = at' b.nodes i19 → (l20.length + 1 ≤ 1073741824) ∧ ∀ l48 : List AmbNode, l48 = l20 ++ [(AmbNode.mk x31.control x41 x31.parent)] → (I64 (i19 + 1)) ∧ ∀ v61 : Int, v61 = i19 + 1 → K25 (v61, l48)) ∧ (c28 = false → Z l20))) (0, ([] : List AmbNode))
theorem l12Decode_vc (b : Big) (h : l12Decode_pre b) : l12Decode_wp b (fun y => y = l12Decode b) := by
  obtain ⟨h8, hx⟩ := h
  unfold l12Decode_wp
  refine loopW.upL b.nodes.length (fun k out => out = (b.nodes.take k).map (decodeN b)) [] (by simp) ?_
  rintro k out K hk rfl IH
  simp only [forall_eq, decide_eq_true_eq, decide_eq_false_iff_not]
  refine ⟨fun hc => ?_, fun hc => ?_⟩
  · have hk1 : k < b.nodes.length := by omega
    have hn := hx _ (List.getElem_mem hk1)
    rw [at_lt hk1]
    refine ⟨by omega, by omega, by omega, ⟨hn.2.2.1, hn.2.2.2⟩, by omega, by simp; omega, by simp only [I64]; omega, ?_⟩
    refine IH hk1 _ ?_
    rw [List.take_succ_eq_append_getElem hk1, List.map_append]
    rfl
  · rw [show k = b.nodes.length by omega, List.take_length]
    rfl
abbrev decodes (b : Big) : Bool := isAgent ambSig b && decide (b.roots = 1) && decide (b.edges = 0)
theorem decodes_ok {b : Big} (h : decodes b = true) : Decodes b := by
  simp only [decodes, isAgent, goodB, Bool.and_eq_true, decide_eq_true_eq, List.all_eq_true, List.mem_range] at h
  obtain ⟨⟨⟨⟨⟨⟨⟨⟨⟨⟨⟨⟨_, _⟩, h8⟩, _⟩, _⟩, _⟩, _⟩, hn⟩, _⟩, _⟩, _⟩, hr⟩, he⟩ := h
  refine ⟨h8, fun x hx => ?_⟩
  obtain ⟨i, hi, rfl⟩ := List.getElem_of_mem hx
  have := hn i hi
  have hg : b.nodes.getD i default = b.nodes[i] := by simp [hi]
  simp only [okNodeB, hg, Bool.and_eq_true, decide_eq_true_eq, within, List.all_eq_true] at this
  obtain ⟨⟨⟨⟨c1, c2⟩, _⟩, c3⟩, c4⟩ := this
  have c2' : b.nodes[i].control ≤ 3 := by simpa using c2
  have hp : (ambSig.getD b.nodes[i].control.toNat default).ports = 1 := by
    obtain ⟨m, hm⟩ : ∃ m : Nat, b.nodes[i].control = m := ⟨b.nodes[i].control.toNat, by omega⟩
    rw [hm]
    have : m ≤ 3 := by omega
    match m, this with
    | 0, _ => rfl
    | 1, _ => rfl
    | 2, _ => rfl
    | 3, _ => rfl
  rw [hp] at c3
  have hl : 0 < b.nodes[i].links.length := by omega
  have h0 := c4 _ (List.getElem_mem hl)
  have ha : at' b.nodes[i].links 0 = b.nodes[i].links[0] := at_lt (k := 0) hl
  simp only [okLink, within, Bool.and_eq_true, decide_eq_true_eq] at h0
  refine ⟨⟨c1, c2'⟩, hl, ?_, ?_⟩ <;> rw [ha] <;> omega
def DecodeProcess (b : Big) : Proc × Bool := if decodes b then (decoded b, true) else ([], false)
abbrev DecodeProcess_pre (b : Big) : Prop := SmallB ambSig b
def DecodeProcess_wp (b : Big) (Z : (Proc × Bool) → Prop) : Prop :=
  joinW (fun (J5 : Bool → Prop) => ∀ r77 : List Control, r77 = ambientSig  → (isAgent_pre r77 b) ∧ ∀ r79 : Bool, r79 = isAgent r77 b → ((r79 = true → ∀ c80 : Bool, c80 = decide (b.roots ≠ 1) → ((c80 = true → J5 (true)) ∧ (c80 = false → ∀ c82 : Bool, c82 = decide (0 < b.edges) → J5 (c82)))) ∧ (r79 = false → J5 (true)))) (fun b8 => ((b8 = true → Z ([], false)) ∧ (b8 = false → ∀ len17 : Int, len17 = (b.nodes.length : Int) → loopW (σ := Int × (List AmbNode)) (fun (v30, l31) K36 => ∀ c37 : Bool, c37 = decide (v30 < len17) → ((c37 = true → (0 ≤ v30 ∧ v30 < b.nodes.length) ∧ ∀ x40 : GNode, x40 = at' b.nodes v30 → (I64 (0 + x40.control)) ∧ ∀ v47 : Int, v47 = 0 + x40.control → ((0 : Int) ≤ 0 ∧ (0 : Int) < x40.links.length) ∧ ∀ x50 : Int, x50 = at' x40.links 0 → (0 ≤ x50 ∧ x50 < b.outer.length) ∧ ∀ x53 : Str, x53 = at' b.outer x50 → (l31.length + 1 ≤ 1073741824) ∧ ∀ l56 : List AmbNode, l56 = l31 ++ [(AmbNode.mk v47 x53 x40.parent)] → (I64 (v30 + 1)) ∧ ∀ v69 : Int, v69 = v30 + 1 → K36 (v69, l56)) ∧ (c37 = false → Z (l31, true)))) (0, ([] : List AmbNode)))))
theorem DecodeProcess_vc (b : Big) (h : DecodeProcess_pre b) : DecodeProcess_wp b (fun y => y = DecodeProcess b) := by
  unfold DecodeProcess_wp
  refine ⟨fun c => c = !decodes b, ?_, ?_⟩
  · simp only [forall_eq, decide_eq_true_eq, decide_eq_false_iff_not]
    refine ⟨h, fun h1 => ⟨fun h2 => ?_, fun h2 => ?_⟩, fun h1 => by simp only [decodes, h1, Bool.false_and, Bool.not_false]⟩
    · simp only [decodes, h1, h2, decide_false, Bool.and_false, Bool.false_and, Bool.not_false]
    · have he : 0 ≤ b.edges := by
        simp only [isAgent, goodB, within, Bool.and_eq_true, decide_eq_true_eq] at h1
        exact h1.1.1.1.1.1.1.2.1
      rw [Bool.eq_iff_iff]
      simp only [decodes, h1, Bool.true_and, decide_eq_true_eq, Bool.not_eq_true', Bool.and_eq_false_iff, decide_eq_false_iff_not]
      omega
  · rintro _ rfl
    refine ⟨fun h1 => ?_, fun h1 => ?_⟩
    · rw [Bool.not_eq_true'] at h1
      rw [DecodeProcess, h1]; rfl
    · rw [Bool.not_eq_false'] at h1
      have hd := decodes_ok h1
      obtain ⟨h8, hx⟩ := hd
      rintro _ rfl
      refine loopW.upL b.nodes.length (fun k out => out = (b.nodes.take k).map (decodeN b)) [] (by simp) ?_
      rintro k out K hk rfl IH
      simp only [forall_eq, decide_eq_true_eq, decide_eq_false_iff_not]
      refine ⟨fun hc => ?_, fun hc => ?_⟩
      · have hk1 : k < b.nodes.length := by omega
        have hn := hx _ (List.getElem_mem hk1)
        rw [at_lt hk1]
        refine ⟨by omega, by simp only [I64]; omega, by omega, ⟨hn.2.2.1, hn.2.2.2⟩, by simp; omega, by simp only [I64]; omega, ?_⟩
        refine IH hk1 _ ?_
        rw [List.take_succ_eq_append_getElem hk1, List.map_append]
        simp [decodeN]
      · rw [show k = b.nodes.length by omega, List.take_length, DecodeProcess, h1]; rfl
abbrev sDecodeProcess (b : Big) : Proc × Bool := DecodeProcess b
abbrev sDecodeProcess_pre (b : Big) : Prop := SmallB ambSig b
def sDecodeProcess_wp (b : Big) (Z : (Proc × Bool) → Prop) : Prop :=
  joinW (fun (J5 : Bool → Prop) => ∀ r33 : List Control, r33 = l12Sig  → (l2Agent_pre r33 b) ∧ ∀ r35 : Bool, r35 = l2Agent r33 b → ((r35 = true → ∀ c36 : Bool, c36 = decide (b.roots ≠ 1) → ((c36 = true → J5 (true)) ∧ (c36 = false → ∀ c38 : Bool, c38 = decide (b.edges ≠ 0) → J5 (c38)))) ∧ (r35 = false → J5 (true)))) (fun b8 => ((b8 = true → Z ([], false)) ∧ (b8 = false → (l12Decode_pre b) ∧ ∀ r16 : Proc, r16 = l12Decode b → Z (r16, true))))
theorem sDecodeProcess_vc (b : Big) (h : sDecodeProcess_pre b) : sDecodeProcess_wp b (fun y => y = sDecodeProcess b) := by
  unfold sDecodeProcess_wp
  refine ⟨fun c => c = !decodes b, ?_, ?_⟩
  · simp only [forall_eq, decide_eq_true_eq, decide_eq_false_iff_not]
    refine ⟨h, fun h1 => ⟨fun h2 => ?_, fun h2 => ?_⟩, fun h1 => by simp only [decodes, show isAgent ambSig b = false from h1, Bool.false_and, Bool.not_false]⟩
    · simp only [decodes, h2, decide_false, Bool.and_false, Bool.false_and, Bool.not_false]
    · have h3 : isAgent ambSig b = true := h1
      rw [Bool.eq_iff_iff]
      simp only [decodes, h3, Bool.true_and, decide_eq_true_eq, Bool.not_eq_true', Bool.and_eq_false_iff, decide_eq_false_iff_not]
      omega
  · rintro _ rfl
    refine ⟨fun h1 => ?_, fun h1 => ?_⟩
    · rw [Bool.not_eq_true'] at h1
      rw [sDecodeProcess, DecodeProcess, h1]; rfl
    · rw [Bool.not_eq_false'] at h1
      refine ⟨decodes_ok h1, ?_⟩
      rintro _ rfl
      rw [sDecodeProcess, DecodeProcess, h1]; rfl

abbrev EqB (x : Big) : Prop := x.nodes.length ≤ 1048576 ∧ (∀ z ∈ x.nodes, z.links.length ≤ 1048576) ∧ x.sites.length ≤ 1048576 ∧ x.outer.length ≤ 1048576 ∧ x.inner.length ≤ 1048576
theorem cntN_le : ∀ {l : List GNode}, (∀ x ∈ l, x.links.length ≤ 1048576) → cntN l ≤ 1048578 * l.length
  | [], _ => by simp [cntN]
  | x :: l, h => by
    have h1 := cntN_le (l := l) fun y hy => h y (by simp [hy])
    have h2 := h x (by simp)
    simp only [cntN, List.map_cons, List.sum_cons, List.length_cons] at h1 ⊢
    omega
def markBigraph (b : Big) (k : Int) : Int := markNn b.nodes k + b.sites.length + b.outer.length + 2 * b.inner.length
abbrev markBigraph_pre (b : Big) (k : Int) : Prop := EqB b ∧ 0 ≤ k ∧ k ≤ 1125899906842624
def markBigraph_wp (a : Big) (k_ : Int) (Z : Int → Prop) : Prop :=
  (markNn_pre a.nodes k_) ∧ ∀ r25 : Int, r25 = markNn a.nodes k_ → (markIntS_pre a.sites r25) ∧ ∀ r38 : (List Int) × Int, r38 = markIntS a.sites r25 → (markStringS_pre a.outer r38.2) ∧ ∀ r51 : (List Str) × Int, r51 = markStringS a.outer r38.2 → (markWireS_pre a.inner r51.2) ∧ ∀ r64 : (List Wire) × Int, r64 = markWireS a.inner r51.2 → Z r64.2
theorem markBigraph_vc (b : Big) (k : Int) (h : markBigraph_pre b k) : markBigraph_wp b k (fun y => y = markBigraph b k) := by
  unfold markBigraph_wp
  obtain ⟨⟨h1, h2, h3, h4, h5⟩, h6, h7⟩ := h
  have := cntN_le h2
  simp only [forall_eq, markNn_pre, markIntS_pre, markStringS_pre, markWireS_pre, MarkOk, markL, markNn, markBigraph]
  omega
abbrev lawDecode (_ : Big) : Bool := true
abbrev lawDecode_pre (b : Big) : Prop := HugeB b
def lawDecode_wp (aB : Big) (Z : Bool → Prop) : Prop :=
  (((0 : Int) ≤ 1048576 ∧ (1048576 : Int) ≤ 1048576) ∧ HugeB aB) ∧ ∀ r5 : Int, r5 = szB aB 1048576 → ∀ c6 : Bool, c6 = decide (r5 < 0) → ((c6 = true → Z true) ∧ (c6 = false → (toBigraph_pre aB) ∧ ∀ r9 : Big, r9 = toBigraph aB → (sDecodeProcess_pre r9) ∧ ∀ r29 : Proc × Bool, r29 = sDecodeProcess r9 → (toBigraph_pre aB) ∧ ∀ r50 : Big, r50 = toBigraph aB → (DecodeProcess_pre r50) ∧ ∀ r85 : Proc × Bool, r85 = DecodeProcess r50 → joinW (fun (J110 : Bool → Prop) => (r85.1.length ≤ 1048576) ∧ ∀ r239 : Bool, r239 = decide (r85.1 = r29.1) → ((r239 = true → ∀ c240 : Bool, c240 = !(r85.2 == r29.2) → J110 (c240)) ∧ (r239 = false → J110 (true)))) (fun b113 => ((b113 = true → Z false) ∧ (b113 = false → (toBigraph_pre aB) ∧ ∀ r123 : Big, r123 = toBigraph aB → (EqB r50) ∧ ∀ r125 : Bool, r125 = decide (r50 = r123) → ((r125 = true → (markBigraph_pre r50 1) ∧ ∀ r127 : Int, r127 = markBigraph r50 1 → joinW (fun (J144 : Bool → Prop) => ∀ c232 : Bool, c232 = decide (r127 < 0) → ((c232 = true → J144 (true)) ∧ (c232 = false → (r85.1.length ≤ 1048576) ∧ ∀ r235 : Bool, r235 = decide (r85.1 = r29.1) → ((r235 = true → ∀ c236 : Bool, c236 = !(r85.2 == r29.2) → J144 (c236)) ∧ (r235 = false → J144 (true)))))) (fun b147 => ((b147 = true → Z false) ∧ (b147 = false → (markProcess_pre r85.1 1) ∧ ∀ r153 : Proc × Int, r153 = markProcess r85.1 1 → (heldProcess_pre r153.1 1) ∧ ∀ r167 : Int, r167 = heldProcess r153.1 1 → ∀ c168 : Bool, c168 = decide (r167 < 0) → ((c168 = true → Z false) ∧ (c168 = false → ∀ c170 : Bool, c170 = decide (r167 ≠ r153.2) → ((c170 = true → Z false) ∧ (c170 = false → (toBigraph_pre aB) ∧ ∀ r173 : Big, r173 = toBigraph aB → (DecodeProcess_pre r173) ∧ ∀ r193 : Proc × Bool, r193 = DecodeProcess r173 → joinW (fun (J215 : Bool → Prop) => (r193.1.length ≤ 1048576) ∧ ∀ r229 : Bool, r229 = decide (r193.1 = r29.1) → ((r229 = true → ∀ c230 : Bool, c230 = !(r193.2 == r29.2) → J215 (c230)) ∧ (r229 = false → J215 (true)))) (fun b218 => ((b218 = true → Z false) ∧ (b218 = false → (heldProcess_pre r153.1 1) ∧ ∀ r223 : Int, r223 = heldProcess r153.1 1 → ∀ c224 : Bool, c224 = decide (r223 < 0) → ((c224 = true → Z false) ∧ (c224 = false → ∀ c226 : Bool, c226 = decide (r223 ≠ r153.2) → ((c226 = true → Z false) ∧ (c226 = false → Z true))))))))))))))) ∧ (r125 = false → Z false)))))))
theorem smallD {b : Big} (h : 0 ≤ szB b 1048576) (hh : HugeB b) : SmallB ambSig b := by
  have hz : szS szC [] 1048576 = 1048576 := by simp [szS, szL]
  have h1 : SmallB [] b := smallB (left := 1048576) (by omega) (by omega) (by rw [hz]; omega) (by rw [hz]; exact h) hh
  exact { h1 with sigLen := by decide, sigNames := by decide }
theorem decode_len (b : Big) : (DecodeProcess b).1.length ≤ 8 := by
  unfold DecodeProcess
  split
  · rename_i h
    have := (decodes_ok h).1
    simpa [decoded] using this
  · simp
theorem lawDecode_vc (b : Big) (h : lawDecode_pre b) : lawDecode_wp b (fun y => y = lawDecode b) := by
  unfold lawDecode_wp
  simp only [forall_eq, decide_eq_true_eq, decide_eq_false_iff_not, toBigraph, sDecodeProcess]
  refine ⟨⟨by omega, h⟩, fun _ => trivial, fun h1 => ?_⟩
  have hS : SmallB ambSig b := smallD (by omega) h
  have hB : EqB b := ⟨hS.nodesLen, hS.linksLen, hS.sitesLen, hS.outerLen, hS.innerLen⟩
  have hT : toBigraph_pre b := ⟨⟨hS.nodesLen, hS.linksLen⟩, hS.sitesLen, hS.outerLen, hS.innerLen⟩
  have hL := decode_len b
  refine ⟨hT, hS, hT, hS, fun c => c = false, ⟨by omega, fun _ => by simp, fun h => absurd trivial h⟩, ?_⟩
  rintro _ rfl
  refine ⟨fun h => (by cases h), fun _ => ⟨hT, hB, fun _ => ⟨⟨hB, by omega, by omega⟩, fun c => c = false, ⟨fun h => ?_, fun _ => ⟨by omega, fun _ => by simp, fun h => absurd trivial h⟩⟩, ?_⟩, fun h => absurd trivial h⟩⟩
  · simp only [markBigraph, markNn] at h
    omega
  rintro _ rfl
  have hm : (markProcess (DecodeProcess b).1 1).2 = 1 + 3 * (DecodeProcess b).1.length := rfl
  have hml : (markProcess (DecodeProcess b).1 1).1.length = (DecodeProcess b).1.length := marked_len _ _ _ _
  have hh := heldP_mark (DecodeProcess b).1 1 (by omega)
  refine ⟨fun h => (by cases h), fun _ => ⟨⟨by omega, by omega, by omega⟩, ⟨by omega, by omega, by omega⟩, fun h => by omega, fun _ => ⟨fun h => absurd hh h, fun _ => ⟨hT, hS, fun c => c = false, ⟨by omega, fun _ => by simp, fun h => absurd trivial h⟩, ?_⟩⟩⟩⟩
  rintro _ rfl
  exact ⟨fun h => (by cases h), fun _ => ⟨⟨by omega, by omega, by omega⟩, fun h => by omega, fun _ => ⟨fun h => absurd hh h, fun _ => trivial⟩⟩⟩
end Go.Ab.Vg
