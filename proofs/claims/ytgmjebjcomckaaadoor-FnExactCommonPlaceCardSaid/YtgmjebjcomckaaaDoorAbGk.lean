/- Contracts of impl.ancestorsOf, spec.l2Above, slices.Index, slices.Contains and spec.l1Has. -/
import Derived.Test.YtgmjebjcomckaaaDoorAbGj
namespace Go.Ab
open Go.Proofs
set_option linter.unusedSimpArgs false
theorem e64 : Ent Tryd.prog 64 := Ent.of Tryd.func64 (by kernel_rfl) rfl
theorem e68 : Ent Tryd.prog 68 := Ent.of Tryd.func68 (by kernel_rfl) rfl
theorem e127 : Ent Tryd.prog 127 := Ent.of Tryd.func127 (by kernel_rfl) rfl
theorem e65 : Ent Tryd.prog 65 := Ent.of Tryd.func65 (by kernel_rfl) rfl
theorem e69 : Ent Tryd.prog 69 := Ent.of Tryd.func69 (by kernel_rfl) rfl

def parentB (b : Big) (i : Nat) : Int := (b.nodes.getD i default).parent
def aboveF (b : Big) : Nat → Int → List Int
  | 0, _ => []
  | d + 1, node => if node < 0 then [] else parentB b node.toNat :: aboveF b d (parentB b node.toNat)
def above (b : Big) (node : Int) : List Int := aboveF b (b.nodes.length + 1) node
/-- Parents come first. -/
def Down (b : Big) : Prop := b.nodes.length ≤ 8 ∧ ∀ i, i < b.nodes.length → parentB b i < i

theorem goodB_down {sig : Sig} {b : Big} (h : goodB sig b = true) : Down b := by
  rw [goodB_eq] at h
  simp only [goodPre, Bool.and_eq_true, List.all_eq_true, List.mem_range, decide_eq_true_eq] at h
  obtain ⟨⟨⟨hp, hn⟩, _⟩, _⟩ := h
  refine ⟨by have := hp.1.1.1.1.2; exact this, fun i hi => ?_⟩
  have := hn i hi
  simp only [okNodeB, okParent, Bool.and_eq_true] at this
  have h2 := this.1.1.2
  unfold parentB
  split at h2
  · omega
  · simp only [Bool.and_eq_true, decide_eq_true_eq] at h2
    exact h2.1

theorem aboveF_len (b : Big) : ∀ d node, (aboveF b d node).length ≤ d
  | 0, _ => by simp [aboveF]
  | d + 1, node => by
    rw [aboveF]
    split
    · simp
    · have := aboveF_len b d (parentB b node.toNat)
      simp
      omega

theorem ancestorsOf_ok {b : Big} (hd : Down b) (node : Int) (hn : node < b.nodes.length) : OwnC Tryd.prog 64 [encB false b, int node] 1 (fun r => r = encI true (above b node)) := by
  obtain ⟨hd8, hd⟩ := hd
  refine OwnC.of Tryd.func64 rfl Tryd.ntmps64 (by simp) fun Q hQ => ?_
  refine Runs.seqE Ty_ok (by decide) fun k' hk' => ?_
  simp [encB, Big.cells]   -- R0
  refine hk' _ _ _ ?_
  refine Runs.seqE Ty_ok (by decide) fun k' hk' => ?_
  simp   -- R1
  refine hk' _ _ _ ?_
  refine Runs.seq ?_
  refine Runs.block (Runs.loopM (fun m ρ H n => ρ 2 = .ptr (0, 2) 1 0 0 ∧ H (0, 2) = some ⟨6, [b.cells false]⟩ ∧ ∃ (cur : Int) (acc : List Int), ρ 1 = int cur ∧ cur + 1 ≤ m ∧ cur < b.nodes.length ∧ acc ++ aboveF b m cur = above b node ∧ acc.length + m ≤ b.nodes.length + 1 ∧
    ρ 5 = .arr (1, 6) acc.length 0 acc.length ∧ H (1, 6) = some ⟨1, acc.map intC⟩) (b.nodes.length + 1) ?_ ?_)
  · exact ⟨by simp, by simp [Big.cells], node, [], by simp, by omega, hn, by simp [above], by simp, by simp, by simp⟩
  · rintro m ρ H n ⟨h2, hm2, cur, acc, h1, hcm, hcl, htot, hal, h5, hm6⟩ IH
    have hm2' := hm2
    simp only [Big.cells, encN] at hm2'
    refine Runs.seq ?_
    refine Runs.seqE Ty_ok (by decide) fun k' hk' => ?_
    simp [h1]   -- R2
    refine hk' _ _ _ ?_
    refine Runs.ite rfl (fun hc1 => ?_) (fun hc1 => ?_)   -- t8
    · have hc1 : 0 ≤ cur := by simpa using hc1
      obtain ⟨q, rfl⟩ : ∃ q : Nat, cur = q := ⟨cur.toNat, by omega⟩
      have hq : q < b.nodes.length := by omega
      obtain ⟨m', rfl⟩ : ∃ m', m = m' + 1 := ⟨m - 1, by omega⟩
      have hpd := hd q hq
      have hpq : parentB b q = b.nodes[q].parent := by simp [parentB, hq]
      refine Runs.skip ?_
      refine Runs.block ?_
      refine Runs.seqE Ty_ok (by decide) fun k' hk' => ?_
      simp [h1, h2, hm2', hq, GNode.cells]   -- R3
      refine hk' _ _ _ ?_
      refine Runs.evalE Ty_ok (by decide) fun k' hk' => ?_
      have hlen : (acc.map intC).length = acc.length := by simp
      generalize hels : acc.map intC = els at hm6 hlen
      simp [h5, hm6, hlen, live, show acc.length ≤ 1073741823 by omega]   -- R4
      refine hk' _ _ _ ?_
      refine Runs.inBlock ?_
      refine IH m' _ _ _ (by omega) ⟨by simp [h2], by simp [hm2], b.nodes[q].parent, acc ++ [b.nodes[q].parent], by simp, by omega, by omega, ?_, by simp; omega, by simp, by simp [← hels, intC]⟩
      rw [← htot, aboveF, if_neg (by omega), Int.toNat_natCast, hpq]
      simp
    · have hc1 : cur < 0 := by
        have : ¬ 0 ≤ cur := by simpa using hc1
        omega
      have hacc : acc = above b node := by
        rw [← htot]
        cases m with
        | zero => simp [aboveF]
        | succ m => rw [aboveF, if_pos hc1]; simp
      refine Runs.exit rfl ?_
      refine Runs.seqE Ty_ok (by decide) fun k' hk' => ?_
      simp [h5]   -- R5
      refine hk' _ _ _ ?_
      rw [hacc] at hm6
      refine Runs.ret Tryd.func64 (RetOk.one Tryd.results64) (hQ _ _ _ _ [(1, 6)] ?_ rfl)
      simp only [Env.put]
      simp [hacc, encI]
      exact Own.arrF hm6 (by simp) (ints_flat _)

theorem l2Above_ok {b : Big} (hd : Down b) (node : Int) (hn : node < b.nodes.length) : OwnC Tryd.prog 68 [encB false b, int node] 1 (fun r => r = encI true (above b node)) := by
  obtain ⟨hd8, hd⟩ := hd
  refine OwnC.of Tryd.func68 rfl Tryd.ntmps68 (by simp) fun Q hQ => ?_
  refine Runs.seqE Ty_ok (by decide) fun k' hk' => ?_
  simp [encB, Big.cells]   -- R0
  refine hk' _ _ _ ?_
  refine Runs.seqE Ty_ok (by decide) fun k' hk' => ?_
  simp   -- R1
  refine hk' _ _ _ ?_
  refine Runs.seq ?_
  refine Runs.block (Runs.loopM (fun m ρ H n => ρ 2 = .ptr (0, 2) 1 0 0 ∧ H (0, 2) = some ⟨6, [b.cells false]⟩ ∧ ∃ (cur : Int) (acc : List Int), ρ 1 = int cur ∧ cur + 1 ≤ m ∧ cur < b.nodes.length ∧ acc ++ aboveF b m cur = above b node ∧ acc.length + m ≤ b.nodes.length + 1 ∧
    ρ 5 = .arr (1, 6) acc.length 0 acc.length ∧ H (1, 6) = some ⟨1, acc.map intC⟩) (b.nodes.length + 1) ?_ ?_)
  · exact ⟨by simp, by simp [Big.cells], node, [], by simp, by omega, hn, by simp [above], by simp, by simp, by simp⟩
  · rintro m ρ H n ⟨h2, hm2, cur, acc, h1, hcm, hcl, htot, hal, h5, hm6⟩ IH
    have hm2' := hm2
    simp only [Big.cells, encN] at hm2'
    refine Runs.seq ?_
    refine Runs.seqE Ty_ok (by decide) fun k' hk' => ?_
    simp [h1]   -- R2
    refine hk' _ _ _ ?_
    refine Runs.ite rfl (fun hc1 => ?_) (fun hc1 => ?_)   -- t8
    · have hc1 : 0 ≤ cur := by simpa using hc1
      obtain ⟨q, rfl⟩ : ∃ q : Nat, cur = q := ⟨cur.toNat, by omega⟩
      have hq : q < b.nodes.length := by omega
      obtain ⟨m', rfl⟩ : ∃ m', m = m' + 1 := ⟨m - 1, by omega⟩
      have hpd := hd q hq
      have hpq : parentB b q = b.nodes[q].parent := by simp [parentB, hq]
      refine Runs.skip ?_
      refine Runs.block ?_
      refine Runs.seqE Ty_ok (by decide) fun k' hk' => ?_
      simp [h1, h2, hm2', hq, GNode.cells]   -- R3
      refine hk' _ _ _ ?_
      refine Runs.evalE Ty_ok (by decide) fun k' hk' => ?_
      have hlen : (acc.map intC).length = acc.length := by simp
      generalize hels : acc.map intC = els at hm6 hlen
      simp [h5, hm6, hlen, live, show acc.length ≤ 1073741823 by omega]   -- R4
      refine hk' _ _ _ ?_
      refine Runs.inBlock ?_
      refine IH m' _ _ _ (by omega) ⟨by simp [h2], by simp [hm2], b.nodes[q].parent, acc ++ [b.nodes[q].parent], by simp, by omega, by omega, ?_, by simp; omega, by simp, by simp [← hels, intC]⟩
      rw [← htot, aboveF, if_neg (by omega), Int.toNat_natCast, hpq]
      simp
    · have hc1 : cur < 0 := by
        have : ¬ 0 ≤ cur := by simpa using hc1
        omega
      have hacc : acc = above b node := by
        rw [← htot]
        cases m with
        | zero => simp [aboveF]
        | succ m => rw [aboveF, if_pos hc1]; simp
      refine Runs.exit rfl ?_
      refine Runs.seqE Ty_ok (by decide) fun k' hk' => ?_
      simp [h5]   -- R5
      refine hk' _ _ _ ?_
      rw [hacc] at hm6
      refine Runs.ret Tryd.func68 (RetOk.one Tryd.results68) (hQ _ _ _ _ [(1, 6)] ?_ rfl)
      simp only [Env.put]
      simp [hacc, encI]
      exact Own.arrF hm6 (by simp) (ints_flat _)

theorem index_ok (t : Bool) (l : List Int) (x : Int) (hl : l.length ≤ 1048576) : PureC Tryd.prog 127 [encI t l, int x] (fun r => r = int (idxF l (fun y => x == y))) := by
  refine PureC.of Tryd.func127 rfl Tryd.ntmps127 (by simp) fun Q hQ => ?_
  refine Runs.seqE Ty_ok (by decide) fun k' hk' => ?_
  simp [encI]   -- R0
  refine hk' _ _ _ ?_
  refine Runs.seq ?_
  refine Runs.seqE Ty_ok (by decide) fun k' hk' => ?_
  simp   -- R1
  refine hk' _ _ _ ?_
  refine Runs.block (Runs.loopUp l.length (fun k ρ H' n' => ρ 0 = .list t (l.map intC) ∧ ρ 1 = int x ∧ ρ 7 = int l.length ∧ ρ 8 = int k ∧ ∀ i (h : i < l.length), i < k → (x == l[i]) = false) ?_ ?_)
  · simp
  · rintro k ρ H' n' hk ⟨h0, h1, h7, h8, hno⟩ IH
    refine Runs.seqE Ty_ok (by decide) fun k' hk' => ?_
    simp [h7, h8]   -- R2
    refine hk' _ _ _ ?_
    refine Runs.seq ?_
    refine Runs.ite rfl (fun hc1 => ?_) (fun hc1 => ?_)   -- t9
    · have hc1 : k < l.length := by simpa using hc1
      refine Runs.skip ?_
      refine Runs.seq ?_
      refine Runs.block ?_
      refine Runs.seqE Ty_ok (by decide) fun k' hk' => ?_
      simp [h8]   -- R3
      refine hk' _ _ _ ?_
      refine Runs.seqE Ty_ok (by decide) fun k' hk' => ?_
      simp [h0, h1, hc1, intC]   -- R4
      refine hk' _ _ _ ?_
      refine Runs.ite rfl (fun hc2 => ?_) (fun hc2 => ?_)   -- t16
      · have hc2 : (x == l[k]) = true := by simpa using hc2
        refine Runs.seqE Ty_ok (by decide) fun k' hk' => ?_
        simp   -- R5
        refine hk' _ _ _ ?_
        refine Runs.ret Tryd.func127 (RetOk.one Tryd.results127) (hQ _ _ _ _ (.v _ _ _) ?_)
        simp [idxF_at (p := fun y => x == y) hc1 hc2 hno]
      · have hc2 : (x == l[k]) = false := by simpa using hc2
        refine Runs.skip ?_
        refine Runs.inBlock ?_
        refine Runs.evalE Ty_ok (by decide) fun k' hk' => ?_
        simp [h8, wrap_succ (show k < 4611686018427387904 by omega)]   -- R6
        refine hk' _ _ _ ?_
        refine IH hc1 _ _ _ ⟨by simp [h0, intC], by simp [h1], by simp [h7], by simp, fun i h hi => ?_⟩
        rcases Nat.lt_or_ge i k with hik | hik
        · exact hno i h hik
        · have : i = k := by omega
          subst this
          exact hc2
    · have hc1 : ¬ k < l.length := by simpa using hc1
      have hke : k = l.length := by omega
      subst hke
      refine Runs.exit rfl ?_
      refine Runs.seqE Ty_ok (by decide) fun k' hk' => ?_
      simp   -- R7
      refine hk' _ _ _ ?_
      refine Runs.ret Tryd.func127 (RetOk.one Tryd.results127) (hQ _ _ _ _ (.v _ _ _) ?_)
      simp [idxF_no (p := fun y => x == y) fun i h => hno i h h]

theorem contains_ok (l : List Int) (x : Int) (hl : l.length ≤ 1048576) : PureC Tryd.prog 65 [encI false l, int x] (fun r => r = bool (l.any (fun y => x == y))) := by
  refine PureC.of Tryd.func65 rfl Tryd.ntmps65 (by simp) fun Q hQ => ?_
  refine Runs.seqE Ty_ok (by decide) fun k' hk' => ?_
  simp [encI]   -- R0
  refine hk' _ _ _ ?_
  refine Runs.seqE Ty_ok (by decide) fun k' hk' => ?_
  simp   -- R1
  refine RunK.callA Ty_ok (index_ok false l x hl) e127 (.cons (ArgOk.encI false l) (.cons (.v _ _ _) .nil)) (by decide) (by decide) rfl (by simp [encI]) ?_
  rintro _ rfl
  simp
  refine hk' _ _ _ ?_
  refine Runs.ret Tryd.func65 (RetOk.one Tryd.results65) (hQ _ _ _ _ (.v _ _ _) ?_)
  have := idxF_any l (fun y => x == y)
  simp only [Env.put]
  simp [this]

theorem l1Has_ok (l : List Int) (x : Int) (hl : l.length ≤ 1048576) : PureC Tryd.prog 69 [encI false l, int x] (fun r => r = bool (l.any (fun y => x == y))) := by
  refine PureC.of Tryd.func69 rfl Tryd.ntmps69 (by simp) fun Q hQ => ?_
  refine Runs.seqE Ty_ok (by decide) fun k' hk' => ?_
  simp [encI]   -- R0
  refine hk' _ _ _ ?_
  refine Runs.seq ?_
  refine Runs.seqE Ty_ok (by decide) fun k' hk' => ?_
  simp   -- R1
  refine hk' _ _ _ ?_
  refine Runs.block (Runs.loopUp l.length (fun k ρ H' n' => ρ 0 = .list false (l.map intC) ∧ ρ 1 = int x ∧ ρ 5 = int k ∧ ∀ i (h : i < l.length), i < k → ¬ l[i] = x) ?_ ?_)
  · simp
  · rintro k ρ H' n' hk ⟨h0, h1, h5, hno⟩ IH
    refine Runs.seq ?_
    refine Runs.seqE Ty_ok (by decide) fun k' hk' => ?_
    simp [h0, h5]   -- R2
    refine hk' _ _ _ ?_
    refine Runs.ite rfl (fun hc1 => ?_) (fun hc1 => ?_)   -- t9
    · have hc1 : k < l.length := by simpa using hc1
      refine Runs.skip ?_
      refine Runs.seq ?_
      refine Runs.block ?_
      refine Runs.seqE Ty_ok (by decide) fun k' hk' => ?_
      simp [h0, h1, h5, hc1, intC]   -- R4
      refine hk' _ _ _ ?_
      refine Runs.ite rfl (fun hc2 => ?_) (fun hc2 => ?_)   -- t17
      · have hc2 : l[k] = x := by simpa using hc2
        refine Runs.seqE Ty_ok (by decide) fun k' hk' => ?_
        simp   -- R5
        refine hk' _ _ _ ?_
        refine Runs.ret Tryd.func69 (RetOk.one Tryd.results69) (hQ _ _ _ _ (.v _ _ _) ?_)
        have : l.any (fun y => x == y) = true := by
          rw [List.any_eq_true]
          exact ⟨l[k], List.getElem_mem hc1, by simp [hc2]⟩
        rw [this]
        try rfl
      · have hc2 : ¬ l[k] = x := by simpa using hc2
        refine Runs.skip ?_
        refine Runs.inBlock ?_
        refine Runs.evalE Ty_ok (by decide) fun k' hk' => ?_
        simp [h5, wrap_succ (show k < 4611686018427387904 by omega)]   -- R3
        refine hk' _ _ _ ?_
        refine IH hc1 _ _ _ ⟨by simp [h0, intC], by simp [h1], by simp, fun i h hi => ?_⟩
        rcases Nat.lt_or_ge i k with hik | hik
        · exact hno i h hik
        · have : i = k := by omega
          subst this
          exact hc2
    · have hc1 : ¬ k < l.length := by simpa using hc1
      have hke : k = l.length := by omega
      subst hke
      refine Runs.exit rfl ?_
      refine Runs.seqE Ty_ok (by decide) fun k' hk' => ?_
      simp   -- R6
      refine hk' _ _ _ ?_
      refine Runs.ret Tryd.func69 (RetOk.one Tryd.results69) (hQ _ _ _ _ (.v _ _ _) ?_)
      have : l.any (fun y => x == y) = false := by
        rw [List.any_eq_false]
        intro y hy
        obtain ⟨i, hi, rfl⟩ := List.getElem_of_mem hy
        have := hno i hi hi
        simpa using fun h => this h.symm
      rw [this]
      try rfl
end Go.Ab
