/- Contracts of impl.CommonPlace and spec.CommonPlace. -/
import Derived.Test.YtgmjebjcomckaaaDoorAbGk
namespace Go.Ab
open Go.Proofs
set_option linter.unusedSimpArgs false
theorem e25 : Ent Tryd.prog 25 := Ent.of Tryd.func25 (by kernel_rfl) rfl
theorem e26 : Ent Tryd.prog 26 := Ent.of Tryd.func26 (by kernel_rfl) rfl

def meets (b : Big) (y : Int) (p : Int) : Bool := (above b y).any fun q => p == q
def common (b : Big) (x y : Int) : Int × Bool := match (above b x).find? (meets b y) with
  | some p => (p, true)
  | none => (0, false)
def commonPlace (sig : Sig) (b : Big) (x y : Int) : Int × Bool := if goodB sig b && isNodeB b x && isNodeB b y then common b x y else (0, false)

theorem find_at {α : Type} {p : α → Bool} : ∀ {l : List α} {k : Nat} (hk : k < l.length), p l[k] = true → (∀ i (h : i < l.length), i < k → p l[i] = false) → l.find? p = some l[k]
  | [], _, hk, _, _ => by simp at hk
  | a :: l, 0, _, h, _ => by
    have h : p a = true := h
    simp [List.find?_cons, h]
  | a :: l, k + 1, hk, h, hno => by
    have h0 : p a = false := hno 0 (by simp) (by omega)
    have := find_at (l := l) (k := k) (by simpa using hk) (by simpa using h) fun i hi hik => hno (i + 1) (by simp; omega) (by omega)
    simp [List.find?_cons, h0, this]
theorem find_no {α : Type} {p : α → Bool} {l : List α} (hno : ∀ i (h : i < l.length), p l[i] = false) : l.find? p = none := by
  rw [List.find?_eq_none]
  intro x hx
  obtain ⟨i, hi, rfl⟩ := List.getElem_of_mem hx
  simp [hno i hi]

theorem above_len (b : Big) (x : Int) (h : b.nodes.length ≤ 8) : (above b x).length ≤ 1048576 := by
  have := aboveF_len b (b.nodes.length + 1) x
  unfold above
  omega

theorem CommonPlace_ok (sig : Sig) (b : Big) (x y : Int) (hs : SmallB sig b) : PureC Tryd.prog 25 [encSig false sig, encB false b, int x, int y] (fun r => r = .tup [int (commonPlace sig b x y).1, bool (commonPlace sig b x y).2]) := by
  have hn := hs.nodesLen
  refine PureC.of Tryd.func25 rfl Tryd.ntmps25 (by simp) fun Q hQ => ?_
  have ret : ∀ (v : Int) (o : Bool), (v, o) = commonPlace sig b x y → ∀ H n, Q (.tup [int v, bool o]) H n := fun v o h H n => hQ _ _ _ _ (.of (Ret.fresh (by simp))) (by rw [← h])
  refine Runs.seqE Ty_ok (by decide) fun k' hk' => ?_
  simp [encB, encSig, Big.cells]   -- R0
  refine hk' _ _ _ ?_
  refine Runs.cut (fun ρ H n => ρ 0 = .list false (sig.map Control.cells) ∧ ρ 2 = int x ∧ ρ 3 = int y ∧ ρ 5 = .ptr (0, 5) 1 0 0 ∧ H (0, 5) = some ⟨6, [b.cells false]⟩) ⟨by simp, by simp, by simp, by simp, by simp [Big.cells]⟩ ?_
  clear hk'
  rintro ρ H n ⟨h0, h2, h3, h5, hm⟩
  have hm' := hm
  simp only [Big.cells, encN, encI, encS, encW] at hm'
  refine Runs.seq ?_
  refine Runs.seqE Ty_ok (by decide) fun k' hk' => ?_
  have fin : ∀ (ρ : Env) (ok : Bool), ρ 2 = int x → ρ 3 = int y → ρ 5 = .ptr (0, 5) 1 0 0 → ρ 28 = bool (!ok) → (goodB sig b && isNodeB b x && isNodeB b y) = ok → Runs Tryd.prog 25 45 k' ρ H n Q := by
    clear h0 h2 h3 h5
    intro ρ ok h2 h3 h5 h28 hok
    refine hk' _ _ _ ?_
    refine Runs.ite h28 (fun hc1 => ?_) (fun hc1 => ?_)   -- t28
    · have hb : ok = false := by simpa using hc1
      refine Runs.seqE Ty_ok (by decide) fun k' hk' => ?_
      simp   -- R2
      refine hk' _ _ _ ?_
      refine Runs.ret Tryd.func25 (RetOk.two Tryd.results25) ?_
      simp only [Env.put]
      exact ret 0 false (by rw [commonPlace, hok, hb]; rfl) _ _
    · have hb : ok = true := by simpa using hc1
      rw [hb] at hok
      have hcp : commonPlace sig b x y = common b x y := by rw [commonPlace, hok]; rfl
      simp only [Bool.and_eq_true] at hok
      have hd := goodB_down hok.1.1
      have hx := hok.1.2
      have hy := hok.2
      simp only [isNodeB, within, Bool.and_eq_true, decide_eq_true_eq] at hx hy
      refine Runs.skip ?_
      refine Runs.seqE Ty_ok (by decide) fun k' hk' => ?_
      simp [h3, h5, hm']   -- R3
      refine RunK.callA Ty_ok (ancestorsOf_ok hd y (by omega)).pure e64 (.cons (ArgOk.encB false b) (.cons (.v _ _ _) .nil)) (by decide) (by decide) rfl (by simp [h3, encB, Big.cells, encN, encI, encS, encW]) ?_
      rintro _ rfl
      simp
      refine hk' _ _ _ ?_
      refine Runs.seq ?_
      refine Runs.seqE Ty_ok (by decide) fun k' hk' => ?_
      simp [h2, h5, hm']   -- R4
      refine RunK.callA Ty_ok (ancestorsOf_ok hd x (by omega)).pure e64 (.cons (ArgOk.encB false b) (.cons (.v _ _ _) .nil)) (by decide) (by decide) rfl (by simp [h2, encB, Big.cells, encN, encI, encS, encW]) ?_
      rintro _ rfl
      simp [encI]
      refine hk' _ _ _ ?_
      refine Runs.block (Runs.loopUp (above b x).length (fun k ρ H n => ρ 10 = encI true (above b y) ∧ ρ 34 = .list true ((above b x).map intC) ∧ ρ 35 = int (above b x).length ∧ ρ 36 = int k ∧ ∀ i (h : i < (above b x).length), i < k → meets b y (above b x)[i] = false) ?_ ?_)
      · exact ⟨by simp [encI], by simp, by simp, by simp, fun i h hi => by omega⟩
      · rintro k ρ H n hk ⟨h10, h34, h35, h36, hno⟩ IH
        have hal := above_len b x hd.1
        refine Runs.seqE Ty_ok (by decide) fun k' hk' => ?_
        simp [h35, h36]   -- R5
        refine hk' _ _ _ ?_
        refine Runs.seq ?_
        refine Runs.ite rfl (fun hc2 => ?_) (fun hc2 => ?_)   -- t37
        · have hc2 : k < (above b x).length := by simpa using hc2
          refine Runs.skip ?_
          refine Runs.seq ?_
          refine Runs.block ?_
          refine Runs.seqE Ty_ok (by decide) fun k' hk' => ?_
          simp [h34, h36, hc2, intC]   -- R6
          refine hk' _ _ _ ?_
          refine Runs.seqE Ty_ok (by decide) fun k' hk' => ?_
          simp [h10]   -- R7
          refine RunK.callA Ty_ok (contains_ok (above b y) (above b x)[k] (above_len b y hd.1)) e65 (.cons (ArgOk.encI true _) (.cons (.v _ _ _) .nil)) (by decide) (by decide) rfl (by simp [h10]) ?_
          rintro _ rfl
          simp
          refine hk' _ _ _ ?_
          refine Runs.ite rfl (fun hc3 => ?_) (fun hc3 => ?_)   -- t42
          · have hc3 : meets b y (above b x)[k] = true := by simpa [meets] using hc3
            refine Runs.seqE Ty_ok (by decide) fun k' hk' => ?_
            simp   -- R8
            refine hk' _ _ _ ?_
            refine Runs.ret Tryd.func25 (RetOk.two Tryd.results25) ?_
            simp only [Env.put]
            exact ret (above b x)[k] true (by rw [hcp, common, find_at hc2 hc3 hno]) _ _
          · have hc3 : meets b y (above b x)[k] = false := by
              cases h : meets b y (above b x)[k]
              · rfl
              · simp only [meets] at h
                simp [h] at hc3
            refine Runs.skip ?_
            refine Runs.inBlock ?_
            refine Runs.evalE Ty_ok (by decide) fun k' hk' => ?_
            simp [h36, wrap_succ (show k < 4611686018427387904 by omega)]   -- R9
            refine hk' _ _ _ ?_
            refine IH hc2 _ _ _ ⟨by simp [h10], by simp [h34, intC], by simp [h35], by simp, fun i h hi => ?_⟩
            rcases Nat.lt_or_ge i k with hik | hik
            · exact hno i h hik
            · have : i = k := by omega
              subst this
              exact hc3
        · have hc2 : ¬ k < (above b x).length := by simpa using hc2
          have hke : k = (above b x).length := by omega
          subst hke
          refine Runs.exit rfl ?_
          refine Runs.seqE Ty_ok (by decide) fun k' hk' => ?_
          simp   -- R10
          refine hk' _ _ _ ?_
          refine Runs.ret Tryd.func25 (RetOk.two Tryd.results25) ?_
          simp only [Env.put]
          exact ret 0 false (by rw [hcp, common, find_no fun i h => hno i h h]) _ _
  simp [h0, h5, hm']   -- R1
  refine RunK.callA Ty_ok (IsBigraph_ok sig b hs) e27 (.cons (ArgOk.encSig false sig) (.cons (ArgOk.encB false b) .nil)) (by decide) (by decide) rfl (by simp [h0, encSig, encB, Big.cells, encN, encI, encS, encW]) ?_
  rintro _ rfl
  cases p1 : goodB sig b
  · simp [guardOf]
    exact fin _ false (by simp [h2]) (by simp [h3]) (by simp [h5]) (by simp) (by rw [p1]; rfl)
  simp [h2, h5, hm', guardOf]
  refine RunK.callA Ty_ok (isNodeB_ok b x hn) e63 (.cons (ArgOk.encB false b) (.cons (.v _ _ _) .nil)) (by decide) (by decide) rfl (by simp [h2, encB, Big.cells, encN, encI, encS, encW]) ?_
  rintro _ rfl
  cases p2 : isNodeB b x
  · simp [guardOf]
    exact fin _ false (by simp [h2]) (by simp [h3]) (by simp [h5]) (by simp) (by rw [p1, p2]; rfl)
  simp [h3, h5, hm', guardOf]
  refine RunK.callA Ty_ok (isNodeB_ok b y hn) e63 (.cons (ArgOk.encB false b) (.cons (.v _ _ _) .nil)) (by decide) (by decide) rfl (by simp [h3, encB, Big.cells, encN, encI, encS, encW]) ?_
  rintro _ rfl
  simp [guardOf]
  exact fin _ (isNodeB b y) (by simp [h2]) (by simp [h3]) (by simp [h5]) (by simp) (by rw [p1, p2]; rfl)

theorem specCommonPlace_ok (sig : Sig) (b : Big) (x y : Int) (hs : SmallB sig b) : PureC Tryd.prog 26 [encSig false sig, encB false b, int x, int y] (fun r => r = .tup [int (commonPlace sig b x y).1, bool (commonPlace sig b x y).2]) := by
  have hn := hs.nodesLen
  refine PureC.of Tryd.func26 rfl Tryd.ntmps26 (by simp) fun Q hQ => ?_
  have ret : ∀ (v : Int) (o : Bool), (v, o) = commonPlace sig b x y → ∀ H n, Q (.tup [int v, bool o]) H n := fun v o h H n => hQ _ _ _ _ (.of (Ret.fresh (by simp))) (by rw [← h])
  refine Runs.seqE Ty_ok (by decide) fun k' hk' => ?_
  simp [encB, encSig, Big.cells]   -- R0
  refine hk' _ _ _ ?_
  refine Runs.cut (fun ρ H n => ρ 0 = .list false (sig.map Control.cells) ∧ ρ 2 = int x ∧ ρ 3 = int y ∧ ρ 5 = .ptr (0, 5) 1 0 0 ∧ H (0, 5) = some ⟨6, [b.cells false]⟩) ⟨by simp, by simp, by simp, by simp, by simp [Big.cells]⟩ ?_
  clear hk'
  rintro ρ H n ⟨h0, h2, h3, h5, hm⟩
  have hm' := hm
  simp only [Big.cells, encN, encI, encS, encW] at hm'
  refine Runs.seq ?_
  refine Runs.seqE Ty_ok (by decide) fun k' hk' => ?_
  have fin : ∀ (ρ : Env) (ok : Bool), ρ 2 = int x → ρ 3 = int y → ρ 5 = .ptr (0, 5) 1 0 0 → ρ 28 = bool (!ok) → (goodB sig b && isNodeB b x && isNodeB b y) = ok → Runs Tryd.prog 26 51 k' ρ H n Q := by
    clear h0 h2 h3 h5
    intro ρ ok h2 h3 h5 h28 hok
    refine hk' _ _ _ ?_
    refine Runs.ite h28 (fun hc1 => ?_) (fun hc1 => ?_)   -- t28
    · have hb : ok = false := by simpa using hc1
      refine Runs.seqE Ty_ok (by decide) fun k' hk' => ?_
      simp   -- R2
      refine hk' _ _ _ ?_
      refine Runs.ret Tryd.func26 (RetOk.two Tryd.results26) ?_
      simp only [Env.put]
      exact ret 0 false (by rw [commonPlace, hok, hb]; rfl) _ _
    · have hb : ok = true := by simpa using hc1
      rw [hb] at hok
      have hcp : commonPlace sig b x y = common b x y := by rw [commonPlace, hok]; rfl
      simp only [Bool.and_eq_true] at hok
      have hd := goodB_down hok.1.1
      have hx := hok.1.2
      have hy := hok.2
      simp only [isNodeB, within, Bool.and_eq_true, decide_eq_true_eq] at hx hy
      refine Runs.skip ?_
      refine Runs.seqD Ty_ok kindOp_ok draws (by decide) (by kernel_rfl) fun k' hk' => ?_
      simp [h2, h3, h5, hm']   -- R3
      refine RunDK.callA Ty_ok kindOp_ok (l2Above_ok hd x (by omega)).pure e68 (.cons (ArgOk.encB false b) (.cons (.v _ _ _) .nil)) (by decide) rfl (by simp [h2, encB, Big.cells, encN, encI, encS, encW]) ?_
      simp [h2, h3, h5, hm']
      refine RunDK.callA Ty_ok kindOp_ok (l2Above_ok hd y (by omega)).pure e68 (.cons (ArgOk.encB false b) (.cons (.v _ _ _) .nil)) (by decide) rfl (by simp [h3, encB, Big.cells, encN, encI, encS, encW]) ?_
      simp
      refine hk' _ _ _ ?_
      refine Runs.seq ?_
      refine Runs.seqE Ty_ok (by decide) fun k' hk' => ?_
      simp   -- R4
      refine hk' _ _ _ ?_
      refine Runs.block (Runs.loopUp (above b x).length (fun k ρ H n => ρ 11 = encI true (above b y) ∧ ρ 10 = .list true ((above b x).map intC) ∧ ρ 12 = int k ∧ ∀ i (h : i < (above b x).length), i < k → meets b y (above b x)[i] = false) ?_ ?_)
      · exact ⟨by simp [encI], by simp [encI], by simp, fun i h hi => by omega⟩
      · rintro k ρ H n hk ⟨h11, h10, h12, hno⟩ IH
        have hal := above_len b x hd.1
        refine Runs.seq ?_
        refine Runs.seqE Ty_ok (by decide) fun k' hk' => ?_
        simp [h10, h12]   -- R5
        refine hk' _ _ _ ?_
        refine Runs.ite rfl (fun hc2 => ?_) (fun hc2 => ?_)   -- t38
        · have hc2 : k < (above b x).length := by simpa using hc2
          refine Runs.skip ?_
          refine Runs.seq ?_
          refine Runs.block ?_
          refine Runs.seqE Ty_ok (by decide) fun k' hk' => ?_
          simp [h10, h11, h12, hc2, intC]   -- R7
          refine RunK.callA Ty_ok (l1Has_ok (above b y) (above b x)[k] (above_len b y hd.1)) e69 (.cons (ArgOk.encI true _) (.cons (.v _ _ _) .nil)) (by decide) (by decide) rfl (by simp [h11]) ?_
          rintro _ rfl
          simp
          refine hk' _ _ _ ?_
          refine Runs.ite rfl (fun hc3 => ?_) (fun hc3 => ?_)   -- t46
          · have hc3 : meets b y (above b x)[k] = true := by simpa [meets] using hc3
            refine Runs.seqE Ty_ok (by decide) fun k' hk' => ?_
            simp [h10, h12, hc2, intC]   -- R8
            refine hk' _ _ _ ?_
            refine Runs.ret Tryd.func26 (RetOk.two Tryd.results26) ?_
            simp only [Env.put]
            exact ret (above b x)[k] true (by rw [hcp, common, find_at hc2 hc3 hno]) _ _
          · have hc3 : meets b y (above b x)[k] = false := by
              cases h : meets b y (above b x)[k]
              · rfl
              · simp only [meets] at h
                simp [h] at hc3
            refine Runs.skip ?_
            refine Runs.inBlock ?_
            refine Runs.evalE Ty_ok (by decide) fun k' hk' => ?_
            simp [h12, wrap_succ (show k < 4611686018427387904 by omega)]   -- R6
            refine hk' _ _ _ ?_
            refine IH hc2 _ _ _ ⟨by simp [h11], by simp [h10, intC], by simp, fun i h hi => ?_⟩
            rcases Nat.lt_or_ge i k with hik | hik
            · exact hno i h hik
            · have : i = k := by omega
              subst this
              exact hc3
        · have hc2 : ¬ k < (above b x).length := by simpa using hc2
          have hke : k = (above b x).length := by omega
          subst hke
          refine Runs.exit rfl ?_
          refine Runs.seqE Ty_ok (by decide) fun k' hk' => ?_
          simp   -- R9
          refine hk' _ _ _ ?_
          refine Runs.ret Tryd.func26 (RetOk.two Tryd.results26) ?_
          simp only [Env.put]
          exact ret 0 false (by rw [hcp, common, find_no fun i h => hno i h h]) _ _
  simp [h0, h5, hm']   -- R1
  refine RunK.callA Ty_ok (l2Good_ok sig b hs) e66 (.cons (ArgOk.encSig false sig) (.cons (ArgOk.encB false b) .nil)) (by decide) (by decide) rfl (by simp [h0, encSig, encB, Big.cells, encN, encI, encS, encW]) ?_
  rintro _ rfl
  cases p1 : goodB sig b
  · simp [guardOf]
    exact fin _ false (by simp [h2]) (by simp [h3]) (by simp [h5]) (by simp) (by rw [p1]; rfl)
  simp [h2, h5, hm', guardOf]
  refine RunK.callA Ty_ok (l2Is_ok b x hn) e67 (.cons (ArgOk.encB false b) (.cons (.v _ _ _) .nil)) (by decide) (by decide) rfl (by simp [h2, encB, Big.cells, encN, encI, encS, encW]) ?_
  rintro _ rfl
  cases p2 : isNodeB b x
  · simp [guardOf]
    exact fin _ false (by simp [h2]) (by simp [h3]) (by simp [h5]) (by simp) (by rw [p1, p2]; rfl)
  simp [h3, h5, hm', guardOf]
  refine RunK.callA Ty_ok (l2Is_ok b y hn) e67 (.cons (ArgOk.encB false b) (.cons (.v _ _ _) .nil)) (by decide) (by decide) rfl (by simp [h3, encB, Big.cells, encN, encI, encS, encW]) ?_
  rintro _ rfl
  simp [guardOf]
  exact fin _ (isNodeB b y) (by simp [h2]) (by simp [h3]) (by simp [h5]) (by simp) (by rw [p1, p2]; rfl)

end Go.Ab
